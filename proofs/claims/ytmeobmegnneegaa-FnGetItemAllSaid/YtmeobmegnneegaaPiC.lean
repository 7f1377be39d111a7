/-
  Texts of this claim, joined: EngN, EngU, EngT, EHold, Own, Txt, Reg, Leaf, LawTo, LawSz, Later, LawEq, Reader, ERead, Search.
-/
import Derived.LoopN
import Derived.Test.YtmeobmegnneegaaProg
import Derived.WalkKit
import Derived.WalkSpells
import Derived.WalkLawsBesides
import Derived.BigQuiet
import Derived.Test.YtmeobmegnneegaaRows
import Derived.Deep.LoopGhost
import Derived.Test.YtmeobmegnneegaaPiB

set_option linter.unusedSimpArgs false
set_option linter.unusedVariables false

/-
  Code on states: rules; a function's contract from a walk.
-/
namespace Go.Proofs.Ytmeobmegnneegaa.Eng
open Go Go.RowKit

section
variable {w : World} {ρ ρ' : Cx} {U : Nat → Bool}

structure Cx.Cut (ρ : Cx) (U : Nat → Bool) (ρ' : Cx) : Prop where
  S : ρ'.S = ρ.S
  L : ρ'.L = ρ.L
  rd : ρ'.rd = ρ.rd
  len : ρ'.len = ρ.len
  U : ∀ id, U id = true → ρ'.U id
  row : ∀ id u, ρ'.row id = some u → ρ.row id = some u

theorem Cx.Cut.H (h : Cx.Cut ρ U ρ') {t : VC} {b : Nat} (hb : ρ.H t b) : ρ'.H t b := by
  cases t <;> simp only [Cx.H] at * <;> first | rw [h.L]; exact hb | rw [h.S]; exact hb

mutual
theorem Rep.cut (h : Cx.Cut ρ U ρ') : ∀ {c : AV} {v : Value}, AV.In U c → Rep w ρ c v → Rep w ρ' c v
  | .any, _, _, _ => rep_any _
  | .int _ _, _, _, hr => rep_int.2 (rep_int.1 hr)
  | .bool _, _, _, hr => rep_bool.2 (rep_bool.1 hr)
  | .str _, _, _, hr => rep_str.2 (rep_str.1 hr)
  | .rdr, _, _, hr => by rw [rep_rdr] at *; rw [h.rd]; exact hr
  | .own id n, _, hi, hr => by
    rw [rep_own] at *
    obtain ⟨_, h2, h3, h4⟩ := hr
    exact ⟨h.U id (in_own.1 hi), by rw [h.len]; exact h2, h3, fun u hu hn => h4 u (h.row id u hu) (by rw [h.len] at hn; exact hn)⟩
  | .ptr _ _ _ id _ _, _, hi, hr => by
    rw [rep_ptr] at *
    obtain ⟨_, h2, h3, h4⟩ := hr
    exact ⟨h.U id (in_ptr.1 hi), by rw [h.len]; exact h2, h3, fun u hu hn => h4 u (h.row id u hu) (by rw [h.len] at hn; exact hn)⟩
  | .agg cs, _, hi, hr => by
    rw [rep_agg] at *
    obtain ⟨vs, h1, h2, h3⟩ := hr
    exact ⟨vs, h1, h2, RepL.cut h (by unfold AV.In at hi; exact hi) h3⟩
  | .tup cs, _, hi, hr => by
    rw [rep_tup] at *
    obtain ⟨vs, h1, h3⟩ := hr
    exact ⟨vs, h1, RepL.cut h (by unfold AV.In at hi; exact hi) h3⟩
  | .view _ _ es, _, hi, hr => by
    rw [rep_view] at *
    obtain ⟨a, c, h1, h2, h3, h4, h5, h6⟩ := hr
    refine ⟨a, c, h1, h2, h3, h4, h5, h6.imp (fun h => h) ?_⟩
    rintro ⟨b, o, k1, k2, k3⟩
    exact ⟨b, o, k1, h.H k2, RepE.cut h (by unfold AV.In at hi; exact hi) k3⟩
  | .eptr _ cs, _, hi, hr => by
    rw [rep_eptr] at *
    obtain ⟨b, o, k1, k2, k3⟩ := hr
    exact ⟨b, o, k1, h.H k2, RepC.cut h (by unfold AV.In at hi; exact hi) k3⟩
theorem RepL.cut (h : Cx.Cut ρ U ρ') : ∀ {cs : List AV} {vs : List Value}, AV.InL U cs → RepL w ρ cs vs → RepL w ρ' cs vs
  | [], _, _, hr => by unfold RepL at *; exact hr
  | c :: cs, _, hi, hr => by
    unfold RepL at *
    unfold AV.InL at hi
    obtain ⟨v, vs', h1, h2, h3⟩ := hr
    exact ⟨v, vs', h1, Rep.cut h hi.1 h2, RepL.cut h hi.2 h3⟩
theorem RepC.cut (h : Cx.Cut ρ U ρ') {b : Nat} : ∀ {cs : List AV} {o : Nat}, AV.InL U cs → RepC w ρ b o cs → RepC w ρ' b o cs
  | [], _, _, _ => by unfold RepC; trivial
  | c :: cs, _, hi, hr => by
    unfold RepC at *
    unfold AV.InL at hi
    obtain ⟨⟨v, h1, h2, h3⟩, h4⟩ := hr
    exact ⟨⟨v, h1, h2, Rep.cut h hi.1 h3⟩, RepC.cut h hi.2 h4⟩
theorem RepE.cut (h : Cx.Cut ρ U ρ') {b : Nat} : ∀ {es : List (List AV)} {o : Nat}, AV.InE U es → RepE w ρ b o es → RepE w ρ' b o es
  | [], _, _, _ => by unfold RepE; trivial
  | e :: es, _, hi, hr => by
    unfold RepE at *
    unfold AV.InE at hi
    exact ⟨RepC.cut h hi.1 hr.1, RepE.cut h hi.2 hr.2⟩
end
end

structure LessS (s s' : ASt) : Prop where
  tm : s'.tmps.length = s.tmps.length ∧ ∀ (t : Nat) (c : AV), s'.tmps[t]? = some c → c = .any ∨ s.tmps[t]? = some c
  rw : ∀ id r, s'.rows id = some r → s.rows id = some r
  us : ∀ id, s'.used id = true → s.used id = true
  rd : s'.rd = s.rd ∨ ∃ j j', s.rd = some j ∧ s'.rd = some j' ∧ j' ≤ j
  inv : Inv s'

section
variable {P : Program} {w0 : World} {S0 : Nat → Prop} {rd0 : Option Nat} {k0 : Nat} {w : World} {a : Act} {s s' : ASt} {ρ : Cx}

theorem SR.lessS (h : SR P w0 S0 rd0 k0 w a s ρ) (hl : LessS s s') : ∃ ρ', SR P w0 S0 rd0 k0 w a s' ρ' := by
  let ρ' : Cx := { ρ with U := fun id => s'.used id = true, row := fun id => if (s'.rows id).isSome then ρ.row id else none }
  have cut : Cx.Cut ρ s'.used ρ' := ⟨rfl, rfl, rfl, rfl, fun id h => h, fun id u hu => by
    simp only [ρ'] at hu
    split at hu
    · exact hu
    · cases hu⟩
  have hrow : ∀ id u, ρ'.row id = some u → ρ.row id = some u := cut.row
  refine ⟨ρ', ⟨?_, h.df, h.ext, h.s0, h.sl, fun id => Iff.rfl, fun id r hr => ?_, fun id hr => ?_, fun id id' u u' g k1 k2 k3 k4 => h.dj id id' u u' g (hrow _ _ k1) (hrow _ _ k2) k3 k4, fun id u g k1 k2 => h.ns id u g (hrow _ _ k1) k2, h.rl, fun j hj => ?_, fun hj => ?_, fun rb hrb => ?_, h.ll⟩⟩
  · refine RepL.of_get (by rw [h.tm.length, hl.tm.1]) (fun i c v h1 h2 => ?_)
    rcases hl.tm.2 i c h1 with rfl | h3
    · exact rep_any _
    · obtain ⟨v', hv, hr⟩ := h.tm.get h3
      rw [h2] at hv; cases hv
      exact hr.cut cut (hl.inv.tm c (List.mem_of_getElem? h1))
  · obtain ⟨_, u, q2, q3, q0, q4, q5, xs, q6, q7, q8⟩ := h.rw id r (hl.rw id r hr)
    refine ⟨(hl.inv.rw id r hr).1, u, by simp only [ρ', hr, Option.isSome_some, if_true]; exact q2, q3, q0, q4, q5, xs, q6, ?_, q8⟩
    refine q7.cut cut (inL_iff.2 (fun c hc => ?_))
    obtain ⟨e, he, hce⟩ := List.mem_flatten.1 hc
    exact (hl.inv.rw id r hr).2 e he c hce
  · simp only [ρ', hr]; rfl
  · rcases hl.rd with h1 | ⟨j0, j1, h1, h2, h3⟩
    · exact h.rdk j (by rw [← h1]; exact hj)
    · rw [h2] at hj; cases hj
      obtain ⟨rb, q1, q2, q3, q4⟩ := h.rdk j0 h1
      exact ⟨rb, q1, q2.less (by omega), q3, q4⟩
  · rcases hl.rd with h1 | ⟨j0, j1, h1, h2, h3⟩
    · exact h.rdn (by rw [← h1]; exact hj)
    · rw [h2] at hj; cases hj
  · refine ⟨(h.r0 rb hrb).1, ?_⟩
    rcases hl.rd with h1 | ⟨j0, j1, h1, h2, h3⟩
    · rw [h1]; exact (h.r0 rb hrb).2
    · rw [h2]; rfl

def ASt.adopt (s : ASt) (t id : Nat) (e : TypeId) (sz : Nat) : ASt := { (s.add id ⟨false, e, sz, []⟩) with tmps := s.tmps.set t (.own id 0) }

theorem SR.adopt (h : SR P w0 S0 rd0 k0 w a s ρ) (t id : Nat) (e : TypeId) (sz sz' : Nat) (he : P.cellsOf e = sz) (ht : s.tmps[t]? = some (.view .tight sz' [])) (hid : s.used id = false) : ∃ ρ', SR P w0 S0 rd0 k0 w a (s.adopt t id e sz) ρ' := by
  obtain ⟨v, hv, hr⟩ := h.tm.get ht
  obtain ⟨ad, c, rfl, hc, _⟩ := rep_view.1 hr
  have hc0 := hc rfl
  simp only [List.length_nil] at hc0
  subst hc0
  have hat : RowAt w w.heap.size e sz (.slice ad 0 0) 0 [] := .inl ⟨rfl, rfl, _, rfl⟩
  obtain ⟨q1, q2⟩ := h.new (Ext.refl nil w) id hid ⟨false, e, sz, []⟩ (.slice ad 0 0) (fun g hg => by cases ad <;> simp [blk] at hg) ⟨he, (fun x hx => by cases hx), (fun hb => by cases hb), [], hat, by simp only [List.flatten_nil]; unfold RepL; rfl, (fun u hu => by cases hu)⟩
  refine ⟨_, ⟨?_, q1.df, q1.ext, q1.s0, q1.sl, q1.us, q1.rw, q1.rn, q1.dj, q1.ns, q1.rl, q1.rdk, q1.rdn, q1.r0, q1.ll⟩⟩
  have hown : Rep w (ρ.add id (.slice ad 0 0) 0) (.own id 0) (.slice ad 0 0) := rep_own.2 ⟨Or.inr rfl, by simp [Cx.add, upd_same], own_shape hat, fun u' hu' _ => by simp [Cx.add, upd_same] at hu'; exact hu'⟩
  have := q1.tm.set t hown
  have hset : a.tmps.toList.set t (.slice ad 0 0) = a.tmps.toList := by
    apply List.ext_getElem?
    intro i
    by_cases hi : t = i
    · subst hi
      rw [List.getElem?_set_self (List.getElem?_eq_some_iff.1 hv).1, hv]
      rfl
    · rw [List.getElem?_set_ne hi]
  rw [hset] at this
  exact this

def ASt.adoptB (s : ASt) (b j id : Nat) (e : TypeId) (sz : Nat) : ASt :=
  match s.rows b with
  | some r => { s with rows := upd (upd s.rows id (some ⟨false, e, sz, []⟩)) b (some { r with es := r.es.map (fun x => x.set j (.own id 0)) }), used := upd s.used id true }
  | none => s

theorem SR.adoptB (h : SR P w0 S0 rd0 k0 w a s ρ) (b j id : Nat) (e : TypeId) (sz sz' : Nat) (he : P.cellsOf e = sz) {r : Row} {x : List AV} (hr : s.rows b = some r) (hx : r.es = [x]) (hj : x[j]? = some (.view .tight sz' [])) (hid : s.used id = false) : ∃ ρ', SR P w0 S0 rd0 k0 w a (s.adoptB b j id e sz) ρ' := by
  obtain ⟨hbu, ub, hub, hlb, c0, c1, c2, xs, hatb, hrep, hone⟩ := h.rw b r hr
  have hne : b ≠ id := fun e => by rw [← e, hbu] at hid; cases hid
  rw [hx] at hrep
  simp only [List.flatten_cons, List.flatten_nil, List.append_nil] at hrep
  obtain ⟨v, hv, hrv⟩ := hrep.get hj
  obtain ⟨ad, c, rfl, hc, _⟩ := rep_view.1 hrv
  have hc0 := hc rfl
  simp only [List.length_nil] at hc0
  subst hc0
  have hat : RowAt w w.heap.size e sz (.slice ad 0 0) 0 [] := .inl ⟨rfl, rfl, _, rfl⟩
  obtain ⟨q1, q2⟩ := h.new (Ext.refl nil w) id hid ⟨false, e, sz, []⟩ (.slice ad 0 0) (fun g hg => by cases ad <;> simp [blk] at hg) ⟨he, (fun x hx => by cases hx), (fun hb => by cases hb), [], hat, by simp only [List.flatten_nil]; unfold RepL; rfl, (fun u hu => by cases hu)⟩
  have hown : Rep w (ρ.add id (.slice ad 0 0) 0) (.own id 0) (.slice ad 0 0) := rep_own.2 ⟨Or.inr rfl, by simp [Cx.add, upd_same], own_shape hat, fun u' hu' _ => by simp [Cx.add, upd_same] at hu'; exact hu'⟩
  unfold ASt.adoptB
  rw [hr]
  refine ⟨_, ⟨q1.tm, q1.df, q1.ext, q1.s0, q1.sl, q1.us, fun k r' hk => ?_, fun k hk => ?_, q1.dj, q1.ns, q1.rl, q1.rdk, q1.rdn, q1.r0, q1.ll⟩⟩
  · by_cases hkb : k = b
    · subst hkb
      simp only [upd_same, Option.some.injEq] at hk
      subst hk
      have hrow : (s.add id ⟨false, e, sz, []⟩).rows k = some r := by simp only [ASt.add]; rw [upd_ne _ _ hne]; exact hr
      obtain ⟨t1, u, t2, t3, _, _, _, xs2, t4, t5, t6⟩ := q1.rw k r hrow
      refine ⟨t1, u, t2, by simpa using t3, c0, fun y hy => ?_, fun hb => by simpa using c2 hb, xs2, by simpa using t4, ?_, t6⟩
      · obtain ⟨y', hy', rfl⟩ := List.mem_map.1 hy
        rw [List.length_set]; exact c1 y' hy'
      · rw [hx] at t5 ⊢
        simp only [List.map_cons, List.map_nil, List.flatten_cons, List.flatten_nil, List.append_nil] at t5 ⊢
        have hux : u = ub := by
          have t2' := t2
          simp only [Cx.add] at t2'
          rw [upd_ne _ _ hne, hub] at t2'
          cases t2'; rfl
        have hl1 : r.es.length = 1 := by rw [hx]; rfl
        have hxs : xs2 = xs := by
          subst hux
          rw [hl1] at hatb t4
          rcases hatb with ⟨z1, _⟩ | ⟨g, cap, cur, z3, _, _, zg, _, _, _, zt, _⟩
          · omega
          · rcases t4 with ⟨z5, _⟩ | ⟨g', cap', cur', z6, _, _, zg', _, _, _, zt', _⟩
            · omega
            · rw [z3] at z6; cases z6
              rw [zg] at zg'; cases zg'
              rw [← zt, ← zt']
        rw [hxs] at t5 ⊢
        have := t5.set j hown
        have hset : xs.set j (.slice ad 0 0) = xs := by
          apply List.ext_getElem?
          intro i
          by_cases hi : j = i
          · subst hi
            rw [List.getElem?_set_self (List.getElem?_eq_some_iff.1 hv).1, hv]
            rfl
          · rw [List.getElem?_set_ne hi]
        rw [hset] at this
        exact this
    · dsimp only at hk
      rw [upd_ne _ _ hkb] at hk
      exact q1.rw k r' hk
  · by_cases hkb : k = b
    · subst hkb; simp [upd_same] at hk
    · dsimp only at hk
      rw [upd_ne _ _ hkb] at hk
      exact q1.rn k hk

def ASt.wkB (s : ASt) (b j : Nat) (c : AV) : ASt :=
  match s.rows b with
  | some r => { s with rows := upd s.rows b (some { r with es := r.es.map (fun x => x.set j c) }) }
  | none => s
theorem set_same {α : Type} {l : List α} {j : Nat} {v : α} (h : l[j]? = some v) : l.set j v = l := by
  apply List.ext_getElem?
  intro i
  by_cases hi : j = i
  · subst hi
    rw [List.getElem?_set_self (List.getElem?_eq_some_iff.1 h).1, h]
  · rw [List.getElem?_set_ne hi]
theorem SR.wkB (h : SR P w0 S0 rd0 k0 w a s ρ) (b j : Nat) {c c' : AV} (hw : ∀ w ρ v, Rep w ρ c v → Rep w ρ c' v) {r : Row} {x : List AV} (hr : s.rows b = some r) (hx : r.es = [x]) (hj : x[j]? = some c) : SR P w0 S0 rd0 k0 w a (s.wkB b j c') ρ := by
  unfold ASt.wkB
  rw [hr]
  refine ⟨h.tm, h.df, h.ext, h.s0, h.sl, h.us, fun k r' hk => ?_, fun k hk => ?_, h.dj, h.ns, h.rl, h.rdk, h.rdn, h.r0, h.ll⟩
  · by_cases hkb : k = b
    · subst hkb
      simp only [upd_same, Option.some.injEq] at hk
      subst hk
      obtain ⟨t1, u, t2, t3, c0, c1, c2, xs, t4, t5, t6⟩ := h.rw k r hr
      refine ⟨t1, u, t2, by simpa using t3, c0, fun y hy => ?_, fun hb => by simpa using c2 hb, xs, by simpa using t4, ?_, t6⟩
      · obtain ⟨y', hy', rfl⟩ := List.mem_map.1 hy
        rw [List.length_set]; exact c1 y' hy'
      · rw [hx] at t5 ⊢
        simp only [List.map_cons, List.map_nil, List.flatten_cons, List.flatten_nil, List.append_nil] at t5 ⊢
        obtain ⟨v, hv, hrv⟩ := t5.get hj
        have := t5.set j (hw _ _ _ hrv)
        rw [set_same hv] at this
        exact this
    · dsimp only at hk
      rw [upd_ne _ _ hkb] at hk
      exact h.rw k r' hk
  · by_cases hkb : k = b
    · subst hkb; simp [upd_same] at hk
    · dsimp only at hk
      rw [upd_ne _ _ hkb] at hk
      exact h.rn k hk
def ASt.rename (s : ASt) (id id' : Nat) : ASt :=
  match s.rows id with
  | some r => { s with tmps := AV.subL id r.es.length (.own id' r.es.length) s.tmps, rows := fun k => ((upd (upd s.rows id none) id' (some r)) k).map (Row.sub id r.es.length (.own id' r.es.length)), used := upd s.used id' true }
  | none => s

theorem SR.renamed (h : SR P w0 S0 rd0 k0 w a s ρ) (id id' : Nat) (hid : s.used id' = false) : ∃ ρ', SR P w0 S0 rd0 k0 w a (s.rename id id') ρ' := by
  unfold ASt.rename
  split
  · rename_i r hr
    obtain ⟨hin, u0, hu0, hln, hok⟩ := h.rw id r hr
    have hne : id ≠ id' := fun e => by rw [← e, hin] at hid; cases hid
    obtain ⟨h1, h2⟩ := h.swap (w' := w) id id' nil (Ext.refl nil w) (fun _ h => h.elim) hid r u0 (fun g hg => .inl ⟨u0, hu0, hg⟩) (fun ρ' hl => by
      obtain ⟨h0, h1, hb, xs, h2, h3, h4⟩ := hok
      exact ⟨h0, h1, hb, xs, h2, h3.le hl, h4⟩)
    have hc : ∀ v, Rep w ρ (.own id r.es.length) v → Rep w ((ρ.kill id).add id' u0 r.es.length) (.own id' r.es.length) v := fun v hv => by
      obtain ⟨_, _, k3, hq⟩ := rep_own.1 hv
      have := hq u0 hu0 hln.symm
      exact rep_own.2 ⟨Or.inr rfl, by simp [Cx.add, upd_same], k3, fun u hu _ => by simp only [Cx.add, upd_same, Option.some.injEq] at hu; rw [← hu]; exact this⟩
    refine ⟨_, ⟨h.tm.sub h2 hc, h1.df, h1.ext, h1.s0, h1.sl, h1.us, fun k r' hk => ?_, fun k hk => ?_, h1.dj, h1.ns, h1.rl, h1.rdk, h1.rdn, h1.r0, h1.ll⟩⟩
    · simp only [Option.map_eq_some_iff] at hk
      obtain ⟨r0, hk, rfl⟩ := hk
      obtain ⟨q1', u', q2', q3', p0', p1', p2', xs', p3', p4', p5'⟩ := h1.rw k r0 hk
      have key : ∃ k1, s.rows k1 = some r0 ∧ ρ.row k1 = some u' := by
        by_cases hk' : k = id'
        · subst hk'
          simp only [upd_same, Option.some.injEq] at hk
          subst hk
          simp only [Cx.add, upd_same, Option.some.injEq] at q2'
          subst q2'
          exact ⟨id, hr, hu0⟩
        · rw [upd_ne _ _ hk'] at hk
          have hk1 : k ≠ id := fun e => by subst e; simp [upd_same] at hk
          rw [upd_ne _ _ hk1] at hk
          simp only [Cx.add, Cx.kill] at q2'
          rw [upd_ne _ _ hk', upd_ne _ _ hk1] at q2'
          exact ⟨k, hk, q2'⟩
      obtain ⟨k1, hk1, hk2⟩ := key
      obtain ⟨q1, u, q2, q3, p0, p1, p2, xs, p3, p4, p5⟩ := h.rw k1 r0 hk1
      rw [hk2] at q2; cases q2
      refine ⟨q1', u', q2', by simpa [Row.sub] using q3', p0, fun x hx => ?_, fun hb => by simpa [Row.sub] using p2 hb, xs, by simpa [Row.sub] using p3, ?_, p5⟩
      · simp only [Row.sub, List.mem_map] at hx
        obtain ⟨y, hy, rfl⟩ := hx
        rw [subL_length]; exact p1 y hy
      · simp only [Row.sub]
        rw [subL_flatten]
        exact p4.sub h2 hc
    · simp only [Option.map_eq_none_iff] at hk
      exact h1.rn k hk
  · exact ⟨ρ, h⟩

def Less (s s' : ASt) : Prop := ∀ (P : Program) (w0 : World) (S0 : Nat → Prop) (rd0 : Option Nat) (k0 : Nat) (w : World) (a : Act) (ρ : Cx), SR P w0 S0 rd0 k0 w a s ρ → ∃ ρ', SR P w0 S0 rd0 k0 w a s' ρ'
theorem LessS.less {s s' : ASt} (h : LessS s s') : Less s s' := fun _ _ _ _ _ _ _ _ hs => hs.lessS h
theorem Less.trans {s s' s'' : ASt} (h : Less s s') (k : Less s' s'') : Less s s'' := fun P w0 S0 rd0 k0 w a ρ hs => by
  obtain ⟨ρ', h1⟩ := h P w0 S0 rd0 k0 w a ρ hs
  exact k P w0 S0 rd0 k0 w a ρ' h1
theorem Less.rename {s : ASt} (id id' : Nat) (hid : s.used id' = false) : Less s (s.rename id id') := fun _ _ _ _ _ _ _ _ hs => hs.renamed id id' hid
theorem SR.less (h : SR P w0 S0 rd0 k0 w a s ρ) (hl : Less s s') : ∃ ρ', SR P w0 S0 rd0 k0 w a s' ρ' := hl _ _ _ _ _ _ _ _ h

theorem view_big {ρ : Cx} {t : VC} {sz : Nat} {es : List (List AV)} {v : Value} (h : Rep w ρ (.view t sz es) v) : es.length ≤ big := by
  obtain ⟨a, c, _, _, _, h4, _⟩ := rep_view.1 h; exact h4
end


structure Env where
  P : Program
  T : Tab
  hT : Tab.Ok P T
  hm : P.follows .mixedOrders = true
  w0 : World
  S0 : Nat → Prop
  rd0 : Option Nat
  k0 : Nat

def SRE (E : Env) (w : World) (a : Act) (s : ASt) (ρ : Cx) : Prop := SR E.P E.w0 E.S0 E.rd0 E.k0 w a s ρ

def AW (E : Env) (c : Code) (Q : Exit → ASt → Prop) (s : ASt) : Prop :=
  ∀ w a ρ, SRE E w a s ρ → c.wp E.P (fun e a' w' => ∃ s' ρ', SRE E w' a' s' ρ' ∧ Q e s') a w

def thenA (K : ASt → Prop) (Q : Exit → ASt → Prop) : Exit → ASt → Prop
  | .normal, s => K s
  | e, s => Q e s
def inBlockA (id : Nat) (Q : Exit → ASt → Prop) : Exit → ASt → Prop
  | .exit id', s => if id' = id then Q .normal s else Q (.exit id') s
  | e, s => Q e s

section
variable {E : Env} {Q : Exit → ASt → Prop} {s : ASt}

theorem AW.seq {x y : Code} (h : AW E x (thenA (AW E y Q) Q) s) : AW E (.seq x y) Q s := fun w a ρ hS => by
  refine wp_seq (wp_mono (h w a ρ hS) ?_)
  rintro e a' w' ⟨s', ρ', h1, h2⟩
  cases e with
  | normal => exact h2 w' a' ρ' h1
  | _ => exact ⟨s', ρ', h1, h2⟩

theorem AW.cond {c : Operand} {x y : Code} (b : Bool) (hc : aev s c = .bool b) (h : AW E (if b then x else y) Q s) : AW E (.cond c x y) Q s := fun w a ρ hS => by
  have := aev_rep hS c
  rw [hc, rep_bool] at this
  exact wp_cond this (h w a ρ hS)

theorem AW.condT {c : Operand} {x y : Code} (hc : aev s c = .bool true) (h : AW E x Q s) : AW E (.cond c x y) Q s := AW.cond true hc h
theorem AW.condF {c : Operand} {x y : Code} (hc : aev s c = .bool false) (h : AW E y Q s) : AW E (.cond c x y) Q s := AW.cond false hc h

theorem AW.block {id : Nat} {c : Code} (h : AW E c (inBlockA id Q) s) : AW E (.block id c) Q s := fun w a ρ hS => by
  refine wp_block (wp_mono (h w a ρ hS) ?_)
  rintro e a' w' ⟨s', ρ', h1, h2⟩
  cases e with
  | exit id' =>
    simp only [Exit.inBlock]
    simp only [inBlockA] at h2
    split
    · rename_i he; rw [if_pos he] at h2; exact ⟨s', ρ', h1, h2⟩
    · rename_i he; rw [if_neg he] at h2; exact ⟨s', ρ', h1, h2⟩
  | _ => exact ⟨s', ρ', h1, h2⟩

theorem AW.skip (h : Q .normal s) : AW E .skip Q s := fun _ _ ρ hS => wp_skip ⟨s, ρ, hS, h⟩
theorem AW.exit {id : Nat} (h : Q (.exit id) s) : AW E (.exit id) Q s := fun _ _ ρ hS => wp_exit ⟨s, ρ, hS, h⟩
theorem AW.ret (h : Q .ret s) : AW E .ret Q s := fun _ _ ρ hS => wp_ret ⟨s, ρ, hS, h⟩

theorem AW.region {md : List Nat} {id : Nat} {l : List Oper} (h : arun E.P E.T E.k0 md l.toArray (Q .normal) l s) : AW E (.region id l.toArray false) Q s := fun w a ρ hS =>
  region_seq E.hT (K := Q .normal) (fun s w a ρ hS hK => ⟨s, ρ, hS, hK⟩) hS h

theorem AW.regionD {md : List Nat} (pc : Pc) {id : Nat} {l : List Oper} (hB : Region.lexB .any l.toArray = true) (hc : cmpL pc.2 l.toArray = true) (h : arunD E.P E.T md pc l.toArray (Q .normal) l 0 s) : AW E (.region id l.toArray true) Q s := fun w a ρ hS =>
  region_any E.hT (K := Q .normal) E.hm hB hc (fun s w a ρ hS hK => ⟨s, ρ, hS, hK⟩) hS h

theorem AW.less {c : Code} (s' : ASt) (hl : Less s s') (h : AW E c Q s') : AW E c Q s := fun w a ρ hS => by
  obtain ⟨ρ', h1⟩ := SR.less hS hl
  exact h w a ρ' h1

theorem AW.hold {c : Code} (id : Nat) (h : AW E c Q (s.hold id)) : AW E c Q s := fun w a ρ hS => by
  obtain ⟨ρ', h1, _⟩ := SR.held hS id
  exact h w a ρ' h1

theorem AW.adopt {c : Code} (t id : Nat) (e : TypeId) (sz : Nat) {sz' : Nat} (he : ∃ i, E.T e = some i ∧ i.size = sz) (ht : s.tmps[t]? = some (.view .tight sz' [])) (hid : s.used id = false) (h : AW E c Q (s.adopt t id e sz)) : AW E c Q s := fun w a ρ hS => by
  obtain ⟨i, h1, h2⟩ := he
  obtain ⟨d, j, hs⟩ := TI.says (E.hT _ _ h1)
  obtain ⟨ρ', h3⟩ := SR.adopt hS t id e sz sz' (by rw [hs.cells, h2]) ht hid
  exact h w a ρ' h3

theorem AW.adoptB {c : Code} (b j id : Nat) (e : TypeId) (sz : Nat) {sz' : Nat} (he : ∃ i, E.T e = some i ∧ i.size = sz) {r : Row} {x : List AV} (hr : s.rows b = some r) (hx : r.es = [x]) (hj : x[j]? = some (.view .tight sz' [])) (hid : s.used id = false) (h : AW E c Q (s.adoptB b j id e sz)) : AW E c Q s := fun w a ρ hS => by
  obtain ⟨i, h1, h2⟩ := he
  obtain ⟨d, k, hs⟩ := TI.says (E.hT _ _ h1)
  obtain ⟨ρ', h3⟩ := SR.adoptB hS b j id e sz sz' (by rw [hs.cells, h2]) hr hx hj hid
  exact h w a ρ' h3

theorem AW.wkB {c : Code} (b j : Nat) {x0 : AV} (c' : AV) (hw : ∀ w ρ v, Rep w ρ x0 v → Rep w ρ c' v) {r : Row} {x : List AV} (hr : s.rows b = some r) (hx : r.es = [x]) (hj : x[j]? = some x0) (h : AW E c Q (s.wkB b j c')) : AW E c Q s := fun w a ρ hS =>
  h w a ρ (SR.wkB hS b j hw hr hx hj)
theorem AW.rename {c : Code} (id id' : Nat) (hid : s.used id' = false) (h : AW E c Q (s.rename id id')) : AW E c Q s := fun w a ρ hS => by
  obtain ⟨ρ', h1⟩ := SR.renamed hS id id' hid
  exact h w a ρ' h1

theorem AW.fact {c : Code} {G : Prop} (t : Nat) {x : AV} (ht : s.tmps[t]? = some x) (hG : ∀ w ρ v, Rep w ρ x v → G) (h : G → AW E c Q s) : AW E c Q s := fun w a ρ hS => by
  obtain ⟨v, _, hr⟩ := SR.tm hS |>.get ht
  exact h (hG w ρ v hr) w a ρ hS

theorem rounds_mono {P : Program} {c : Code} {R : Exit → Act → World → Prop} : ∀ {n : Nat} {a : Act} {w : World}, Code.rounds P c R n a w → Code.rounds P c R (n + 1) a w
  | 0, _, _, h => h.elim
  | n + 1, a, w, h => by
    unfold Code.rounds at h ⊢
    refine wp_mono h ?_
    intro e a' w' he
    cases e with
    | normal => exact rounds_mono he
    | _ => exact he

theorem rounds_le {P : Program} {c : Code} {R : Exit → Act → World → Prop} {n m : Nat} (hnm : n ≤ m) {a : Act} {w : World} (h : Code.rounds P c R n a w) : Code.rounds P c R m a w := by
  induction hnm with
  | refl => exact h
  | step _ ih => exact rounds_mono ih

theorem AW.loop {c : Code} (I : Nat → ASt → Prop) (n : Nat) (h0 : I n s) (hI : ∀ n s, I n s → AW E c (thenA (fun s' => ∃ m, m < n ∧ I m s') Q) s) : AW E (.loop c) Q s := by
  have key : ∀ n s, I n s → ∀ w a ρ, SRE E w a s ρ → Code.rounds E.P c (fun e a' w' => ∃ s' ρ', SRE E w' a' s' ρ' ∧ Q e s') (n + 1) a w := by
    intro n
    induction n using Nat.strongRecOn with
    | _ n ih =>
      intro s hs w a ρ hS
      unfold Code.rounds
      refine wp_mono (hI n s hs w a ρ hS) ?_
      rintro e a' w' ⟨s', ρ', h1, h2⟩
      cases e with
      | normal =>
        obtain ⟨m, hm, hI'⟩ := h2
        exact rounds_le (by omega) (ih m hm s' hI' w' a' ρ' h1)
      | _ => exact ⟨s', ρ', h1, h2⟩
  exact fun w a ρ hS => wp_loop_rounds (n + 1) (key n s h0 w a ρ hS)
end


def Pur (c : AV) : Prop := ∀ w ρ v, Rep w ρ c v → Rep w (pureC nil ρ.S none) c v

def aresL (T : Tab) (s : ASt) : List ResultVar → Option (List AV)
  | [] => some []
  | .tmp t :: rs => match aresL T s rs with | some cs => some ((s.tmps[t]?).getD .any :: cs) | none => none
  | .cell t ty :: rs => match aload T false s ty ((s.tmps[t]?).getD .any), aresL T s rs with | some c, some cs => some (c :: cs) | _, _ => none

def ares (T : Tab) (s : ASt) (rs : List ResultVar) : Option AV :=
  match aresL T s rs with
  | some [c] => some c
  | some cs => some (.tup cs)
  | none => none

section
variable {P : Program} {T : Tab} {w0 : World} {S0 : Nat → Prop} {rd0 : Option Nat} {k0 : Nat} {w : World} {a : Act} {s : ASt} {ρ : Cx}

theorem aresL_ok (hT : Tab.Ok P T) (h : SR P w0 S0 rd0 k0 w a s ρ) : ∀ {rs : List ResultVar} {cs : List AV}, aresL T s rs = some cs →
    ∃ vs, (rs.mapM (fun (r : ResultVar) => match r with | .tmp t => (pure (a.tmps.getD t undef) : Sem Value) | .cell p t => do loadVar t (← asAddr (a.tmps.getD p undef)))).run P w = .ok vs w ∧ RepL w ρ cs vs
  | [], cs, e => by unfold aresL at e; cases e; exact ⟨[], by simp, by unfold RepL; rfl⟩
  | .tmp t :: rs, cs, e => by
    unfold aresL at e
    split at e
    · rename_i cs' hcs
      cases e
      obtain ⟨vs, h1, h2⟩ := aresL_ok hT h hcs
      have := aev_rep h (.tmp t)
      refine ⟨a.tmps.getD t undef :: vs, ?_, by unfold RepL; exact ⟨_, _, rfl, this, h2⟩⟩
      simp only [List.mapM_cons, Sem.run_bind, Sem.run_pure, Result.andThen_ok, h1]
    · cases e
  | .cell t ty :: rs, cs, e => by
    unfold aresL at e
    split at e
    · rename_i c cs' hc hcs
      cases e
      obtain ⟨vs, h1, h2⟩ := aresL_ok hT h hcs
      have hx := aev_rep h (.tmp t)
      obtain ⟨u, k1, k2⟩ := load_ok hT h hx hc
      refine ⟨u :: vs, ?_, by unfold RepL; exact ⟨_, _, rfl, k2, h2⟩⟩
      have hp : ∃ ad, a.eval (.tmp t) = .pointer (some ad) := by
        unfold Instr.loadAt Instr.sureAddr at k1
        cases hv : a.eval (.tmp t) <;> rw [hv] at k1 <;> simp at k1
        rename_i ad
        cases ad with
        | none => simp at k1
        | some ad => exact ⟨ad, rfl⟩
      obtain ⟨ad, hp⟩ := hp
      rw [hp] at k1
      have hp' : a.tmps.getD t undef = .pointer (some ad) := hp
      simp only [Instr.loadAt, Instr.sureAddr, Sem.run_bind, Sem.run_pure, Result.andThen_ok] at k1
      have hrun : (do loadVar ty (← asAddr (a.tmps.getD t undef)) : Sem Value).run P w = .ok u w := by
        rw [hp', Sem.run_bind]; exact k1
      rw [List.mapM_cons, Sem.run_bind]
      dsimp only
      rw [hrun]
      simp only [Result.andThen_ok, Sem.run_bind, h1, Sem.run_pure]
    · cases e

theorem ares_ok (hT : Tab.Ok P T) (h : SR P w0 S0 rd0 k0 w a s ρ) {fn : Func} {c : AV} (e : ares T s fn.results.toList = some c) : ∃ v, (results fn a.tmps).run P w = .ok v w ∧ Rep w ρ c v := by
  unfold ares at e
  have main : ∀ cs, aresL T s fn.results.toList = some cs → ∃ vs : List Value, (results fn a.tmps).run P w = .ok (if h : vs.toArray.size = 1 then vs.toArray[0] else .tuple vs.toArray) w ∧ RepL w ρ cs vs := fun cs hcs => by
    obtain ⟨vs, h1, h2⟩ := aresL_ok hT h hcs
    refine ⟨vs, ?_, h2⟩
    unfold results
    rw [Array.mapM_eq_mapM_toList]
    simp only [Sem.run_bind, Sem.run_map, Sem.run_pure]
    exact (congrArg (fun r : Result (List Value) => (r.andThen fun a w' => Result.ok a.toArray w').andThen fun a w' => Result.ok (if h : a.size = 1 then a[0] else Value.tuple a) w') h1)
  split at e
  · rename_i c' hcs
    cases e
    obtain ⟨vs, h1, h2⟩ := main _ hcs
    unfold RepL at h2
    obtain ⟨v, vs', rfl, h3, h4⟩ := h2
    unfold RepL at h4
    subst h4
    exact ⟨v, by simpa using h1, h3⟩
  · rename_i cs hne hcs
    cases e
    obtain ⟨vs, h1, h2⟩ := main _ hcs
    have hl : vs.toArray.size ≠ 1 := fun hl => by
      have h3 := h2.length
      simp only [List.size_toArray] at hl
      rw [hl] at h3
      obtain ⟨c, rfl⟩ := List.length_eq_one_iff.1 h3.symm
      exact hne c rfl
    rw [dif_neg hl] at h1
    exact ⟨_, h1, rep_tup.2 ⟨vs, rfl, h2⟩⟩
  · cases e
end

def initSt (args : List AV) (n : Nat) (rd : Option Nat) : ASt := { tmps := args ++ List.replicate (n - args.length) .any, rows := fun _ => none, used := fun _ => false, rd := rd }

def endQ (T : Tab) (fn : Func) (Post : AV → Prop) : Exit → ASt → Prop
  | .normal, s | .ret, s => ∃ r, ares T s fn.results.toList = some r ∧ Pur r ∧ Post r
  | _, _ => False

theorem init_SR {P : Program} {w : World} {L S : Nat → Prop} {rb : Option Nat} {k c n : Nat} {args : List AV} {vs : List Value} (hL : ∀ b, L b → b < w.heap.size ∧ rb ≠ some b) (hS : ∀ b, S b → b < w.heap.size) (hr : ∀ b, rb = some b → ¬ S b ∧ RdOk w S b (k + c)) (h : RepL w (pureC L S rb) args vs) :
    SR P w S rb k w { tmps := vs.toArray ++ Array.replicate (n - vs.toArray.size) undef, defers := [] } (initSt args n (rb.map fun _ => c)) (pureC L S rb) := by
  refine ⟨?_, rfl, Ext.refl _ _, fun _ h => h, fun b hb => ⟨hS b hb, .inl hb⟩, fun id => ⟨fun h => False.elim h, (fun h => by simp [initSt] at h)⟩, (fun id r h => by simp [initSt] at h), fun _ _ => rfl, (fun _ _ _ _ _ h => by cases h), (fun _ _ _ h => by cases h), fun b hb => ?_, fun j hj => ?_, fun hj => ?_, fun b hb => ⟨hb, by rw [hb]; rfl⟩, hL⟩
  · have hl := h.length
    have : RepL w (pureC L S rb) (List.replicate (n - args.length) AV.any) (List.replicate (n - args.length) undef) := RepL.of_get (by simp) (fun i c v h1 h2 => by
      have := List.getElem?_eq_some_iff.1 h1
      simp at this
      rw [← this.2]; exact rep_any _)
    have := h.append this
    simpa [initSt, hl] using this
  · have := hr b hb
    refine ⟨?_, this.1⟩
    obtain ⟨_, _, _, _, _, _, _, _, _, h6, _⟩ := this.2
    exact h6
  · simp only [initSt, Option.map_eq_some_iff] at hj
    obtain ⟨b, hb, rfl⟩ := hj
    have := hr b hb
    exact ⟨b, hb, this.2, this.1, .inl hb⟩
  · simp only [initSt, Option.map_eq_none_iff] at hj
    exact hj

theorem enters_of {P : Program} {f : FuncId} {fn : Func} (hf : P.funcs[f]? = some fn) (hn : (fn.name == "runtime.NumGoroutine") = false) (hb : fn.body.isSome = true) : Enters P f := by
  intro «as» w
  unfold callFunc
  simp only [Sem.run_bind, run_program, Result.andThen_ok, hf, hn, Bool.false_eq_true, if_false]
  have : fn.body.isNone = false := by cases h : fn.body <;> simp_all
  simp only [this, Bool.false_eq_true, if_false, Sem.run_pure]

theorem SR.fin_S {P : Program} {w0 w : World} {S : Nat → Prop} {rb : Option Nat} {k : Nat} {a : Act} {s : ASt} {ρ : Cx} (h : SR P w0 S rb k w a s ρ) (b : Nat) (hb : ρ.S b) : S b ∨ (w0.heap.size ≤ b ∧ b < w.heap.size) := by
  rcases (SR.sl h b hb).2 with h5 | h5
  · exact .inl h5
  · exact .inr ⟨h5, (SR.sl h b hb).1⟩

theorem SR.fin_rd {P : Program} {w0 w : World} {S : Nat → Prop} {rb : Option Nat} {k : Nat} {a : Act} {s : ASt} {ρ : Cx} (h : SR P w0 S rb k w a s ρ) (b : Nat) (hb : rb = some b) : RdOk w ρ.S b k := by
  obtain ⟨k3, k4⟩ := SR.r0 h b hb
  obtain ⟨j, hj⟩ := Option.isSome_iff_exists.1 k4
  obtain ⟨rb', q1, q2, _⟩ := SR.rdk h j hj
  rw [k3] at q1; cases q1
  exact q2.less (Nat.le_add_right _ _)

theorem AC.of {P : Program} {T : Tab} (hT : Tab.Ok P T) (hm : P.follows .mixedOrders = true) {f : FuncId} {fn : Func} {code : Code} (hf : P.funcs[f]? = some fn) (hb : fn.body = some code) (hn : (fn.name == "runtime.NumGoroutine") = false)
    {args : List AV} {c : Nat} {Post : AV → Prop}
    (h : ∀ E : Env, E.P = P → E.T = T → AW E code (endQ T fn Post) (initSt args fn.ntmps (E.rd0.map fun _ => c))) : AC P f args c Post := by
  refine ⟨enters_of hf hn (by rw [hb]; rfl), fun w L S rb k vs hL hS hr hargs => ?_⟩
  refine calls_of_wp hf hb ?_
  refine wp_mono (h ⟨P, T, hT, hm, w, S, rb, k⟩ rfl rfl w _ (pureC L S rb) (init_SR hL hS hr hargs)) ?_
  rintro e a' w' ⟨s', ρ', h1, h2⟩
  have fin : ∀ r, ares T s' fn.results.toList = some r → Pur r → Post r → a'.defers = [] ∧ ∃ v, (results fn a'.tmps).run P w' = .ok v w' ∧ ∃ v' r S', Ending.returned v = .returned v' ∧ Ext (fun b => rb = some b) w w' ∧ (∀ b, S b → S' b) ∧ (∀ b, S' b → S b ∨ (w.heap.size ≤ b ∧ b < w'.heap.size)) ∧
      (∀ b, rb = some b → RdOk w' S' b k) ∧ Rep w' (pureC nil S' none) r v' ∧ Post r := fun r hr hp hq => by
    obtain ⟨v, k1, k2⟩ := ares_ok hT h1 hr
    exact ⟨SR.df h1, v, k1, v, r, ρ'.S, rfl, SR.ext h1, SR.s0 h1, SR.fin_S h1, SR.fin_rd h1, hp _ _ _ k2, hq⟩
  cases e with
  | normal => obtain ⟨r, q1, q2, q3⟩ := h2; exact fin r q1 q2 q3
  | ret => obtain ⟨r, q1, q2, q3⟩ := h2; exact fin r q1 q2 q3
  | _ => exact h2.elim

theorem AC0.of {P : Program} {T : Tab} (hT : Tab.Ok P T) (hm : P.follows .mixedOrders = true) {f : FuncId} {fn : Func} {code : Code} (hf : P.funcs[f]? = some fn) (hb : fn.body = some code) (hn : (fn.name == "runtime.NumGoroutine") = false)
    {args : List AV} {Post : AV → Prop}
    (h : ∀ E : Env, E.P = P → E.T = T → E.k0 = 0 → AW E code (endQ T fn Post) (initSt args fn.ntmps none)) : AC0 P f args Post := by
  refine ⟨enters_of hf hn (by rw [hb]; rfl), fun w L S vs hL hS hargs => ?_⟩
  refine calls_of_wp hf hb ?_
  refine wp_mono (h ⟨P, T, hT, hm, w, S, none, 0⟩ rfl rfl rfl w _ (pureC L S none) (init_SR (c := 0) (fun b hb => ⟨hL b hb, fun h => by cases h⟩) hS (fun b hb => by cases hb) hargs)) ?_
  rintro e a' w' ⟨s', ρ', h1, h2⟩
  have fin : ∀ r, ares T s' fn.results.toList = some r → Pur r → Post r → a'.defers = [] ∧ ∃ v, (results fn a'.tmps).run P w' = .ok v w' ∧ ∃ v' r S', Ending.returned v = .returned v' ∧ Grow w w' ∧ (∀ b, S b → S' b) ∧ (∀ b, S' b → S b ∨ (w.heap.size ≤ b ∧ b < w'.heap.size)) ∧
      Rep w' (pureC nil S' none) r v' ∧ Post r := fun r hr hp hq => by
    obtain ⟨v, k1, k2⟩ := ares_ok hT h1 hr
    exact ⟨SR.df h1, v, k1, v, r, ρ'.S, rfl, Grow.ofNone (SR.ext h1), SR.s0 h1, SR.fin_S h1, hp _ _ _ k2, hq⟩
  cases e with
  | normal => obtain ⟨r, q1, q2, q3⟩ := h2; exact fin r q1 q2 q3
  | ret => obtain ⟨r, q1, q2, q3⟩ := h2; exact fin r q1 q2 q3
  | _ => exact h2.elim


def Res1 (id0 : Nat) (r : Nat → AV) : Prop := ∀ w (ρ : Cx) v u id, ρ.row id0 = some u → Rep w ρ (r id0) v → Rep w (oneC ρ.S id u (ρ.len id0)) (r id) v

theorem Res1.pur (id0 : Nat) {c : AV} (h : Pur c) : Res1 id0 (fun _ => c) := fun w ρ v u id _ hr => Rep.le (ρ := pureC nil ρ.S none) (ρ' := oneC ρ.S id u (ρ.len id0)) ⟨fun _ h => ⟨h, fun _ => rfl⟩, fun _ h => False.elim h, fun _ h => False.elim h, fun _ h => by cases h⟩ (h w ρ v hr)
theorem Res1.own (id0 n : Nat) : Res1 id0 (fun id => .own id n) := fun w ρ v u id hu hr => by
  obtain ⟨_, h2, h3, h4⟩ := rep_own.1 hr
  exact rep_own.2 ⟨rfl, by simp only [oneC, if_true]; exact h2, h3, fun u' hu' hn => by
    simp only [oneC, if_true, Option.some.injEq] at hu' hn
    subst hu'; exact h4 u hu hn⟩
theorem Res1.list {id0 : Nat} {cs : List (Nat → AV)} (h : ∀ c ∈ cs, Res1 id0 c) {w : World} {ρ : Cx} {vs : List Value} {u : Value} (id : Nat) (hu : ρ.row id0 = some u) (hr : RepL w ρ (cs.map (fun c => c id0)) vs) : RepL w (oneC ρ.S id u (ρ.len id0)) (cs.map (fun c => c id)) vs :=
  RepL.of_get (by simpa using hr.length) (fun i c v h1 h2 => by
    rw [List.getElem?_map, Option.map_eq_some_iff] at h1
    obtain ⟨f, hf, rfl⟩ := h1
    obtain ⟨v', hv', hr'⟩ := hr.get (i := i) (c := f id0) (by rw [List.getElem?_map, hf]; rfl)
    rw [h2] at hv'; cases hv'
    exact h f (List.mem_of_getElem? hf) w ρ v u id hu hr')
theorem Res1.agg {id0 : Nat} (cs : List (Nat → AV)) (h : ∀ c ∈ cs, Res1 id0 c) : Res1 id0 (fun id => .agg (cs.map (fun c => c id))) := fun w ρ v u id hu hr => by
  obtain ⟨vs, h1, h2, h3⟩ := rep_agg.1 hr
  exact rep_agg.2 ⟨vs, h1, h2, Res1.list h id hu h3⟩
theorem Res1.tup {id0 : Nat} (cs : List (Nat → AV)) (h : ∀ c ∈ cs, Res1 id0 c) : Res1 id0 (fun id => .tup (cs.map (fun c => c id))) := fun w ρ v u id hu hr => by
  obtain ⟨vs, h1, h3⟩ := rep_tup.1 hr
  exact rep_tup.2 ⟨vs, h1, Res1.list h id hu h3⟩

def endR (T : Tab) (fn : Func) (Post0 : AV → Prop) (Post : (Nat → AV) → Row → Prop) : Exit → ASt → Prop
  | .normal, s | .ret, s => ∃ r, ares T s fn.results.toList = some r ∧ ((Pur r ∧ Post0 r) ∨ ∃ f id0 R, r = f id0 ∧ s.rows id0 = some R ∧ Res1 id0 f ∧ (∀ e ∈ R.es, ∀ c ∈ e, Pur c) ∧ Post f R)
  | _, _ => False

theorem ACR.of {P : Program} {T : Tab} (hT : Tab.Ok P T) (hm : P.follows .mixedOrders = true) {f : FuncId} {fn : Func} {code : Code} (hf : P.funcs[f]? = some fn) (hb : fn.body = some code) (hn : (fn.name == "runtime.NumGoroutine") = false)
    {args : List AV} {c : Nat} {Post0 : AV → Prop} {Post : (Nat → AV) → Row → Prop}
    (h : ∀ E : Env, E.P = P → E.T = T → AW E code (endR T fn Post0 Post) (initSt args fn.ntmps (E.rd0.map fun _ => c))) : ACR P f args c Post0 Post := by
  refine ⟨enters_of hf hn (by rw [hb]; rfl), fun w L S rb k vs hL hS hr hargs => ?_⟩
  refine calls_of_wp hf hb ?_
  refine wp_mono (h ⟨P, T, hT, hm, w, S, rb, k⟩ rfl rfl w _ (pureC L S rb) (init_SR hL hS hr hargs)) ?_
  rintro e a' w' ⟨s', ρ', h1, h2⟩
  have fin : ∀ r, ares T s' fn.results.toList = some r → ((Pur r ∧ Post0 r) ∨ ∃ f id0 R, r = f id0 ∧ s'.rows id0 = some R ∧ Res1 id0 f ∧ (∀ e ∈ R.es, ∀ c ∈ e, Pur c) ∧ Post f R) → a'.defers = [] ∧ ∃ v, (results fn a'.tmps).run P w' = .ok v w' ∧ ∃ v' S', Ending.returned v = .returned v' ∧ Ext (fun b => rb = some b) w w' ∧ (∀ b, S b → S' b) ∧ (∀ b, S' b → S b ∨ (w.heap.size ≤ b ∧ b < w'.heap.size)) ∧
      (∀ b, rb = some b → RdOk w' S' b k) ∧ ((∃ r, Rep w' (pureC nil S' none) r v' ∧ Post0 r) ∨
        ∃ r R u, (∀ id, Rep w' (oneC S' id u R.es.length) (r id) v') ∧ RowOk P w' (pureC nil S' none) w.heap.size R u ∧ (∀ g, blk u = some g → ¬ S' g) ∧ Post r R) := fun r hr hp => by
    obtain ⟨v, k1, k2⟩ := ares_ok hT h1 hr
    refine ⟨SR.df h1, v, k1, v, ρ'.S, rfl, SR.ext h1, SR.s0 h1, SR.fin_S h1, SR.fin_rd h1, ?_⟩
    rcases hp with ⟨p1, p2⟩ | ⟨g, id0, R, rfl, p1, p2, p3, p4⟩
    · exact .inl ⟨r, p1 _ _ _ k2, p2⟩
    · obtain ⟨_, u, q1, q2, q0, q3, q4, xs, q5, q6, q7⟩ := SR.rw h1 id0 R p1
      refine .inr ⟨g, R, u, fun id => by rw [← q2]; exact p2 _ _ _ _ id q1 k2, ⟨q0, q3, q4, xs, q5, RepL.of_get q6.length (fun i c v h1 h2 => ?_), q7⟩, fun b hb => (SR.ns h1 id0 u b q1 hb).1, p4⟩
      obtain ⟨v', hv', hr'⟩ := q6.get h1
      rw [h2] at hv'; cases hv'
      obtain ⟨e, he, hce⟩ := List.mem_flatten.1 (List.mem_of_getElem? h1)
      exact p3 e he c hce _ _ _ hr'
  cases e with
  | normal => obtain ⟨r, q1, q2⟩ := h2; exact fin r q1 q2
  | ret => obtain ⟨r, q1, q2⟩ := h2; exact fin r q1 q2
  | _ => exact h2.elim
end Go.Proofs.Ytmeobmegnneegaa.Eng

/-
  Data as values told without memory; what hangs on nothing.
-/
namespace Go.Proofs.Ytmeobmegnneegaa.Eng
open Go Go.RowKit

section
theorem pur_int {k : IntKind} {n : Int} : Pur (.int k n) := fun _ _ _ h => rep_int.2 (rep_int.1 h)
theorem pur_bool {b : Bool} : Pur (.bool b) := fun _ _ _ h => rep_bool.2 (rep_bool.1 h)
theorem pur_str {b : ByteArray} : Pur (.str b) := fun _ _ _ h => rep_str.2 (rep_str.1 h)

theorem purL {w : World} {ρ : Cx} {cs : List AV} {vs : List Value} (hp : ∀ c ∈ cs, Pur c) (h : RepL w ρ cs vs) : RepL w (pureC nil ρ.S none) cs vs :=
  RepL.of_get h.length (fun i c v h1 h2 => by
    obtain ⟨u, hu, hr⟩ := h.get h1
    rw [h2] at hu; cases hu
    exact hp c (List.mem_of_getElem? h1) _ _ _ hr)
theorem purC {w : World} {ρ : Cx} {b o : Nat} {cs : List AV} (hp : ∀ c ∈ cs, Pur c) (h : RepC w ρ b o cs) : RepC w (pureC nil ρ.S none) b o cs :=
  RepC.of_get (fun i c hc => by
    obtain ⟨v, h1, h2, h3⟩ := h.get hc
    exact ⟨v, h1, h2, hp c (List.mem_of_getElem? hc) _ _ _ h3⟩)

theorem pur_agg {cs : List AV} (hp : ∀ c ∈ cs, Pur c) : Pur (.agg cs) := fun _ _ _ h => by
  obtain ⟨vs, h1, h2, h3⟩ := rep_agg.1 h
  exact rep_agg.2 ⟨vs, h1, h2, purL hp h3⟩
theorem pur_tup {cs : List AV} (hp : ∀ c ∈ cs, Pur c) : Pur (.tup cs) := fun _ _ _ h => by
  obtain ⟨vs, h1, h3⟩ := rep_tup.1 h
  exact rep_tup.2 ⟨vs, h1, purL hp h3⟩
theorem pur_view {t : VC} {sz : Nat} {es : List (List AV)} (ht : t ≠ .lent) (hp : ∀ e ∈ es, ∀ c ∈ e, Pur c) : Pur (.view t sz es) := fun _ _ _ h => by
  obtain ⟨a, c, h1, h2, h3, h4, h5, h6⟩ := rep_view.1 h
  refine rep_view.2 ⟨a, c, h1, h2, h3, h4, h5, h6.imp (fun h => h) ?_⟩
  rintro ⟨b, o, k1, k2, k3⟩
  exact ⟨b, o, k1, by cases t <;> first | exact absurd rfl ht | exact k2, RepE.of_get h5 (fun i e he => purC (hp e (List.mem_of_getElem? he)) (k3.get h5 he))⟩

theorem Pur.clo {c : AV} (h : Pur c) : Clo c := fun w ρ v hr => Rep.le (ρ := pureC nil ρ.S none) (ρ' := pureC ρ.L ρ.S ρ.rd) ⟨fun b hb => ⟨hb, fun _ => rfl⟩, fun b hb => False.elim hb, fun id hid => False.elim hid, fun _ h => by cases h⟩ (h w ρ v hr)
theorem clo_view {t : VC} {sz : Nat} {es : List (List AV)} (hp : ∀ e ∈ es, ∀ c ∈ e, Clo c) : Clo (.view t sz es) := fun _ ρ _ h => by
  obtain ⟨a, c, h1, h2, h3, h4, h5, h6⟩ := rep_view.1 h
  refine rep_view.2 ⟨a, c, h1, h2, h3, h4, h5, h6.imp (fun h => h) ?_⟩
  rintro ⟨b, o, k1, k2, k3⟩
  refine ⟨b, o, k1, by cases t <;> exact k2, RepE.of_get h5 (fun i e he => RepC.of_get (fun j c hc => ?_))⟩
  obtain ⟨v, q1, q2, q3⟩ := (k3.get h5 he).get hc
  exact ⟨v, q1, q2, hp e (List.mem_of_getElem? he) c (List.mem_of_getElem? hc) _ _ _ q3⟩
theorem clo_agg {cs : List AV} (hp : ∀ c ∈ cs, Clo c) : Clo (.agg cs) := fun _ _ _ h => by
  obtain ⟨vs, h1, h2, h3⟩ := rep_agg.1 h
  refine rep_agg.2 ⟨vs, h1, h2, RepL.of_get h3.length (fun i c v k1 k2 => ?_)⟩
  obtain ⟨u, hu, hr⟩ := h3.get k1
  rw [k2] at hu; cases hu
  exact hp c (List.mem_of_getElem? k1) _ _ _ hr
theorem clo_rdr : Clo .rdr := fun _ _ _ h => by obtain ⟨b, h1, h2⟩ := rep_rdr.1 h; exact rep_rdr.2 ⟨b, h1, h2⟩
theorem clo_int {k : IntKind} {n : Int} : Clo (.int k n) := pur_int.clo
theorem clo_bool {b : Bool} : Clo (.bool b) := pur_bool.clo
theorem clo_str {b : ByteArray} : Clo (.str b) := pur_str.clo
end

def strsE (xs : List ByteArray) : List (List AV) := xs.map fun s => [.str s]
mutual
def nodeL : Nd → List AV
  | ⟨kind, num, text, names, kids⟩ => [.int .i64 kind, .int .i64 num, .str text, .view .loose 1 (strsE names), .view .loose 5 (nodesL kids)]
def nodesL : List Nd → List (List AV)
  | [] => []
  | k :: ks => nodeL k :: nodesL ks
end
def nodeA (n : Nd) : AV := .agg (nodeL n)

theorem nodesL_map : ∀ (ks : List Nd), nodesL ks = ks.map nodeL
  | [] => by unfold nodesL; rfl
  | k :: ks => by unfold nodesL; rw [nodesL_map ks]; rfl
theorem nodeL_eq (n : Nd) : nodeL n = [.int .i64 n.kind, .int .i64 n.num, .str n.text, .view .loose 1 (strsE n.names), .view .loose 5 (n.kids.map nodeL)] := by
  cases n; unfold nodeL; rw [nodesL_map]
theorem nodeL_len (n : Nd) : (nodeL n).length = 5 := by rw [nodeL_eq]; rfl

theorem strsE_pur (xs : List ByteArray) : ∀ e ∈ strsE xs, ∀ c ∈ e, Pur c := by
  intro e he c hc
  unfold strsE at he
  rw [List.mem_map] at he
  obtain ⟨s, _, rfl⟩ := he
  simp at hc; subst hc; exact pur_str
theorem nodeL_pur : ∀ (n : Nd), ∀ c ∈ nodeL n, Pur c := Nd.ind' _ (fun n ih c hc => by
  rw [nodeL_eq] at hc
  simp only [List.mem_cons, List.not_mem_nil, or_false] at hc
  rcases hc with rfl | rfl | rfl | rfl | rfl
  · exact pur_int
  · exact pur_int
  · exact pur_str
  · exact pur_view (by decide) (strsE_pur _)
  · refine pur_view (by decide) (fun e he c hc => ?_)
    rw [List.mem_map] at he
    obtain ⟨k, hk, rfl⟩ := he
    exact ih k hk c hc)
theorem node_pur (n : Nd) : Pur (nodeA n) := pur_agg (nodeL_pur n)
theorem strs_pur {t : VC} (xs : List ByteArray) (ht : t ≠ .lent) : Pur (.view t 1 (strsE xs)) := pur_view ht (strsE_pur xs)
theorem strs_clo {t : VC} (xs : List ByteArray) : Clo (.view t 1 (strsE xs)) := clo_view (fun e he c hc => (strsE_pur xs e he c hc).clo)
theorem nodesE_pur (ks : List Nd) : ∀ e ∈ ks.map nodeL, ∀ c ∈ e, Pur c := fun e he c hc => by
  rw [List.mem_map] at he
  obtain ⟨k, hk, rfl⟩ := he
  exact nodeL_pur k c hc
theorem nodes_pur {t : VC} (ks : List Nd) (ht : t ≠ .lent) : Pur (.view t 5 (ks.map nodeL)) := pur_view ht (nodesE_pur ks)
theorem nodes_clo {t : VC} (ks : List Nd) : Clo (.view t 5 (ks.map nodeL)) := clo_view (fun e he c hc => (nodesE_pur ks e he c hc).clo)
theorem node_clo (n : Nd) : Clo (nodeA n) := (node_pur n).clo

def nodeTL (t : VC) (n : Nd) : List AV := [.int .i64 n.kind, .int .i64 n.num, .str n.text, .view t 1 (strsE n.names), .view .loose 5 (n.kids.map nodeL)]
def nodeT (t : VC) (n : Nd) : AV := .agg (nodeTL t n)
theorem nodeTL_eq (t : VC) (n : Nd) : nodeTL t n = [.int .i64 n.kind, .int .i64 n.num, .str n.text, .view t 1 (strsE n.names), .view .loose 5 (n.kids.map nodeL)] := rfl
theorem nodeT_loose (n : Nd) : nodeT .loose n = nodeA n := by unfold nodeT nodeA nodeTL; rw [nodeL_eq]
theorem nodeT_clo (t : VC) (n : Nd) : Clo (nodeT t n) := clo_agg (by
  intro c hc
  simp only [nodeTL, List.mem_cons, List.not_mem_nil, or_false] at hc
  rcases hc with rfl | rfl | rfl | rfl | rfl
  · exact clo_int
  · exact clo_int
  · exact clo_str
  · exact strs_clo _
  · exact nodes_clo _)

theorem nodeT_pur {t : VC} (n : Nd) (h : t ≠ .lent) : Pur (nodeT t n) := pur_agg (by
  intro c hc
  simp only [nodeTL, List.mem_cons, List.not_mem_nil, or_false] at hc
  rcases hc with rfl | rfl | rfl | rfl | rfl
  · exact pur_int
  · exact pur_int
  · exact pur_str
  · exact strs_pur _ h
  · exact nodes_pur _ (by decide))

theorem strsE_clo (xs : List ByteArray) : ∀ e ∈ strsE xs, ∀ c ∈ e, Clo c := fun e he c hc => (strsE_pur xs e he c hc).clo
theorem nodesE_clo (ks : List Nd) : ∀ e ∈ ks.map nodeL, ∀ c ∈ e, Clo c := fun e he c hc => (nodesE_pur ks e he c hc).clo
theorem strsE_get (xs : List ByteArray) (i : Nat) : (strsE xs)[i]? = (xs[i]?).map fun s => [.str s] := by unfold strsE; rw [List.getElem?_map]
theorem strsE_len (xs : List ByteArray) : (strsE xs).length = xs.length := by unfold strsE; rw [List.length_map]

theorem strsE_in {U : Nat → Bool} (xs : List ByteArray) : ∀ e ∈ strsE xs, ∀ c ∈ e, AV.In U c := by
  intro e he c hc
  unfold strsE at he
  rw [List.mem_map] at he
  obtain ⟨s, _, rfl⟩ := he
  simp at hc; subst hc; exact in_str
theorem nodeL_in {U : Nat → Bool} : ∀ (n : Nd), ∀ c ∈ nodeL n, AV.In U c := Nd.ind' _ (fun n ih c hc => by
  rw [nodeL_eq] at hc
  simp only [List.mem_cons, List.not_mem_nil, or_false] at hc
  rcases hc with rfl | rfl | rfl | rfl | rfl
  · exact in_int
  · exact in_int
  · exact in_str
  · exact in_view.2 (strsE_in _)
  · refine in_view.2 (fun e he c hc => ?_)
    rw [List.mem_map] at he
    obtain ⟨k, hk, rfl⟩ := he
    exact ih k hk c hc)
theorem strsE_sub {id m : Nat} {c : AV} (xs : List ByteArray) : (strsE xs).map (AV.subL id m c) = strsE xs := by
  unfold strsE; rw [List.map_map]; exact List.map_congr_left (fun k _ => by simp [AV.subL, AV.sub])
theorem nodeL_sub {id m : Nat} {c : AV} (n : Nd) : AV.subL id m c (nodeL n) = nodeL n := by rw [nodeL_eq]; simp [AV.subL, AV.sub]
theorem nodesE_in {U : Nat → Bool} (ks : List Nd) : ∀ e ∈ ks.map nodeL, ∀ c ∈ e, AV.In U c := fun e he c hc => by
  rw [List.mem_map] at he
  obtain ⟨k, hk, rfl⟩ := he
  exact nodeL_in k c hc
theorem node_in {U : Nat → Bool} (n : Nd) : AV.In U (nodeA n) := in_agg.2 (nodeL_in n)
theorem strs_in {U : Nat → Bool} {t : VC} (xs : List ByteArray) : AV.In U (.view t 1 (strsE xs)) := in_view.2 (strsE_in xs)
theorem nodes_in {U : Nat → Bool} {t : VC} (ks : List Nd) : AV.In U (.view t 5 (ks.map nodeL)) := in_view.2 (fun e he c hc => by
  rw [List.mem_map] at he
  obtain ⟨k, hk, rfl⟩ := he
  exact nodeL_in k c hc)

theorem app_in {U : Nat → Bool} {xs ys : List (List AV)} (h1 : ∀ e ∈ xs, ∀ c ∈ e, AV.In U c) (h2 : ∀ e ∈ ys, ∀ c ∈ e, AV.In U c) : ∀ e ∈ xs ++ ys, ∀ c ∈ e, AV.In U c := fun e he => (List.mem_append.1 he).elim (h1 e) (h2 e)
theorem sing_in {U : Nat → Bool} {y : List AV} (h : ∀ c ∈ y, AV.In U c) : ∀ e ∈ [y], ∀ c ∈ e, AV.In U c := fun e he => by rw [List.mem_singleton.1 he]; exact h
theorem take_in {U : Nat → Bool} {xs : List (List AV)} {i : Nat} (h1 : ∀ e ∈ xs, ∀ c ∈ e, AV.In U c) : ∀ e ∈ xs.take i, ∀ c ∈ e, AV.In U c := fun e he => h1 e (List.mem_of_mem_take he)
theorem in_vnil {U : Nat → Bool} {t : VC} {sz : Nat} : AV.In U (.view t sz []) := in_view.2 (fun e he => by cases he)

def rowsOf : List (Nat × Row) → Nat → Option Row
  | [], _ => none
  | (k, r) :: l, id => if id = k then some r else rowsOf l id
def usedOf : List Nat → Nat → Bool
  | [], _ => false
  | k :: l, id => if id = k then true else usedOf l id
def mkSt (tm : List AV) (rl : List (Nat × Row)) (us : List Nat) (rd : Option Nat) : ASt := ⟨tm, rowsOf rl, usedOf us, rd⟩

theorem rowsOf_nil (id : Nat) : rowsOf [] id = none := rfl
theorem rowsOf_cons (k : Nat) (r : Row) (l : List (Nat × Row)) (id : Nat) : rowsOf ((k, r) :: l) id = if id = k then some r else rowsOf l id := rfl
theorem usedOf_nil (id : Nat) : usedOf [] id = false := rfl
theorem usedOf_cons (k : Nat) (l : List Nat) (id : Nat) : usedOf (k :: l) id = if id = k then true else usedOf l id := rfl

theorem rowsOf_some : ∀ {l : List (Nat × Row)} {id : Nat} {r : Row}, rowsOf l id = some r → (id, r) ∈ l
  | [], _, _, h => by cases h
  | (k, r') :: l, id, r, h => by
    unfold rowsOf at h
    split at h
    · rename_i e; subst e; cases h; simp
    · simp [rowsOf_some h]
theorem usedOf_mem : ∀ {l : List Nat} {id : Nat}, usedOf l id = true → id ∈ l
  | [], _, h => by cases h
  | k :: l, id, h => by
    unfold usedOf at h
    split at h
    · rename_i e; subst e; simp
    · simp [usedOf_mem h]
theorem mem_usedOf : ∀ {l : List Nat} {id : Nat}, id ∈ l → usedOf l id = true
  | k :: l, id, h => by
    unfold usedOf
    split
    · rfl
    · rename_i hne
      rcases List.mem_cons.1 h with h | h
      · exact absurd h hne
      · exact mem_usedOf h

def lessL : List AV → List AV → Prop
  | [], [] => True
  | x :: xs, y :: ys => (y = .any ∨ y = x) ∧ lessL xs ys
  | _, _ => False

theorem lessL_spec : ∀ {xs ys : List AV}, lessL xs ys → ys.length = xs.length ∧ ∀ (t : Nat) (c : AV), ys[t]? = some c → c = .any ∨ xs[t]? = some c
  | [], [], _ => ⟨rfl, fun t c h => by simp at h⟩
  | x :: xs, y :: ys, h => by
    unfold lessL at h
    obtain ⟨h1, h2⟩ := lessL_spec h.2
    refine ⟨by simp [h1], fun t c hc => ?_⟩
    cases t with
    | zero => simp at hc; subst hc; exact h.1.imp (fun h => h) (fun h => by simp [h])
    | succ t => simpa using h2 t c (by simpa using hc)
  | [], _ :: _, h => by cases h
  | _ :: _, [], h => by cases h

theorem less_of {s : ASt} {tm : List AV} {rl : List (Nat × Row)} {us : List Nat} {rd : Option Nat} (h1 : lessL s.tmps tm) (h2 : ∀ p ∈ rl, s.rows p.1 = some p.2) (h3 : ∀ id ∈ us, s.used id = true)
    (h4 : rd = s.rd ∨ ∃ j j', s.rd = some j ∧ rd = some j' ∧ j' ≤ j) (h5 : ∀ c ∈ tm, AV.In (usedOf us) c) (h6 : ∀ p ∈ rl, p.1 ∈ us ∧ ∀ e ∈ p.2.es, ∀ c ∈ e, AV.In (usedOf us) c) : Less s (mkSt tm rl us rd) := by
  refine LessS.less ⟨lessL_spec h1, fun id r hr => h2 (id, r) (rowsOf_some hr), fun id hid => h3 id (usedOf_mem hid), h4, ⟨h5, fun id r hr => ?_⟩⟩
  have := h6 (id, r) (rowsOf_some hr)
  exact ⟨mem_usedOf this.1, this.2⟩

theorem AW.loopS {E : Env} {Q : Exit → ASt → Prop} {s : ASt} {c : Code} {α : Type} (st : α → ASt) (μ : α → Nat) (G : α → Prop) (x0 : α) (h0 : Less s (st x0)) (g0 : G x0)
    (round : ∀ x, G x → AW E c (thenA (fun s' => ∃ y, μ y < μ x ∧ G y ∧ Less s' (st y)) Q) (st x)) : AW E (.loop c) Q s := by
  refine AW.loop (fun m s => ∃ x, G x ∧ μ x = m ∧ Less s (st x)) (μ x0) ⟨x0, g0, rfl, h0⟩ ?_
  rintro n s ⟨x, hG, hμ, hl⟩
  refine AW.less (st x) hl ?_
  have := round x hG
  intro w a ρ hS
  refine wp_mono (this w a ρ hS) ?_
  rintro e a' w' ⟨s', ρ', k1, k2⟩
  cases e with
  | normal =>
    obtain ⟨y, q1, q2, q3⟩ := k2
    exact ⟨s', ρ', k1, μ y, by omega, y, q2, rfl, q3⟩
  | _ => exact ⟨s', ρ', k1, k2⟩

@[irreducible] def ARun (P : Program) (T : Tab) (k0 : Nat) (md : List Nat) (ops : Array Oper) (K : ASt → Prop) (l : List Oper) (s : ASt) : Prop := arun P T k0 md ops K l s
theorem ARun.mk {P : Program} {T : Tab} {k0 : Nat} {md : List Nat} {ops : Array Oper} {K : ASt → Prop} {l : List Oper} {s : ASt} (h : arun P T k0 md ops K l s) : ARun P T k0 md ops K l s := by unfold ARun; exact h
theorem ARun.out {P : Program} {T : Tab} {k0 : Nat} {md : List Nat} {ops : Array Oper} {K : ASt → Prop} {l : List Oper} {s : ASt} (h : ARun P T k0 md ops K l s) : arun P T k0 md ops K l s := by unfold ARun at h; exact h

theorem AW.regionK {E : Env} {Q : Exit → ASt → Prop} {s : ASt} (md : List Nat) {id : Nat} {l : List Oper} (h : ∀ K : ASt → Prop, (∀ s', Q .normal s' → K s') → ARun E.P E.T E.k0 md l.toArray K l s) : AW E (.region id l.toArray false) Q s :=
  AW.region (md := md) (h _ fun _ h => h).out
@[irreducible] def ARunD (P : Program) (T : Tab) (md : List Nat) (pc : Pc) (ops : Array Oper) (K : ASt → Prop) (l : List Oper) (k : Nat) (s : ASt) : Prop := arunD P T md pc ops K l k s
theorem ARunD.mk {P : Program} {T : Tab} {md : List Nat} {pc : Pc} {ops : Array Oper} {K : ASt → Prop} {l : List Oper} {k : Nat} {s : ASt} (h : arunD P T md pc ops K l k s) : ARunD P T md pc ops K l k s := by unfold ARunD; exact h
theorem ARunD.out {P : Program} {T : Tab} {md : List Nat} {pc : Pc} {ops : Array Oper} {K : ASt → Prop} {l : List Oper} {k : Nat} {s : ASt} (h : ARunD P T md pc ops K l k s) : arunD P T md pc ops K l k s := by unfold ARunD at h; exact h

theorem AW.regionDK {E : Env} {Q : Exit → ASt → Prop} {s : ASt} (md : List Nat) (pc : Pc) {id : Nat} {l : List Oper} (hB : Region.lexB .any l.toArray = true) (hc : cmpL pc.2 l.toArray = true) (h : ∀ K : ASt → Prop, (∀ s', Q .normal s' → K s') → ARunD E.P E.T md pc l.toArray K l 0 s) : AW E (.region id l.toArray true) Q s :=
  AW.regionD (md := md) pc hB hc (h _ fun _ h => h).out

theorem astp_mono' {P : Program} {T : Tab} {md : List Nat} {pc : Pc} {ops : Array Oper} {i : Nat} {o : Oper} {K K' : ASt → Prop} {s : ASt} (h : ∀ s, K s → K' s) (hh : astp P T md pc ops i o K s) : astp P T md pc ops i o K' s := by
  unfold astp at *
  split
  · rename_i hi
    rw [if_pos hi] at hh
    unfold astS at *
    split at hh
    · unfold spc at *
      split at hh
      · exact hh
      · obtain ⟨d, args, c, Post0, Post, h1, h2, h3, h4, h5, h6, h7, h8⟩ := hh
        exact ⟨d, args, c, Post0, Post, h1, h2, h3, h4, h5, h6, fun r q1 q2 => h _ (h7 r q1 q2), fun r R q1 q2 => h _ (h8 r R q1 q2)⟩
    · exact h _ hh
    · exact hh
  · rename_i hi
    rw [if_neg hi] at hh
    unfold astp0 at *
    split at hh
    · unfold adr at *
      split at hh
      · exact ⟨hh.1, hh.2.1, hh.2.2.1, fun r hr hn => h _ (hh.2.2.2 r hr hn)⟩
      · split at hh
        · exact h _ hh
        · exact hh
    · exact h _ hh
    · exact hh

theorem arunD_k {P : Program} {T : Tab} {md : List Nat} {pc : Pc} {ops : Array Oper} {K : ASt → Prop} : ∀ (n : Nat) {l : List Oper} {k : Nat} {s : ASt},
    (∀ K' : ASt → Prop, (∀ s', arunD P T md pc ops K (l.drop n) (k + n) s' → K' s') → arunD P T md pc ops K' (l.take n) k s) → arunD P T md pc ops K l k s
  | 0, l, k, s, h => h (arunD P T md pc ops K l k) (fun _ h => h)
  | n + 1, [], k, s, h => h K (fun _ h => h)
  | n + 1, o :: l, k, s, h => by
    have h1 := h (arunD P T md pc ops K (l.drop n) (k + (n + 1))) (fun _ h => h)
    simp only [List.take_succ_cons] at h1
    unfold arunD at h1 ⊢
    refine astp_mono' (fun s' hs => ?_) h1
    exact arunD_k n (fun K' hK' => arunD_mono (fun s2 h2 => hK' s2 (by rw [show k + 1 + n = k + (n + 1) by omega]; exact h2)) hs)
where
  arunD_mono {K1 K2 : ASt → Prop} (hK : ∀ s, K1 s → K2 s) : ∀ {l : List Oper} {k : Nat} {s : ASt}, arunD P T md pc ops K1 l k s → arunD P T md pc ops K2 l k s
  | [], _, s, h => hK s h
  | o :: l, k, s, h => by
    unfold arunD at h ⊢
    exact astp_mono' (fun s' hs => arunD_mono hK hs) h

theorem arunD_ks {P : Program} {T : Tab} {md : List Nat} {pc : Pc} {ops : Array Oper} {K : ASt → Prop} (n : Nat) {l : List Oper} {k : Nat} {s : ASt} (_ : l.isEmpty = false)
    (h : ∀ K' : ASt → Prop, (∀ s', ARunD P T md pc ops K (l.drop n) (k + n) s' → K' s') → arunD P T md pc ops K' (l.take n) k s) : ARunD P T md pc ops K l k s := ARunD.mk (arunD_k n (fun K' hK' => h K' (fun s' hs => hK' s' hs.out)))
theorem arunD_kk {P : Program} {T : Tab} {md : List Nat} {pc : Pc} {ops : Array Oper} {K : ASt → Prop} (n : Nat) {l : List Oper} {k : Nat} {s : ASt}
    (h : ∀ K' : ASt → Prop, (∀ s', ARunD P T md pc ops K (l.drop n) (k + n) s' → K' s') → ARunD P T md pc ops K' (l.take n) k s) : ARunD P T md pc ops K l k s := ARunD.mk (arunD_k n (fun K' hK' => (h K' (fun s' hs => hK' s' hs.out)).out))
theorem arunD_nil {P : Program} {T : Tab} {md : List Nat} {pc : Pc} {ops : Array Oper} {K : ASt → Prop} {k : Nat} {s : ASt} (h : K s) : ARunD P T md pc ops K [] k s := ARunD.mk h

def pcs (l : List (Nat × Nat × (AV → Prop))) (ls : List Nat) : Pc := (fun i _ => match l.find? (fun p => p.1 == i) with | some p => (some p.2.1, p.2.2) | none => (none, fun _ => False), ls)

theorem arunD_call {P : Program} {T : Tab} {md : List Nat} {pc : Pc} {ops : Array Oper} {K : ASt → Prop} {o : Oper} {l : List Oper} {k : Nat} {s : ASt} {f : FuncId} {xs : List Operand} {args : List AV} (hl : pc.2.contains k = false) (hw : awant ops o s = some true) (ha : acall o.op = some (f, xs)) (hx : xs.map (aev s) = args) {c : Nat} {Post : AV → Prop} (hac : AC P f args c Post)
    (hpc : pc.1 k args = (some c, Post)) (hclo : ∀ x ∈ args, Clo x) (hcan : s.can c) (hne : ∃ r, Post r ∧ NoId r)
    (h : ∀ r, Post r → NoId r → ARunD P T md pc ops K l (k + 1) ((s.pay c).put o.dst r)) : ARunD P T md pc ops K (o :: l) k s := by
  subst hx
  refine ARunD.mk ?_
  unfold arunD astp astp0 adr
  rw [if_neg (by rw [hl]; simp), hw]
  dsimp only
  rw [ha]
  dsimp only
  rw [hpc]
  exact ⟨⟨hac, hcan⟩, fun x hx => hclo _ (List.mem_map.2 ⟨x, hx, rfl⟩), hne, fun r hr hn => (h r hr hn).out⟩

theorem arunD_spc {P : Program} {T : Tab} {md : List Nat} {pc : Pc} {ops : Array Oper} {K : ASt → Prop} {o : Oper} {l : List Oper} {k : Nat} {s : ASt} {f : FuncId} {xs : List Operand} {args0 args : List AV} {d : Nat} (hl : pc.2.contains k = true) (hw : awant ops o s = some true) (ha : acall o.op = some (f, xs)) (hx : xs.map (aev s) = args0) (hd : o.dst = some d)
    {c : Nat} {Post0 : AV → Prop} {Post : (Nat → AV) → Row → Prop} (hac : ACR P f args c Post0 Post) (hlnd : LndL s.rows args0 args) (hcan : s.can c) (hid : s.used d = false) (hne : ∃ r, Post0 r ∧ NoId r)
    (h0 : ∀ r, Post0 r → NoId r → ARunD P T md pc ops K l (k + 1) ((s.pay c).put o.dst r)) (h : ∀ r R, Post r R → RIn d r R → ARunD P T md pc ops K l (k + 1) (((s.pay c).add d R).put o.dst (r d))) : ARunD P T md pc ops K (o :: l) k s := by
  subst hx
  refine ARunD.mk ?_
  unfold arunD astp astS spc
  rw [if_pos hl, hw]
  dsimp only
  rw [ha]
  exact ⟨d, args, c, Post0, Post, hd, hlnd, hac, hcan, hid, hne, fun r hr hn => (h0 r hr hn).out, fun r R hr hn => (h r R hr hn).out⟩

theorem arun_k {P : Program} {T : Tab} {k0 : Nat} {md : List Nat} {ops : Array Oper} {K : ASt → Prop} : ∀ (k : Nat) {l : List Oper} {s : ASt},
    (∀ K' : ASt → Prop, (∀ s', arun P T k0 md ops K (l.drop k) s' → K' s') → arun P T k0 md ops K' (l.take k) s) → arun P T k0 md ops K l s
  | 0, l, s, h => h (arun P T k0 md ops K l) (fun _ h => h)
  | k + 1, [], s, h => h K (fun _ h => h)
  | k + 1, o :: l, s, h => by
    have h1 := h (arun P T k0 md ops K (l.drop k)) (fun _ h => h)
    simp only [List.take_succ_cons] at h1
    unfold arun at h1 ⊢
    have go : ∀ s', arun P T k0 md ops (arun P T k0 md ops K (l.drop k)) (l.take k) s' → arun P T k0 md ops K l s' := fun s' hs => arun_k k (fun K' hK' => (arun_mono hK') hs)
    split at h1
    · unfold aop at h1 ⊢
      split at h1
      · obtain ⟨args, q2, h1⟩ := h1
        rcases h1 with ⟨c, Post, q1, q3, q4⟩ | ⟨Post, q1, q3, q4⟩ | ⟨n, q1, q3, q4⟩ | ⟨c, Post0, Post, id, q1, q3, q5, q4, q6⟩
        · exact ⟨args, q2, .inl ⟨c, Post, q1, q3, fun r hr => go _ (q4 r hr)⟩⟩
        · exact ⟨args, q2, .inr (.inl ⟨Post, q1, q3, fun r hr => go _ (q4 r hr)⟩)⟩
        · exact ⟨args, q2, .inr (.inr (.inl ⟨n, q1, q3, go _ q4⟩))⟩
        · exact ⟨args, q2, .inr (.inr (.inr ⟨c, Post0, Post, id, q1, q3, q5, fun r hr => go _ (q4 r hr), fun r R hr => go _ (q6 r R hr)⟩))⟩
      · split at h1
        · exact go _ h1
        · exact h1
    · exact go _ h1
    · exact h1
where
  arun_mono {K1 K2 : ASt → Prop} (hK : ∀ s, K1 s → K2 s) : ∀ {l : List Oper} {s : ASt}, arun P T k0 md ops K1 l s → arun P T k0 md ops K2 l s
  | [], s, h => hK s h
  | o :: l, s, h => by
    unfold arun at h ⊢
    split at h
    · unfold aop at h ⊢
      split at h
      · obtain ⟨args, q2, h⟩ := h
        rcases h with ⟨c, Post, q1, q3, q4⟩ | ⟨Post, q1, q3, q4⟩ | ⟨n, q1, q3, q4⟩ | ⟨c, Post0, Post, id, q1, q3, q5, q4, q6⟩
        · exact ⟨args, q2, .inl ⟨c, Post, q1, q3, fun r hr => arun_mono hK (q4 r hr)⟩⟩
        · exact ⟨args, q2, .inr (.inl ⟨Post, q1, q3, fun r hr => arun_mono hK (q4 r hr)⟩)⟩
        · exact ⟨args, q2, .inr (.inr (.inl ⟨n, q1, q3, arun_mono hK q4⟩))⟩
        · exact ⟨args, q2, .inr (.inr (.inr ⟨c, Post0, Post, id, q1, q3, q5, fun r hr => arun_mono hK (q4 r hr), fun r R hr => arun_mono hK (q6 r R hr)⟩))⟩
      · split at h
        · exact arun_mono hK h
        · exact h
    · exact arun_mono hK h
    · exact h

theorem arun_ks {P : Program} {T : Tab} {k0 : Nat} {md : List Nat} {ops : Array Oper} {K : ASt → Prop} (k : Nat) {l : List Oper} {s : ASt} (_ : l.isEmpty = false)
    (h : ∀ K' : ASt → Prop, (∀ s', ARun P T k0 md ops K (l.drop k) s' → K' s') → arun P T k0 md ops K' (l.take k) s) : ARun P T k0 md ops K l s := ARun.mk (arun_k k (fun K' hK' => h K' (fun s' hs => hK' s' hs.out)))
theorem arun_kk {P : Program} {T : Tab} {k0 : Nat} {md : List Nat} {ops : Array Oper} {K : ASt → Prop} (k : Nat) {l : List Oper} {s : ASt}
    (h : ∀ K' : ASt → Prop, (∀ s', ARun P T k0 md ops K (l.drop k) s' → K' s') → ARun P T k0 md ops K' (l.take k) s) : ARun P T k0 md ops K l s := ARun.mk (arun_k k (fun K' hK' => (h K' (fun s' hs => hK' s' hs.out)).out))
def cn : Nat → List Oper → Nat
  | 0, _ => 0
  | _, [] => 0
  | k + 1, o :: l => if (acall o.op).isSome then 0 else cn k l + 1
theorem arun_kn {P : Program} {T : Tab} {k0 : Nat} {md : List Nat} {ops : Array Oper} {K : ASt → Prop} (k : Nat) {l : List Oper} {s : ASt} (_ : cn k l = k)
    (h : ∀ K' : ASt → Prop, (∀ s', ARun P T k0 md ops K (l.drop k) s' → K' s') → arun P T k0 md ops K' (l.take k) s) : ARun P T k0 md ops K l s := ARun.mk (arun_k k (fun K' hK' => h K' (fun s' hs => hK' s' hs.out)))
theorem arunD_kn {P : Program} {T : Tab} {md : List Nat} {pc : Pc} {ops : Array Oper} {K : ASt → Prop} (n : Nat) {l : List Oper} {k : Nat} {s : ASt} (_ : cn n l = n)
    (h : ∀ K' : ASt → Prop, (∀ s', ARunD P T md pc ops K (l.drop n) (k + n) s' → K' s') → arunD P T md pc ops K' (l.take n) k s) : ARunD P T md pc ops K l k s := ARunD.mk (arunD_k n (fun K' hK' => h K' (fun s' hs => hK' s' hs.out)))
theorem arun_skip {P : Program} {T : Tab} {k0 : Nat} {md : List Nat} {ops : Array Oper} {K : ASt → Prop} {o : Oper} {l : List Oper} {s : ASt} (hw : awant ops o s = some false) (h : ARun P T k0 md ops K l (s.put o.dst (.tup []))) : ARun P T k0 md ops K (o :: l) s := by
  refine ARun.mk ?_
  unfold arun
  rw [hw]
  exact h.out
theorem clo_vnil {t : VC} {sz : Nat} : Clo (.view t sz []) := clo_view (fun e he => by cases he)
theorem arun_nil {P : Program} {T : Tab} {k0 : Nat} {md : List Nat} {ops : Array Oper} {K : ASt → Prop} {s : ASt} (h : K s) : ARun P T k0 md ops K [] s := ARun.mk h

def cloL : List AV → Prop
  | [] => True
  | x :: xs => Clo x ∧ cloL xs
theorem cloL_spec {s : ASt} : ∀ {xs : List Operand}, cloL (xs.map (aev s)) → ∀ x ∈ xs, Clo (aev s x)
  | x :: xs, h, y, hy => by
    rcases List.mem_cons.1 hy with rfl | hy
    · exact h.1
    · exact cloL_spec h.2 y hy

section
variable {P : Program} {T : Tab} {k0 : Nat} {md : List Nat} {ops : Array Oper} {K : ASt → Prop} {o : Oper} {l : List Oper} {s : ASt}

theorem arun_call {f : FuncId} {xs : List Operand} {args : List AV} (hw : awant ops o s = some true) (ha : acall o.op = some (f, xs)) (hx : xs.map (aev s) = args) {c : Nat} {Post : AV → Prop} (hac : AC P f args c Post) (hclo : cloL args) (hcan : s.can c)
    (h : ∀ r, Post r → ARun P T k0 md ops K l ((s.pay c).put o.dst r)) : ARun P T k0 md ops K (o :: l) s := by
  subst hx
  refine ARun.mk ?_
  unfold arun
  rw [hw]
  dsimp only
  unfold aop
  rw [ha]
  exact ⟨_, lendL_ops (cloL_spec hclo), .inl ⟨c, Post, hac, hcan, fun r hr => (h r hr).out⟩⟩

theorem arun_callL {f : FuncId} {xs : List Operand} {args0 args : List AV} (hw : awant ops o s = some true) (ha : acall o.op = some (f, xs)) (hx : xs.map (aev s) = args0) {c : Nat} {Post : AV → Prop} (hac : AC P f args c Post) (hclo : LndL s.rows args0 args) (hcan : s.can c)
    (h : ∀ r, Post r → ARun P T k0 md ops K l ((s.pay c).put o.dst r)) : ARun P T k0 md ops K (o :: l) s := by
  subst hx
  refine ARun.mk ?_
  unfold arun
  rw [hw]
  dsimp only
  unfold aop
  rw [ha]
  exact ⟨_, hclo.lend, .inl ⟨c, Post, hac, hcan, fun r hr => (h r hr).out⟩⟩

theorem Lnd0.ownM {rows : Nat → Option Row} {id n sz : Nat} {es : List (List AV)} (hr : (rows id).map (fun r => (r.sz, r.es)) = some (sz, es)) (hn : es.length = n) (hc : ∀ e ∈ es, ∀ c ∈ e, Clo c) : Lnd0 rows (.own id n) (.view .lent sz es) := by
  rw [Option.map_eq_some_iff] at hr
  obtain ⟨r, h1, h2⟩ := hr
  cases h2
  exact Lnd0.own h1 hn hc
theorem arun_callLU {f : FuncId} {xs : List Operand} {args : List AV} (hw : awant ops o s = some true) (ha : acall o.op = some (f, xs)) {c : Nat} {Post : AV → Prop} (hac : AC P f args c Post) (hclo : LndL s.rows (xs.map (aev s)) args) (hcan : s.can c)
    (h : ∀ r, Post r → ARun P T k0 md ops K l ((s.pay c).put o.dst r)) : ARun P T k0 md ops K (o :: l) s := arun_callL hw ha rfl hac hclo hcan h

theorem arun_callR {f : FuncId} {xs : List Operand} {args0 args : List AV} (id : Nat) (hw : awant ops o s = some true) (ha : acall o.op = some (f, xs)) (hx : xs.map (aev s) = args0) {c : Nat} {Post0 : AV → Prop} {Post : (Nat → AV) → Row → Prop} (hac : ACR P f args c Post0 Post) (hclo : LndL s.rows args0 args) (hcan : s.can c)
    (hid : s.used id = false) (h0 : ∀ r, Post0 r → ARun P T k0 md ops K l ((s.pay c).put o.dst r)) (h : ∀ r R, Post r R → ARun P T k0 md ops K l (((s.pay c).add id R).put o.dst (r id))) : ARun P T k0 md ops K (o :: l) s := by
  subst hx
  refine ARun.mk ?_
  unfold arun
  rw [hw]
  dsimp only
  unfold aop
  rw [ha]
  exact ⟨_, hclo.lend, .inr (.inr (.inr ⟨c, Post0, Post, id, hac, hcan, hid, fun r hr => (h0 r hr).out, fun r R hr => (h r R hr).out⟩))⟩

theorem arun_callN {f : FuncId} {xs : List Operand} {args : List AV} (n : Nat) (hw : awant ops o s = some true) (ha : acall o.op = some (f, xs)) (hx : xs.map (aev s) = args) (hac : ACN P f args (k0 + n)) (hclo : cloL args) (hrd : s.rd = none)
    (h : ARun P T k0 md ops K l (({ s with rd := some n } : ASt).put o.dst .rdr)) : ARun P T k0 md ops K (o :: l) s := by
  subst hx
  refine ARun.mk ?_
  unfold arun
  rw [hw]
  dsimp only
  unfold aop
  rw [ha]
  exact ⟨_, lendL_ops (cloL_spec hclo), .inr (.inr (.inl ⟨n, hac, hrd, h.out⟩))⟩

theorem arun_callZ {f : FuncId} {xs : List Operand} {args : List AV} (hw : awant ops o s = some true) (ha : acall o.op = some (f, xs)) (hx : xs.map (aev s) = args) {Post : AV → Prop} (hac : AC0 P f args Post) (hclo : cloL args) (hrd : s.rd = none)
    (h : ∀ r, Post r → ARun P T k0 md ops K l (s.put o.dst r)) : ARun P T k0 md ops K (o :: l) s := by
  subst hx
  refine ARun.mk ?_
  unfold arun
  rw [hw]
  dsimp only
  unfold aop
  rw [ha]
  exact ⟨_, lendL_ops (cloL_spec hclo), .inr (.inl ⟨Post, hac, hrd, fun r hr => (h r hr).out⟩)⟩

theorem arun_callU {f : FuncId} {xs : List Operand} (hw : awant ops o s = some true) (ha : acall o.op = some (f, xs)) {c : Nat} {Post : AV → Prop} (hac : AC P f (xs.map (aev s)) c Post) (hclo : cloL (xs.map (aev s))) (hcan : s.can c)
    (h : ∀ r, Post r → ARun P T k0 md ops K l ((s.pay c).put o.dst r)) : ARun P T k0 md ops K (o :: l) s := arun_call hw ha rfl hac hclo hcan h

theorem pay_zero : s.pay 0 = s := by
  cases s; unfold ASt.pay
  congr 1
  rename_i rd
  cases rd <;> rfl

theorem arun_callRU {f : FuncId} {xs : List Operand} {args : List AV} (id : Nat) (hw : awant ops o s = some true) (ha : acall o.op = some (f, xs)) {c : Nat} {Post0 : AV → Prop} {Post : (Nat → AV) → Row → Prop} (hac : ACR P f args c Post0 Post) (hclo : LndL s.rows (xs.map (aev s)) args) (hcan : s.can c)
    (hid : s.used id = false) (h0 : ∀ r, Post0 r → ARun P T k0 md ops K l ((s.pay c).put o.dst r)) (h : ∀ r R, Post r R → ARun P T k0 md ops K l (((s.pay c).add id R).put o.dst (r id))) : ARun P T k0 md ops K (o :: l) s := arun_callR id hw ha rfl hac hclo hcan hid h0 h
theorem arun_call0 {f : FuncId} {xs : List Operand} {args : List AV} (hw : awant ops o s = some true) (ha : acall o.op = some (f, xs)) (hx : xs.map (aev s) = args) {Post : AV → Prop} (hac : AC P f args 0 Post) (hclo : cloL args)
    (h : ∀ r, Post r → ARun P T k0 md ops K l (s.put o.dst r)) : ARun P T k0 md ops K (o :: l) s :=
  arun_call hw ha hx hac hclo (fun _ _ => Nat.zero_le _) (fun r hr => by rw [pay_zero]; exact h r hr)
end

def Wk (c d : AV) : Prop := ∀ w ρ v, Rep w ρ c v → Rep w ρ d v
theorem Wk.refl (c : AV) : Wk c c := fun _ _ _ h => h
theorem Wk.nil {t t' : VC} {sz sz' : Nat} (h : t' = .tight → t = .tight) : Wk (.view t sz []) (.view t' sz' []) := fun _ _ _ hr => by
  obtain ⟨a, c, h1, h2, h3, h4, _, _⟩ := rep_view.1 hr
  exact rep_view.2 ⟨a, c, h1, fun e => h2 (h e), h3, h4, (fun e he => by cases he), .inl rfl⟩
theorem Wk.loose {t : VC} {sz : Nat} {es : List (List AV)} (h : t ≠ .lent) : Wk (.view t sz es) (.view .loose sz es) := fun _ ρ _ hr => by
  obtain ⟨a, c, h1, h2, h3, h4, h5, h6⟩ := rep_view.1 hr
  refine rep_view.2 ⟨a, c, h1, (fun e => by cases e), h3, h4, h5, h6.imp (fun h => h) ?_⟩
  rintro ⟨b, o, k1, k2, k3⟩
  exact ⟨b, o, k1, by cases t <;> first | exact absurd rfl h | exact k2, k3⟩
inductive WkL : List AV → List AV → Prop
  | nil : WkL [] []
  | cons {c d : AV} {cs ds : List AV} (h : Wk c d) (t : WkL cs ds) : WkL (c :: cs) (d :: ds)
theorem WkL.refl : ∀ (cs : List AV), WkL cs cs
  | [] => .nil
  | c :: cs => .cons (Wk.refl c) (WkL.refl cs)
theorem WkL.rep {cs ds : List AV} (h : WkL cs ds) : ∀ {w : World} {ρ : Cx} {vs : List Value}, RepL w ρ cs vs → RepL w ρ ds vs := by
  induction h with
  | nil => exact fun h => h
  | cons h _ ih =>
    intro w ρ vs hr
    unfold RepL at hr ⊢
    obtain ⟨v, vs', h1, h2, h3⟩ := hr
    exact ⟨v, vs', h1, h _ _ _ h2, ih h3⟩
theorem Wk.agg {cs ds : List AV} (h : WkL cs ds) : Wk (.agg cs) (.agg ds) := fun _ _ _ hr => by
  obtain ⟨vs, h1, h2, h3⟩ := rep_agg.1 hr
  exact rep_agg.2 ⟨vs, h1, h2, h.rep h3⟩
theorem Wk.tup {cs ds : List AV} (h : WkL cs ds) : Wk (.tup cs) (.tup ds) := fun _ _ _ hr => by
  obtain ⟨vs, h1, h3⟩ := rep_tup.1 hr
  exact rep_tup.2 ⟨vs, h1, h.rep h3⟩
theorem Wk.cloTo {c d : AV} (h : Wk c d) (hd : Clo d) : CloTo c d := fun w ρ v hr => hd w ρ v (h w ρ v hr)
theorem Clo.cloTo {c : AV} (h : Clo c) : CloTo c c := h

theorem AC.weak {P : Program} {f : FuncId} {args : List AV} {c : Nat} {Q : AV → Prop} (h : AC P f args c (fun r => ∃ r', Wk r r' ∧ Q r')) : AC P f args c Q :=
  ⟨h.1, fun w L S rb k vs h0 h1 h2 h3 => (h.2 w L S rb k vs h0 h1 h2 h3).mono fun e w' ⟨v, _, S', k1, k2, k3, k4, k5, k6, r', k7, k8⟩ => ⟨v, r', S', k1, k2, k3, k4, k5, k7 _ _ _ k6, k8⟩⟩
theorem ACR.weak {P : Program} {f : FuncId} {args : List AV} {c : Nat} {Q0 : AV → Prop} {Q : (Nat → AV) → Row → Prop} (h : ACR P f args c (fun r => ∃ r', Wk r r' ∧ Q0 r') Q) : ACR P f args c Q0 Q :=
  ⟨h.1, fun w L S rb k vs h0 h1 h2 h3 => (h.2 w L S rb k vs h0 h1 h2 h3).mono fun e w' ⟨v, S', k1, k2, k3, k4, k5, k6⟩ => ⟨v, S', k1, k2, k3, k4, k5, by
    rcases k6 with ⟨r, q1, r', q2, q3⟩ | q
    · exact .inl ⟨r', q2 _ _ _ q1, q3⟩
    · exact .inr q⟩⟩

theorem AW.cutN {E : Env} {Q : Exit → ASt → Prop} {K : ASt → Prop} {s : ASt} {c : Code} {α : Type} (st : α → ASt) (G : α → Prop) (hx : AW E c (thenA (fun s' => ∃ a, G a ∧ Less s' (st a)) Q) s) (hy : ∀ a s', G a → Less s' (st a) → K s') : AW E c (thenA K Q) s := by
  intro w a ρ hS
  refine wp_mono (hx w a ρ hS) ?_
  rintro e a' w' ⟨s', ρ', k1, k2⟩
  refine ⟨s', ρ', k1, ?_⟩
  cases e with
  | normal =>
    obtain ⟨x, h1, h2⟩ := k2
    exact hy x s' h1 h2
  | _ => exact k2

theorem thenA_normal {K : ASt → Prop} {Q : Exit → ASt → Prop} {s : ASt} : thenA K Q .normal s = K s := rfl
theorem thenA_exit {K : ASt → Prop} {Q : Exit → ASt → Prop} {s : ASt} {i : Nat} : thenA K Q (.exit i) s = Q (.exit i) s := rfl
theorem thenA_ret {K : ASt → Prop} {Q : Exit → ASt → Prop} {s : ASt} : thenA K Q .ret s = Q .ret s := rfl
theorem inBlockA_normal {Q : Exit → ASt → Prop} {s : ASt} {i : Nat} : inBlockA i Q .normal s = Q .normal s := rfl
theorem inBlockA_ret {Q : Exit → ASt → Prop} {s : ASt} {i : Nat} : inBlockA i Q .ret s = Q .ret s := rfl
theorem inBlockA_exit {Q : Exit → ASt → Prop} {s : ASt} {i j : Nat} : inBlockA i Q (.exit j) s = if j = i then Q .normal s else Q (.exit j) s := rfl
theorem endQ_ret {T : Tab} {fn : Func} {Post : AV → Prop} {s : ASt} : endQ T fn Post .ret s = ∃ r, ares T s fn.results.toList = some r ∧ Pur r ∧ Post r := rfl
theorem endQ_normal {T : Tab} {fn : Func} {Post : AV → Prop} {s : ASt} : endQ T fn Post .normal s = ∃ r, ares T s fn.results.toList = some r ∧ Pur r ∧ Post r := rfl

theorem endR_ret {T : Tab} {fn : Func} {Post0 : AV → Prop} {Post : (Nat → AV) → Row → Prop} {s : ASt} : endR T fn Post0 Post .ret s = ∃ r, ares T s fn.results.toList = some r ∧ ((Pur r ∧ Post0 r) ∨ ∃ f id0 R, r = f id0 ∧ s.rows id0 = some R ∧ Res1 id0 f ∧ (∀ e ∈ R.es, ∀ c ∈ e, Pur c) ∧ Post f R) := rfl
theorem endR_normal {T : Tab} {fn : Func} {Post0 : AV → Prop} {Post : (Nat → AV) → Row → Prop} {s : ASt} : endR T fn Post0 Post .normal s = ∃ r, ares T s fn.results.toList = some r ∧ ((Pur r ∧ Post0 r) ∨ ∃ f id0 R, r = f id0 ∧ s.rows id0 = some R ∧ Res1 id0 f ∧ (∀ e ∈ R.es, ∀ c ∈ e, Pur c) ∧ Post f R) := rfl

theorem can_of {o : Option Nat} {j c : Nat} (h : c ≤ j) {tm : List AV} {rows : Nat → Option Row} {used : Nat → Bool} : ASt.can ⟨tm, rows, used, Option.map (fun _ => j) o⟩ c := by
  intro i hi
  cases o <;> simp at hi
  omega
theorem can_some {j c : Nat} (h : c ≤ j) {tm : List AV} {rows : Nat → Option Row} {used : Nat → Bool} : ASt.can ⟨tm, rows, used, some j⟩ c := by
  intro i hi
  cases hi
  exact h
theorem can_none {c : Nat} {tm : List AV} {rows : Nat → Option Row} {used : Nat → Bool} : ASt.can ⟨tm, rows, used, none⟩ c := by
  intro i hi; cases hi
theorem rd_less {o : Option Nat} {j i : Nat} (h : i ≤ j) : Option.map (fun _ => i) o = Option.map (fun _ => j) o ∨ ∃ a b, Option.map (fun _ => j) o = some a ∧ Option.map (fun _ => i) o = some b ∧ b ≤ a := by
  cases o with
  | none => exact .inl rfl
  | some x => exact .inr ⟨j, i, rfl, rfl, h⟩

def intsE (xs : List Int) : List (List AV) := xs.map fun s => [.int .i64 s]
theorem intsE_pur (xs : List Int) : ∀ e ∈ intsE xs, ∀ c ∈ e, Pur c := by
  intro e he c hc
  unfold intsE at he
  rw [List.mem_map] at he
  obtain ⟨s, _, rfl⟩ := he
  simp at hc; subst hc; exact pur_int
theorem ints_clo {t : VC} (xs : List Int) : Clo (.view t 1 (intsE xs)) := clo_view (fun e he c hc => (intsE_pur xs e he c hc).clo)
theorem intsE_get (xs : List Int) (i : Nat) : (intsE xs)[i]? = (xs[i]?).map fun s => [.int .i64 s] := by unfold intsE; rw [List.getElem?_map]
theorem intsE_len (xs : List Int) : (intsE xs).length = xs.length := by unfold intsE; rw [List.length_map]
theorem ints_in {U : Nat → Bool} {t : VC} (xs : List Int) : AV.In U (.view t 1 (intsE xs)) := in_view.2 (by
  intro e he c hc
  unfold intsE at he
  rw [List.mem_map] at he
  obtain ⟨s, _, rfl⟩ := he
  simp at hc; subst hc; exact in_int)

theorem strsE_at (xs : List ByteArray) (i : Nat) (h : i < (strsE xs).length) : (strsE xs)[i] = [.str (xs[i]'(by rw [strsE_len] at h; exact h))] := Option.some.inj (by rw [← List.getElem?_eq_getElem h, strsE_get, List.getElem?_eq_getElem (by rw [strsE_len] at h; exact h)]; rfl)
theorem intsE_at (xs : List Int) (i : Nat) (h : i < (intsE xs).length) : (intsE xs)[i] = [.int .i64 (xs[i]'(by rw [intsE_len] at h; exact h))] := Option.some.inj (by rw [← List.getElem?_eq_getElem h, intsE_get, List.getElem?_eq_getElem (by rw [intsE_len] at h; exact h)]; rfl)
def flatB : AV → Bool
  | .int _ _ | .str _ | .bool _ => true
  | .view _ _ es => es.all fun e => e.all fun c => match c with | .int _ _ | .str _ | .bool _ => true | _ => false
  | _ => false
theorem clo_lit (c : AV) (h : flatB c = true) : Clo c := by
  cases c with
  | int k n => exact clo_int
  | str b => exact clo_str
  | bool b => exact clo_bool
  | view t sz es =>
    refine clo_view fun e he c hc => ?_
    simp only [flatB, List.all_eq_true] at h
    have := h e he c hc
    cases c <;> simp at this
    · exact clo_int
    · exact clo_bool
    · exact clo_str
  | _ => simp [flatB] at h
theorem size_mk (a : Array UInt8) : (ByteArray.mk a).size = a.size := rfl

theorem nbeq {α : Type} [BEq α] [LawfulBEq α] {a b : α} (h : ¬ a = b) : (a == b) = false := by simpa using h

def slots : Nat → Nat → List (Nat × AV) → List AV
  | _, 0, _ => []
  | k, n + 1, [] => .any :: slots (k + 1) n []
  | k, n + 1, (t, c) :: l => if t = k then c :: slots (k + 1) n l else .any :: slots (k + 1) n ((t, c) :: l)

end Go.Proofs.Ytmeobmegnneegaa.Eng

/-
  The types of the program, as the engine reads them.
-/
namespace Go.Proofs.Ytmeobmegnneegaa.Eng
open Go Go.RowKit

def tyRows : List (TypeId × TI) := [
  (2, ⟨1, 8, .int .i64, [.int .i64]⟩),
  (3, ⟨1, 8, .int .i64, [.int .i64]⟩),
  (4, ⟨1, 1, .bool, [.bool]⟩),
  (5, ⟨1, 1, .int .u8, [.int .u8]⟩),
  (6, ⟨1, 1, .int .u8, [.int .u8]⟩),
  (7, ⟨4, 24, .struct [(0, 2), (1, 3), (2, 4), (3, 6)], [.int .i64, .int .i64, .bool, .int .u8]⟩),
  (8, ⟨4, 24, .struct [(0, 2), (1, 3), (2, 4), (3, 6)], [.int .i64, .int .i64, .bool, .int .u8]⟩),
  (9, ⟨1, 16, .str, [.str]⟩),
  (10, ⟨1, 16, .str, [.str]⟩),
  (11, ⟨1, 16, .str, [.str]⟩),
  (12, ⟨1, 8, .int .u64, [.int .u64]⟩),
  (13, ⟨2, 24, .struct [(0, 9), (1, 12)], [.str, .int .u64]⟩),
  (14, ⟨2, 24, .struct [(0, 9), (1, 12)], [.str, .int .u64]⟩),
  (15, ⟨1, 8, .other, [.other]⟩),
  (16, ⟨1, 8, .other, [.other]⟩),
  (17, ⟨1, 8, .other, [.other]⟩),
  (18, ⟨1, 8, .struct [(0, 17)], [.other]⟩),
  (19, ⟨1, 8, .struct [(0, 17)], [.other]⟩),
  (21, ⟨1, 4, .int .i32, [.int .i32]⟩),
  (22, ⟨1, 24, .slice 117, [.slice]⟩),
  (23, ⟨2, 32, .struct [(0, 22), (1, 3)], [.slice, .int .i64]⟩),
  (24, ⟨2, 32, .struct [(0, 22), (1, 3)], [.slice, .int .i64]⟩),
  (25, ⟨1, 24, .slice 9, [.slice]⟩),
  (26, ⟨1, 24, .slice 28, [.slice]⟩),
  (27, ⟨5, 80, .struct [(0, 3), (1, 3), (2, 9), (3, 25), (4, 26)], [.int .i64, .int .i64, .str, .slice, .slice]⟩),
  (28, ⟨5, 80, .struct [(0, 3), (1, 3), (2, 9), (3, 25), (4, 26)], [.int .i64, .int .i64, .str, .slice, .slice]⟩),
  (31, ⟨1, 24, .slice 62, [.slice]⟩),
  (32, ⟨2, 32, .struct [(0, 31), (1, 3)], [.slice, .int .i64]⟩),
  (33, ⟨2, 32, .struct [(0, 31), (1, 3)], [.slice, .int .i64]⟩),
  (37, ⟨1, 24, .slice 39, [.slice]⟩),
  (38, ⟨5, 80, .struct [(0, 3), (1, 3), (2, 9), (3, 25), (4, 37)], [.int .i64, .int .i64, .str, .slice, .slice]⟩),
  (39, ⟨5, 80, .struct [(0, 3), (1, 3), (2, 9), (3, 25), (4, 37)], [.int .i64, .int .i64, .str, .slice, .slice]⟩),
  (46, ⟨1, 24, .slice 5, [.slice]⟩),
  (53, ⟨1, 24, .slice 25, [.slice]⟩),
  (61, ⟨7, 104, .struct [(0, 9), (1, 3), (2, 39)], [.str, .int .i64, .int .i64, .int .i64, .str, .slice, .slice]⟩),
  (62, ⟨7, 104, .struct [(0, 9), (1, 3), (2, 39)], [.str, .int .i64, .int .i64, .int .i64, .str, .slice, .slice]⟩),
  (69, ⟨7, 104, .struct [(0, 9), (1, 4), (2, 39)], [.str, .bool, .int .i64, .int .i64, .str, .slice, .slice]⟩),
  (70, ⟨7, 104, .struct [(0, 9), (1, 4), (2, 39)], [.str, .bool, .int .i64, .int .i64, .str, .slice, .slice]⟩),
  (98, ⟨1, 8, .other, [.other]⟩),
  (116, ⟨7, 104, .struct [(0, 9), (1, 3), (2, 28)], [.str, .int .i64, .int .i64, .int .i64, .str, .slice, .slice]⟩),
  (117, ⟨7, 104, .struct [(0, 9), (1, 3), (2, 28)], [.str, .int .i64, .int .i64, .int .i64, .str, .slice, .slice]⟩),
  (125, ⟨2, 32, .struct [(0, 46), (1, 3)], [.slice, .int .i64]⟩),
  (126, ⟨2, 32, .struct [(0, 46), (1, 3)], [.slice, .int .i64]⟩),
  (128, ⟨1, 24, .slice 3, [.slice]⟩),
  (136, ⟨1, 8, .int .u64, [.int .u64]⟩),
  (145, ⟨4, 40, .struct [(0, 17), (1, 17), (2, 17), (3, 9)], [.other, .other, .other, .str]⟩),
  (146, ⟨4, 40, .struct [(0, 17), (1, 17), (2, 17), (3, 9)], [.other, .other, .other, .str]⟩),
  (151, ⟨1, 4, .int .u32, [.int .u32]⟩),
  (152, ⟨1, 1, .int .u8, [.int .u8]⟩),
  (153, ⟨1, 1, .int .u8, [.int .u8]⟩),
  (155, ⟨1, 8, .other, [.other]⟩),
  (156, ⟨1, 4, .int .i32, [.int .i32]⟩),
  (157, ⟨1, 4, .int .i32, [.int .i32]⟩)]

def tab : Tab := tabOf tyRows
theorem tab_ok : Tab.Ok Try.prog tab := tabOf_ok (by kernel_rfl)
theorem mixed_ok : Try.prog.follows .mixedOrders = true := by kernel_rfl
@[go_sem] theorem tab2 : tab 2 = some ⟨1, 8, .int .i64, [.int .i64]⟩ := by kernel_rfl
@[go_sem] theorem tab3 : tab 3 = some ⟨1, 8, .int .i64, [.int .i64]⟩ := by kernel_rfl
@[go_sem] theorem tab4 : tab 4 = some ⟨1, 1, .bool, [.bool]⟩ := by kernel_rfl
@[go_sem] theorem tab5 : tab 5 = some ⟨1, 1, .int .u8, [.int .u8]⟩ := by kernel_rfl
@[go_sem] theorem tab6 : tab 6 = some ⟨1, 1, .int .u8, [.int .u8]⟩ := by kernel_rfl
@[go_sem] theorem tab7 : tab 7 = some ⟨4, 24, .struct [(0, 2), (1, 3), (2, 4), (3, 6)], [.int .i64, .int .i64, .bool, .int .u8]⟩ := by kernel_rfl
@[go_sem] theorem tab8 : tab 8 = some ⟨4, 24, .struct [(0, 2), (1, 3), (2, 4), (3, 6)], [.int .i64, .int .i64, .bool, .int .u8]⟩ := by kernel_rfl
@[go_sem] theorem tab9 : tab 9 = some ⟨1, 16, .str, [.str]⟩ := by kernel_rfl
@[go_sem] theorem tab10 : tab 10 = some ⟨1, 16, .str, [.str]⟩ := by kernel_rfl
@[go_sem] theorem tab11 : tab 11 = some ⟨1, 16, .str, [.str]⟩ := by kernel_rfl
@[go_sem] theorem tab12 : tab 12 = some ⟨1, 8, .int .u64, [.int .u64]⟩ := by kernel_rfl
@[go_sem] theorem tab13 : tab 13 = some ⟨2, 24, .struct [(0, 9), (1, 12)], [.str, .int .u64]⟩ := by kernel_rfl
@[go_sem] theorem tab14 : tab 14 = some ⟨2, 24, .struct [(0, 9), (1, 12)], [.str, .int .u64]⟩ := by kernel_rfl
@[go_sem] theorem tab15 : tab 15 = some ⟨1, 8, .other, [.other]⟩ := by kernel_rfl
@[go_sem] theorem tab16 : tab 16 = some ⟨1, 8, .other, [.other]⟩ := by kernel_rfl
@[go_sem] theorem tab17 : tab 17 = some ⟨1, 8, .other, [.other]⟩ := by kernel_rfl
@[go_sem] theorem tab18 : tab 18 = some ⟨1, 8, .struct [(0, 17)], [.other]⟩ := by kernel_rfl
@[go_sem] theorem tab19 : tab 19 = some ⟨1, 8, .struct [(0, 17)], [.other]⟩ := by kernel_rfl
@[go_sem] theorem tab21 : tab 21 = some ⟨1, 4, .int .i32, [.int .i32]⟩ := by kernel_rfl
@[go_sem] theorem tab22 : tab 22 = some ⟨1, 24, .slice 117, [.slice]⟩ := by kernel_rfl
@[go_sem] theorem tab23 : tab 23 = some ⟨2, 32, .struct [(0, 22), (1, 3)], [.slice, .int .i64]⟩ := by kernel_rfl
@[go_sem] theorem tab24 : tab 24 = some ⟨2, 32, .struct [(0, 22), (1, 3)], [.slice, .int .i64]⟩ := by kernel_rfl
@[go_sem] theorem tab25 : tab 25 = some ⟨1, 24, .slice 9, [.slice]⟩ := by kernel_rfl
@[go_sem] theorem tab26 : tab 26 = some ⟨1, 24, .slice 28, [.slice]⟩ := by kernel_rfl
@[go_sem] theorem tab27 : tab 27 = some ⟨5, 80, .struct [(0, 3), (1, 3), (2, 9), (3, 25), (4, 26)], [.int .i64, .int .i64, .str, .slice, .slice]⟩ := by kernel_rfl
@[go_sem] theorem tab28 : tab 28 = some ⟨5, 80, .struct [(0, 3), (1, 3), (2, 9), (3, 25), (4, 26)], [.int .i64, .int .i64, .str, .slice, .slice]⟩ := by kernel_rfl
@[go_sem] theorem tab31 : tab 31 = some ⟨1, 24, .slice 62, [.slice]⟩ := by kernel_rfl
@[go_sem] theorem tab32 : tab 32 = some ⟨2, 32, .struct [(0, 31), (1, 3)], [.slice, .int .i64]⟩ := by kernel_rfl
@[go_sem] theorem tab33 : tab 33 = some ⟨2, 32, .struct [(0, 31), (1, 3)], [.slice, .int .i64]⟩ := by kernel_rfl
@[go_sem] theorem tab37 : tab 37 = some ⟨1, 24, .slice 39, [.slice]⟩ := by kernel_rfl
@[go_sem] theorem tab38 : tab 38 = some ⟨5, 80, .struct [(0, 3), (1, 3), (2, 9), (3, 25), (4, 37)], [.int .i64, .int .i64, .str, .slice, .slice]⟩ := by kernel_rfl
@[go_sem] theorem tab39 : tab 39 = some ⟨5, 80, .struct [(0, 3), (1, 3), (2, 9), (3, 25), (4, 37)], [.int .i64, .int .i64, .str, .slice, .slice]⟩ := by kernel_rfl
@[go_sem] theorem tab46 : tab 46 = some ⟨1, 24, .slice 5, [.slice]⟩ := by kernel_rfl
@[go_sem] theorem tab53 : tab 53 = some ⟨1, 24, .slice 25, [.slice]⟩ := by kernel_rfl
@[go_sem] theorem tab61 : tab 61 = some ⟨7, 104, .struct [(0, 9), (1, 3), (2, 39)], [.str, .int .i64, .int .i64, .int .i64, .str, .slice, .slice]⟩ := by kernel_rfl
@[go_sem] theorem tab62 : tab 62 = some ⟨7, 104, .struct [(0, 9), (1, 3), (2, 39)], [.str, .int .i64, .int .i64, .int .i64, .str, .slice, .slice]⟩ := by kernel_rfl
@[go_sem] theorem tab69 : tab 69 = some ⟨7, 104, .struct [(0, 9), (1, 4), (2, 39)], [.str, .bool, .int .i64, .int .i64, .str, .slice, .slice]⟩ := by kernel_rfl
@[go_sem] theorem tab70 : tab 70 = some ⟨7, 104, .struct [(0, 9), (1, 4), (2, 39)], [.str, .bool, .int .i64, .int .i64, .str, .slice, .slice]⟩ := by kernel_rfl
@[go_sem] theorem tab98 : tab 98 = some ⟨1, 8, .other, [.other]⟩ := by kernel_rfl
@[go_sem] theorem tab116 : tab 116 = some ⟨7, 104, .struct [(0, 9), (1, 3), (2, 28)], [.str, .int .i64, .int .i64, .int .i64, .str, .slice, .slice]⟩ := by kernel_rfl
@[go_sem] theorem tab117 : tab 117 = some ⟨7, 104, .struct [(0, 9), (1, 3), (2, 28)], [.str, .int .i64, .int .i64, .int .i64, .str, .slice, .slice]⟩ := by kernel_rfl
@[go_sem] theorem tab125 : tab 125 = some ⟨2, 32, .struct [(0, 46), (1, 3)], [.slice, .int .i64]⟩ := by kernel_rfl
@[go_sem] theorem tab126 : tab 126 = some ⟨2, 32, .struct [(0, 46), (1, 3)], [.slice, .int .i64]⟩ := by kernel_rfl
@[go_sem] theorem tab128 : tab 128 = some ⟨1, 24, .slice 3, [.slice]⟩ := by kernel_rfl
@[go_sem] theorem tab136 : tab 136 = some ⟨1, 8, .int .u64, [.int .u64]⟩ := by kernel_rfl
@[go_sem] theorem tab145 : tab 145 = some ⟨4, 40, .struct [(0, 17), (1, 17), (2, 17), (3, 9)], [.other, .other, .other, .str]⟩ := by kernel_rfl
@[go_sem] theorem tab146 : tab 146 = some ⟨4, 40, .struct [(0, 17), (1, 17), (2, 17), (3, 9)], [.other, .other, .other, .str]⟩ := by kernel_rfl
@[go_sem] theorem tab151 : tab 151 = some ⟨1, 4, .int .u32, [.int .u32]⟩ := by kernel_rfl
@[go_sem] theorem tab152 : tab 152 = some ⟨1, 1, .int .u8, [.int .u8]⟩ := by kernel_rfl
@[go_sem] theorem tab153 : tab 153 = some ⟨1, 1, .int .u8, [.int .u8]⟩ := by kernel_rfl
@[go_sem] theorem tab155 : tab 155 = some ⟨1, 8, .other, [.other]⟩ := by kernel_rfl
@[go_sem] theorem tab156 : tab 156 = some ⟨1, 4, .int .i32, [.int .i32]⟩ := by kernel_rfl
@[go_sem] theorem tab157 : tab 157 = some ⟨1, 4, .int .i32, [.int .i32]⟩ := by kernel_rfl

end Go.Proofs.Ytmeobmegnneegaa.Eng

/-
  A result's row that holds still from the start; small nodes.
-/
namespace Go.Proofs.Ytmeobmegnneegaa.Eng
open Go Go.RowKit

theorem AC.ofR {P : Program} {f : FuncId} {args : List AV} {c : Nat} {Q0 : AV → Prop} {Q : (Nat → AV) → Row → Prop} (h : ACR P f args c Q0 Q)
    (hn : ∀ r R, Q r R → NoId (AV.sub 0 R.es.length (.view .loose R.sz R.es) (r 0))) : AC P f args c (fun x => Q0 x ∨ ∃ r R, Q r R ∧ x = AV.sub 0 R.es.length (.view .loose R.sz R.es) (r 0)) := by
  refine ⟨h.1, fun w L S rb k vs h0 h1 h2 h3 => (h.2 w L S rb k vs h0 h1 h2 h3).mono ?_⟩
  rintro e w' ⟨v, S', rfl, k2, k3, k4, k5, k6⟩
  rcases k6 with ⟨r, q1, q2⟩ | ⟨r, R, u, q1, q2, q3, q4⟩
  · exact ⟨v, r, S', rfl, k2, k3, k4, k5, q1, .inl q2⟩
  · obtain ⟨g0, hlen, hbx, xs, hat, hrep, hone⟩ := q2
    let S2 : Nat → Prop := fun b => S' b ∨ blk u = some b
    let ρ2 : Cx := { oneC S2 0 u R.es.length with row := fun _ => none }
    have le : Cx.Le w' (oneC S' 0 u R.es.length) w' ρ2 := ⟨fun b hb => ⟨.inl hb, fun _ => rfl⟩, fun b hb => False.elim hb, fun id hid => ⟨hid, Nat.le_refl _, fun u hu => by cases hu⟩, fun _ h => by cases h⟩
    have lp : Cx.Le w' (pureC nil S' none) w' ρ2 := ⟨fun b hb => ⟨.inl hb, fun _ => rfl⟩, fun b hb => False.elim hb, fun id hid => False.elim hid, fun _ h => by cases h⟩
    have hc : ∀ v, Rep w' (oneC S' 0 u R.es.length) (.own 0 R.es.length) v → Rep w' ρ2 (.view .loose R.sz R.es) v := fun v hv => by
      obtain ⟨_, _, _, hq⟩ := rep_own.1 hv
      have hvu := hq u (by simp [oneC]) (by simp [oneC])
      subst hvu
      have hat0 := hat
      rcases hat with ⟨hn0, rfl, a0, rfl⟩ | ⟨g, cap, cur, rfl, hp, hb, hg, hn0, hcap, hcs, htk, hl⟩
      · have he : R.es = [] := List.length_eq_zero_iff.1 hn0
        exact rep_view.2 ⟨a0, 0, by rw [he]; rfl, fun _ => by rw [he]; rfl, by rw [he]; exact Nat.le_refl _, by rw [he]; exact Nat.zero_le _, hlen, .inl he⟩
      · refine rep_view.2 ⟨_, cap, rfl, (fun h => by cases h), hn0, by unfold maxLen at hcap; unfold big; omega, hlen, .inr ⟨g, 0, rfl, .inr (blk_slice _ _ _ hp), RepE.of_get hlen (fun i e he => RepC.of_get (fun j c hc' => ?_))⟩⟩
        have hlt : j < R.sz := by rw [← hlen e (List.mem_of_getElem? he)]; exact (List.getElem?_eq_some_iff.1 hc').1
        have hf := flat_get hlen he hlt
        rw [hc'] at hf
        obtain ⟨v, hv, hrv⟩ := hrep.get hf
        refine ⟨v, ?_, hone v (List.mem_of_getElem? hv), hrv.le lp⟩
        rw [Nat.zero_add]
        exact hat0.cells _ _ hv
    have hr := Rep.sub le hc (q1 0)
    refine ⟨v, _, S2, rfl, k2, fun b hb => .inl (k3 b hb), fun b hb => ?_, fun b hb => (k5 b hb).moved (Ext.refl nil w') (fun h => h) (fun b hb => ⟨.inl hb, fun h => h⟩), ?_, .inr ⟨r, R, q4, rfl⟩⟩
    · rcases hb with hb | hb
      · exact k4 b hb
      · exact .inr (hat.lt b hb)
    · have h3 := hr.cut (ρ := ρ2) (U := fun _ => false) (ρ' := { ρ2 with U := fun _ => False }) ⟨rfl, rfl, rfl, rfl, (fun _ h => by cases h), (fun id u hu => by cases hu)⟩ (hn r R q4)
      exact Rep.le (ρ := { ρ2 with U := fun _ => False }) (ρ' := pureC nil S2 none) ⟨fun b hb => ⟨hb, fun _ => rfl⟩, fun b hb => False.elim hb, fun id hid => False.elim hid, fun _ h => by cases h⟩ h3

inductive Sml : Nd → Prop
  | mk (n : Nd) (h1 : n.names.length ≤ 1000) (h2 : n.kids.length ≤ 1000) (h3 : ∀ k ∈ n.kids, Sml k) : Sml n
theorem Sml.names {n : Nd} (h : Sml n) : n.names.length ≤ 1000 := by cases h; assumption
theorem Sml.kids {n : Nd} (h : Sml n) : n.kids.length ≤ 1000 := by cases h; assumption
theorem Sml.kid {n : Nd} (h : Sml n) {k : Nd} (hk : k ∈ n.kids) : Sml k := by cases h with | mk _ _ _ h3 => exact h3 k hk
end Go.Proofs.Ytmeobmegnneegaa.Eng

/-
  Nodes that own their memory: each slice in a block of its own, the blocks listed, none frozen.
-/
namespace Go.Proofs.Ytmeobmegnneegaa
open Go Go.RowKit

def StrsF (w : World) (a : Option Addr) (c : Nat) (xs : List ByteArray) (fp : List Nat) : Prop :=
  xs.length ≤ c ∧ xs.length ≤ big ∧ (∀ x ∈ xs, x.size ≤ big) ∧ ((xs = [] ∧ fp = []) ∨ ∃ b o, xs ≠ [] ∧ a = some ⟨b, o, none⟩ ∧ fp = [b] ∧ ∀ i (h : i < xs.length), w.cell? ⟨b, o + i, none⟩ = some (.string xs[i]))

mutual
def NodeF (w : World) : Nd → Option Addr → Nat → Option Addr → Nat → List Nat → Prop
  | ⟨_, _, text, names, kids⟩, na, nc, ka, kc, fp => ∃ f1 f2, fp = f1 ++ f2 ∧ text.size ≤ big ∧ StrsF w na nc names f1 ∧ kids.length ≤ kc ∧ kids.length ≤ big ∧
      ((kids = [] ∧ f2 = []) ∨ ∃ b o f3, kids ≠ [] ∧ ka = some ⟨b, o, none⟩ ∧ f2 = b :: f3 ∧ KidsF w b o kids f3)
def KidsF (w : World) (b : Nat) : Nat → List Nd → List Nat → Prop
  | _, [], fp => fp = []
  | o, k :: ks, fp => ∃ f1 f2, fp = f1 ++ f2 ∧ (∃ na nc ka kc, w.cell? ⟨b, o, none⟩ = some (.int .i64 k.kind) ∧ w.cell? ⟨b, o + 1, none⟩ = some (.int .i64 k.num) ∧ w.cell? ⟨b, o + 2, none⟩ = some (.string k.text) ∧
      w.cell? ⟨b, o + 3, none⟩ = some (.slice na k.names.length nc) ∧ w.cell? ⟨b, o + 4, none⟩ = some (.slice ka k.kids.length kc) ∧ NodeF w k na nc ka kc f1) ∧ KidsF w b (o + 5) ks f2
end

def NodesF (w : World) (a : Option Addr) (c : Nat) (l : List Nd) (fp : List Nat) : Prop :=
  l.length ≤ c ∧ l.length ≤ big ∧ ((l = [] ∧ fp = []) ∨ ∃ b o f, l ≠ [] ∧ a = some ⟨b, o, none⟩ ∧ fp = b :: f ∧ KidsF w b o l f)

theorem NodeF.parts {w : World} {n : Nd} {na : Option Addr} {nc : Nat} {ka : Option Addr} {kc : Nat} {fp : List Nat} (h : NodeF w n na nc ka kc fp) :
    ∃ f1 f2, fp = f1 ++ f2 ∧ n.text.size ≤ big ∧ StrsF w na nc n.names f1 ∧ NodesF w ka kc n.kids f2 := by
  cases n; unfold NodeF at h
  obtain ⟨f1, f2, h1, h2, h3, h4, h5, h6⟩ := h
  exact ⟨f1, f2, h1, h2, h3, h4, h5, h6⟩

theorem NodeF.mk {w : World} {n : Nd} {na : Option Addr} {nc : Nat} {ka : Option Addr} {kc : Nat} {f1 f2 : List Nat}
    (h2 : n.text.size ≤ big) (h3 : StrsF w na nc n.names f1) (h4 : NodesF w ka kc n.kids f2) : NodeF w n na nc ka kc (f1 ++ f2) := by
  cases n; unfold NodeF
  exact ⟨f1, f2, rfl, h2, h3, h4⟩

def NodeO (w : World) (n : Nd) (v : Value) (fp : List Nat) : Prop := ∃ na nc ka kc, v = nodeV n na nc ka kc ∧ NodeF w n na nc ka kc fp

def Free (B : Nat) (w : World) (fp : List Nat) : Prop := fp.Nodup ∧ ∀ b ∈ fp, B ≤ b ∧ b < w.heap.size ∧ ∀ o, w.frozen? ⟨b, o, none⟩ = false


theorem StrsF.keep {w w' : World} {a : Option Addr} {c : Nat} {xs : List ByteArray} {fp : List Nat} (hs : StrsF w a c xs fp)
    (h : ∀ b ∈ fp, ∀ o, w'.cell? ⟨b, o, none⟩ = w.cell? ⟨b, o, none⟩) : StrsF w' a c xs fp := by
  obtain ⟨h1, h2, h3, h4⟩ := hs
  refine ⟨h1, h2, h3, h4.imp id ?_⟩
  rintro ⟨b, o, hne, rfl, rfl, hc⟩
  exact ⟨b, o, hne, rfl, rfl, fun i hi => by rw [h b (by simp)]; exact hc i hi⟩

mutual
theorem NodeF.keep {w w' : World} : ∀ {n : Nd} {na : Option Addr} {nc : Nat} {ka : Option Addr} {kc : Nat} {fp : List Nat}, NodeF w n na nc ka kc fp →
    (∀ b ∈ fp, ∀ o, w'.cell? ⟨b, o, none⟩ = w.cell? ⟨b, o, none⟩) → NodeF w' n na nc ka kc fp
  | ⟨_, _, _, _, kids⟩, na, nc, ka, kc, fp, hn, h => by
    unfold NodeF at hn ⊢
    obtain ⟨f1, f2, rfl, h1, h2, h3, h4, h5⟩ := hn
    refine ⟨f1, f2, rfl, h1, h2.keep (fun b hb => h b (by simp [hb])), h3, h4, h5.imp id ?_⟩
    rintro ⟨b, o, f3, hne, rfl, rfl, hc⟩
    exact ⟨b, o, f3, hne, rfl, rfl, KidsF.keep hc (fun x hx => h x (by simp [hx])) (fun o' _ _ => h b (by simp) o')⟩
theorem KidsF.keep {w w' : World} {b : Nat} : ∀ {l : List Nd} {o : Nat} {fp : List Nat}, KidsF w b o l fp → (∀ x ∈ fp, ∀ o', w'.cell? ⟨x, o', none⟩ = w.cell? ⟨x, o', none⟩) →
    (∀ o', o ≤ o' → o' < o + 5 * l.length → w'.cell? ⟨b, o', none⟩ = w.cell? ⟨b, o', none⟩) → KidsF w' b o l fp
  | [], _, _, hk, _, _ => by unfold KidsF at hk ⊢; exact hk
  | k :: ks, o, fp, hk, h, hb => by
    unfold KidsF at hk ⊢
    obtain ⟨f1, f2, rfl, ⟨na, nc, ka, kc, c0, c1, c2, c3, c4, hn⟩, hr⟩ := hk
    simp only [List.length_cons] at hb
    refine ⟨f1, f2, rfl, ⟨na, nc, ka, kc, ?_, ?_, ?_, ?_, ?_, NodeF.keep hn (fun x hx => h x (by simp [hx]))⟩, KidsF.keep hr (fun x hx => h x (by simp [hx])) (fun o' h1 h2 => hb o' (by omega) (by omega))⟩
    · rw [hb _ (by omega) (by omega)]; exact c0
    · rw [hb _ (by omega) (by omega)]; exact c1
    · rw [hb _ (by omega) (by omega)]; exact c2
    · rw [hb _ (by omega) (by omega)]; exact c3
    · rw [hb _ (by omega) (by omega)]; exact c4
end

theorem NodesF.keep {w w' : World} {a : Option Addr} {c : Nat} {l : List Nd} {fp : List Nat} (hs : NodesF w a c l fp)
    (h : ∀ b ∈ fp, ∀ o, w'.cell? ⟨b, o, none⟩ = w.cell? ⟨b, o, none⟩) : NodesF w' a c l fp := by
  obtain ⟨h1, h2, h4⟩ := hs
  refine ⟨h1, h2, h4.imp id ?_⟩
  rintro ⟨b, o, f, hne, rfl, rfl, hc⟩
  exact ⟨b, o, f, hne, rfl, rfl, hc.keep (fun x hx => h x (by simp [hx])) (fun o' _ _ => h b (by simp) o')⟩

theorem Ext.keeps {X : Nat → Prop} {w w' : World} (h : Ext X w w') {B : Nat} {fp : List Nat} (hf : Free B w fp) (hx : ∀ b ∈ fp, ¬ X b) : ∀ b ∈ fp, ∀ o, w'.cell? ⟨b, o, none⟩ = w.cell? ⟨b, o, none⟩ :=
  fun b hb o => h.cell (p := ⟨b, o, none⟩) (hf.2 b hb).2.1 (hx b hb)

theorem Free.ext {X : Nat → Prop} {w w' : World} (h : Ext X w w') {B : Nat} {fp : List Nat} (hf : Free B w fp) (hx : ∀ b ∈ fp, ¬ X b) : Free B w' fp :=
  ⟨hf.1, fun b hb => ⟨(hf.2 b hb).1, Nat.lt_of_lt_of_le (hf.2 b hb).2.1 h.size, fun o => by rw [h.frozen (p := ⟨b, o, none⟩) (hf.2 b hb).2.1 (hx b hb)]; exact (hf.2 b hb).2.2 o⟩⟩

theorem Free.mono {B B' : Nat} {w : World} {fp : List Nat} (hf : Free B w fp) (h : B' ≤ B) : Free B' w fp := ⟨hf.1, fun b hb => ⟨Nat.le_trans h (hf.2 b hb).1, (hf.2 b hb).2⟩⟩
theorem Free.nil (B : Nat) (w : World) : Free B w [] := ⟨List.nodup_nil, fun b hb => by cases hb⟩
theorem Free.append {B C : Nat} {w w' : World} {f g : List Nat} (hf : Free B w f) (hg : Free C w' g) (hw : Grow w w') (hC : w.heap.size ≤ C) (hBC : B ≤ C) : Free B w' (f ++ g) := by
  refine ⟨List.nodup_append.2 ⟨hf.1, hg.1, fun a ha b hb e => ?_⟩, fun b hb => ?_⟩
  · subst e
    have := (hf.2 a ha).2.1
    have := (hg.2 a hb).1
    omega
  · rcases List.mem_append.1 hb with h | h
    · exact (hf.ext hw (fun _ _ h => h)).2 b h
    · have := hg.2 b h; exact ⟨Nat.le_trans hBC this.1, this.2⟩


theorem StrsF.toR {w : World} {a : Option Addr} {c : Nat} {xs : List ByteArray} {fp : List Nat} (hs : StrsF w a c xs fp) {S : Nat → Prop} (hS : ∀ b ∈ fp, S b) : StrsR w S a c xs := by
  obtain ⟨h1, h2, h3, h4⟩ := hs
  refine ⟨h1, h2, h3, h4.imp (fun h => h.1) ?_⟩
  rintro ⟨b, o, _, rfl, rfl, hc⟩
  exact ⟨b, o, rfl, hS b (by simp), hc⟩

mutual
theorem NodeF.toC {w : World} {S : Nat → Prop} : ∀ {n : Nd} {na : Option Addr} {nc : Nat} {ka : Option Addr} {kc : Nat} {fp : List Nat}, NodeF w n na nc ka kc fp → (∀ b ∈ fp, S b) → NodeC w S n na nc ka kc
  | ⟨_, _, _, _, kids⟩, na, nc, ka, kc, fp, hn, h => by
    unfold NodeF at hn; unfold NodeC
    obtain ⟨f1, f2, rfl, h1, h2, h3, h4, h5⟩ := hn
    refine ⟨h1, h2.toR (fun b hb => h b (by simp [hb])), h3, h4, h5.imp (fun h => h.1) ?_⟩
    rintro ⟨b, o, f3, _, rfl, rfl, hc⟩
    exact ⟨b, o, rfl, h b (by simp), KidsF.toR hc (fun x hx => h x (by simp [hx]))⟩
theorem KidsF.toR {w : World} {S : Nat → Prop} {b : Nat} : ∀ {l : List Nd} {o : Nat} {fp : List Nat}, KidsF w b o l fp → (∀ x ∈ fp, S x) → KidsR w S b o l
  | [], _, _, _, _ => by unfold KidsR; trivial
  | k :: ks, o, fp, hk, h => by
    unfold KidsF at hk; unfold KidsR
    obtain ⟨f1, f2, rfl, ⟨na, nc, ka, kc, c0, c1, c2, c3, c4, hn⟩, hr⟩ := hk
    exact ⟨⟨na, nc, ka, kc, c0, c1, c2, c3, c4, NodeF.toC hn (fun x hx => h x (by simp [hx]))⟩, KidsF.toR hr (fun x hx => h x (by simp [hx]))⟩
end

theorem NodesF.toR {w : World} {a : Option Addr} {c : Nat} {l : List Nd} {fp : List Nat} (hs : NodesF w a c l fp) {S : Nat → Prop} (hS : ∀ b ∈ fp, S b) : NodesR w S a c l := by
  obtain ⟨h1, h2, h4⟩ := hs
  refine ⟨h1, h2, h4.imp (fun h => h.1) ?_⟩
  rintro ⟨b, o, f, _, rfl, rfl, hc⟩
  exact ⟨b, o, rfl, hS b (by simp), hc.toR (fun x hx => hS x (by simp [hx]))⟩

theorem NodeO.toR {w : World} {n : Nd} {v : Value} {fp : List Nat} (h : NodeO w n v fp) {S : Nat → Prop} (hS : ∀ b ∈ fp, S b) : NodeR w S n v := by
  obtain ⟨na, nc, ka, kc, hv, hc⟩ := h
  exact ⟨na, nc, ka, kc, hv, hc.toC hS⟩


theorem KidsF.snoc {w : World} {b : Nat} {k : Nd} {f' : List Nat} {na : Option Addr} {nc : Nat} {ka : Option Addr} {kc : Nat} : ∀ {l : List Nd} {o : Nat} {fp : List Nat}, KidsF w b o l fp →
    w.cell? ⟨b, o + 5 * l.length, none⟩ = some (.int .i64 k.kind) → w.cell? ⟨b, o + 5 * l.length + 1, none⟩ = some (.int .i64 k.num) → w.cell? ⟨b, o + 5 * l.length + 2, none⟩ = some (.string k.text) →
    w.cell? ⟨b, o + 5 * l.length + 3, none⟩ = some (.slice na k.names.length nc) → w.cell? ⟨b, o + 5 * l.length + 4, none⟩ = some (.slice ka k.kids.length kc) → NodeF w k na nc ka kc f' →
    KidsF w b o (l ++ [k]) (fp ++ f')
  | [], o, fp, hk, c0, c1, c2, c3, c4, hn => by
    unfold KidsF at hk; subst hk
    simp only [List.length_nil, Nat.mul_zero, Nat.add_zero] at c0 c1 c2 c3 c4
    simp only [List.nil_append]
    unfold KidsF
    exact ⟨f', [], by simp, ⟨na, nc, ka, kc, c0, c1, c2, c3, c4, hn⟩, by unfold KidsF; rfl⟩
  | x :: l, o, fp, hk, c0, c1, c2, c3, c4, hn => by
    unfold KidsF at hk
    obtain ⟨f1, f2, rfl, hx, hr⟩ := hk
    have e : o + 5 * (x :: l).length = o + 5 + 5 * l.length := by simp; omega
    rw [e] at c0 c1 c2 c3 c4
    simp only [List.cons_append]
    unfold KidsF
    exact ⟨f1, f2 ++ f', by simp, hx, KidsF.snoc hr c0 c1 c2 c3 c4 hn⟩


def RowIn (w : World) (b n : Nat) : Prop := b < w.heap.size ∧ (∀ j, j < n → ∃ u, w.cell? ⟨b, j, none⟩ = some u) ∧ ∀ j, w.frozen? ⟨b, j, none⟩ = false

theorem RowIn.made (w : World) (z : Array Value) (n : Nat) (t : TypeId) : RowIn (w.alloc (.cells (madeCells z n) t)) w.heap.size n := by
  refine ⟨by simp, fun j hj => ?_, fun j => World.frozen?_alloc_new w _ t j⟩
  rw [World.cell?_alloc_new]
  exact ⟨_, Array.getElem?_eq_getElem (by rw [size_madeCells]; exact hj)⟩

theorem RowIn.ext {X : Nat → Prop} {w w' : World} {b n : Nat} (h : Ext X w w') (hx : ¬ X b) (hr : RowIn w b n) : RowIn w' b n := by
  obtain ⟨h1, h2, h3⟩ := hr
  refine ⟨Nat.lt_of_lt_of_le h1 h.size, fun j hj => ?_, fun j => ?_⟩
  · rw [h.cell (p := ⟨b, j, none⟩) h1 hx]; exact h2 j hj
  · rw [h.frozen (p := ⟨b, j, none⟩) h1 hx]; exact h3 j

theorem cell_set {w : World} {p : Addr} {u : Value} (h : w.cell? p = some u) (v : Value) (q : Addr) : (w.setCell p v).cell? q = if q = p then some v else w.cell? q := by
  by_cases e : q = p
  · subst e; rw [if_pos rfl]; exact World.cell?_setCell_same w q v h
  · rw [if_neg e]; exact World.cell?_setCell_other w p q v (fun h => e h.symm)

theorem size_setCell (w : World) (p : Addr) (v : Value) : (w.setCell p v).heap.size = w.heap.size := by simp [World.setCell]

theorem RowIn.setCell {w : World} {b n : Nat} (hr : RowIn w b n) (p : Addr) (v : Value) : RowIn (w.setCell p v) b n := by
  obtain ⟨h1, h2, h3⟩ := hr
  refine ⟨by rw [size_setCell]; exact h1, fun j hj => cell?_setCell_some (h2 j hj).choose_spec, fun j => ?_⟩
  rw [World.frozen?_setCell]; exact h3 j

theorem Ext.setNew {X : Nat → Prop} {a w : World} (h : Ext X a w) {p : Addr} (hp : a.heap.size ≤ p.block) (v : Value) : Ext X a (w.setCell p v) :=
  ⟨h.os, h.tape, h.output, by rw [size_setCell]; exact h.size, fun k hk hx => by rw [Below.heap_setCell _ _ _ _ (by omega)]; exact h.block k hk hx⟩

theorem Ext.setIn {X : Nat → Prop} {a w : World} (h : Ext X a w) {p : Addr} (hp : X p.block) (v : Value) : Ext X a (w.setCell p v) :=
  ⟨h.os, h.tape, h.output, by rw [size_setCell]; exact h.size, fun k hk hx => by rw [Below.heap_setCell _ _ _ _ (fun e => hx (by rw [e]; exact hp))]; exact h.block k hk hx⟩

theorem Free.setCell {B : Nat} {w : World} {fp : List Nat} (hf : Free B w fp) (p : Addr) (v : Value) : Free B (w.setCell p v) fp :=
  ⟨hf.1, fun b hb => ⟨(hf.2 b hb).1, by rw [size_setCell]; exact (hf.2 b hb).2.1, fun o => by rw [World.frozen?_setCell]; exact (hf.2 b hb).2.2 o⟩⟩

theorem Free.one {B : Nat} {w : World} {b n : Nat} (hr : RowIn w b n) (h : B ≤ b) : Free B w [b] :=
  ⟨by simp, fun x hx => by simp at hx; subst hx; exact ⟨h, hr.1, hr.2.2⟩⟩

theorem Free.cons {B : Nat} {w : World} {b n : Nat} {fp : List Nat} (hr : RowIn w b n) (h : B ≤ b) (hf : Free (b + 1) w fp) : Free B w (b :: fp) :=
  ⟨List.nodup_cons.2 ⟨fun hm => by have := (hf.2 b hm).1; omega, hf.1⟩, fun x hx => by
    rcases List.mem_cons.1 hx with rfl | hx
    · exact ⟨h, hr.1, hr.2.2⟩
    · have := hf.2 x hx; exact ⟨by omega, this.2⟩⟩

def store5 (w : World) (b o : Nat) (v0 v1 v2 v3 v4 : Value) : World :=
  ((((w.setCell ⟨b, o, none⟩ v0).setCell ⟨b, o + 1, none⟩ v1).setCell ⟨b, o + 2, none⟩ v2).setCell ⟨b, o + 3, none⟩ v3).setCell ⟨b, o + 4, none⟩ v4

theorem store5_ext (w : World) (b o : Nat) (v0 v1 v2 v3 v4 : Value) : Ext (fun k => k = b) w (store5 w b o v0 v1 v2 v3 v4) :=
  (((((Ext.refl (fun k => k = b) w).setIn (p := ⟨b, o, none⟩) rfl v0).setIn (p := ⟨b, o + 1, none⟩) rfl v1).setIn (p := ⟨b, o + 2, none⟩) rfl v2).setIn (p := ⟨b, o + 3, none⟩) rfl v3).setIn (p := ⟨b, o + 4, none⟩) rfl v4

theorem store5_row {w : World} {b n : Nat} (hr : RowIn w b n) (o : Nat) (v0 v1 v2 v3 v4 : Value) : RowIn (store5 w b o v0 v1 v2 v3 v4) b n :=
  ((((hr.setCell _ _).setCell _ _).setCell _ _).setCell _ _).setCell _ _

theorem store5_free {B : Nat} {w : World} {fp : List Nat} (hf : Free B w fp) (b o : Nat) (v0 v1 v2 v3 v4 : Value) : Free B (store5 w b o v0 v1 v2 v3 v4) fp :=
  ((((hf.setCell _ _).setCell _ _).setCell _ _).setCell _ _).setCell _ _

theorem store5_cell {w : World} {b n o : Nat} (hr : RowIn w b n) (ho : o + 5 ≤ n) (v0 v1 v2 v3 v4 : Value) (q : Nat) :
    (store5 w b o v0 v1 v2 v3 v4).cell? ⟨b, q, none⟩ = if q = o then some v0 else if q = o + 1 then some v1 else if q = o + 2 then some v2 else if q = o + 3 then some v3 else if q = o + 4 then some v4 else w.cell? ⟨b, q, none⟩ := by
  unfold store5
  have h0 := hr
  have h1 := h0.setCell ⟨b, o, none⟩ v0
  have h2 := h1.setCell ⟨b, o + 1, none⟩ v1
  have h3 := h2.setCell ⟨b, o + 2, none⟩ v2
  have h4 := h3.setCell ⟨b, o + 3, none⟩ v3
  obtain ⟨u0, e0⟩ := h0.2.1 o (by omega)
  obtain ⟨u1, e1⟩ := h1.2.1 (o + 1) (by omega)
  obtain ⟨u2, e2⟩ := h2.2.1 (o + 2) (by omega)
  obtain ⟨u3, e3⟩ := h3.2.1 (o + 3) (by omega)
  obtain ⟨u4, e4⟩ := h4.2.1 (o + 4) (by omega)
  rw [cell_set e4, cell_set e3, cell_set e2, cell_set e1, cell_set e0]
  simp only [Addr.mk.injEq, true_and, and_true]
  by_cases c0 : q = o
  · subst c0; simp
  by_cases c1 : q = o + 1
  · subst c1; simp
  by_cases c2 : q = o + 2
  · subst c2; simp
  by_cases c3 : q = o + 3
  · subst c3; simp
  by_cases c4 : q = o + 4
  · subst c4; simp
  simp [c0, c1, c2, c3, c4]

theorem KidsF.lay {w : World} {b n : Nat} {l : List Nd} {k : Nd} {fp f' : List Nat} {na : Option Addr} {nc : Nat} {ka : Option Addr} {kc : Nat} (hr : RowIn w b n) (hk : KidsF w b 0 l fp)
    (hn : NodeF w k na nc ka kc f') (hlen : (l.length + 1) * 5 ≤ n) (h1 : b ∉ fp) (h2 : b ∉ f') :
    KidsF (store5 w b (l.length * 5) (.int .i64 k.kind) (.int .i64 k.num) (.string k.text) (.slice na k.names.length nc) (.slice ka k.kids.length kc)) b 0 (l ++ [k]) (fp ++ f') := by
  have hc := fun q => store5_cell hr (o := l.length * 5) (by omega) (.int .i64 k.kind) (.int .i64 k.num) (.string k.text) (.slice na k.names.length nc) (.slice ka k.kids.length kc) q
  have he := store5_ext w b (l.length * 5) (.int .i64 k.kind) (.int .i64 k.num) (.string k.text) (.slice na k.names.length nc) (.slice ka k.kids.length kc)
  have other : ∀ x, x ≠ b → ∀ o, (store5 w b (l.length * 5) (.int .i64 k.kind) (.int .i64 k.num) (.string k.text) (.slice na k.names.length nc) (.slice ka k.kids.length kc)).cell? ⟨x, o, none⟩ = w.cell? ⟨x, o, none⟩ := by
    intro x hx o
    unfold store5
    rw [World.cell?_setCell_other _ _ _ _ (by intro e; cases e; exact hx rfl), World.cell?_setCell_other _ _ _ _ (by intro e; cases e; exact hx rfl), World.cell?_setCell_other _ _ _ _ (by intro e; cases e; exact hx rfl),
      World.cell?_setCell_other _ _ _ _ (by intro e; cases e; exact hx rfl), World.cell?_setCell_other _ _ _ _ (by intro e; cases e; exact hx rfl)]
  have e0 : 0 + 5 * l.length = l.length * 5 := by omega
  refine KidsF.snoc (hk.keep (fun x hx o => other x (fun e => h1 (e ▸ hx)) o) (fun o' _ ho => ?_)) ?_ ?_ ?_ ?_ ?_ (hn.keep (fun x hx o => other x (fun e => h2 (e ▸ hx)) o))
  · rw [hc, if_neg (by omega), if_neg (by omega), if_neg (by omega), if_neg (by omega), if_neg (by omega)]
  · rw [e0, hc, if_pos rfl]
  · rw [e0, hc, if_neg (by omega), if_pos rfl]
  · rw [e0, hc, if_neg (by omega), if_neg (by omega), if_pos rfl]
  · rw [e0, hc, if_neg (by omega), if_neg (by omega), if_neg (by omega), if_pos rfl]
  · rw [e0, hc, if_neg (by omega), if_neg (by omega), if_neg (by omega), if_neg (by omega), if_pos rfl]


theorem Box5.other {w : World} {b : Nat} {c0 c1 c2 c3 c4 : Value} (hb : Box5 w b c0 c1 c2 c3 c4) {p : Addr} (hp : p.block ≠ b) (v : Value) : Box5 (w.setCell p v) b c0 c1 c2 c3 c4 :=
  hb.ext (X := fun k => k = p.block) (Ext.setIn (X := fun k => k = p.block) (Ext.refl _ w) (p := p) rfl v) (fun h => hp h.symm)
structure BoxN (w : World) (b : Nat) (cs : List Value) : Prop where
  cell : ∀ i v, cs[i]? = some v → w.cell? ⟨b, i, none⟩ = some v
  fr : ∀ o, w.frozen? ⟨b, o, none⟩ = false
  lt : b < w.heap.size

theorem BoxN.new (w : World) (cs : List Value) (t : TypeId) : BoxN (w.alloc (.cells cs.toArray t)) w.heap.size cs :=
  ⟨fun i v h => by rw [World.cell?_alloc_new]; simpa using h, fun o => World.frozen?_alloc_new w _ t o, by simp⟩
theorem BoxN.new1 (w : World) (x : Obj) (cs : List Value) (t : TypeId) : BoxN ((w.alloc x).alloc (.cells cs.toArray t)) (w.heap.size + 1) cs := by
  have := BoxN.new (w.alloc x) cs t
  rw [World.size_alloc] at this; exact this
theorem BoxN.new2 (w : World) (x y : Obj) (cs : List Value) (t : TypeId) : BoxN (((w.alloc x).alloc y).alloc (.cells cs.toArray t)) (w.heap.size + 1 + 1) cs := by
  have := BoxN.new ((w.alloc x).alloc y) cs t
  rw [World.size_alloc, World.size_alloc] at this; exact this
theorem BoxN.ext {X : Nat → Prop} {w w' : World} {b : Nat} {cs : List Value} (hb : BoxN w b cs) (h : Ext X w w') (hx : ¬ X b) : BoxN w' b cs :=
  ⟨fun i v hi => by rw [h.cell hb.lt hx]; exact hb.cell i v hi, fun o => by rw [h.frozen (p := ⟨b, o, none⟩) hb.lt hx]; exact hb.fr o, Nat.lt_of_lt_of_le hb.lt h.size⟩
theorem BoxN.grow {w w' : World} {b : Nat} {cs : List Value} (hb : BoxN w b cs) (h : Grow w w') : BoxN w' b cs := hb.ext h (fun h => h)
theorem BoxN.other {w : World} {b : Nat} {cs : List Value} (hb : BoxN w b cs) {p : Addr} (hp : p.block ≠ b) (v : Value) : BoxN (w.setCell p v) b cs :=
  hb.ext (X := fun k => k = p.block) (Ext.setIn (X := fun k => k = p.block) (Ext.refl _ w) (p := p) rfl v) (fun h => hp h.symm)
theorem BoxN.set {w : World} {b : Nat} {cs : List Value} (hb : BoxN w b cs) (i : Nat) (hi : i < cs.length) (v : Value) : BoxN (w.setCell ⟨b, i, none⟩ v) b (cs.set i v) := by
  refine ⟨fun j u h => ?_, fun o => by rw [World.frozen?_setCell]; exact hb.fr o, by rw [size_setCell]; exact hb.lt⟩
  rw [cell_set (hb.cell i cs[i] (List.getElem?_eq_getElem hi))]
  rw [List.getElem?_set] at h
  by_cases e : j = i
  · subst e; simpa [hi] using h
  · rw [if_neg (by intro h'; cases h'; exact e rfl)]
    rw [if_neg (fun h' => e h'.symm)] at h
    exact hb.cell j u h

def nodeL (n : Nd) (na : Option Addr) (nc : Nat) (ka : Option Addr) (kc : Nat) : List Value :=
  [.int .i64 n.kind, .int .i64 n.num, .string n.text, .slice na n.names.length nc, .slice ka n.kids.length kc]

mutual
theorem NodeC.mono {w : World} {S T : Nat → Prop} (hS : ∀ k, S k → T k) : ∀ {n : Nd} {na : Option Addr} {nc : Nat} {ka : Option Addr} {kc : Nat}, NodeC w S n na nc ka kc → NodeC w T n na nc ka kc
  | ⟨_, _, _, _, kids⟩, na, nc, ka, kc, hn => by
    unfold NodeC at hn ⊢
    obtain ⟨h1, h2, h3, h4, h5⟩ := hn
    refine ⟨h1, h2.mono hS, h3, h4, h5.imp id ?_⟩
    rintro ⟨b, o, e, hb, hk⟩
    exact ⟨b, o, e, hS b hb, KidsR.mono hS hk⟩
theorem KidsR.mono {w : World} {S T : Nat → Prop} (hS : ∀ k, S k → T k) {b : Nat} : ∀ {l : List Nd} {o : Nat}, KidsR w S b o l → KidsR w T b o l
  | [], _, _ => by unfold KidsR; trivial
  | k :: ks, o, hk => by
    unfold KidsR at hk ⊢
    obtain ⟨⟨na, nc, ka, kc, c0, c1, c2, c3, c4, hn⟩, hr⟩ := hk
    exact ⟨⟨na, nc, ka, kc, c0, c1, c2, c3, c4, NodeC.mono hS hn⟩, KidsR.mono hS hr⟩
end


def storeL (w : World) (b : Nat) : Nat → List Value → World
  | _, [] => w
  | o, v :: vs => storeL (w.setCell ⟨b, o, none⟩ v) b (o + 1) vs

theorem storeL_elsewhere (b : Nat) : ∀ (vs : List Value) (w : World) (o : Nat) (x q : Nat), x ≠ b → (storeL w b o vs).cell? ⟨x, q, none⟩ = w.cell? ⟨x, q, none⟩
  | [], _, _, _, _, _ => rfl
  | v :: vs, w, o, x, q, h => by
    rw [storeL, storeL_elsewhere b vs _ _ x q h, World.cell?_setCell_other _ _ _ _ (by intro e; cases e; exact h rfl)]
theorem storeL_cell (b : Nat) {n : Nat} : ∀ (vs : List Value) {w : World} (o : Nat), RowIn w b n → o + vs.length ≤ n → ∀ q, (storeL w b o vs).cell? ⟨b, q, none⟩ = if o ≤ q ∧ q < o + vs.length then vs[q - o]? else w.cell? ⟨b, q, none⟩
  | [], _, o, _, _, q => by rw [if_neg (by simp only [List.length_nil]; omega)]; rfl
  | v :: vs, _, o, h, hn, q => by
    simp only [List.length_cons] at hn
    obtain ⟨u, hu⟩ := h.2.1 o (by omega)
    rw [storeL, storeL_cell b vs (o + 1) (h.setCell _ _) (by omega) q, cell_set hu]
    simp only [List.length_cons]
    by_cases hq : q = o
    · subst hq
      rw [if_neg (by omega), if_pos rfl, if_pos (by omega)]; simp
    · have hne : ¬ (⟨b, q, none⟩ : Addr) = ⟨b, o, none⟩ := by intro h'; exact hq (congrArg Addr.off h')
      rw [if_neg hne]
      by_cases h1 : o + 1 ≤ q ∧ q < o + 1 + vs.length
      · have h2 : o ≤ q ∧ q < o + (vs.length + 1) := by omega
        rw [if_pos h1, if_pos h2, show q - o = (q - (o + 1)) + 1 by omega]; simp
      · have h2 : ¬ (o ≤ q ∧ q < o + (vs.length + 1)) := by omega
        rw [if_neg h1, if_neg h2]

theorem storeL_at {w : World} {b n o : Nat} {vs : List Value} (hr : RowIn w b n) (hn : o + vs.length ≤ n) (i : Nat) (v : Value) (hi : vs[i]? = some v) : (storeL w b o vs).cell? ⟨b, o + i, none⟩ = some v := by
  have hl := (List.getElem?_eq_some_iff.1 hi).1
  rw [storeL_cell b vs o hr hn, if_pos (by omega), show o + i - o = i by omega]; exact hi
theorem storeL_below {w : World} {b n o : Nat} {vs : List Value} (hr : RowIn w b n) (hn : o + vs.length ≤ n) (q : Nat) (hq : q < o) : (storeL w b o vs).cell? ⟨b, q, none⟩ = w.cell? ⟨b, q, none⟩ := by
  rw [storeL_cell b vs o hr hn, if_neg (by omega)]

end Go.Proofs.Ytmeobmegnneegaa

/-
  The order of texts, byte by byte.
-/
namespace Go.Proofs.Ytmeobmegnneegaa
open Go Go.RowKit

abbrev lt (a b : ByteArray) : Bool := Op.bytesLess a.toList b.toList

theorem bl_irrefl : ∀ x : List UInt8, Op.bytesLess x x = false
  | [] => rfl
  | a :: x => by simp [Op.bytesLess, bl_irrefl x]

theorem bl_tri : ∀ x y : List UInt8, (Op.bytesLess x y || x == y) = !Op.bytesLess y x
  | [], [] => rfl
  | [], b :: y => by simp [Op.bytesLess]
  | a :: x, [] => by simp [Op.bytesLess]
  | a :: x, b :: y => by
    have ih := bl_tri x y
    simp only [Op.bytesLess, List.cons_beq_cons]
    rcases (show a.toNat < b.toNat ∨ a.toNat = b.toNat ∨ b.toNat < a.toNat from by omega) with h | h | h
    · have h1 : a < b := UInt8.lt_iff_toNat_lt.2 h
      have h2 : ¬ b < a := fun h' => by have := UInt8.lt_iff_toNat_lt.1 h'; omega
      have h3 : ¬ a = b := fun e => by subst e; omega
      have h4 : ¬ b = a := fun e => h3 e.symm
      simp [h1, h2, h4]
    · have h3 : a = b := UInt8.toNat_inj.1 h
      subst h3
      have h1 : ¬ a < a := fun h' => by have := UInt8.lt_iff_toNat_lt.1 h'; omega
      simp [h1, ih]
    · have h1 : b < a := UInt8.lt_iff_toNat_lt.2 h
      have h2 : ¬ a < b := fun h' => by have := UInt8.lt_iff_toNat_lt.1 h'; omega
      have h3 : ¬ a = b := fun e => by subst e; omega
      have h4 : ¬ b = a := fun e => h3 e.symm
      simp [h1, h2, h3]

theorem bl_trans : ∀ x y z : List UInt8, Op.bytesLess x y = true → Op.bytesLess y z = true → Op.bytesLess x z = true
  | x, [], _, h, _ => by cases x <;> simp [Op.bytesLess] at h
  | _, _ :: _, [], _, h => by simp [Op.bytesLess] at h
  | [], _ :: _, _ :: _, _, _ => rfl
  | a :: x, b :: y, c :: z, h1, h2 => by
    simp only [Op.bytesLess, Bool.or_eq_true, Bool.and_eq_true, decide_eq_true_eq, beq_iff_eq] at h1 h2 ⊢
    rcases h1 with h1 | ⟨rfl, h1⟩
    · rcases h2 with h2 | ⟨rfl, h2⟩
      · exact .inl (UInt8.lt_iff_toNat_lt.2 (Nat.lt_trans (UInt8.lt_iff_toNat_lt.1 h1) (UInt8.lt_iff_toNat_lt.1 h2)))
      · exact .inl h1
    · rcases h2 with h2 | ⟨rfl, h2⟩
      · exact .inl h2
      · exact .inr ⟨rfl, bl_trans x y z h1 h2⟩

theorem bl_asymm (x y : List UInt8) (h : Op.bytesLess x y = true) : Op.bytesLess y x = false := by
  cases h' : Op.bytesLess y x
  · rfl
  · have := bl_trans _ _ _ h h'
    rw [bl_irrefl] at this; cases this

theorem toList_inj {a b : ByteArray} (h : a.toList = b.toList) : a = b := by
  have h' : a.data.toList = b.data.toList := by rw [← ByteArray.toList_eq, ← ByteArray.toList_eq]; exact h
  cases a; cases b; simp_all [Array.toList_inj]

theorem beq_toList (a b : ByteArray) : (a.toList == b.toList) = decide (a = b) := by
  by_cases h : a = b
  · simp [h]
  · have : ¬ a.toList = b.toList := fun e => h (toList_inj e)
    simp [h, this]

theorem bl_cases (x y : ByteArray) :
    (Op.bytesLess x.toList y.toList = true ∧ Op.bytesLess y.toList x.toList = false ∧ (x.toList == y.toList) = false ∧ (y.toList == x.toList) = false ∧ x ≠ y) ∨
    (Op.bytesLess x.toList y.toList = false ∧ Op.bytesLess y.toList x.toList = true ∧ (x.toList == y.toList) = false ∧ (y.toList == x.toList) = false ∧ x ≠ y) ∨
    x = y := by
  by_cases h : x = y
  · exact .inr (.inr h)
  · have h1 : (x.toList == y.toList) = false := by rw [beq_toList]; simp [h]
    have h2 : (y.toList == x.toList) = false := by rw [beq_toList]; simp [Ne.symm h]
    have h3 := bl_tri x.toList y.toList
    rw [h1, Bool.or_false] at h3
    cases h4 : Op.bytesLess y.toList x.toList
    · exact .inl ⟨by rw [h3, h4]; rfl, rfl, h1, h2, h⟩
    · exact .inr (.inl ⟨by rw [h3, h4]; rfl, rfl, h1, h2, h⟩)

theorem blF_irrefl (x : ByteArray) : Op.bytesLess x.toList x.toList = false := bl_irrefl _

end Go.Proofs.Ytmeobmegnneegaa

/-
  A region that draws its order: one walk of the order of the text serves every order, where each operation that makes memory or calls tells a fact that stays true while the world goes on.
-/
namespace Go.Proofs.Ytmeobmegnneegaa
open Go

section
variable {P : Program} {ops : Array Oper} {md : Region.Mode} {R : World → World → Prop} {Vs : Nat → Option (Value → World → Prop)} {C : World → Prop}

abbrev Env := Nat → World → Prop
def Env.upd (E : Env) (i : Nat) (F : World → Prop) : Env := fun k w => E k w ∧ (k = i → F w)

def valUpon (R : World → World → Prop) (w : World) (c : Value) : Result Next → Prop
  | .ok (.value u) w' => u = c ∧ R w w'
  | .ok .skip w' => c = undef ∧ R w w'
  | _ => False

def stabUpon (P : Program) (R : World → World → Prop) (w : World) (V : Value → World → Prop) : Result Next → Prop
  | .ok (.value u) w' => R w w' ∧ V u w'
  | .ok .skip w' => R w w' ∧ V undef w'
  | .ok (.enter f args) w' => w' = w ∧ Calls P f args w (fun e w'' => ∃ v, e = .returned v ∧ R w w'' ∧ V v w'')
  | _ => False

def valAt (R : World → World → Prop) (P : Program) (o : Oper) (a : Act) (w : World) (c : Value) : Prop := valUpon R w c ((execOp a.eval o).run P w)
def stabAt (R : World → World → Prop) (P : Program) (o : Oper) (a : Act) (w : World) (V : Value → World → Prop) : Prop := stabUpon P R w V ((execOp a.eval o).run P w)

def cls (C : World → Prop) (o : Oper) (E : Env) (w : World) : Prop := C w ∧ ∀ e ∈ o.after, Region.binds .any e = true → E e.on w

def does (P : Program) (R : World → World → Prop) (Vs : Nat → Option (Value → World → Prop)) (C : World → Prop) (i : Nat) (o : Oper) (K : Act → Env → Prop) (a : Act) (E : Env) : Prop :=
  match Vs i with
  | none => ∃ c, (∀ w, cls C o E w → valAt R P o a w c) ∧ K (a.put o.dst c) E
  | some V => (∀ w, cls C o E w → stabAt R P o a w V) ∧ ∀ v w, C w → (∀ k, E k w) → V v w → K (a.put o.dst v) (E.upd i (V v))

def step (P : Program) (ops : Array Oper) (R : World → World → Prop) (Vs : Nat → Option (Value → World → Prop)) (C : World → Prop) (i : Nat) (K : Act → Env → Prop) (a : Act) (E : Env) : Prop :=
  match ops[i]? with
  | none => K a E
  | some o => if Region.wanted o (yielded ops a.tmps) then does P R Vs C i o K a E else K (a.put o.dst undef) E

structure Closed (R : World → World → Prop) (C : World → Prop) (Vs : Nat → Option (Value → World → Prop)) : Prop where
  refl : ∀ w, R w w
  cl : ∀ w w', R w w' → C w → C w'
  st : ∀ i V, Vs i = some V → ∀ v w w', R w w' → V v w → V v w'

def EnvSt (R : World → World → Prop) (E : Env) : Prop := ∀ k w w', R w w' → E k w → E k w'

theorem EnvSt.upd {E : Env} (h : EnvSt R E) {i : Nat} {F : World → Prop} (hF : ∀ w w', R w w' → F w → F w') : EnvSt R (E.upd i F) :=
  fun k w w' hr hk => ⟨h k w w' hr hk.1, fun e => hF _ _ hr (hk.2 e)⟩

theorem cls_upd {oj : Oper} {E : Env} {i : Nat} {F : World → Prop} (hno : ∀ e ∈ oj.after, Region.binds .any e = true → e.on ≠ i) (w : World) : cls C oj (E.upd i F) w ↔ cls C oj E w := by
  unfold cls Env.upd
  exact ⟨fun ⟨h1, h2⟩ => ⟨h1, fun e he hb => (h2 e he hb).1⟩, fun ⟨h1, h2⟩ => ⟨h1, fun e he hb => ⟨h2 e he hb, fun h => absurd h (hno e he hb)⟩⟩⟩

theorem upd_comm {E : Env} {i j : Nat} {F G : World → Prop} : (E.upd i F).upd j G = (E.upd j G).upd i F := by
  funext k w
  unfold Env.upd
  exact propext ⟨fun ⟨⟨h1, h2⟩, h3⟩ => ⟨⟨h1, h3⟩, h2⟩, fun ⟨⟨h1, h2⟩, h3⟩ => ⟨⟨h1, h3⟩, h2⟩⟩

theorem valAt_put {oj : Oper} (hsj : ∀ cs b, oj.op ≠ .select cs b) {a : Act} {d : Option Tmp} {v : Value} (h : ∀ t, d = some t → t ∉ oj.looksAt ops) {w : World} {c : Value} :
    valAt R P oj (a.put d v) w c = valAt R P oj a w c := by unfold valAt; rw [execOp_put oj hsj a d v h]
theorem stabAt_put {oj : Oper} (hsj : ∀ cs b, oj.op ≠ .select cs b) {a : Act} {d : Option Tmp} {v : Value} (h : ∀ t, d = some t → t ∉ oj.looksAt ops) {w : World} {V : Value → World → Prop} :
    stabAt R P oj (a.put d v) w V = stabAt R P oj a w V := by unfold stabAt; rw [execOp_put oj hsj a d v h]

theorem valAt_det {o : Oper} {a : Act} {w : World} {c c' : Value} (h : valAt R P o a w c) (h' : valAt R P o a w c') : c = c' := by
  unfold valAt at *
  generalize (execOp a.eval o).run P w = r at *
  cases r with
  | ok n w' => cases n <;> simp only [valUpon] at h h' <;> first | exact h.1.symm.trans h'.1 | exact h.1.trans h'.1.symm
  | halt x w' => simp only [valUpon] at h

theorem stab_some {o : Oper} {a : Act} {w : World} {V : Value → World → Prop} (h : stabAt R P o a w V) : ∃ v w', R w w' ∧ V v w' := by
  unfold stabAt at *
  generalize (execOp a.eval o).run P w = r at *
  cases r with
  | ok n w' =>
    cases n <;> simp only [stabUpon] at h
    case value u => exact ⟨_, _, h⟩
    case skip => exact ⟨_, _, h⟩
    case enter f args =>
      obtain ⟨rfl, hcl⟩ := h
      obtain ⟨e, w'', fr, ⟨v, he, hr, hv⟩, _⟩ := hcl []
      exact ⟨v, w'', hr, hv⟩
  | halt x w' => simp only [stabUpon] at h

theorem exch (hc : Closed R C Vs) {i j : Nat} {oi oj : Oper} (hi : ops[i]? = some oi) (hj : ops[j]? = some oj) (hap : oi.apart ops oj = true)
    (hsi : ∀ cs b, oi.op ≠ .select cs b) (hsj : ∀ cs b, oj.op ≠ .select cs b)
    (hnj : ∀ e ∈ oj.after, Region.binds .any e = true → e.on ≠ i) (hni : ∀ e ∈ oi.after, Region.binds .any e = true → e.on ≠ j)
    {K : Act → Env → Prop} {a : Act} {E : Env} (hE : EnvSt R E) (hex : ∃ w, C w ∧ ∀ k, E k w)
    (h : step P ops R Vs C i (fun a' E' => step P ops R Vs C j K a' E') a E) : step P ops R Vs C j (fun a' E' => step P ops R Vs C i K a' E') a E := by
  obtain ⟨p1, p2, p3⟩ := Oper.apart_spec hap
  unfold step at *
  simp only [hi, hj] at *
  have wj : ∀ v, Region.wanted oj (yielded ops (a.put oi.dst v).tmps) = Region.wanted oj (yielded ops a.tmps) := fun v => wanted_put oj a oi.dst v p1
  have wi : ∀ v, Region.wanted oi (yielded ops (a.put oj.dst v).tmps) = Region.wanted oi (yielded ops a.tmps) := fun v => wanted_put oi a oj.dst v p3
  have pc : ∀ u v, (a.put oi.dst v).put oj.dst u = (a.put oj.dst u).put oi.dst v := fun u v => Act.put_comm a v u p2
  have vj : ∀ v w c, valAt R P oj (a.put oi.dst v) w c = valAt R P oj a w c := fun v w c => valAt_put hsj p1
  have vi : ∀ v w c, valAt R P oi (a.put oj.dst v) w c = valAt R P oi a w c := fun v w c => valAt_put hsi p3
  have sj : ∀ v w V, stabAt R P oj (a.put oi.dst v) w V = stabAt R P oj a w V := fun v w V => stabAt_put hsj p1
  have si : ∀ v w V, stabAt R P oi (a.put oj.dst v) w V = stabAt R P oi a w V := fun v w V => stabAt_put hsi p3
  cases hwi : Region.wanted oi (yielded ops a.tmps) <;> cases hwj : Region.wanted oj (yielded ops a.tmps)
  · simp only [hwi, hwj, wi, wj, Bool.false_eq_true, if_false] at h ⊢
    rw [← pc]; exact h
  · simp only [hwi, hwj, wj, if_true, Bool.false_eq_true, if_false] at h ⊢
    unfold does at *
    cases hVj : Vs j with
    | none =>
      simp only [hVj, vj, wi, hwi, Bool.false_eq_true, if_false] at h ⊢
      obtain ⟨c, h1, h2⟩ := h
      exact ⟨c, h1, by rw [← pc]; exact h2⟩
    | some V =>
      simp only [hVj, sj, wi, hwi, Bool.false_eq_true, if_false] at h ⊢
      obtain ⟨h1, h2⟩ := h
      exact ⟨h1, fun v w k1 k2 k3 => by rw [← pc]; exact h2 v w k1 k2 k3⟩
  · simp only [hwi, wi, if_true, Bool.false_eq_true, if_false] at h ⊢
    unfold does at *
    cases hVi : Vs i with
    | none =>
      simp only [hVi, vi, wj, hwj, Bool.false_eq_true, if_false] at h ⊢
      obtain ⟨c, h1, h2⟩ := h
      exact ⟨c, h1, by rw [← pc]; exact h2⟩
    | some V =>
      simp only [hVi, si, wj, hwj, Bool.false_eq_true, if_false] at h ⊢
      obtain ⟨h1, h2⟩ := h
      exact ⟨h1, fun v w k1 k2 k3 => by rw [← pc]; exact h2 v w k1 k2 k3⟩
  · simp only [hwi, if_true] at h ⊢
    unfold does at *
    cases hVi : Vs i with
    | none =>
      cases hVj : Vs j with
      | none =>
        simp only [hVi, hVj, vi, vj, wi, wj, hwi, hwj, if_true] at h ⊢
        obtain ⟨c, h1, d, h3, h4⟩ := h
        exact ⟨d, h3, c, h1, by rw [← pc]; exact h4⟩
      | some V' =>
        simp only [hVi, hVj, vi, sj, wi, wj, hwi, hwj, if_true] at h ⊢
        obtain ⟨c, h1, h3, h4⟩ := h
        exact ⟨h3, fun u w k1 k2 k3 => ⟨c, fun w' hw' => h1 w' ((cls_upd hni w').1 hw'), by rw [← pc]; exact h4 u w k1 k2 k3⟩⟩
    | some V =>
      cases hVj : Vs j with
      | none =>
        simp only [hVi, hVj, si, vj, wi, wj, hwi, hwj, if_true] at h ⊢
        obtain ⟨h1, h2⟩ := h
        obtain ⟨w0, hw0, hE0⟩ := hex
        obtain ⟨v0, w1, hr, hv0⟩ := stab_some (R := R) (h1 w0 ⟨hw0, fun e _ _ => hE0 e.on⟩)
        have hw1 := hc.cl _ _ hr hw0
        have hE1 : ∀ k, E k w1 := fun k => hE k _ _ hr (hE0 k)
        obtain ⟨d, h4, h5⟩ := h2 v0 w1 hw1 hE1 hv0
        have h4' : ∀ w, cls C oj E w → valAt R P oj a w d := fun w hw => h4 w ((cls_upd hnj w).2 hw)
        refine ⟨d, h4', h1, fun v w k1 k2 k3 => ?_⟩
        obtain ⟨d', h6, h7⟩ := h2 v w k1 k2 k3
        have hw' : cls C oj E w := ⟨k1, fun e _ _ => k2 e.on⟩
        have e1 := h6 w ((cls_upd hnj w).2 hw')
        rw [← valAt_det e1 (h4' w hw')]
        rw [← pc]; exact h7
      | some V' =>
        simp only [hVi, hVj, si, sj, wi, wj, hwi, hwj, if_true] at h ⊢
        obtain ⟨h1, h2⟩ := h
        obtain ⟨w0, hw0, hE0⟩ := hex
        obtain ⟨v0, w1, hr, hv0⟩ := stab_some (R := R) (h1 w0 ⟨hw0, fun e _ _ => hE0 e.on⟩)
        have hw1 := hc.cl _ _ hr hw0
        have hE1 : ∀ k, E k w1 := fun k => hE k _ _ hr (hE0 k)
        obtain ⟨h4, h5⟩ := h2 v0 w1 hw1 hE1 hv0
        refine ⟨fun w hw => h4 w ((cls_upd hnj w).2 hw), fun u w k1 k2 k3 => ⟨fun w' hw' => h1 w' ((cls_upd hni w').1 hw'), fun v w' q1 q2 q3 => ?_⟩⟩
        have := (h2 v w' q1 (fun k => (q2 k).1) q3).2 u w' q1 (fun k => ⟨(q2 k).1, fun _ => q3⟩) ((q2 j).2 rfl)
        rw [← pc, upd_comm]; exact this

end
end Go.Proofs.Ytmeobmegnneegaa

/-
  The walks of the leaves: texts, names, parts of nodes.
-/
namespace Go.Proofs.Ytmeobmegnneegaa
open Go.RowKit

def okB (c : UInt8) : Bool := decide (32 ≤ (c.toNat : Int)) && decide ((c.toNat : Int) ≤ 126)
def plainT (s : ByteArray) : Bool := decide (s.size ≤ 12) && s.data.toList.all okB

theorem take_snoc (s : ByteArray) (k : Nat) (h : k < s.size) : s.data.toList.take (k + 1) = s.data.toList.take k ++ [s[k]] := by
  rw [List.take_succ_eq_append_getElem (by simpa using h)]; rfl

theorem all_step {p : UInt8 → Bool} (s : ByteArray) (k : Nat) (h : k < s.size) (h1 : (s.data.toList.take k).all p = true) (h2 : p s[k] = true) : (s.data.toList.take (k + 1)).all p = true := by
  rw [take_snoc s k h, List.all_append, h1]; simp [h2]

theorem all_stop {p : UInt8 → Bool} (s : ByteArray) (k : Nat) (h : k < s.size) (h2 : p s[k] = false) : s.data.toList.all p = false := by
  rw [List.all_eq_false]
  exact ⟨s[k], by simp [ByteArray.getElem_eq_getElem_data], by simp [h2]⟩

set_option maxHeartbeats 400000 in
theorem isPlainText_ok (s : ByteArray) (w : World) (hs : s.size ≤ big) :
    Calls Try.prog 137 #[.string s] w fun e w' => e = .returned (.bool (plainT s)) ∧ w' = w := by
  unfold big at hs
  by_cases hl : 12 < s.size
  · go_enter Try.func137, Try.ntmps137
    go_wp2
    go_ret
    exact ⟨by simp [plainT]; omega, rfl⟩
  · go_enter Try.func137, Try.ntmps137
    go_wp2
    go_loop [2, 3] (fun n i => n = .bool false ∧ ∃ k : Nat, k ≤ s.size ∧ i = .int .i64 k ∧ (s.data.toList.take k).all okB = true) (fun _ i => s.size - (intOf i).toNat)
    case atStart => exact ⟨rfl, 0, Nat.zero_le _, rfl, rfl⟩
    case round =>
      obtain ⟨rfl, k, hk, rfl, hall⟩ := hrel
      by_cases hlt : k < s.size
      · have Hall := Lib.hid hall
        clear hall
        by_cases hc : 32 ≤ (s[k].toNat : Int) ∧ (s[k].toNat : Int) ≤ 126
        · obtain ⟨hc1, hc2⟩ := hc
          go_wp2
          go_round
          case rel => exact ⟨rfl, k + 1, by omega, by go_num, all_step s k hlt Hall.out (by simp [okB]; omega)⟩
          case measure => simp [intOf]; omega
        · have hf : okB s[k] = false := by simp [okB]; omega
          have Hf := Lib.hid (all_stop s k hlt hf)
          clear hf
          go_wp2
          all_goals (go_ret; exact ⟨by simp [plainT, Hf.out], rfl⟩)
      · go_wp2
        go_ret
        exact ⟨by have : k = s.data.toList.length := by simp; omega
                  rw [this, List.take_length] at hall
                  simp [plainT, hall]; omega, rfl⟩

theorem take_snoc' {α : Type} (l : List α) (k : Nat) (h : k < l.length) : l.take (k + 1) = l.take k ++ [l[k]] := List.take_succ_eq_append_getElem h
theorem drop_cons {α : Type} (xs : List α) (k : Nat) (h : k < xs.length) : xs.drop k = xs[k] :: xs.drop (k + 1) := List.drop_eq_getElem_cons h

def namesFrom : Option ByteArray → List ByteArray → Bool
  | _, [] => true
  | p, x :: r => plainT x && (match p with | none => true | some y => Op.bytesLess y.toList x.toList) && namesFrom (some x) r
def namesB (xs : List ByteArray) : Bool := namesFrom none xs
def areNamesB (xs : List ByteArray) : Bool := decide (xs.length ≤ 6) && namesB xs

def namesAt (xs : List ByteArray) (k : Nat) : Bool := namesFrom (if k = 0 then none else xs[k - 1]?) (xs.drop k)

theorem namesAt_zero (xs : List ByteArray) : namesAt xs 0 = namesB xs := by simp [namesAt, namesB]
theorem namesAt_end (xs : List ByteArray) (k : Nat) (h : ¬ k < xs.length) : namesAt xs k = true := by
  unfold namesAt; rw [List.drop_eq_nil_of_le (by omega)]; cases k <;> simp [namesFrom]
theorem namesAt_first (xs : List ByteArray) (h : 0 < xs.length) : namesAt xs 0 = (plainT xs[0] && namesAt xs 1) := by
  unfold namesAt; rw [drop_cons xs 0 h]; simp [namesFrom, h]
theorem namesAt_next (xs : List ByteArray) (k : Nat) (h : k < xs.length) (h0 : 0 < k) : namesAt xs k = (plainT xs[k] && Op.bytesLess xs[k - 1].toList xs[k].toList && namesAt xs (k + 1)) := by
  unfold namesAt
  rw [drop_cons xs k h, if_neg (by omega), List.getElem?_eq_getElem (by omega)]
  simp [namesFrom, h]

set_option maxHeartbeats 400000 in
theorem areNames_ok (a : Option Addr) (c : Nat) (xs : List ByteArray) (w : World) (S : Nat → Prop) (ha : StrsR w S a c xs) :
    Calls Try.prog 138 #[.slice a xs.length c] w fun e w' => e = .returned (.bool (areNamesB xs)) ∧ Grow w w' := by
  have hbig : xs.length ≤ 9223372036854775807 := ha.2.1
  have Ha := Lib.hid ha
  clear ha
  by_cases hl : 6 < xs.length
  · go_enter Try.func138, Try.ntmps138
    go_wp2
    go_ret
    exact ⟨by simp [areNamesB]; omega, Ext.refl _ _⟩
  · go_enter Try.func138, Try.ntmps138
    go_wp2
    go_loopw [2, 3, 4, 10] (fun n _ _ i wr => n = .bool false ∧ Grow w wr ∧ ∃ k : Nat, k ≤ xs.length ∧ i = .int .i64 k ∧ namesB xs = namesAt xs k) (fun _ _ _ i _ => xs.length - (intOf i).toNat)
    case atStart => exact ⟨rfl, Ext.refl _ _, 0, Nat.zero_le _, rfl, (namesAt_zero xs).symm⟩
    case round =>
      obtain ⟨rfl, hg, k, hk, rfl, hr⟩ := hrel
      have Hr := Lib.hid hr
      clear hr
      by_cases hlt : k < xs.length
      · obtain ⟨_, _, hxs, ha4⟩ := (Ha.out).ext hg (fun _ _ h => h)
        rcases ha4 with rfl | ⟨ba, oa, rfl, _, hca⟩
        · simp at hlt
        have hx := hca k hlt
        have hsz := hxs _ (List.getElem_mem hlt)
        by_cases hk0 : 0 < k
        · have hy := hca (k - 1) (by omega)
          have hs := namesAt_next xs k hlt hk0
          have Hs := Lib.hid hs
          clear hca Ha hs
          go_wp2_with (go_at_call 137; refine (isPlainText_ok _ _ hsz).mono ?_; rintro e w' ⟨rfl, rfl⟩)
          all_goals first
            | (go_ret; exact ⟨by simp_all [areNamesB, Hr.out, Hs.out], hg⟩)
            | (go_roundw
               case rel => exact ⟨rfl, hg, k + 1, by omega, by go_num, by rw [Hr.out, Hs.out]; simp_all⟩
               case measure => simp [intOf]; omega)
        · obtain rfl : k = 0 := by omega
          simp only [Nat.add_zero] at hx
          have hs := namesAt_first xs hlt
          have Hs := Lib.hid hs
          clear hca Ha hs
          go_wp2_with (go_at_call 137; refine (isPlainText_ok _ _ hsz).mono ?_; rintro e w' ⟨rfl, rfl⟩)
          all_goals first
            | (go_ret; exact ⟨by simp_all [areNamesB, Hr.out, Hs.out], hg⟩)
            | (go_roundw
               case rel => exact ⟨rfl, hg, 1, by omega, by go_num, by rw [Hr.out, Hs.out]; simp_all⟩
               case measure => simp [intOf]; omega)
      · go_wp2
        go_ret
        exact ⟨by simp [areNamesB, Hr.out, namesAt_end _ _ hlt]; omega, hg⟩

def partsB (n : Nd) : Bool :=
  (decide (n.kind = 1) || decide (n.num = 0)) && (decide (n.kind = 2) || n.text.toList.isEmpty) && (decide (n.kind = 4) || decide (n.names.length = 0)) &&
  (if n.kind = 0 then decide (n.kids.length = 0) else if n.kind = 1 then decide (-999999 ≤ n.num) && decide (n.num ≤ 999999) && decide (n.kids.length = 0)
   else if n.kind = 2 then plainT n.text && decide (n.kids.length = 0) else if n.kind = 3 then decide (n.kids.length ≤ 6)
   else if n.kind = 4 then areNamesB n.names && decide (n.kids.length = n.names.length) else false)

theorem ibeq (a b : Int) : (a == b) = decide (a = b) := by by_cases h : a = b <;> simp [h]
theorem bcell {w w' : World} (hg : Grow w w') : (∀ b o, b < w.heap.size → w'.cell? ⟨b, o, none⟩ = w.cell? ⟨b, o, none⟩) := fun b o h => hg.cell (p := ⟨b, o, none⟩) h (fun h => h)

set_option maxHeartbeats 1000000 in
theorem hasValidParts_ok (n : Nd) (v : Value) (w : World) (S : Nat → Prop) (hn : NodeR w S n v) :
    Calls Try.prog 130 #[v] w fun e w' => e = .returned (.bool (partsB n)) ∧ Grow w w' := by
  obtain ⟨na, nc, ka, kc, rfl, hc⟩ := hn
  obtain ⟨htx, hns, hks⟩ := hc.parts
  have hnl : n.names.length ≤ 9223372036854775807 := hns.2.1
  have hkl : n.kids.length ≤ 9223372036854775807 := hks.2.1
  have Hns := Lib.hid hns
  have Hks := Lib.hid hks
  have Htx := Lib.hid htx
  clear hns hks hc htx
  unfold nodeV
  go_enter Try.func130, Try.ntmps130
  go_wp2_with (first | (go_at_call 137; refine (isPlainText_ok _ _ Htx.out).mono ?_; rintro e w' ⟨rfl, rfl⟩) | (go_at_call 138; refine (areNames_ok _ _ _ _ S (Hns.out.ext ((Ext.refl nil w).alloc _) (fun _ _ h => h))).mono ?_; rintro e w' ⟨rfl, hg⟩; have hcc := bcell hg))
  all_goals go_ret
  all_goals refine ⟨?_, by repeat (first | exact Ext.refl _ _ | refine Ext.trans ?_ (by assumption) | refine Ext.drew ?_ | refine Ext.alloc ?_ _)⟩
  all_goals clear Hns Hks Htx
  all_goals (simp_all [partsB, ibeq, -List.length_eq_zero_iff])
  all_goals omega
end Go.Proofs.Ytmeobmegnneegaa

/-
  The walks of the laws' own helpers on texts and nodes: sizes, copies.
-/
namespace Go.Proofs.Ytmeobmegnneegaa
open Go.RowKit

theorem run_mk {P : Program} (t e : TypeId) (z : Value) (size bytes : Nat) (ht : P.underlying t = some (.slice e)) (hinfo : (P.info? e).map (fun i => (i.zero, i.size, i.bytes)) = some (some z, size, bytes))
    (kl kc : IntKind) (n : Nat) (hbytes : bytes * n ≤ 281474976710656) (h63 : n ≤ 9223372036854775807) (w : World) :
    (Instr.makeSlice t (.int kl (n : Int)) (.int kc (n : Int))).run P w = .ok (.slice (some ⟨w.heap.size, 0, none⟩) n n) (w.alloc (.cells (madeCells z.cells (n * size)) e)) := by
  obtain ⟨i, hi, hzz⟩ := Option.map_eq_some_iff.1 hinfo
  simp only [Prod.mk.injEq] at hzz
  obtain ⟨hz, hs, hb⟩ := hzz
  have hb' : (i.bytes : Int) * (n : Int) ≤ 281474976710656 := by
    have h : ((i.bytes * n : Nat) : Int) ≤ 281474976710656 := by rw [hb]; omega
    rwa [Int.natCast_mul] at h
  have hr := run_make (P := P) w t e i z ht hi hz kl kc n n (by omega) (Int.le_refl _) hb' (by omega)
  simp only [Int.toNat_natCast, hs] at hr
  exact hr

theorem info_string : (Try.prog.info? 9).map (fun i => (i.zero, i.size, i.bytes)) = some (some (.string ⟨#[]⟩), 1, 16) := by kernel_rfl
theorem info_Node : (Try.prog.info? 39).map (fun i => (i.zero, i.size, i.bytes)) = some (some (.agg #[.int .i64 0, .int .i64 0, .string ⟨#[]⟩, .slice none 0 0, .slice none 0 0]), 5, 80) := by kernel_rfl

end Go.Proofs.Ytmeobmegnneegaa

/-
  The walks of the laws' sizes of texts and nodes.
-/
namespace Go.Proofs.Ytmeobmegnneegaa
open Go.RowKit

end Go.Proofs.Ytmeobmegnneegaa

/-
  A region that draws its order and whose calls only make memory: one walk in the order of the text, in whatever later world.
-/
namespace Go.Proofs.Ytmeobmegnneegaa
open Go Go.RowKit

structure Later (w : World) : Type where
  at' : World
  grown : Grow w at'
def later (w : World) (x : Later w) : World := x.at'
instance later_some (w : World) : Nonempty (Later w) := ⟨⟨w, Ext.refl _ _⟩⟩
theorem later_grow (w : World) (x : Later w) : Grow w (later w x) := x.grown

@[go_sem] theorem later_cell (w : World) (x : Later w) (a : Addr) (h : (w.cell? a).isSome = true) : (later w x).cell? a = w.cell? a := by
  obtain ⟨v, hv⟩ := Option.isSome_iff_exists.1 h
  rw [hv]; exact (later_grow w x).some hv

theorem wp_region_later {P : Program} {id : Nat} {Q : Exit → Act → World → Prop} {a : Act} {w : World} {l : List Oper} (hm : P.follows .mixedOrders = true) (hB : Region.lexB .any l.toArray = true)
    (h : wpQuiet P l.toArray (fun w' => ∃ x, w' = later w x) (fun a' => ∀ w', (∃ x, w' = later w x) → Q .normal a' w') l a) : (Code.region id l.toArray true).wp P Q a w :=
  wp_region_quiet (C := fun w' => ∃ x, w' = later w x) hm hB ⟨⟨w.drew, (Ext.refl _ _).drew⟩, rfl⟩ (by simpa using h)

theorem later_call {P : Program} {f : FuncId} {args : Array Value} {w : World} {x : Later w} {v : Value}
    (h : Calls P f args (later w x) fun e w' => e = .returned v ∧ Grow (later w x) w') : Calls P f args (later w x) fun e w'' => e = .returned v ∧ ∃ y, w'' = later w y :=
  h.mono fun _ w' ⟨he, hg⟩ => ⟨he, ⟨w', (later_grow w x).trans hg⟩, rfl⟩
theorem later_call_same {P : Program} {f : FuncId} {args : Array Value} {w : World} {x : Later w} {v : Value}
    (h : Calls P f args (later w x) fun e w' => e = .returned v ∧ w' = later w x) : Calls P f args (later w x) fun e w'' => e = .returned v ∧ ∃ y, w'' = later w y :=
  h.mono fun _ _ ⟨he, hg⟩ => ⟨he, x, hg⟩

end Go.Proofs.Ytmeobmegnneegaa

/-
  The walks of the laws' comparisons of texts and nodes.
-/
namespace Go.Proofs.Ytmeobmegnneegaa
open Go.RowKit

end Go.Proofs.Ytmeobmegnneegaa

/-
  The walks of the reader of drawn numbers.
-/
namespace Go.Proofs.Ytmeobmegnneegaa
open Go.RowKit

structure RdR (w : World) (rb : Nat) (zs : List Int) (p : Nat) : Prop where
  cells : ∃ a c, w.cell? ⟨rb, 0, none⟩ = some (.slice a zs.length c) ∧ (zs = [] ∨ ∃ b o, a = some ⟨b, o, none⟩ ∧ b ≠ rb ∧ ∀ i (h : i < zs.length), w.cell? ⟨b, o + i, none⟩ = some (.int .u8 zs[i]))
  at' : w.cell? ⟨rb, 1, none⟩ = some (.int .i64 p)
  fr : ∀ o, w.frozen? ⟨rb, o, none⟩ = false
  lt : rb < w.heap.size
  len : zs.length ≤ 2000
  wf : ∀ z ∈ zs, 0 ≤ z ∧ z ≤ 255

theorem RdR.grow {w w' : World} {rb : Nat} {zs : List Int} {p : Nat} (h : RdR w rb zs p) (hg : Grow w w') : RdR w' rb zs p := by
  obtain ⟨⟨a, c, h0, h1⟩, h2, h3, h4, h5, h6⟩ := h
  refine ⟨⟨a, c, hg.some h0, h1.imp id ?_⟩, hg.some h2, fun o => by rw [hg.frozen (p := ⟨rb, o, none⟩) h4 (fun h => h)]; exact h3 o, Nat.lt_of_lt_of_le h4 hg.size, h5, h6⟩
  rintro ⟨b, o, ha, hb, hc⟩
  exact ⟨b, o, ha, hb, fun i hi => hg.some (hc i hi)⟩

theorem RdR.step {w : World} {rb : Nat} {zs : List Int} {p q : Nat} (h : RdR w rb zs p) : RdR (w.setCell ⟨rb, 1, none⟩ (.int .i64 q)) rb zs q := by
  obtain ⟨⟨a, c, h0, h1⟩, h2, h3, h4, h5, h6⟩ := h
  refine ⟨⟨a, c, by rw [cell_set h2, if_neg (by simp)]; exact h0, h1.imp id ?_⟩, by rw [cell_set h2, if_pos rfl], fun o => by rw [World.frozen?_setCell]; exact h3 o, by rw [size_setCell]; exact h4, h5, h6⟩
  rintro ⟨b, o, ha, hb, hc⟩
  exact ⟨b, o, ha, hb, fun i hi => by rw [cell_set h2, if_neg (by intro e; exact hb (congrArg Addr.block e))]; exact hc i hi⟩

abbrev Rd (rb : Nat) (w w' : World) : Prop := Ext (fun k => k = rb) w w'

theorem xor_i64 (a b : Nat) (ha : a < 2 ^ 40) (hb : b < 2 ^ 40) : bits .xor .i64 (a : Int) (b : Int) = ((a ^^^ b : Nat) : Int) := by
  have hx : a ^^^ b < 2 ^ 40 := Nat.xor_lt_two_pow ha hb
  have h1 : (BitVec.ofInt 64 (a : Int)).toNat = a := by
    rw [BitVec.ofInt_natCast, BitVec.toNat_ofNat]; exact Nat.mod_eq_of_lt (by omega)
  have h2 : (BitVec.ofInt 64 (b : Int)).toNat = b := by
    rw [BitVec.ofInt_natCast, BitVec.toNat_ofNat]; exact Nat.mod_eq_of_lt (by omega)
  show IntKind.i64.wrap ((BitVec.ofInt 64 (a : Int) ^^^ BitVec.ofInt 64 (b : Int)).toNat : Int) = _
  rw [BitVec.toNat_xor, h1, h2]
  exact IntWalk.i64_in _ (by omega)

theorem xor_nonneg (X : Int) (h0 : 0 ≤ X) (h1 : X ≤ 1000000000) : 0 ≤ bits .xor .i64 X (X / 64) := by
  obtain ⟨n, rfl⟩ := Int.eq_ofNat_of_zero_le h0
  have d : ((n : Int) / 64) = ((n / 64 : Nat) : Int) := by simp
  rw [d, xor_i64 _ _ (by omega) (by omega)]
  omega

def Same0 (rb : Nat) (w w' : World) : Prop := w'.cell? ⟨rb, 0, none⟩ = w.cell? ⟨rb, 0, none⟩

def Below' (n v : Int) : Prop := (1 ≤ n → 0 ≤ v ∧ v < n) ∧ (n ≤ 0 → v = 0)

set_option maxRecDepth 100000 in
set_option maxHeartbeats 1000000 in
theorem pick_ok (rb : Nat) (zs : List Int) (p : Nat) (n : Int) (w : World) (hr : RdR w rb zs p) (hp : p ≤ 1000000) (hn : n ≤ 1000000) (hn' : -1000000 ≤ n) :
    Calls Try.prog 91 #[.pointer (some ⟨rb, 0, none⟩), .int .i64 n] w fun e w' => ∃ v, e = .returned (.int .i64 v) ∧ Below' n v ∧ Rd rb w w' ∧ RdR w' rb zs (p + 1) ∧ Same0 rb w w' := by
  obtain ⟨⟨a, c, h0, h1⟩, h2, h3, h4, h5, h6⟩ := hr
  have Hr : Hid (RdR w rb zs p) := Lib.hid ⟨⟨a, c, h0, h1⟩, h2, h3, h4, h5, h6⟩
  have H1 := Lib.hid h1
  have H6 := Lib.hid h6
  have h31 := h3 1
  have e1 : Hid (((p : Int) + 1) = ((p + 1 : Nat) : Int)) := Lib.hid (by omega)
  have fin : ∀ w', w' = w.setCell ⟨rb, 1, none⟩ (.int .i64 ((p : Int) + 1)) → Rd rb w w' ∧ RdR w' rb zs (p + 1) ∧ Same0 rb w w' := by
    rintro _ rfl
    rw [e1.out]
    exact ⟨Ext.setIn (X := fun k => k = rb) (Ext.refl _ w) (p := ⟨rb, 1, none⟩) rfl _, Hr.out.step, by unfold Same0; rw [cell_set Hr.out.at', if_neg (by simp)]⟩
  have Fin := Lib.hid fin
  clear h1 h6 h3 fin
  by_cases hn1 : n < 1
  · go_enter Try.func91, Try.ntmps91
    go_wp2
    go_ret
    exact ⟨0, by simp, ⟨by omega, by simp⟩, Fin.out _ rfl⟩
  have hn1 : 1 ≤ n := by omega
  by_cases hz : zs.length = 0
  · have hzb : ((zs.length : Int) == 0) = true := by simp [hz]
    clear hz
    go_enter Try.func91, Try.ntmps91
    go_wp2
    go_ret
    exact ⟨0, by simp, ⟨by omega, by simp⟩, Fin.out _ rfl⟩
  have hz1 : 1 ≤ zs.length := by omega
  have hzb : ((zs.length : Int) == 0) = false := by rw [ibeq]; simp; intro h; simp [h] at hz1
  rcases H1.out with h1 | ⟨b, o, rfl, hb, hc⟩
  · simp [h1] at hz1
  clear hz
  by_cases hk : p < zs.length
  · have hck := hc p hk
    have hw1 := (H6.out _ (List.getElem_mem hk)).1
    have hw2 := (H6.out _ (List.getElem_mem hk)).2
    have hbr : ¬ b = rb := hb
    clear hc hb
    go_enter Try.func91, Try.ntmps91
    go_wp2
    go_ret
    exact ⟨zs[p] % n, by simp, ⟨fun _ => ⟨Int.emod_nonneg _ (by omega), Int.emod_lt_of_pos _ (by omega)⟩, fun h => by omega⟩, Fin.out _ rfl⟩
  · have hm1 : p % zs.length < zs.length := Nat.mod_lt _ hz1
    have hm2 : (p * 7 + 3) % zs.length < zs.length := Nat.mod_lt _ hz1
    obtain ⟨x1, hx1⟩ : ∃ x, x = p % zs.length := ⟨_, rfl⟩
    obtain ⟨x2, hx2⟩ : ∃ x, x = (p * 7 + 3) % zs.length := ⟨_, rfl⟩
    have i1 : x1 < zs.length := by omega
    have i2 : x2 < zs.length := by omega
    have hck1 := hc x1 i1
    have hck2 := hc x2 i2
    have b1 := H6.out _ (List.getElem_mem i1)
    have b2 := H6.out _ (List.getElem_mem i2)
    have t1 : (p : Int).tmod (zs.length : Int) = (x1 : Int) := by rw [Int.tmod_eq_emod_of_nonneg (by omega), hx1]; simp
    have t2 : ((p : Int) * 7 + 3).tmod (zs.length : Int) = (x2 : Int) := by rw [Int.tmod_eq_emod_of_nonneg (by omega), hx2]; simp
    obtain ⟨z1, hz1'⟩ : ∃ z, z = zs[x1] := ⟨_, rfl⟩
    obtain ⟨z2, hz2'⟩ : ∃ z, z = zs[x2] := ⟨_, rfl⟩
    rw [← hz1'] at hck1 b1
    rw [← hz2'] at hck2 b2
    obtain ⟨q, tq, hq1, hq2⟩ : ∃ q : Int, (p : Int).tdiv (zs.length : Int) = q ∧ 0 ≤ q ∧ q ≤ 1000000 := ⟨_, rfl, by
      rw [Int.tdiv_eq_ediv_of_nonneg (by omega)]; exact Int.ediv_nonneg (by omega) (by omega), by
      rw [Int.tdiv_eq_ediv_of_nonneg (by omega)]; exact Int.le_trans (Int.ediv_le_self _ (by omega)) (by omega)⟩
    have hbr : ¬b = rb := hb
    have f1 : IntKind.i64.wrap z1 = z1 := IntWalk.i64_in _ (by omega)
    have f2 : IntKind.i64.wrap z2 = z2 := IntWalk.i64_in _ (by omega)
    have f3 : IntKind.i64.wrap (z1 * 131) = z1 * 131 := IntWalk.i64_in _ (by omega)
    have f4 : IntKind.i64.wrap (z2 * 1117) = z2 * 1117 := IntWalk.i64_in _ (by omega)
    have f5 : IntKind.i64.wrap (z1 * 131 + z2 * 1117) = z1 * 131 + z2 * 1117 := IntWalk.i64_in _ (by omega)
    have f6 : IntKind.i64.wrap ((p : Int) * 7) = (p : Int) * 7 := IntWalk.i64_in _ (by omega)
    have f7 : IntKind.i64.wrap ((p : Int) * 7 + 3) = (p : Int) * 7 + 3 := IntWalk.i64_in _ (by omega)
    have f8 : IntKind.i64.wrap ((p : Int) * 29) = (p : Int) * 29 := IntWalk.i64_in _ (by omega)
    have f9 : IntKind.i64.wrap (z1 * 131 + z2 * 1117 + (p : Int) * 29) = z1 * 131 + z2 * 1117 + (p : Int) * 29 := IntWalk.i64_in _ (by omega)
    have f10 : IntKind.i64.wrap (q * 53) = q * 53 := IntWalk.i64_in _ (by omega)
    have f11 : IntKind.i64.wrap (z1 * 131 + z2 * 1117 + (p : Int) * 29 + q * 53) = z1 * 131 + z2 * 1117 + (p : Int) * 29 + q * 53 := IntWalk.i64_in _ (by omega)
    have f12 : IntKind.i64.wrap (x1 : Int) = x1 := IntWalk.i64_in _ (by omega)
    have f13 : IntKind.i64.wrap (x2 : Int) = x2 := IntWalk.i64_in _ (by omega)
    have f14 : IntKind.i64.wrap q = q := IntWalk.i64_in _ (by omega)
    have i1' : (x1 : Int) < zs.length := by omega
    have i2' : (x2 : Int) < zs.length := by omega
    have l0 : ¬ ((zs.length : Int) = 0) := by omega
    have Hb1 := Lib.hid b1
    have Hb2 := Lib.hid b2
    clear hc hb hx1 hx2 hz1' hz2' b1 b2 hm1 hm2
    go_enter Try.func91, Try.ntmps91
    go_wp2
    refine wp_region_quiet_lit (by kernel_rfl) (by kernel_rfl) ?_
    (repeat (go_big_quiet_step (fail)))
    refine wpQuiet_nil ?_
    rintro _ ⟨nq, rfl⟩
    have hX0 : 0 ≤ z1 * 131 + z2 * 1117 + (p : Int) * 29 + q * 53 := by have := Hb1.out; have := Hb2.out; omega
    have hX1 : z1 * 131 + z2 * 1117 + (p : Int) * 29 + q * 53 ≤ 1000000000 := by have := Hb1.out; have := Hb2.out; omega
    clear f1 f2 f3 f4 f5 f6 f7 f8 f9 f10 f11 f12 f13 f14 t1 t2 tq hck1 hck2 i1 i2 i1' i2'
    generalize z1 * 131 + z2 * 1117 + (p : Int) * 29 + q * 53 = X at hX0 hX1 ⊢
    have hxx := xor_nonneg X hX0 hX1
    go_wp2
    go_ret
    generalize bits BinOp.xor IntKind.i64 X (X / 64) = Y at hxx ⊢
    have hs := (Fin.out _ rfl).2.2
    refine ⟨Y % n, by simp, ⟨fun _ => ⟨Int.emod_nonneg _ (by omega), Int.emod_lt_of_pos _ (by omega)⟩, fun h => by omega⟩, (Fin.out _ rfl).1.drewN _, (Fin.out _ rfl).2.1.grow ((Ext.refl _ _).drewN _), ?_⟩
    unfold Same0 at hs ⊢
    exact (Ext.cell ((Ext.refl nil _).drewN _) (p := ⟨rb, 0, none⟩) (by rw [size_setCell]; exact Hr.out.lt) (fun h => h)).trans hs

def NewR (w : World) (rb : Nat) (a : Option Addr) (zs : List Int) : Prop := RdR w rb zs 0 ∧ ∃ c, w.cell? ⟨rb, 0, none⟩ = some (.slice a zs.length c)

set_option maxHeartbeats 400000 in
theorem newReader_ok (a : Option Addr) (c : Nat) (zs : List Int) (w : World) (hl : zs.length ≤ 1048576) (hc : zs.length ≤ c)
    (hs : zs = [] ∨ ∃ b o, a = some ⟨b, o, none⟩ ∧ ∀ i (h : i < zs.length), w.cell? ⟨b, o + i, none⟩ = some (.int .u8 zs[i])) (hwf : ∀ z ∈ zs, 0 ≤ z ∧ z ≤ 255) :
    Calls Try.prog 89 #[.slice a zs.length c] w fun e w' => ∃ rb zs', e = .returned (.pointer (some ⟨rb, 0, none⟩)) ∧ w.heap.size ≤ rb ∧ Grow w w' ∧ NewR w' rb a zs' ∧ (zs = [] → zs' = []) := by
  have Hs := Lib.hid hs
  have Hwf := Lib.hid hwf
  clear hs hwf
  have mk : ∀ (zs' : List Int) (c' : Nat) (t : TypeId), zs'.length ≤ 2000 → (zs' = [] ∨ ∃ b o, a = some ⟨b, o, none⟩ ∧ ∀ i (h : i < zs'.length), w.cell? ⟨b, o + i, none⟩ = some (.int .u8 zs'[i])) → (∀ z ∈ zs', 0 ≤ z ∧ z ≤ 255) →
      NewR (w.alloc (.cells #[.slice a zs'.length c', .int .i64 0] t)) w.heap.size a zs' := by
    intro zs' c' t hlen h hwf
    have h' : zs' = [] ∨ ∃ b o, a = some ⟨b, o, none⟩ ∧ b ≠ w.heap.size ∧ ∀ i (h : i < zs'.length), (w.alloc (.cells #[.slice a zs'.length c', .int .i64 0] t)).cell? ⟨b, o + i, none⟩ = some (.int .u8 zs'[i]) := by
      rcases h with h | ⟨b, o, ha, hc⟩
      · exact .inl h
      · by_cases h0 : zs' = []
        · exact .inl h0
        · have hp : 0 < zs'.length := List.length_pos_iff.2 h0
          have hb : b < w.heap.size := lt_of_cell (hc 0 hp)
          exact .inr ⟨b, o, ha, by omega, fun i hi => ((Ext.refl nil w).alloc _).some (hc i hi) (fun h => h)⟩
    exact ⟨⟨⟨a, c', by rw [World.cell?_alloc_new]; rfl, h'⟩, by rw [World.cell?_alloc_new]; rfl, fun o => World.frozen?_alloc_new _ _ _ _, by simp, hlen, hwf⟩, c', by rw [World.cell?_alloc_new]; rfl⟩
  by_cases hbig : 2000 < zs.length
  · go_enter Try.func89, Try.ntmps89
    go_wp2
    go_ret
    have h2 := mk (zs.take 2000) c 126 (by simp; omega) (Hs.out.imp (fun h => by simp [h]) (fun ⟨b, o, ha, hc⟩ => ⟨b, o, ha, fun i hi => by rw [List.getElem_take]; exact hc i (by simp at hi; omega)⟩)) (fun z hz => Hwf.out z (List.mem_of_mem_take hz))
    rw [show (zs.take 2000).length = 2000 from by simp; omega] at h2
    exact ⟨_, zs.take 2000, by simp, Nat.le_refl _, (Ext.refl _ _).alloc _, h2, fun h => by simp [h]⟩
  · go_enter Try.func89, Try.ntmps89
    go_wp2
    go_ret
    exact ⟨_, zs, by simp, Nat.le_refl _, (Ext.refl _ _).alloc _, mk _ _ _ (by omega) Hs.out Hwf.out, fun h => h⟩

end Go.Proofs.Ytmeobmegnneegaa

/-
  The reader's contracts.
-/
namespace Go.Proofs.Ytmeobmegnneegaa.Eng
open Go Go.RowKit

theorem AC.ofGrow {P : Program} {f : FuncId} {args : List AV} {Post : AV → Prop} (he : Enters P f)
    (h : ∀ w L S rb vs, RepL w (pureC L S rb) args vs → Calls P f vs.toArray w fun e w' => ∃ v r, e = .returned v ∧ Grow w w' ∧ Rep w' (pureC nil S none) r v ∧ Post r) : AC P f args 0 Post := by
  refine ⟨he, fun w L S rb k vs _ hS hr hargs => (h w L S rb vs hargs).mono ?_⟩
  rintro e w' ⟨v, r, rfl, hg, h1, h2⟩
  exact ⟨v, r, S, rfl, hg.mono (fun _ h => h.elim), fun _ h => h, fun _ h => .inl h, fun b hb => ((hr b hb).2.moved hg (fun h => h) (fun b hb => ⟨hb, fun h => h⟩)).less (by omega), h1, h2⟩

theorem pick_AC (n : Int) (h1 : n ≤ 1000000) (h2 : -1000000 ≤ n) : AC Try.prog 91 [.rdr, .int .i64 n] 1 (fun r => ∃ v, r = .int .i64 v ∧ Below' n v) := by
  refine ⟨enters_of Try.func91 (by kernel_rfl) (by kernel_rfl), fun w L S rb k vs _ hS hr hargs => ?_⟩
  unfold RepL at hargs
  obtain ⟨v, vs', rfl, q1, q2⟩ := hargs
  unfold RepL at q2
  obtain ⟨v', vs', rfl, q3, q4⟩ := q2
  unfold RepL at q4
  subst q4
  obtain ⟨b, hb, rfl⟩ := rep_rdr.1 q1
  rw [rep_int] at q3
  subst q3
  dsimp only [pureC] at hb
  subst hb
  obtain ⟨hnS, hok⟩ := hr b rfl
  obtain ⟨zs, p, a, c, k1, k2, k3, k4, k5, k6, k7, k8⟩ := hok
  refine (Go.Proofs.Ytmeobmegnneegaa.pick_ok b zs p n w ⟨⟨a, c, k2, k3.imp id (fun ⟨b', o, ha, hb, hc⟩ => ⟨b', o, ha, fun e => hnS (e ▸ hb), hc⟩)⟩, k4, k5, k6, k7, k8⟩ (by omega) h1 h2).mono ?_
  rintro e w' ⟨v, rfl, hv, hrd, hr', hs⟩
  refine ⟨_, .int .i64 v, S, rfl, hrd.mono (fun x hx => congrArg some hx.symm), fun _ h => h, fun _ h => .inl h, ?_, rep_int.2 rfl, v, rfl, hv⟩
  rintro x hx
  cases hx
  unfold Same0 at hs
  refine ⟨zs, p + 1, a, c, by omega, hs.trans k2, k3.imp id (fun ⟨b', o, ha, hb, hc⟩ => ⟨b', o, ha, hb, fun i hi => hrd.some (hc i hi) (fun e => hnS (e ▸ hb))⟩), hr'.at', hr'.fr, hr'.lt, hr'.len, k8⟩

def bytesE (zs : List Int) : List (List AV) := zs.map fun z => [.int .u8 z]

theorem newReader_ACN (zs : List Int) (k : Nat) (hl : zs.length ≤ 1048576) (hk : k ≤ 1000000) (hwf : ∀ z ∈ zs, 0 ≤ z ∧ z ≤ 255) : ACN Try.prog 89 [.view .loose 1 (bytesE zs)] k := by
  refine ⟨enters_of Try.func89 (by kernel_rfl) (by kernel_rfl), fun w L S vs _ hS hargs => ?_⟩
  unfold RepL at hargs
  obtain ⟨v, vs', rfl, q1, q2⟩ := hargs
  unfold RepL at q2
  subst q2
  obtain ⟨a, c, rfl, g1, g2, g3, g4, g5⟩ := rep_view.1 q1
  have hlen : (bytesE zs).length = zs.length := by unfold bytesE; rw [List.length_map]
  rw [hlen] at g2 ⊢
  have hcells : zs = [] ∨ ∃ b o, a = some ⟨b, o, none⟩ ∧ S b ∧ ∀ i (h : i < zs.length), w.cell? ⟨b, o + i, none⟩ = some (.int .u8 zs[i]) := by
    rcases g5 with g5 | ⟨b, o, ha, hb, hE⟩
    · left; unfold bytesE at g5; exact List.map_eq_nil_iff.1 g5
    · refine .inr ⟨b, o, ha, hb, fun i hi => ?_⟩
      have := (hE.get g4 (i := i) (e := [.int .u8 zs[i]]) (by unfold bytesE; rw [List.getElem?_map, List.getElem?_eq_getElem hi]; rfl)).get (i := 0) rfl
      obtain ⟨v, h1, h2, h3⟩ := this
      rw [rep_int] at h3
      subst h3
      simpa using h1
  refine (Go.Proofs.Ytmeobmegnneegaa.newReader_ok a c zs w hl g2 (hcells.imp id (fun ⟨b, o, h1, _, h2⟩ => ⟨b, o, h1, h2⟩)) hwf).mono ?_
  rintro e w' ⟨rb, zs', rfl, hge, hg, ⟨hr, c', hc'⟩, hnil⟩
  refine ⟨rb, rfl, hg, hge, zs', 0, a, c', by omega, hc', ?_, hr.at', hr.fr, hr.lt, hr.len, hr.wf⟩
  obtain ⟨a2, c2, h1, h2⟩ := hr.cells
  rw [hc'] at h1
  cases h1
  rcases hcells with h0 | ⟨b, o, ha, hb, _⟩
  · exact .inl (hnil h0)
  · refine h2.imp id ?_
    rintro ⟨b2, o2, ha2, _, hc2⟩
    rw [ha] at ha2
    cases ha2
    exact ⟨b, o, ha, hb, hc2⟩
end Go.Proofs.Ytmeobmegnneegaa.Eng

/-
  Ascending texts, and the walk of slices.BinarySearch at texts.
-/
namespace Go.Proofs.Ytmeobmegnneegaa
open Go.RowKit

def Asc (xs : List ByteArray) : Prop := ∀ i j (hi : i < xs.length) (hj : j < xs.length), i < j → lt xs[i] xs[j] = true

theorem namesFrom_asc : ∀ (p : Option ByteArray) (xs : List ByteArray), namesFrom p xs = true → Asc xs ∧ ∀ y, p = some y → ∀ i (h : i < xs.length), lt y xs[i] = true
  | p, [], _ => ⟨fun i j hi => absurd hi (by simp), fun y _ i h => absurd h (by simp)⟩
  | p, x :: r, h => by
    simp only [namesFrom, Bool.and_eq_true] at h
    obtain ⟨⟨_, h2⟩, h3⟩ := h
    obtain ⟨ha, hb⟩ := namesFrom_asc (some x) r h3
    have hb := hb x rfl
    refine ⟨fun i j hi hj hij => ?_, fun y hy i hi => ?_⟩
    · cases j with
      | zero => omega
      | succ j =>
        cases i with
        | zero => exact hb j (by simpa using hj)
        | succ i => exact ha i j (by simpa using hi) (by simpa using hj) (by omega)
    · subst hy
      simp only at h2
      cases i with
      | zero => exact h2
      | succ i => exact bl_trans _ _ _ h2 (hb i (by simpa using hi))

theorem namesB_asc {xs : List ByteArray} (h : namesB xs = true) : Asc xs := (namesFrom_asc none xs h).1

def lbound (xs : List ByteArray) (s : ByteArray) : Nat := xs.countP (fun x => lt x s)
def mem (xs : List ByteArray) (s : ByteArray) : Bool := xs.any fun x => decide (x = s)
theorem mem_iff {xs : List ByteArray} {s : ByteArray} : mem xs s = true ↔ s ∈ xs := by
  unfold mem; simp
theorem mem_no {xs : List ByteArray} {s : ByteArray} (h : ¬ s ∈ xs) : mem xs s = false := by
  cases h' : mem xs s
  · rfl
  · exact absurd (mem_iff.1 h') h
theorem lt_irr (x : ByteArray) : lt x x = false := bl_irrefl _

theorem lb_of {xs : List ByteArray} {s : ByteArray} {k : Nat} (hk : k ≤ xs.length) (h1 : ∀ t (h : t < xs.length), t < k → lt xs[t] s = true) (h2 : ∀ t (h : t < xs.length), k ≤ t → lt xs[t] s = false) : lbound xs s = k := by
  unfold lbound
  conv => lhs; rw [← List.take_append_drop k xs]
  rw [List.countP_append]
  have e1 : (xs.take k).countP (fun x => lt x s) = k := by
    rw [List.countP_eq_length.2, List.length_take, Nat.min_eq_left hk]
    intro a ha
    obtain ⟨i, hi, rfl⟩ := List.getElem_of_mem ha
    rw [List.getElem_take]
    exact h1 i (by simp at hi; omega) (by simp at hi; omega)
  have e2 : (xs.drop k).countP (fun x => lt x s) = 0 := by
    rw [List.countP_eq_zero]
    intro a ha
    obtain ⟨i, hi, rfl⟩ := List.getElem_of_mem ha
    rw [List.getElem_drop]
    simpa using h2 (k + i) (by simp at hi; omega) (by omega)
  omega

theorem lb_end {xs : List ByteArray} {s : ByteArray} {k : Nat} (ha : Asc xs) (hk : k ≤ xs.length) (h1 : ∀ t (h : t < xs.length), t < k → lt xs[t] s = true) (h2 : ∀ t (h : t < xs.length), k ≤ t → lt xs[t] s = false) :
    lbound xs s = k ∧ (∀ h : k < xs.length, mem xs s = decide (xs[k] = s)) ∧ (¬ k < xs.length → mem xs s = false) := by
  refine ⟨lb_of hk h1 h2, fun h => ?_, fun h => ?_⟩
  · by_cases e : xs[k] = s
    · have : s ∈ xs := e ▸ List.getElem_mem h
      rw [mem_iff.2 this]; simp [e]
    · have : ¬ s ∈ xs := by
        intro hm
        obtain ⟨i, hi, rfl⟩ := List.getElem_of_mem hm
        rcases Nat.lt_trichotomy i k with h' | h' | h'
        · have := h1 i hi h'; rw [lt_irr] at this; cases this
        · subst h'; exact e rfl
        · have := ha k i h hi h'; have := h2 k h (Nat.le_refl _); simp_all
      rw [mem_no this]; simp [e]
  · have : ¬ s ∈ xs := by
      intro hm
      obtain ⟨i, hi, rfl⟩ := List.getElem_of_mem hm
      have := h1 i hi (by omega); rw [lt_irr] at this; cases this
    exact mem_no this

end Go.Proofs.Ytmeobmegnneegaa
