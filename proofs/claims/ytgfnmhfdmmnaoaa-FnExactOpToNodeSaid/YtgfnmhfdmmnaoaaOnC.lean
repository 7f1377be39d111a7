/-
  Texts of this claim, joined.
-/
import Derived.Still
import Derived.LoopN
import Derived.Laws.CopyRow
import Derived.Laws.IdiomCopy
import Derived.Test.YtgfnmhfdmmnaoaaOnB

set_option linter.unusedSimpArgs false
set_option linter.unusedVariables false
set_option linter.unnecessarySimpa false
set_option maxRecDepth 100000
set_option maxHeartbeats 16000000
namespace Go.Proofs.Ytgfnmhfdmmnaoaa.Eng
open Go Go.RowKit
abbrev Pc := (Nat → List AV → Option Nat × (AV → Prop)) × List Nat
def Con (P : Program) (Av : Nat → Prop) (f : FuncId) (args : List AV) (q : Option Nat × (AV → Prop)) (s : ASt) : Prop :=
  match q.1 with
  | some c => ACV P Av f args c q.2 ∧ s.can c
  | none => AC0 P f args q.2 ∧ s.rd = none
def ASt.payO (s : ASt) (q : Option Nat) : ASt := s.pay (q.getD 0)
def adr (P : Program) (T : Tab) (md : List Nat) (Av : Nat → Prop) (pc : Pc) (i : Nat) (o : Oper) (s : ASt) (K : ASt → Prop) : Prop :=
  match acall o.op with
  | some (f, xs) => Con P Av f (xs.map (aev s)) (pc.1 i (xs.map (aev s))) s ∧ (∀ x ∈ xs, Clo (aev s x)) ∧ (∃ r, (pc.1 i (xs.map (aev s))).2 r ∧ NoId r) ∧ ∀ r, (pc.1 i (xs.map (aev s))).2 r → NoId r → K ((s.payO (pc.1 i (xs.map (aev s))).1).put o.dst r)
  | none => match ado T true md o s with
    | some (v, s') => K (s'.put o.dst v)
    | none => False
def astp0 (P : Program) (T : Tab) (md : List Nat) (Av : Nat → Prop) (pc : Pc) (ops : Array Oper) (i : Nat) (o : Oper) (K : ASt → Prop) (s : ASt) : Prop :=
  match awant ops o s with
  | some true => adr P T md Av pc i o s K
  | some false => K (s.put o.dst (.tup []))
  | none => False
def spc (P : Program) (o : Oper) (s : ASt) (K : ASt → Prop) : Prop :=
  match acall o.op with
  | none => False
  | some (f, xs) => ∃ d args c Post0 Post, o.dst = some d ∧ LndL s.rows (xs.map (aev s)) args ∧ ACR P f args c Post0 Post ∧ s.can c ∧ s.used d = false ∧ (∃ r, Post0 r ∧ NoId r) ∧
      (∀ r, Post0 r → NoId r → K ((s.pay c).put o.dst r)) ∧ ∀ r R, Post r R → RIn d r R → K (((s.pay c).add d R).put o.dst (r d))
def astS (P : Program) (ops : Array Oper) (o : Oper) (K : ASt → Prop) (s : ASt) : Prop :=
  match awant ops o s with
  | some true => spc P o s K
  | some false => K (s.put o.dst (.tup []))
  | none => False
def BackIn (l' : List (Nat × Row)) (r' : AV) : Prop := AV.In (fun id => (rowsOf l' id).isSome) r' ∧ ∀ p ∈ l', ∀ e ∈ p.2.es, ∀ c ∈ e, AV.In (fun id => (rowsOf l' id).isSome) c
def gspc (P : Program) (Av : Nat → Prop) (o : Oper) (s : ASt) (K : ASt → Prop) : Prop :=
  match acall o.op with
  | none => False
  | some (f, xs) => ∃ args rows0 c Post ν, ACGV P Av f args rows0 c Post ∧ (∀ k ∈ rows0.map (·.1), ∀ k' ∈ rows0.map (·.1), ν k = ν k' → k = k') ∧ MvR s.rows (rows0.map (·.1)) ν rows0 ∧ MvL s.rows (rows0.map (·.1)) ν (xs.map (aev s)) args ∧ s.can c ∧
      (∃ r l, Post r l) ∧ ∀ r l, Post r l → ∃ μ l' r', Back s rows0 ν μ l l' r r' ∧ BackIn l' r' ∧ K ((s.back rows0 ν c l').put o.dst r')
def astG (P : Program) (Av : Nat → Prop) (ops : Array Oper) (o : Oper) (K : ASt → Prop) (s : ASt) : Prop :=
  match awant ops o s with
  | some true => gspc P Av o s K
  | some false => K (s.put o.dst (.tup []))
  | none => False
def FreshD (Av : Nat → Prop) (ls : List Nat) (s : ASt) (d : Nat) (l : List Nat) : Prop := ∀ b ∈ l, ¬ Av b ∧ ∀ t c, ls.contains (10000 + t) = true → t ≠ d → s.tmps[t]? = some c → b ∉ atB c
def OpL (ls : List Nat) (s : ASt) (o : Oper) (d b : Nat) : Prop := ∃ t, Operand.tmp t ∈ o.op.operands.toList ∧ ls.contains (10000 + t) = true ∧ t ≠ d ∧ b ∈ atB (aev s (.tmp t))
def FOp (P : Program) (T : Tab) (pc : Pc) (i : Nat) (o : Oper) (s : ASt) (Post : AV → List Nat → Prop) : Prop :=
  match acall o.op with
  | some (f, xs) => (∀ A : Nat → Prop, ACV P A f (xs.map (aev s)) 0 (fun r => (pc.1 i (xs.map (aev s))).2 r ∧ ∀ b ∈ atB r, ¬ A b)) ∧ (∀ x ∈ xs, Clo (aev s x)) ∧ Post = (fun r l => (pc.1 i (xs.map (aev s))).2 r ∧ l = atB r)
  | none => match o.op with
    | .buildSlice ty n ps => ∃ sz es, abuildSlice T ty n (aps s ps) = some (.view .tight sz es) ∧ Post = (fun r l => ∃ g, r = .view (.fr g) sz es ∧ l = frB (.fr g) es.isEmpty)
    | _ => False
def fspc (P : Program) (T : Tab) (Av : Nat → Prop) (pc : Pc) (i : Nat) (o : Oper) (s : ASt) (K : ASt → Prop) : Prop :=
  ∃ d Post, o.dst = some d ∧ pc.2.contains (10000 + d) = true ∧ (∃ x, s.tmps[d]? = some x ∧ atB x = []) ∧ FOp P T pc i o s Post ∧ (∀ L : List Nat, ∃ r l, Post r l ∧ NoId r ∧ ∀ b ∈ l, b ∉ L ∧ ¬ Av b) ∧
    (∀ r l, Post r l → (∀ b ∈ l, b ∈ atB r) ∧ ∀ b ∈ atB r, b ∈ l ∨ OpL pc.2 s o d b) ∧ ∀ r l, Post r l → NoId r → FreshD Av pc.2 s d l → K (s.put (some d) r)
def astF (P : Program) (T : Tab) (Av : Nat → Prop) (pc : Pc) (ops : Array Oper) (i : Nat) (o : Oper) (K : ASt → Prop) (s : ASt) : Prop :=
  match awant ops o s with
  | some true => fspc P T Av pc i o s K
  | _ => False
theorem pay0_eq (s : ASt) : s.pay 0 = s := by
  cases s with
  | mk a b c d => cases d <;> rfl
theorem freshD_of {Av : Nat → Prop} {ls : List Nat} {s : ASt} {d : Nat} {l : List Nat} (h : ∀ b ∈ l, b ∉ atL s.tmps ∧ ¬ Av b) : FreshD Av ls s d l := fun b hb => ⟨(h b hb).2, fun t c _ _ hc hbc => (h b hb).1 (atL_mem.2 ⟨c, List.mem_of_getElem? hc, hbc⟩)⟩
def astp (P : Program) (T : Tab) (md : List Nat) (Av : Nat → Prop) (pc : Pc) (ops : Array Oper) (i : Nat) (o : Oper) (K : ASt → Prop) (s : ASt) : Prop :=
  if pc.2.contains (1000 + i) then astG P Av ops o K s else if pc.2.contains i then (if pc.2.contains (2000 + i) then astF P T Av pc ops i o K s else astS P ops o K s) else astp0 P T md Av pc ops i o K s
theorem kill_put {s : ASt} {d : Option Tmp} {u : AV} {id : Nat} : (s.put d u).kill id = (s.kill id).put d u := by cases d <;> rfl
theorem killL_put {d : Option Tmp} {u : AV} : ∀ {l : List Nat} {s : ASt}, ASt.killL l (s.put d u) = (ASt.killL l s).put d u
  | [], s => rfl
  | k :: l, s => by unfold ASt.killL; rw [kill_put]; exact killL_put
theorem addL_put {d : Option Tmp} {u : AV} : ∀ {l : List (Nat × Row)} {s : ASt}, ASt.addL l (s.put d u) = (ASt.addL l s).put d u
  | [], s => rfl
  | p :: l, s => by unfold ASt.addL; rw [addL_put]; cases d <;> rfl
theorem back_put {s : ASt} {d : Option Tmp} {u : AV} {rows0 : List (Nat × Row)} {ν : Nat → Nat} {c : Nat} {l' : List (Nat × Row)} : (s.put d u).back rows0 ν c l' = (s.back rows0 ν c l').put d u := by
  unfold ASt.back
  rw [pay_put, killL_put, addL_put]
theorem Inv.back {s : ASt} (h : Inv s) {rows0 : List (Nat × Row)} {ν : Nat → Nat} {c : Nat} {l' : List (Nat × Row)} {r' : AV} (hb : BackIn l' r') {d : Option Tmp} : Inv ((s.back rows0 ν c l').put d r') := by
  have hu : ∀ id, (s.back rows0 ν c l').used id = (s.used id || (rowsOf l' id).isSome) := fun id => by
    unfold ASt.back; rw [addL_used]; congr 1; exact congrFun (killL_rest _ (s.pay c)).2.1 id
  have hm : ∀ k, s.used k = true → (s.back rows0 ν c l').used k = true := fun k hk => by rw [hu, hk]; rfl
  have hm2 : ∀ k, (rowsOf l' k).isSome = true → (s.back rows0 ν c l').used k = true := fun k hk => by rw [hu, hk]; simp
  refine Inv.put ⟨fun x hx => ?_, fun k r hr => ?_⟩ (hb.1.mono hm2)
  · have e : (s.back rows0 ν c l').tmps = s.tmps := (addL_rest l' _).1.trans (killL_rest _ (s.pay c)).1
    rw [e] at hx
    exact (h.tm x hx).mono hm
  · unfold ASt.back at hr
    rw [addL_rows, killL_rows] at hr
    cases hl : rowsOf l' k with
    | some R =>
      rw [hl] at hr
      have e : R = r := by simpa using hr
      subst e
      exact ⟨hm2 k (by rw [hl]; rfl), fun e he x hx => (hb.2 (k, R) (rowsOf_some hl) e he x hx).mono hm2⟩
    | none =>
      rw [hl] at hr
      dsimp only at hr
      split at hr
      · cases hr
      · obtain ⟨q1, q2⟩ := h.rw k r hr
        exact ⟨hm k q1, fun e he x hx => (q2 e he x hx).mono hm⟩
theorem add_put {s : ASt} {d : Option Tmp} {u : AV} {id : Nat} {R : Row} : (s.put d u).add id R = (s.add id R).put d u := by cases d <;> rfl
theorem app_add {s : ASt} {δ : Option Dl} {id : Nat} {R : Row} (h : ∀ x, δ = some x → x.id ≠ id) : (s.add id R).app δ = (s.app δ).add id R := by
  cases δ with
  | none => rfl
  | some x =>
    have hne := h x rfl
    simp only [ASt.app, ASt.add]
    congr 1
    · exact upd_comm _ _ _ (Ne.symm hne)
    · cases x.nw <;> simp
      exact upd_comm _ _ _ (Ne.symm hne)
theorem Inv.addR {s : ASt} (h : Inv s) {id : Nat} {r : Nat → AV} {R : Row} (hin : RIn id r R) {d : Option Tmp} {c : Nat} : Inv (((s.pay c).add id R).put d (r id)) := by
  have hm : ∀ k, s.used k = true → ((s.pay c).add id R).used k = true := fun k hk => by
    simp only [ASt.add, ASt.pay, upd]
    split
    · rfl
    · exact hk
  refine Inv.put (s := (s.pay c).add id R) ⟨fun x hx => (h.tm x hx).mono hm, fun k r' hr => ?_⟩ (hin.1.mono (fun k hk => ?_))
  · simp only [ASt.add, ASt.pay, upd] at hr
    split at hr
    · rename_i e
      cases hr
      exact ⟨by simp [ASt.add, upd, e], fun e he x hx => (hin.2 e he x hx).mono (fun _ h => by cases h)⟩
    · obtain ⟨q1, q2⟩ := h.rw k r' hr
      exact ⟨hm k q1, fun e he x hx => (q2 e he x hx).mono hm⟩
  · simp only [beq_iff_eq] at hk
    subst hk
    simp [ASt.add, upd]
def astep (P : Program) (T : Tab) (md : List Nat) (Av : Nat → Prop) (pc : Pc) (ops : Array Oper) (i : Nat) (K : ASt → Prop) (s : ASt) : Prop :=
  match ops[i]? with
  | none => K s
  | some o => astp P T md Av pc ops i o K s
def arunD (P : Program) (T : Tab) (md : List Nat) (Av : Nat → Prop) (pc : Pc) (ops : Array Oper) (K : ASt → Prop) : List Oper → Nat → ASt → Prop
  | [], _, s => K s
  | o :: l, k, s => astp P T md Av pc ops k o (arunD P T md Av pc ops K l (k + 1)) s
def aAny (P : Program) (T : Tab) (md : List Nat) (Av : Nat → Prop) (pc : Pc) (ops : Array Oper) (K : ASt → Prop) : Nat → Array Bool → ASt → Prop
  | 0, listed, s => Region.ready .any ops listed = [] ∧ K s
  | fuel + 1, listed, s => (Region.ready .any ops listed = [] → K s) ∧ ∀ i ∈ Region.ready .any ops listed, astep P T md Av pc ops i (aAny P T md Av pc ops K fuel (listed.setIfInBounds i true)) s
section
variable {P : Program} {w0 : W0} {S0 : Nat → Prop} {rd0 : Option Nat} {k0 : Nat} {T : Tab} {ops : Array Oper} {md : List Nat} {Av : Nat → Prop} {pc : Pc}
theorem astp0_mono {i : Nat} {o : Oper} {K K' : ASt → Prop} {s : ASt} (hI : Inv s) (h : ∀ s, Inv s → K s → K' s) (hh : astp0 P T md Av pc ops i o K s) : astp0 P T md Av pc ops i o K' s := by
  unfold astp0 at *
  split at hh
  · unfold adr at *
    split at hh
    · exact ⟨hh.1, hh.2.1, hh.2.2.1, fun r hr hn => h _ (Inv.put (s := s.payO _) ⟨hI.tm, hI.rw⟩ (hn.mono (fun _ h => by cases h))) (hh.2.2.2 r hr hn)⟩
    · split at hh
      · rename_i v s' hd
        obtain ⟨k1, k2⟩ := ado_in hI hd
        exact h _ (k2.put k1) hh
      · exact hh
  · exact h _ (hI.put (in_tup.2 (fun c hc => by cases hc))) hh
  · exact hh
theorem astF_mono {i : Nat} {o : Oper} {K K' : ASt → Prop} {s : ASt} (hI : Inv s) (h : ∀ s, Inv s → K s → K' s) (hh : astF P T Av pc ops i o K s) : astF P T Av pc ops i o K' s := by
  unfold astF at *
  split at hh
  · obtain ⟨d, Post, h1, h2, h3, h4, h6, h7, h8⟩ := hh
    exact ⟨d, Post, h1, h2, h3, h4, h6, h7, fun r l hp hn hf => h _ (Inv.put hI (hn.mono (fun _ h => by cases h))) (h8 r l hp hn hf)⟩
  · exact hh.elim
theorem astp_mono {i : Nat} {o : Oper} {K K' : ASt → Prop} {s : ASt} (hI : Inv s) (h : ∀ s, Inv s → K s → K' s) (hh : astp P T md Av pc ops i o K s) : astp P T md Av pc ops i o K' s := by
  unfold astp at *
  split
  · rename_i hi
    rw [if_pos hi] at hh
    unfold astG at *
    split at hh
    · unfold gspc at *
      split at hh
      · exact hh
      · obtain ⟨args, rows0, c, Post, ν, h1, h2, h3, h4, h5, h6, h7⟩ := hh
        refine ⟨args, rows0, c, Post, ν, h1, h2, h3, h4, h5, h6, fun r l hp => ?_⟩
        obtain ⟨μ, l', r', q1, q2, q3⟩ := h7 r l hp
        exact ⟨μ, l', r', q1, q2, h _ (hI.back q2) q3⟩
    · exact h _ (hI.put (in_tup.2 (fun c hc => by cases hc))) hh
    · exact hh
  rename_i hg
  rw [if_neg hg] at hh
  split
  · rename_i hi
    rw [if_pos hi] at hh
    split
    · rename_i hf
      rw [if_pos hf] at hh
      exact astF_mono hI h hh
    rename_i hf
    rw [if_neg hf] at hh
    unfold astS at *
    split at hh
    · unfold spc at *
      split at hh
      · exact hh
      · obtain ⟨d, args, c, Post0, Post, h1, h2, h3, h4, h5, h6, h7, h8⟩ := hh
        exact ⟨d, args, c, Post0, Post, h1, h2, h3, h4, h5, h6, fun r q1 q2 => h _ (Inv.put (s := s.pay _) ⟨hI.tm, hI.rw⟩ (q2.mono (fun _ h => by cases h))) (h7 r q1 q2), fun r R q1 q2 => h _ (hI.addR q2) (h8 r R q1 q2)⟩
    · exact h _ (hI.put (in_tup.2 (fun c hc => by cases hc))) hh
    · exact hh
  · rename_i hi
    rw [if_neg hi] at hh
    exact astp0_mono hI h hh
theorem astep_mono {i : Nat} {K K' : ASt → Prop} {s : ASt} (hI : Inv s) (h : ∀ s, Inv s → K s → K' s) (hh : astep P T md Av pc ops i K s) : astep P T md Av pc ops i K' s := by
  unfold astep at *
  split
  · rename_i ho; simp only [ho] at hh; exact h _ hI hh
  · rename_i o ho; simp only [ho] at hh; exact astp_mono hI h hh
theorem astep_some {i : Nat} {K : ASt → Prop} {s : ASt} (hI : Inv s) (h : astep P T md Av pc ops i K s) : ∃ t, Inv t ∧ K t := by
  unfold astep at h
  split at h
  · exact ⟨s, hI, h⟩
  · unfold astp at h
    split at h
    · unfold astG at h
      split at h
      · unfold gspc at h
        split at h
        · exact h.elim
        · obtain ⟨args, rows0, c, Post, ν, _, _, _, _, _, ⟨r, l, hp⟩, h7⟩ := h
          obtain ⟨μ, l', r', q1, q2, q3⟩ := h7 r l hp
          exact ⟨_, hI.back q2, q3⟩
      · exact ⟨_, hI.put (in_tup.2 (fun c hc => by cases hc)), h⟩
      · exact h.elim
    split at h
    · split at h
      · unfold astF at h
        split at h
        · obtain ⟨d, Post, h1, h2, h3, h4, h6, h7, h8⟩ := h
          obtain ⟨r, l, q1, q2, q3⟩ := h6 (atL s.tmps)
          exact ⟨_, Inv.put hI (q2.mono (fun _ h => by cases h)), h8 r l q1 q2 (freshD_of q3)⟩
        · exact h.elim
      unfold astS at h
      split at h
      · unfold spc at h
        split at h
        · exact h.elim
        · obtain ⟨d, args, c, Post0, Post, _, _, _, _, _, ⟨r0, hr0, hn0⟩, h7, _⟩ := h
          exact ⟨_, Inv.put (s := s.pay _) ⟨hI.tm, hI.rw⟩ (hn0.mono (fun _ h => by cases h)), h7 r0 hr0 hn0⟩
      · exact ⟨_, hI.put (in_tup.2 (fun c hc => by cases hc)), h⟩
      · exact h.elim
    unfold astp0 at h
    split at h
    · unfold adr at h
      split at h
      · obtain ⟨h1, h2, ⟨r, h3, h4⟩, h5⟩ := h
        exact ⟨_, Inv.put (s := s.payO _) ⟨hI.tm, hI.rw⟩ (h4.mono (fun _ h => by cases h)), h5 r h3 h4⟩
      · split at h
        · rename_i v s' hd
          obtain ⟨k1, k2⟩ := ado_in hI hd
          exact ⟨_, k2.put k1, h⟩
        · exact h.elim
    · exact ⟨_, hI.put (in_tup.2 (fun c hc => by cases hc)), h⟩
    · exact h.elim
theorem fspc_ok (hT : Tab.Ok P T) (hA : ∀ b, Av b → w0.A b) {i : Nat} {o : Oper} {K : ASt → Prop} {K' : Act → World → Prop} {Q' : Exit → Act → World → Prop} {w : World} {a : Act} {s : ASt} {ρ : Cx} (hS : SR P w0 S0 rd0 k0 w a s ρ)
    (h : ∀ s w a ρ, SR P w0 S0 rd0 k0 w a s ρ → K s → K' a w) (hh : fspc P T Av pc i o s K) : o.wp P a w K' Q' := by
  obtain ⟨d, Post, h1, h2, h3, h4, h6, h7, h8⟩ := hh
  unfold FOp at h4
  split at h4
  · rename_i f xs ha
    obtain ⟨k1, k2, rfl⟩ := h4
    refine callV_ok (SR.noted hS (l := atL s.tmps) hS.atL_lt) ha (A := fun b => b ∈ atL s.tmps ∨ Av b) (fun b hb => hb.elim .inr (fun h => .inl (hA b h))) (k1 _) (lendL_ops k2) (fun _ _ => Nat.zero_le _) (fun r v w' ρ' hp hn hs => ?_)
    have := h8 r (atB r) ⟨hp.1, rfl⟩ hn (freshD_of fun b hb => ⟨fun h => hp.2 b hb (.inl h), fun h => hp.2 b hb (.inr h)⟩)
    rw [← h1] at this
    rw [pay0_eq] at hs
    exact h _ _ _ _ (SR.unnoted hs) this
  · split at h4
    · rename_i ty n ps ho
      obtain ⟨sz, es, k1, rfl⟩ := h4
      obtain ⟨r, w', ρ', q0, q1, q2, q3⟩ := buildSliceF_ok hT hS (aps_rep hS ps.toList) k1
      have hn : NoId (.view (.fr w.heap.size) sz es) := by
        obtain ⟨r', l', ⟨g, rfl, _⟩, q5, _⟩ := h6 []
        exact in_view.2 (in_view.1 q5)
      have := h8 _ _ ⟨_, rfl, rfl⟩ hn (freshD_of fun b hb => by
        rw [frB_fr] at hb
        split at hb
        · cases hb
        · rw [List.mem_singleton] at hb
          subst hb
          exact ⟨fun hb' => by have := hS.atL_lt _ hb'; omega, fun h => by have := hS.av _ (hA _ h); omega⟩)
      rw [← h1] at this
      refine leaves_wp ⟨r, w', ρ', .inl ?_, q2, q3⟩ (fun v w' ρ' hs => h _ _ _ _ hs this)
      have q : (ps.map fun (p : Nat × Operand) => (p.1, a.eval p.2)) = (ps.toList.map fun p => (p.1, a.eval p.2)).toArray := by apply Array.ext'; simp
      unfold execOp
      rw [ho]
      dsimp only
      rw [q, Sem.run_bind, q1]; rfl
    · exact h4.elim
theorem wpOp_of_astep (hT : Tab.Ok P T) (hA : ∀ b, Av b → w0.A b) {i : Nat} {K : ASt → Prop} {K' : Act → World → Prop} {Q' : Exit → Act → World → Prop} {w : World} {a : Act} {s : ASt} {ρ : Cx} (hS : SR P w0 S0 rd0 k0 w a s ρ)
    (h : ∀ s w a ρ, SR P w0 S0 rd0 k0 w a s ρ → K s → K' a w) (hh : astep P T md Av pc ops i K s) : wpOp P ops Q' i K' a w := by
  unfold astep at hh
  unfold wpOp
  split
  · rename_i ho; simp only [ho] at hh; exact h _ _ _ _ hS hh
  · rename_i o ho
    simp only [ho] at hh
    unfold astp at hh
    split at hh
    · unfold astG at hh
      split at hh
      · rename_i hw
        rw [if_pos (awant_ok hS hw)]
        refine .inl ?_
        unfold gspc at hh
        split at hh
        · exact hh.elim
        · rename_i f xs ha
          obtain ⟨args, rows0, c, Post, ν, h1, h2, h3, h4, h5, _, h7⟩ := hh
          refine callGV_ok hS ha hA h1 ν h2 h3 h4 h5 (fun r l v w' hp hs => ?_)
          obtain ⟨μ, l', r', q1, q2, q3⟩ := h7 r l hp
          obtain ⟨ρ', q4⟩ := hs μ l' r' q1
          exact h _ _ _ _ q4 q3
      · rename_i hw
        rw [awant_ok hS hw, if_neg (by simp)]
        exact h _ _ _ _ (hS.putS o.dst rep_undef) hh
      · exact hh.elim
    split at hh
    · split at hh
      · unfold astF at hh
        split at hh
        · rename_i hw
          rw [if_pos (awant_ok hS hw)]
          exact .inl (fspc_ok hT hA hS h hh)
        · exact hh.elim
      unfold astS at hh
      split at hh
      · rename_i hw
        rw [if_pos (awant_ok hS hw)]
        refine .inl ?_
        unfold spc at hh
        split at hh
        · exact hh.elim
        · rename_i f xs ha
          obtain ⟨d, args, c, Post0, Post, h1, h2, h3, h4, h5, h6, h7, h8⟩ := hh
          exact callR_ok hS ha h3 h2.lend h4 h5 (fun r v w' ρ' hp hn hs => h _ _ _ _ hs (h7 r hp hn)) (fun r R v w' ρ' hp hn hs => h _ _ _ _ hs (h8 r R hp hn))
      · rename_i hw
        rw [awant_ok hS hw, if_neg (by simp)]
        exact h _ _ _ _ (hS.putS o.dst rep_undef) hh
      · exact hh.elim
    unfold astp0 at hh
    split at hh
    · rename_i hw
      rw [if_pos (awant_ok hS hw)]
      refine .inl ?_
      unfold adr at hh
      split at hh
      · rename_i f xs ha
        obtain ⟨h1, h2, _, h3⟩ := hh
        generalize pc.1 i (xs.map (aev s)) = q at *
        obtain ⟨qc, Post⟩ := q
        unfold Con at h1
        cases qc with
        | some c => exact callV_ok hS ha hA h1.1 (lendL_ops h2) h1.2 (fun r v w' ρ' hp hn hs => h _ _ _ _ hs (h3 r hp hn))
        | none =>
          refine call0_ok hS ha h1.1 (lendL_ops h2) h1.2 (fun r v w' ρ' hp hn hs => h _ _ _ _ hs ?_)
          have e1 : s.pay 0 = s := by cases s; simp only [ASt.pay] at *; rw [h1.2]; rfl
          have := h3 r hp hn
          simp only [ASt.payO, Option.getD_none, e1] at this
          exact this
      · split at hh
        · rename_i v s' hd
          exact leaves_wp (ado_ok hT hS hd) (fun v w' ρ' hs => h _ _ _ _ hs hh)
        · exact hh.elim
    · rename_i hw
      rw [awant_ok hS hw, if_neg (by simp)]
      exact h _ _ _ _ (hS.putS o.dst rep_undef) hh
    · exact hh.elim
theorem wpAny_of_aAny (hT : Tab.Ok P T) (hA : ∀ b, Av b → w0.A b) {K : ASt → Prop} {Q : Exit → Act → World → Prop} (hQ : ∀ s w a ρ, SR P w0 S0 rd0 k0 w a s ρ → K s → Q .normal a w) :
    ∀ (fuel : Nat) (listed : Array Bool) (s : ASt) (w : World) (a : Act) (ρ : Cx), SR P w0 S0 rd0 k0 w a s ρ → aAny P T md Av pc ops K fuel listed s → wpAny P .any ops Q fuel listed a w
  | 0, _, _, _, _, _, hS, h => ⟨h.1, hQ _ _ _ _ hS h.2⟩
  | fuel + 1, _, _, _, _, _, hS, h => ⟨fun h0 => hQ _ _ _ _ hS (h.1 h0), fun i hi => wpOp_of_astep hT hA hS (fun s w a ρ hs hk => wpAny_of_aAny hT hA hQ fuel _ s w a ρ hs hk) (h.2 i hi)⟩
theorem acall_args {o : Oper} {f : FuncId} {xs : List Operand} (h : acall o.op = some (f, xs)) {x : Operand} (hx : x ∈ xs) : x ∈ o.op.operands := by
  unfold acall at h
  split at h
  · rename_i f' args tys ho
    cases h
    rw [ho]
    simp only [Op.operands, Call.operands, Array.mem_append]
    exact .inr (by simpa using hx)
  · cases h
theorem exch0 {i j : Nat} {oi oj : Oper} (hap : oi.apart ops oj = true) (hcp : compat md oi oj = true) {K : ASt → Prop} {s : ASt} (hI : Inv s)
    (h : astp0 P T md Av pc ops i oi (fun s' => astp0 P T md Av pc ops j oj K s') s) : astp0 P T md Av pc ops j oj (fun s' => astp0 P T md Av pc ops i oi K s') s := by
  obtain ⟨p1, p2, p3⟩ := Oper.apart_spec hap
  have wj : ∀ (t : ASt) (v : AV), awant ops oj (t.put oi.dst v) = awant ops oj t := fun t v => awant_put p1
  have wi : ∀ (t : ASt) (v : AV), awant ops oi (t.put oj.dst v) = awant ops oi t := fun t v => awant_put p3
  have vj : ∀ (t : ASt) (v : AV), ∀ x ∈ oj.op.operands, aev (t.put oi.dst v) x = aev t x := fun t v x hx => aev_put (fun u hu e => p1 u hu (looks_mem hx e))
  have vi : ∀ (t : ASt) (v : AV), ∀ x ∈ oi.op.operands, aev (t.put oj.dst v) x = aev t x := fun t v x hx => aev_put (fun u hu e => p3 u hu (looks_mem hx e))
  have p2' : ∀ t, oj.dst = some t → oi.dst ≠ some t := fun t h1 h2 => p2 t h2 h1
  have wapp : ∀ (t : ASt) (δ : Option Dl) (o : Oper), awant ops o (t.app δ) = awant ops o t := fun t δ o => by cases δ <;> rfl
  have wpay : ∀ (t : ASt) (c : Option Nat) (o : Oper), awant ops o (t.payO c) = awant ops o t := fun t c o => rfl
  have vapp : ∀ (t : ASt) (δ : Option Dl) (x : Operand), aev (t.app δ) x = aev t x := fun t δ x => by cases δ <;> cases x <;> rfl
  have vpay : ∀ (t : ASt) (c : Option Nat) (x : Operand), aev (t.payO c) x = aev t x := fun t c x => by cases x <;> rfl
  have rput : ∀ (t : ASt) (d : Option Tmp) (v : AV), (t.put d v).rows = t.rows ∧ (t.put d v).used = t.used ∧ (t.put d v).rd = t.rd := fun t d v => by cases d <;> exact ⟨rfl, rfl, rfl⟩
  have rapp : ∀ (t : ASt) (δ : Option Dl), (t.app δ).rd = t.rd := fun t δ => by cases δ <;> rfl
  unfold astp0 at h ⊢
  cases hwi : awant ops oi s with
  | none => rw [hwi] at h; exact h.elim
  | some bi =>
    rw [hwi] at h
    cases bi with
    | false =>
      dsimp only at h
      rw [wj] at h
      cases hwj : awant ops oj s with
      | none => rw [hwj] at h; exact h.elim
      | some bj =>
        rw [hwj] at h
        cases bj with
        | false =>
          dsimp only at h ⊢
          rw [wi, hwi]
          dsimp only
          rw [put_comm p2'] ; exact h
        | true =>
          dsimp only at h ⊢
          try unfold adr at h
          try unfold adr
          cases ha : acall oj.op with
          | some q =>
            obtain ⟨f, xs⟩ := q
            rw [ha] at h
            dsimp only at h ⊢
            have hm : xs.map (aev (s.put oi.dst (.tup []))) = xs.map (aev s) := List.map_congr_left (fun x hx => vj _ _ x (acall_args ha hx))
            rw [hm] at h
            obtain ⟨h1, h2, h2', h3⟩ := h
            refine ⟨?_, fun x hx => by have := h2 x hx; rwa [vj _ _ x (acall_args ha hx)] at this, h2', fun r hr hn => ?_⟩
            · unfold Con ASt.can at h1 ⊢
              rw [(rput _ _ _).2.2] at h1; exact h1
            · rw [wi, wpay, hwi]
              dsimp only
              have := h3 r hr hn
              unfold ASt.payO at this ⊢
              rw [pay_put, put_comm p2] at this
              exact this
          | none =>
            rw [ha] at h
            dsimp only at h ⊢
            cases hd : ado T true md oj (s.put oi.dst (.tup [])) with
            | none => rw [hd] at h; exact h.elim
            | some q =>
              obtain ⟨cj, sj⟩ := q
              rw [hd] at h
              dsimp only at h
              obtain ⟨δ, e1, e2, e3⟩ := ado_loc hd
              have := e3 s (fun x hx => (vj _ _ x hx).symm) (fun id _ => by rw [(rput s oi.dst (.tup [])).1, (rput s oi.dst (.tup [])).2.1]; exact ⟨rfl, rfl⟩)
              rw [this]
              dsimp only
              rw [wi, wapp, hwi]
              dsimp only
              rw [e1, app_put, put_comm p2] at h
              exact h
    | true =>
      dsimp only at h
      try unfold adr at h
      cases hai : acall oi.op with
      | some q =>
        obtain ⟨f, xs⟩ := q
        rw [hai] at h
        dsimp only at h
        obtain ⟨h1, h2, ⟨r0, hr0, hn0⟩, h3⟩ := h
        generalize hqi : pc.1 i (xs.map (aev s)) = qi at *
        have wj' : ∀ r, awant ops oj ((s.payO qi.1).put oi.dst r) = awant ops oj s := fun r => by rw [wj, wpay]
        cases hwj : awant ops oj s with
        | none => have := h3 r0 hr0 hn0; rw [wj', hwj] at this; exact this.elim
        | some bj =>
          cases bj with
          | false =>
            dsimp only
            rw [wi, hwi]
            dsimp only
            try unfold adr
            rw [hai]
            dsimp only
            have hm : xs.map (aev (s.put oj.dst (.tup []))) = xs.map (aev s) := List.map_congr_left (fun x hx => vi _ _ x (acall_args hai hx))
            rw [hm, hqi]
            refine ⟨?_, fun x hx => by rw [vi _ _ x (acall_args hai hx)]; exact h2 x hx, ⟨r0, hr0, hn0⟩, fun r hr hn => ?_⟩
            · unfold Con ASt.can at h1 ⊢
              rw [(rput _ _ _).2.2]; exact h1
            · have := h3 r hr hn
              rw [wj', hwj] at this
              dsimp only at this
              unfold ASt.payO at this ⊢
              rw [pay_put, put_comm p2']
              exact this
          | true =>
            dsimp only
            try unfold adr
            cases haj : acall oj.op with
            | some q =>
              obtain ⟨g, ys⟩ := q
              dsimp only
              have hm : ∀ r, ys.map (aev ((s.payO qi.1).put oi.dst r)) = ys.map (aev s) := fun r => List.map_congr_left (fun x hx => by rw [vj _ _ x (acall_args haj hx), vpay])
              generalize hqj : pc.1 j (ys.map (aev s)) = qj
              have hj : ∀ r, qi.2 r → NoId r → Con P Av g (ys.map (aev s)) qj ((s.payO qi.1).put oi.dst r) ∧ (∀ x ∈ ys, Clo (aev s x)) ∧ (∃ u, qj.2 u ∧ NoId u) ∧ ∀ u, qj.2 u → NoId u → K ((((s.payO qi.1).put oi.dst r).payO qj.1).put oj.dst u) := fun r hr hn => by
                have := h3 r hr hn
                rw [wj', hwj] at this
                dsimp only at this
                try unfold adr at this
                rw [haj] at this
                dsimp only at this
                rw [hm, hqj] at this
                exact ⟨this.1, fun x hx => by have := this.2.1 x hx; rwa [vj _ _ x (acall_args haj hx), vpay] at this, this.2.2⟩
              obtain ⟨c1, c2, c2', _⟩ := hj r0 hr0 hn0
              refine ⟨?_, c2, c2', fun u hu hnu => ?_⟩
              · unfold Con ASt.can at c1 ⊢
                rw [(rput _ _ _).2.2] at c1
                unfold ASt.payO ASt.pay at c1
                split at c1
                · rename_i c hc
                  refine ⟨c1.1, fun k hk => ?_⟩
                  have := c1.2 (k - qi.1.getD 0) (by simp [hk])
                  omega
                · refine ⟨c1.1, ?_⟩
                  have := c1.2
                  simp only [Option.map_eq_none_iff] at this
                  exact this
              · rw [wi, wpay, hwi]
                dsimp only
                rw [hai]
                dsimp only
                have hm2 : xs.map (aev ((s.payO qj.1).put oj.dst u)) = xs.map (aev s) := List.map_congr_left (fun x hx => by rw [vi _ _ x (acall_args hai hx), vpay])
                rw [hm2, hqi]
                refine ⟨?_, fun x hx => by rw [vi _ _ x (acall_args hai hx), vpay]; exact h2 x hx, ⟨r0, hr0, hn0⟩, fun r hr hn => ?_⟩
                · have c3 := (hj r0 hr0 hn0).1
                  unfold Con ASt.can at h1 c3 ⊢
                  rw [(rput _ _ _).2.2] at c3 ⊢
                  unfold ASt.payO ASt.pay at c3 ⊢
                  split at h1
                  · rename_i c hc
                    refine ⟨h1.1, fun k hk => ?_⟩
                    simp only [Option.map_eq_some_iff] at hk
                    obtain ⟨k1, hk1, rfl⟩ := hk
                    have q1 := h1.2 k1 hk1
                    rw [hc] at c3
                    cases hqj1 : qj.1 with
                    | none => simpa using q1
                    | some d =>
                      rw [hqj1] at c3
                      have q2 := c3.2 (k1 - c) (by simp [hk1])
                      simp only [Option.getD_some]
                      omega
                  · refine ⟨h1.1, ?_⟩
                    rw [h1.2]; rfl
                · have := (hj r hr hn).2.2.2 u hu hnu
                  unfold ASt.payO at this ⊢
                  rw [pay_put, put_comm p2, pay_comm] at this
                  rw [pay_put]
                  exact this
            | none =>
              dsimp only
              have hj0 := h3 r0 hr0 hn0
              rw [wj', hwj] at hj0
              dsimp only at hj0
              try unfold adr at hj0
              rw [haj] at hj0
              dsimp only at hj0
              cases hd : ado T true md oj ((s.payO qi.1).put oi.dst r0) with
              | none => rw [hd] at hj0; exact hj0.elim
              | some q =>
                obtain ⟨cj, sj⟩ := q
                obtain ⟨δ, e1, e2, e3⟩ := ado_loc hd
                have hs := e3 s (fun x hx => by rw [vj _ _ x hx, vpay]) (fun id _ => by rw [(rput _ _ _).1, (rput _ _ _).2.1]; exact ⟨rfl, rfl⟩)
                rw [hs]
                dsimp only
                rw [wi, wapp, hwi]
                dsimp only
                rw [hai]
                dsimp only
                have hm2 : xs.map (aev ((s.app δ).put oj.dst cj)) = xs.map (aev s) := List.map_congr_left (fun x hx => by rw [vi _ _ x (acall_args hai hx), vapp])
                rw [hm2, hqi]
                refine ⟨?_, fun x hx => by rw [vi _ _ x (acall_args hai hx), vapp]; exact h2 x hx, ⟨r0, hr0, hn0⟩, fun r hr hn => ?_⟩
                · unfold Con ASt.can at h1 ⊢
                  rw [(rput _ _ _).2.2, rapp]; exact h1
                · have hj := h3 r hr hn
                  rw [wj', hwj] at hj
                  dsimp only at hj
                  try unfold adr at hj
                  rw [haj] at hj
                  dsimp only at hj
                  have hr2 := e3 ((s.payO qi.1).put oi.dst r) (fun x hx => by rw [vj _ _ x hx, vj _ _ x hx]) (fun id _ => by rw [(rput _ _ _).1, (rput _ _ _).2.1, (rput _ _ _).1, (rput _ _ _).2.1]; exact ⟨rfl, rfl⟩)
                  rw [hr2] at hj
                  dsimp only at hj
                  unfold ASt.payO at hj ⊢
                  rw [app_put, app_pay, put_comm p2] at hj
                  rw [pay_put]
                  exact hj
      | none =>
        rw [hai] at h
        dsimp only at h
        cases hdi : ado T true md oi s with
        | none => rw [hdi] at h; exact h.elim
        | some q =>
          obtain ⟨ci, si⟩ := q
          rw [hdi] at h
          dsimp only at h
          obtain ⟨δi, i1, i2, i3⟩ := ado_loc hdi
          rw [i1, wj, wapp] at h
          cases hwj : awant ops oj s with
          | none => rw [hwj] at h; exact h.elim
          | some bj =>
            rw [hwj] at h
            cases bj with
            | false =>
              dsimp only at h ⊢
              rw [wi, hwi]
              dsimp only
              try unfold adr
              rw [hai]
              dsimp only
              have := i3 (s.put oj.dst (.tup [])) (fun x hx => vi _ _ x hx) (fun id _ => by rw [(rput _ _ _).1, (rput _ _ _).2.1]; exact ⟨rfl, rfl⟩)
              rw [this]
              dsimp only
              rw [app_put, put_comm p2']
              exact h
            | true =>
              dsimp only at h ⊢
              try unfold adr at h
              try unfold adr
              cases haj : acall oj.op with
              | some q =>
                obtain ⟨g, ys⟩ := q
                rw [haj] at h
                dsimp only at h ⊢
                have hm : ys.map (aev ((s.app δi).put oi.dst ci)) = ys.map (aev s) := List.map_congr_left (fun x hx => by rw [vj _ _ x (acall_args haj hx), vapp])
                rw [hm] at h
                obtain ⟨h1, h2, h2', h3⟩ := h
                refine ⟨?_, fun x hx => by have := h2 x hx; rwa [vj _ _ x (acall_args haj hx), vapp] at this, h2', fun u hu hnu => ?_⟩
                · unfold Con ASt.can at h1 ⊢
                  rw [(rput _ _ _).2.2, rapp] at h1; exact h1
                · rw [wi, wpay, hwi]
                  dsimp only
                  rw [hai]
                  dsimp only
                  have := i3 ((s.payO (pc.1 j (ys.map (aev s))).1).put oj.dst u) (fun x hx => by rw [vi _ _ x hx, vpay]) (fun id _ => by rw [(rput _ _ _).1, (rput _ _ _).2.1]; exact ⟨rfl, rfl⟩)
                  rw [this]
                  dsimp only
                  have hk := h3 u hu hnu
                  unfold ASt.payO at hk ⊢
                  rw [pay_put, put_comm p2] at hk
                  rw [app_put, app_pay]
                  exact hk
              | none =>
                rw [haj] at h
                dsimp only at h ⊢
                cases hdj : ado T true md oj ((s.app δi).put oi.dst ci) with
                | none => rw [hdj] at h; exact h.elim
                | some q =>
                  obtain ⟨cj, sj⟩ := q
                  rw [hdj] at h
                  dsimp only at h
                  obtain ⟨δj, j1, j2, j3⟩ := ado_loc hdj
                  obtain ⟨A1, A2⟩ := apart_rows hI hcp p2 (fun x hx => by rw [vj _ _ x hx, vapp]) hdi i1 i2 hdj j2
                  have hs := j3 s (fun x hx => by rw [vj _ _ x hx, vapp]) (fun id hid => by
                    rw [(rput _ _ _).1, (rput _ _ _).2.1]
                    cases hq : δi with
                    | none => exact ⟨rfl, rfl⟩
                    | some d =>
                      have hne : id ≠ d.id := fun e => A1 d hq (e ▸ hid)
                      simp only [ASt.app]
                      refine ⟨(upd_ne _ _ hne).symm, ?_⟩
                      split
                      · exact (upd_ne _ _ hne).symm
                      · rfl)
                  rw [hs]
                  dsimp only
                  rw [wi, wapp, hwi]
                  dsimp only
                  rw [hai]
                  dsimp only
                  have ht := i3 ((s.app δj).put oj.dst cj) (fun x hx => by rw [vi _ _ x hx, vapp]) (fun id hid => by
                    rw [(rput _ _ _).1, (rput _ _ _).2.1]
                    cases hq : δj with
                    | none => exact ⟨rfl, rfl⟩
                    | some d =>
                      have hne : id ≠ d.id := fun e => A2 d hq (e ▸ hid)
                      simp only [ASt.app]
                      refine ⟨upd_ne _ _ hne, ?_⟩
                      split
                      · exact upd_ne _ _ hne
                      · rfl)
                  rw [ht]
                  dsimp only
                  have hdd : ∀ d e, δi = some d → δj = some e → d.id ≠ e.id := fun d e hd he heq => A1 d hd (by rw [heq]; exact (j2 e he).1)
                  rw [j1, app_put, put_comm p2, app_comm hdd] at h
                  rw [app_put]
                  exact h
theorem exchS1 {j : Nat} {oi oj : Oper} (hap : oi.apart ops oj = true) (hc : cls oj = 0 ∨ cls oj = 2) {K : ASt → Prop} {s : ASt} (hI : Inv s)
    (h : astS P ops oi (fun s' => astp0 P T md Av pc ops j oj K s') s) : astp0 P T md Av pc ops j oj (fun s' => astS P ops oi K s') s := by
  obtain ⟨p1, p2, p3⟩ := Oper.apart_spec hap
  have p2' : ∀ t, oj.dst = some t → oi.dst ≠ some t := fun t h1 h2 => p2 t h2 h1
  have wj : ∀ (t : ASt) (v : AV), awant ops oj (t.put oi.dst v) = awant ops oj t := fun t v => awant_put p1
  have wi : ∀ (t : ASt) (v : AV), awant ops oi (t.put oj.dst v) = awant ops oi t := fun t v => awant_put p3
  have vj : ∀ (t : ASt) (v : AV), ∀ x ∈ oj.op.operands, aev (t.put oi.dst v) x = aev t x := fun t v x hx => aev_put (fun u hu e => p1 u hu (looks_mem hx e))
  have vi : ∀ (t : ASt) (v : AV), ∀ x ∈ oi.op.operands, aev (t.put oj.dst v) x = aev t x := fun t v x hx => aev_put (fun u hu e => p3 u hu (looks_mem hx e))
  have rput : ∀ (t : ASt) (d : Option Tmp) (v : AV), (t.put d v).rows = t.rows ∧ (t.put d v).used = t.used ∧ (t.put d v).rd = t.rd := fun t d v => by cases d <;> exact ⟨rfl, rfl, rfl⟩
  have rapp : ∀ (t : ASt) (δ : Option Dl), (t.app δ).rd = t.rd := fun t δ => by cases δ <;> rfl
  have wapp : ∀ (t : ASt) (δ : Option Dl) (o : Oper), awant ops o (t.app δ) = awant ops o t := fun t δ o => by cases δ <;> rfl
  have vapp : ∀ (t : ASt) (δ : Option Dl) (x : Operand), aev (t.app δ) x = aev t x := fun t δ x => by cases δ <;> cases x <;> rfl
  have nj : acall oj.op = none := by
    cases hq : acall oj.op with
    | none => rfl
    | some q =>
      exfalso
      unfold acall at hq
      split at hq
      · rename_i f args tys ho
        simp [cls, ho] at hc
      · cases hq
  unfold astS at h
  unfold astp0 adr
  rw [nj]
  cases hwi : awant ops oi s with
  | none => rw [hwi] at h; exact h.elim
  | some bi =>
    rw [hwi] at h
    cases bi with
    | false =>
      dsimp only at h
      unfold astp0 adr at h
      rw [wj, nj] at h
      cases hwj : awant ops oj s with
      | none => rw [hwj] at h; exact h.elim
      | some bj =>
        rw [hwj] at h
        cases bj with
        | false =>
          dsimp only at h ⊢
          unfold astS
          rw [wi, hwi]
          dsimp only
          rw [put_comm p2']; exact h
        | true =>
          dsimp only at h ⊢
          cases hd : ado T true md oj (s.put oi.dst (.tup [])) with
          | none => rw [hd] at h; exact h.elim
          | some q =>
            obtain ⟨cj, sj⟩ := q
            rw [hd] at h
            dsimp only at h
            obtain ⟨δ, e1, e2, e3⟩ := ado_loc hd
            have := e3 s (fun x hx => (vj _ _ x hx).symm) (fun id _ => by rw [(rput s oi.dst (.tup [])).1, (rput s oi.dst (.tup [])).2.1]; exact ⟨rfl, rfl⟩)
            rw [this]
            dsimp only
            unfold astS
            rw [wi, wapp, hwi]
            dsimp only
            rw [e1, app_put, put_comm p2] at h
            exact h
    | true =>
      dsimp only at h
      unfold spc at h
      cases hai : acall oi.op with
      | none => rw [hai] at h; exact h.elim
      | some q =>
        obtain ⟨f, xs⟩ := q
        rw [hai] at h
        dsimp only at h
        obtain ⟨d, args, c, Post0, Post, hd0, h1, h2, h3, h4, ⟨r0, hr0, hn0⟩, h5, h6⟩ := h
        have hr := h5 r0 hr0 hn0
        unfold astp0 adr at hr
        have wpay : ∀ (c : Nat) (o : Oper), awant ops o (s.pay c) = awant ops o s := fun _ _ => rfl
        have vpay : ∀ (c : Nat) (x : Operand), aev (s.pay c) x = aev s x := fun c x => by cases x <;> rfl
        have wadd : ∀ (R : Row) (o : Oper), awant ops o ((s.pay c).add d R) = awant ops o s := fun _ _ => rfl
        have vadd : ∀ (R : Row) (x : Operand), aev ((s.pay c).add d R) x = aev s x := fun _ x => by cases x <;> rfl
        rw [wj, wpay, nj] at hr
        cases hwj : awant ops oj s with
        | none => rw [hwj] at hr; exact hr.elim
        | some bj =>
          rw [hwj] at hr
          cases bj with
          | false =>
            dsimp only at hr ⊢
            unfold astS
            rw [wi, hwi]
            dsimp only
            unfold spc
            rw [hai]
            dsimp only
            refine ⟨d, args, c, Post0, Post, hd0, ?_, h2, ?_, ?_, ⟨r0, hr0, hn0⟩, fun r q1 q2 => ?_, fun r R q1 q2 => ?_⟩
            · rw [(rput _ _ _).1, show xs.map (aev (s.put oj.dst (.tup []))) = xs.map (aev s) from List.map_congr_left (fun x hx => vi _ _ x (acall_args hai hx))]; exact h1
            · unfold ASt.can at h3 ⊢; rw [(rput _ _ _).2.2]; exact h3
            · rw [(rput _ _ _).2.1]; exact h4
            · have := h5 r q1 q2
              unfold astp0 at this
              rw [wj, wpay, hwj] at this
              dsimp only at this
              rw [pay_put, put_comm p2']
              exact this
            · have := h6 r R q1 q2
              unfold astp0 at this
              rw [wj, wadd, hwj] at this
              dsimp only at this
              rw [pay_put, add_put, put_comm p2']
              exact this
          | true =>
            dsimp only at hr ⊢
            cases hd : ado T true md oj ((s.pay c).put oi.dst r0) with
            | none => rw [hd] at hr; exact hr.elim
            | some q =>
              obtain ⟨cj, sj⟩ := q
              obtain ⟨δ, e1, e2, e3⟩ := ado_loc hd
              have hdj : ∀ x, δ = some x → cls oj = 2 ∧ oj.dst = some x.id := fun x hx => by
                rcases foot_cases (e2 x hx).1 with ⟨_, _, ho, _⟩ | ⟨_, _, _, ho, _⟩ | h | ⟨h, _⟩
                · simp [cls, ho] at hc
                · simp [cls, ho] at hc
                · exact h
                · omega
              have hne : ∀ x, δ = some x → x.id ≠ d := fun x hx e => p2 d hd0 (by rw [(hdj x hx).2, e])
              have hat : ∀ t : ASt, (∀ x ∈ oj.op.operands, aev t x = aev s x) → (∀ id, id ≠ d → t.rows id = s.rows id ∧ t.used id = s.used id) → ado T true md oj t = some (cj, t.app δ) := fun t k1 k2 => e3 t (fun x hx => by rw [k1 x hx, vj _ _ x hx, vpay]) (fun id hid => by
                rw [(rput _ _ _).1, (rput _ _ _).2.1]
                have hdd : oj.dst = some id := by
                  rcases foot_cases hid with ⟨_, _, ho, _⟩ | ⟨_, _, _, ho, _⟩ | h | ⟨h, _⟩
                  · simp [cls, ho] at hc
                  · simp [cls, ho] at hc
                  · exact h.2
                  · omega
                exact k2 id (fun e => p2 d hd0 (by rw [hdd, e])))
              rw [hat s (fun _ _ => rfl) (fun _ _ => ⟨rfl, rfl⟩)]
              dsimp only
              unfold astS
              rw [wi, wapp, hwi]
              dsimp only
              unfold spc
              rw [hai]
              dsimp only
              refine ⟨d, args, c, Post0, Post, hd0, ?_, h2, ?_, ?_, ⟨r0, hr0, hn0⟩, fun r q1 q2 => ?_, fun r R q1 q2 => ?_⟩
              · rw [(rput _ _ _).1, show xs.map (aev ((s.app δ).put oj.dst cj)) = xs.map (aev s) from List.map_congr_left (fun x hx => by rw [vi _ _ x (acall_args hai hx), vapp])]
                refine h1.moved (U := s.used) (fun id hid => ?_) (fun c hc' => by
                  obtain ⟨x, _, rfl⟩ := List.mem_map.1 hc'
                  exact aev_in hI x)
                cases hq : δ with
                | none => rfl
                | some x =>
                  obtain ⟨k1, k2⟩ := hdj x hq
                  have hu : s.used x.id = false := new_unused k1 (hat s (fun _ _ => rfl) (fun _ _ => ⟨rfl, rfl⟩)) k2
                  simp only [ASt.app]
                  exact upd_ne _ _ (fun e => by rw [e, hu] at hid; cases hid)
              · unfold ASt.can at h3 ⊢; rw [(rput _ _ _).2.2, rapp]; exact h3
              · rw [(rput _ _ _).2.1]
                cases hq : δ with
                | none => exact h4
                | some x =>
                  simp only [ASt.app]
                  split
                  · rw [upd_ne _ _ (fun e => hne x hq e.symm)]; exact h4
                  · exact h4
              · have := h5 r q1 q2
                unfold astp0 adr at this
                rw [wj, wpay, hwj, nj] at this
                dsimp only at this
                rw [hat _ (fun x hx => by rw [vj _ _ x hx, vpay]) (fun id _ => by rw [(rput _ _ _).1, (rput _ _ _).2.1]; exact ⟨rfl, rfl⟩)] at this
                dsimp only at this
                rw [app_put, put_comm p2, app_pay] at this
                rw [pay_put]
                exact this
              · have := h6 r R q1 q2
                unfold astp0 adr at this
                rw [wj, wadd, hwj, nj] at this
                dsimp only at this
                rw [hat _ (fun x hx => by rw [vj _ _ x hx, vadd]) (fun id hid => by rw [(rput _ _ _).1, (rput _ _ _).2.1]; exact ⟨upd_ne _ _ hid, upd_ne _ _ hid⟩)] at this
                dsimp only at this
                rw [app_put, put_comm p2, app_add (fun x hx => hne x hx), app_pay] at this
                rw [pay_put, add_put]
                exact this
theorem exchS2 {i : Nat} {oi oj : Oper} (hap : oi.apart ops oj = true) (hc : cls oi = 0 ∨ cls oi = 2) {K : ASt → Prop} {s : ASt} (hI : Inv s)
    (h : astp0 P T md Av pc ops i oi (fun s' => astS P ops oj K s') s) : astS P ops oj (fun s' => astp0 P T md Av pc ops i oi K s') s := by
  obtain ⟨p1, p2, p3⟩ := Oper.apart_spec hap
  have p2' : ∀ t, oj.dst = some t → oi.dst ≠ some t := fun t h1 h2 => p2 t h2 h1
  have wj : ∀ (t : ASt) (v : AV), awant ops oj (t.put oi.dst v) = awant ops oj t := fun t v => awant_put p1
  have wi : ∀ (t : ASt) (v : AV), awant ops oi (t.put oj.dst v) = awant ops oi t := fun t v => awant_put p3
  have vj : ∀ (t : ASt) (v : AV), ∀ x ∈ oj.op.operands, aev (t.put oi.dst v) x = aev t x := fun t v x hx => aev_put (fun u hu e => p1 u hu (looks_mem hx e))
  have vi : ∀ (t : ASt) (v : AV), ∀ x ∈ oi.op.operands, aev (t.put oj.dst v) x = aev t x := fun t v x hx => aev_put (fun u hu e => p3 u hu (looks_mem hx e))
  have rput : ∀ (t : ASt) (d : Option Tmp) (v : AV), (t.put d v).rows = t.rows ∧ (t.put d v).used = t.used ∧ (t.put d v).rd = t.rd := fun t d v => by cases d <;> exact ⟨rfl, rfl, rfl⟩
  have rapp : ∀ (t : ASt) (δ : Option Dl), (t.app δ).rd = t.rd := fun t δ => by cases δ <;> rfl
  have wapp : ∀ (t : ASt) (δ : Option Dl) (o : Oper), awant ops o (t.app δ) = awant ops o t := fun t δ o => by cases δ <;> rfl
  have vapp : ∀ (t : ASt) (δ : Option Dl) (x : Operand), aev (t.app δ) x = aev t x := fun t δ x => by cases δ <;> cases x <;> rfl
  have ni : acall oi.op = none := by
    cases hq : acall oi.op with
    | none => rfl
    | some q =>
      exfalso
      unfold acall at hq
      split at hq
      · rename_i f args tys ho
        simp [cls, ho] at hc
      · cases hq
  unfold astp0 adr at h
  rw [ni] at h
  -- the state after the first step
  have main : ∀ (δ : Option Dl) (ci : AV), (∀ x, δ = some x → oi.dst = some x.id ∧ s.used x.id = false) → astS P ops oj K ((s.app δ).put oi.dst ci) →
      (∀ t : ASt, (∀ x ∈ oi.op.operands, aev t x = aev s x) → (∀ o, awant ops o t = awant ops o t) → awant ops oi t = awant ops oi s → (∀ id, oi.dst = some id → t.rows id = s.rows id ∧ t.used id = s.used id) → K ((t.app δ).put oi.dst ci) → astp0 P T md Av pc ops i oi K t) →
      astS P ops oj (fun s' => astp0 P T md Av pc ops i oi K s') s := by
    intro δ ci hδ hs hback
    unfold astS at hs ⊢
    rw [wj, wapp] at hs
    cases hwj : awant ops oj s with
    | none => rw [hwj] at hs; exact hs.elim
    | some bj =>
      rw [hwj] at hs
      cases bj with
      | false =>
        dsimp only at hs ⊢
        refine hback _ (fun x hx => vi _ _ x hx) (fun _ => rfl) (wi _ _) (fun id _ => by rw [(rput _ _ _).1, (rput _ _ _).2.1]; exact ⟨rfl, rfl⟩) ?_
        rw [app_put, put_comm p2']
        exact hs
      | true =>
        dsimp only at hs ⊢
        unfold spc at hs ⊢
        cases haj : acall oj.op with
        | none => rw [haj] at hs; exact hs.elim
        | some q =>
          obtain ⟨f, xs⟩ := q
          rw [haj] at hs
          dsimp only at hs ⊢
          obtain ⟨d, args, c, Post0, Post, hd0, h1, h2, h3, h4, h4', h5, h6⟩ := hs
          have hne : ∀ id, oi.dst = some id → id ≠ d := fun id h1 e => p2 id h1 (by rw [hd0, e])
          refine ⟨d, args, c, Post0, Post, hd0, ?_, h2, ?_, ?_, h4', fun r q1 q2 => ?_, fun r R q1 q2 => ?_⟩
          · rw [(rput _ _ _).1, show xs.map (aev ((s.app δ).put oi.dst ci)) = xs.map (aev s) from List.map_congr_left (fun x hx => by rw [vj _ _ x (acall_args haj hx), vapp])] at h1
            refine h1.moved (U := s.used) (fun id hid => ?_) (fun c hc' => by
              obtain ⟨x, _, rfl⟩ := List.mem_map.1 hc'
              exact aev_in hI x)
            cases hq : δ with
            | none => rfl
            | some x =>
              obtain ⟨k1, k2⟩ := hδ x hq
              simp only [ASt.app]
              exact (upd_ne _ _ (fun e => by rw [e, k2] at hid; cases hid)).symm
          · unfold ASt.can at h3 ⊢; rw [(rput _ _ _).2.2, rapp] at h3; exact h3
          · rw [(rput _ _ _).2.1] at h4
            cases hq : δ with
            | none => rw [hq] at h4; exact h4
            | some x =>
              rw [hq] at h4
              simp only [ASt.app] at h4
              split at h4
              · rw [upd_ne _ _ (fun e => hne x.id (hδ x hq).1 e.symm)] at h4; exact h4
              · exact h4
          · have := h5 r q1 q2
            refine hback _ (fun x hx => by rw [vi _ _ x hx]; cases x <;> rfl) (fun _ => rfl) ((wi _ _).trans rfl) (fun id _ => by rw [(rput _ _ _).1, (rput _ _ _).2.1]; exact ⟨rfl, rfl⟩) ?_
            rw [pay_put, put_comm p2] at this
            rw [app_put, app_pay]
            exact this
          · have := h6 r R q1 q2
            refine hback _ (fun x hx => by rw [vi _ _ x hx]; cases x <;> rfl) (fun _ => rfl) ((wi _ _).trans rfl) (fun id hid => by rw [(rput _ _ _).1, (rput _ _ _).2.1]; exact ⟨upd_ne _ _ (hne id hid), upd_ne _ _ (hne id hid)⟩) ?_
            rw [pay_put, add_put, put_comm p2] at this
            rw [app_put, app_add (fun x hx => hne x.id (hδ x hx).1), app_pay]
            exact this
  cases hwi : awant ops oi s with
  | none => rw [hwi] at h; exact h.elim
  | some bi =>
    rw [hwi] at h
    cases bi with
    | false =>
      dsimp only at h
      refine main none _ (fun x hx => by cases hx) h (fun t k1 _ k2 k3 k4 => ?_)
      unfold astp0
      rw [k2, hwi]
      exact k4
    | true =>
      dsimp only at h
      cases hd : ado T true md oi s with
      | none => rw [hd] at h; exact h.elim
      | some q =>
        obtain ⟨ci, si⟩ := q
        rw [hd] at h
        dsimp only at h
        obtain ⟨δ, e1, e2, e3⟩ := ado_loc hd
        have hf : ∀ id ∈ foot oi s, cls oi = 2 ∧ oi.dst = some id := fun id hid => by
          rcases foot_cases hid with ⟨_, _, ho, _⟩ | ⟨_, _, _, ho, _⟩ | h | ⟨h, _⟩
          · simp [cls, ho] at hc
          · simp [cls, ho] at hc
          · exact h
          · omega
        rw [e1] at h
        refine main δ ci (fun x hx => ⟨(hf x.id (e2 x hx).1).2, new_unused (hf x.id (e2 x hx).1).1 hd (hf x.id (e2 x hx).1).2⟩) h (fun t k1 _ k2 k3 k4 => ?_)
        unfold astp0 adr
        rw [k2, hwi, ni]
        dsimp only
        rw [e3 t k1 (fun id hid => k3 id (hf id hid).2)]
        exact k4
theorem no_call {o : Oper} (hc : cls o = 0) : acall o.op = none := by
  cases hq : acall o.op with
  | none => rfl
  | some q =>
    exfalso
    unfold acall at hq
    split at hq
    · rename_i f args tys ho
      simp [cls, ho] at hc
    · cases hq
theorem ado_zero {o : Oper} (hc : cls o = 0) {s s' : ASt} {c : AV} (e : ado T true md o s = some (c, s')) : s' = s ∧ ∀ t : ASt, (∀ x ∈ o.op.operands, aev t x = aev s x) → ado T true md o t = some (c, t) := by
  obtain ⟨δ, e1, e2, e3⟩ := ado_loc e
  have hf : ∀ id, id ∈ foot o s → False := fun id hid => by
    rcases foot_cases hid with ⟨_, _, ho, _⟩ | ⟨_, _, _, ho, _⟩ | ⟨h, _⟩ | ⟨h, _⟩
    · simp [cls, ho] at hc
    · simp [cls, ho] at hc
    · omega
    · omega
  cases hδ : δ with
  | none =>
    rw [hδ] at e1 e3
    exact ⟨e1, fun t ht => e3 t ht (fun id hid => (hf id hid).elim)⟩
  | some x => exact (hf x.id (e2 x hδ).1).elim
theorem Back.to {s t : ASt} {rows0 : List (Nat × Row)} {ν μ : Nat → Nat} {l l' : List (Nat × Row)} {r r' : AV} (h : Back s rows0 ν μ l l' r r') (hu : t.used = s.used) : Back t rows0 ν μ l l' r r' :=
  ⟨h.inj, fun k R hk => by rw [hu]; exact h.nm k R hk, h.rs, h.rr⟩
theorem exchG1 {j : Nat} {oi oj : Oper} (hap : oi.apart ops oj = true) (hc : cls oj = 0) {K : ASt → Prop} {s : ASt}
    (h : astG P Av ops oi (fun s' => astp0 P T md Av pc ops j oj K s') s) : astp0 P T md Av pc ops j oj (fun s' => astG P Av ops oi K s') s := by
  obtain ⟨p1, p2, p3⟩ := Oper.apart_spec hap
  have p2' : ∀ t, oj.dst = some t → oi.dst ≠ some t := fun t h1 h2 => p2 t h2 h1
  have wj : ∀ (t : ASt) (v : AV), awant ops oj (t.put oi.dst v) = awant ops oj t := fun t v => awant_put p1
  have wi : ∀ (t : ASt) (v : AV), awant ops oi (t.put oj.dst v) = awant ops oi t := fun t v => awant_put p3
  have vj : ∀ (t : ASt) (v : AV), ∀ x ∈ oj.op.operands, aev (t.put oi.dst v) x = aev t x := fun t v x hx => aev_put (fun u hu e => p1 u hu (looks_mem hx e))
  have vi : ∀ (t : ASt) (v : AV), ∀ x ∈ oi.op.operands, aev (t.put oj.dst v) x = aev t x := fun t v x hx => aev_put (fun u hu e => p3 u hu (looks_mem hx e))
  have rput : ∀ (t : ASt) (d : Option Tmp) (v : AV), (t.put d v).rows = t.rows ∧ (t.put d v).used = t.used ∧ (t.put d v).rd = t.rd := fun t d v => by cases d <;> exact ⟨rfl, rfl, rfl⟩
  have nj := no_call hc
  -- what the second operation makes
  have key : ∀ (t : ASt), (∀ x ∈ oj.op.operands, aev t x = aev s x) → awant ops oj t = awant ops oj s → ∀ K', astp0 P T md Av pc ops j oj K' t → ∃ cj, K' (t.put oj.dst cj) ∧ ∀ (t' : ASt), (∀ x ∈ oj.op.operands, aev t' x = aev s x) → awant ops oj t' = awant ops oj s → (∀ K'', astp0 P T md Av pc ops j oj K'' t' ↔ K'' (t'.put oj.dst cj)) := by
    intro t ht hw K' hh
    unfold astp0 adr at hh
    rw [nj, hw] at hh
    cases hws : awant ops oj s with
    | none => rw [hws] at hh; exact hh.elim
    | some b =>
      rw [hws] at hh
      cases b with
      | false => exact ⟨_, hh, fun t' _ hw' K'' => by unfold astp0; rw [hw']⟩
      | true =>
        dsimp only at hh
        cases hd : ado T true md oj t with
        | none => rw [hd] at hh; exact hh.elim
        | some q =>
          obtain ⟨cj, sj⟩ := q
          obtain ⟨e1, e2⟩ := ado_zero hc hd
          rw [hd] at hh
          subst e1
          refine ⟨cj, hh, fun t' ht' hw' K'' => ?_⟩
          unfold astp0 adr
          rw [nj, hw', e2 t' (fun x hx => (ht' x hx).trans (ht x hx).symm)]
  unfold astG at h
  cases hwi : awant ops oi s with
  | none => rw [hwi] at h; exact h.elim
  | some bi =>
    rw [hwi] at h
    cases bi with
    | false =>
      dsimp only at h
      obtain ⟨cj, q1, q2⟩ := key _ (vj s _) (wj s _) _ h
      rw [q2 s (fun _ _ => rfl) rfl]
      unfold astG
      rw [wi, hwi]
      dsimp only
      rw [put_comm p2']; exact q1
    | true =>
      dsimp only at h
      unfold gspc at h
      cases hai : acall oi.op with
      | none => rw [hai] at h; exact h.elim
      | some q =>
        obtain ⟨f, xs⟩ := q
        rw [hai] at h
        dsimp only at h
        obtain ⟨args, rows0, c, Post, ν, h1, h2, h3, h4, h5, ⟨r0, l0, hp0⟩, h7⟩ := h
        have vb : ∀ (l' : List (Nat × Row)) (x : Operand), aev (s.back rows0 ν c l') x = aev s x := fun l' x => by
          have e : (s.back rows0 ν c l').tmps = s.tmps := (addL_rest l' _).1.trans (killL_rest _ (s.pay c)).1
          cases x <;> simp only [aev, e]
        have wb : ∀ (l' : List (Nat × Row)) (o : Oper), awant ops o (s.back rows0 ν c l') = awant ops o s := fun l' o => by
          have e : (s.back rows0 ν c l').tmps = s.tmps := (addL_rest l' _).1.trans (killL_rest _ (s.pay c)).1
          unfold awant; rw [e]
        obtain ⟨μ0, l0', r0', _, _, q0⟩ := h7 r0 l0 hp0
        obtain ⟨cj, _, q2⟩ := key _ (fun x hx => by rw [vj _ _ x hx, vb]) (by rw [wj, wb]) _ q0
        rw [q2 s (fun _ _ => rfl) rfl]
        unfold astG
        rw [wi, hwi]
        dsimp only
        unfold gspc
        rw [hai]
        dsimp only
        have hm : xs.map (aev (s.put oj.dst cj)) = xs.map (aev s) := List.map_congr_left (fun x hx => vi _ _ x (acall_args hai hx))
        refine ⟨args, rows0, c, Post, ν, h1, h2, by rw [(rput _ _ _).1]; exact h3, by rw [hm, (rput _ _ _).1]; exact h4, by unfold ASt.can at h5 ⊢; rw [(rput _ _ _).2.2]; exact h5, ⟨r0, l0, hp0⟩, fun r l hp => ?_⟩
        obtain ⟨μ, l', r', k1, k2, k3⟩ := h7 r l hp
        refine ⟨μ, l', r', k1.to (rput _ _ _).2.1, k2, ?_⟩
        rw [q2 _ (fun x hx => by rw [vj _ _ x hx, vb]) (by rw [wj, wb])] at k3
        rw [back_put, put_comm p2']
        exact k3
theorem exchG2 {i : Nat} {oi oj : Oper} (hap : oi.apart ops oj = true) (hc : cls oi = 0) {K : ASt → Prop} {s : ASt}
    (h : astp0 P T md Av pc ops i oi (fun s' => astG P Av ops oj K s') s) : astG P Av ops oj (fun s' => astp0 P T md Av pc ops i oi K s') s := by
  obtain ⟨p1, p2, p3⟩ := Oper.apart_spec hap
  have p2' : ∀ t, oj.dst = some t → oi.dst ≠ some t := fun t h1 h2 => p2 t h2 h1
  have wj : ∀ (t : ASt) (v : AV), awant ops oj (t.put oi.dst v) = awant ops oj t := fun t v => awant_put p1
  have wi : ∀ (t : ASt) (v : AV), awant ops oi (t.put oj.dst v) = awant ops oi t := fun t v => awant_put p3
  have vj : ∀ (t : ASt) (v : AV), ∀ x ∈ oj.op.operands, aev (t.put oi.dst v) x = aev t x := fun t v x hx => aev_put (fun u hu e => p1 u hu (looks_mem hx e))
  have vi : ∀ (t : ASt) (v : AV), ∀ x ∈ oi.op.operands, aev (t.put oj.dst v) x = aev t x := fun t v x hx => aev_put (fun u hu e => p3 u hu (looks_mem hx e))
  have rput : ∀ (t : ASt) (d : Option Tmp) (v : AV), (t.put d v).rows = t.rows ∧ (t.put d v).used = t.used ∧ (t.put d v).rd = t.rd := fun t d v => by cases d <;> exact ⟨rfl, rfl, rfl⟩
  have ni := no_call hc
  have key : ∃ ci, astG P Av ops oj K (s.put oi.dst ci) ∧ ∀ (t' : ASt), (∀ x ∈ oi.op.operands, aev t' x = aev s x) → awant ops oi t' = awant ops oi s → (∀ K'', astp0 P T md Av pc ops i oi K'' t' ↔ K'' (t'.put oi.dst ci)) := by
    unfold astp0 adr at h
    rw [ni] at h
    cases hws : awant ops oi s with
    | none => rw [hws] at h; exact h.elim
    | some b =>
      rw [hws] at h
      cases b with
      | false => exact ⟨_, h, fun t' _ hw' K'' => by unfold astp0; rw [hw']⟩
      | true =>
        dsimp only at h
        cases hd : ado T true md oi s with
        | none => rw [hd] at h; exact h.elim
        | some q =>
          obtain ⟨ci, si⟩ := q
          obtain ⟨e1, e2⟩ := ado_zero hc hd
          rw [hd] at h
          subst e1
          refine ⟨ci, h, fun t' ht' hw' K'' => ?_⟩
          unfold astp0 adr
          rw [ni, hw', e2 t' ht']
  obtain ⟨ci, hs, hback⟩ := key
  unfold astG at hs ⊢
  rw [wj] at hs
  cases hwj : awant ops oj s with
  | none => rw [hwj] at hs; exact hs.elim
  | some bj =>
    rw [hwj] at hs
    cases bj with
    | false =>
      dsimp only at hs ⊢
      rw [hback _ (fun x hx => vi _ _ x hx) (wi _ _), put_comm p2']
      exact hs
    | true =>
      dsimp only at hs ⊢
      unfold gspc at hs ⊢
      cases haj : acall oj.op with
      | none => rw [haj] at hs; exact hs.elim
      | some q =>
        obtain ⟨f, xs⟩ := q
        rw [haj] at hs
        dsimp only at hs ⊢
        obtain ⟨args, rows0, c, Post, ν, h1, h2, h3, h4, h5, h6, h7⟩ := hs
        have hm : xs.map (aev (s.put oi.dst ci)) = xs.map (aev s) := List.map_congr_left (fun x hx => vj _ _ x (acall_args haj hx))
        refine ⟨args, rows0, c, Post, ν, h1, h2, by rw [(rput _ _ _).1] at h3; exact h3, by rw [hm, (rput _ _ _).1] at h4; exact h4, by unfold ASt.can at h5 ⊢; rw [(rput _ _ _).2.2] at h5; exact h5, h6, fun r l hp => ?_⟩
        obtain ⟨μ, l', r', k1, k2, k3⟩ := h7 r l hp
        refine ⟨μ, l', r', k1.to (rput _ _ _).2.1.symm, k2, ?_⟩
        have vb : ∀ x : Operand, aev (s.back rows0 ν c l') x = aev s x := fun x => by
          have e : (s.back rows0 ν c l').tmps = s.tmps := (addL_rest l' _).1.trans (killL_rest _ (s.pay c)).1
          cases x <;> simp only [aev, e]
        have wb : ∀ o : Oper, awant ops o (s.back rows0 ν c l') = awant ops o s := fun o => by
          have e : (s.back rows0 ν c l').tmps = s.tmps := (addL_rest l' _).1.trans (killL_rest _ (s.pay c)).1
          unfold awant; rw [e]
        rw [hback _ (fun x hx => by rw [vi _ _ x hx, vb]) (by rw [wi, wb])]
        rw [back_put, put_comm p2] at k3
        exact k3
theorem put_get {s : ASt} {d : Option Tmp} {v : AV} {t : Nat} (h : d ≠ some t) : (s.put d v).tmps[t]? = s.tmps[t]? := by
  cases d with
  | none => rfl
  | some d =>
    have : d ≠ t := fun e => h (by rw [e])
    simp [ASt.put, List.getElem?_set, this]
theorem put_got {s : ASt} {d : Nat} {v c : AV} (h : (s.put (some d) v).tmps[d]? = some c) : c = v := by
  simp only [ASt.put, List.getElem?_set_self'] at h
  cases hs : s.tmps[d]? with
  | none => rw [hs] at h; cases h
  | some x => rw [hs] at h; simpa using h.symm
theorem FreshD.put {ls : List Nat} {s : ASt} {d : Nat} {l : List Nat} {t : Option Nat} {v : AV} (ht : inD ls t = false) (h : FreshD Av ls (s.put t v) d l) : FreshD Av ls s d l := fun b hb => ⟨(h b hb).1, fun t' c h1 h2 h3 => (h b hb).2 t' c h1 h2 (by
  rw [put_get (fun e => ?_)]
  · exact h3
  · subst e; unfold inD at ht; dsimp only at ht; rw [h1] at ht; cases ht)⟩
theorem FreshD.put' {ls : List Nat} {s : ASt} {d : Nat} {l : List Nat} {t : Option Nat} {v : AV} (ht : inD ls t = false) (h : FreshD Av ls s d l) : FreshD Av ls (s.put t v) d l := fun b hb => ⟨(h b hb).1, fun t' c h1 h2 h3 => (h b hb).2 t' c h1 h2 (by
  rw [put_get (fun e => ?_)] at h3
  · exact h3
  · subst e; unfold inD at ht; dsimp only at ht; rw [h1] at ht; cases ht)⟩
theorem FOp.to {i : Nat} {o : Oper} {s t : ASt} {Post : AV → List Nat → Prop} (h : FOp P T pc i o s Post) (he : ∀ x ∈ o.op.operands, aev t x = aev s x) : FOp P T pc i o t Post := by
  unfold FOp at *
  split at h
  · rename_i f xs ha
    have hm : xs.map (aev t) = xs.map (aev s) := List.map_congr_left (fun x hx => he x (acall_args ha hx))
    obtain ⟨k1, k2, k3⟩ := h
    rw [hm]
    exact ⟨k1, fun x hx => by rw [he x (acall_args ha hx)]; exact k2 x hx, k3⟩
  · split at h
    · rename_i ty n ps ho
      obtain ⟨sz, es, k1, k2⟩ := h
      refine ⟨sz, es, ?_, k2⟩
      rw [aps_loc (s := s) (t := t) (fun x hx => he x (by rw [ho]; exact hx))]
      exact k1
    · exact h.elim
theorem FOp.one {i : Nat} {o : Oper} {s : ASt} {Post Post' : AV → List Nat → Prop} (h : FOp P T pc i o s Post) (h' : FOp P T pc i o s Post') : Post = Post' := by
  unfold FOp at h h'
  cases ha : acall o.op with
  | some q =>
    obtain ⟨f, xs⟩ := q
    rw [ha] at h h'
    dsimp only at h h'
    rw [h.2.2, h'.2.2]
  | none =>
    rw [ha] at h h'
    dsimp only at h h'
    split at h
    · rename_i ty n ps ho
      rw [ho] at h'
      obtain ⟨sz, es, k1, rfl⟩ := h
      obtain ⟨sz', es', k1', rfl⟩ := h'
      rw [k1] at k1'
      cases k1'
      rfl
    · exact h.elim
theorem OpL.to {ls : List Nat} {o : Oper} {s t : ASt} {d b : Nat} (h : OpL ls s o d b) (he : ∀ x ∈ o.op.operands, aev t x = aev s x) : OpL ls t o d b := by
  obtain ⟨x, h1, h2, h3, h4⟩ := h
  exact ⟨x, h1, h2, h3, by rw [he _ (by simpa using h1)]; exact h4⟩
theorem read_same {o : Oper} (hc : cls o = 1) {s s' : ASt} {c : AV} (e : ado T true md o s = some (c, s')) : s' = s := by
  unfold ado at e
  obtain ⟨dst, op, ty, pos, after, guard⟩ := o
  unfold cls at hc
  dsimp only at hc e
  split at hc
  · dsimp only at e
    simp only [Option.map_eq_some_iff] at e
    obtain ⟨c', e, he⟩ := e; cases he; rfl
  all_goals omega
theorem ado_read {o : Oper} (hc : cls o = 0 ∨ cls o = 1) {s s' : ASt} {c : AV} (e : ado T true md o s = some (c, s')) : s' = s ∧ ∀ t : ASt, (∀ x ∈ o.op.operands, aev t x = aev s x) → t.rows = s.rows → t.used = s.used → ado T true md o t = some (c, t) := by
  rcases hc with hc | hc
  · obtain ⟨e1, e2⟩ := ado_zero hc e
    exact ⟨e1, fun t ht _ _ => e2 t ht⟩
  · obtain ⟨δ, e1, e2, e3⟩ := ado_loc e
    refine ⟨read_same hc e, fun t ht hr hu => ?_⟩
    have := e3 t ht (fun id _ => by rw [hr, hu]; exact ⟨rfl, rfl⟩)
    rw [read_same hc this] at this
    exact this
theorem zkey {j : Nat} {oj : Oper} (hc : cls oj = 0 ∨ cls oj = 1) {s t : ASt} (ht : ∀ x ∈ oj.op.operands, aev t x = aev s x) (hw : awant ops oj t = awant ops oj s) (hr : t.rows = s.rows) (hu : t.used = s.used) {K' : ASt → Prop} (hh : astp0 P T md Av pc ops j oj K' t) :
    ∃ cj, K' (t.put oj.dst cj) ∧ ∀ (t' : ASt), (∀ x ∈ oj.op.operands, aev t' x = aev s x) → awant ops oj t' = awant ops oj s → t'.rows = s.rows → t'.used = s.used → (∀ K'', astp0 P T md Av pc ops j oj K'' t' ↔ K'' (t'.put oj.dst cj)) := by
  have nj : acall oj.op = none := by
    rcases hc with hc | hc
    · exact no_call hc
    · unfold cls at hc
      split at hc
      · rename_i h; rw [h]; rfl
      all_goals omega
  unfold astp0 adr at hh
  rw [nj, hw] at hh
  cases hws : awant ops oj s with
  | none => rw [hws] at hh; exact hh.elim
  | some b =>
    rw [hws] at hh
    cases b with
    | false => exact ⟨_, hh, fun t' _ hw' _ _ K'' => by unfold astp0; rw [hw']⟩
    | true =>
      dsimp only at hh
      cases hd : ado T true md oj t with
      | none => rw [hd] at hh; exact hh.elim
      | some q =>
        obtain ⟨cj, sj⟩ := q
        obtain ⟨e1, e2⟩ := ado_read hc hd
        rw [hd] at hh
        subst e1
        refine ⟨cj, hh, fun t' ht' hw' hr' hu' K'' => ?_⟩
        unfold astp0 adr
        rw [nj, hw', e2 t' (fun x hx => (ht' x hx).trans (ht x hx).symm) (hr'.trans hr.symm) (hu'.trans hu.symm)]
theorem exchF1 {i j : Nat} {oi oj : Oper} (hap : oi.apart ops oj = true) (hc : cls oj = 0 ∨ cls oj = 1) (hD : inD pc.2 oj.dst = false) {K : ASt → Prop} {s : ASt}
    (h : astF P T Av pc ops i oi (fun s' => astp0 P T md Av pc ops j oj K s') s) : astp0 P T md Av pc ops j oj (fun s' => astF P T Av pc ops i oi K s') s := by
  obtain ⟨p1, p2, p3⟩ := Oper.apart_spec hap
  have wj : ∀ (t : ASt) (v : AV), awant ops oj (t.put oi.dst v) = awant ops oj t := fun t v => awant_put p1
  have wi : ∀ (t : ASt) (v : AV), awant ops oi (t.put oj.dst v) = awant ops oi t := fun t v => awant_put p3
  have vj : ∀ (t : ASt) (v : AV), ∀ x ∈ oj.op.operands, aev (t.put oi.dst v) x = aev t x := fun t v x hx => aev_put (fun u hu e => p1 u hu (looks_mem hx e))
  have vi : ∀ (t : ASt) (v : AV), ∀ x ∈ oi.op.operands, aev (t.put oj.dst v) x = aev t x := fun t v x hx => aev_put (fun u hu e => p3 u hu (looks_mem hx e))
  have rput : ∀ (t : ASt) (d : Option Tmp) (v : AV), (t.put d v).rows = t.rows ∧ (t.put d v).used = t.used := fun t d v => by cases d <;> exact ⟨rfl, rfl⟩
  unfold astF at h
  split at h
  rotate_left
  · exact h.elim
  rename_i hwi
  obtain ⟨d, Post, h1, h2, h3, h4, h6, h7, h8⟩ := h
  have hdj : oj.dst ≠ some d := fun e => p2 d h1 e
  obtain ⟨r0, l0, q1, q2, q3⟩ := h6 (atL s.tmps)
  have q4 := h8 r0 l0 q1 q2 (freshD_of q3)
  rw [← h1] at q4
  obtain ⟨cj, _, q6⟩ := zkey hc (s := s) (fun x hx => vj _ _ x hx) (by rw [wj]) (rput _ _ _).1 (rput _ _ _).2 q4
  rw [q6 s (fun _ _ => rfl) rfl rfl rfl]
  unfold astF
  rw [wi, hwi]
  refine ⟨d, Post, h1, h2, by rwa [put_get hdj], h4.to (fun x hx => vi _ _ x hx), h6, fun r l hp => ⟨(h7 r l hp).1, fun b hb => ((h7 r l hp).2 b hb).imp id (fun h => h.to (fun x hx => vi _ _ x hx))⟩, fun r l hp hn hf => ?_⟩
  have := h8 r l hp hn (hf.put hD)
  rw [← h1, q6 _ (fun x hx => vj _ _ x hx) (by rw [wj]) (rput _ _ _).1 (rput _ _ _).2] at this
  rw [← h1, put_comm (fun t a b => p2 t b a)]
  exact this
theorem exchF2 {i j : Nat} {oi oj : Oper} (hap : oi.apart ops oj = true) (hc : cls oi = 0 ∨ cls oi = 1) (hD : inD pc.2 oi.dst = false) {K : ASt → Prop} {s : ASt}
    (h : astp0 P T md Av pc ops i oi (fun s' => astF P T Av pc ops j oj K s') s) : astF P T Av pc ops j oj (fun s' => astp0 P T md Av pc ops i oi K s') s := by
  obtain ⟨p1, p2, p3⟩ := Oper.apart_spec hap
  have wj : ∀ (t : ASt) (v : AV), awant ops oj (t.put oi.dst v) = awant ops oj t := fun t v => awant_put p1
  have wi : ∀ (t : ASt) (v : AV), awant ops oi (t.put oj.dst v) = awant ops oi t := fun t v => awant_put p3
  have vj : ∀ (t : ASt) (v : AV), ∀ x ∈ oj.op.operands, aev (t.put oi.dst v) x = aev t x := fun t v x hx => aev_put (fun u hu e => p1 u hu (looks_mem hx e))
  have vi : ∀ (t : ASt) (v : AV), ∀ x ∈ oi.op.operands, aev (t.put oj.dst v) x = aev t x := fun t v x hx => aev_put (fun u hu e => p3 u hu (looks_mem hx e))
  have rput : ∀ (t : ASt) (d : Option Tmp) (v : AV), (t.put d v).rows = t.rows ∧ (t.put d v).used = t.used := fun t d v => by cases d <;> exact ⟨rfl, rfl⟩
  obtain ⟨ci, hs, hb⟩ := zkey hc (s := s) (fun _ _ => rfl) rfl rfl rfl h
  unfold astF at hs
  split at hs
  rotate_left
  · exact hs.elim
  rename_i hwj
  obtain ⟨d, Post, h1, h2, h3, h4, h6, h7, h8⟩ := hs
  rw [wj] at hwj
  have hdi : oi.dst ≠ some d := fun e => p2 d e h1
  unfold astF
  rw [hwj]
  refine ⟨d, Post, h1, h2, by rwa [put_get hdi] at h3, h4.to (fun x hx => (vj _ _ x hx).symm), h6, fun r l hp => ⟨(h7 r l hp).1, fun b hb => ((h7 r l hp).2 b hb).imp id (fun h => h.to (fun x hx => (vj _ _ x hx).symm))⟩, fun r l hp hn hf => ?_⟩
  have := h8 r l hp hn (hf.put' hD)
  rw [← h1] at this ⊢
  show astp0 P T md Av pc ops i oi K (s.put oj.dst r)
  rw [hb _ (fun x hx => vi _ _ x hx) (by rw [wi]) (rput _ _ _).1 (rput _ _ _).2]
  rw [put_comm p2] at this
  exact this
theorem OpL.not {ls : List Nat} {s : ASt} {o : Oper} {d b : Nat} {d' : Nat} {l : List Nat} (h : OpL ls s o d b) (hf : FreshD Av ls s d' l) (hb : b ∈ l) (hd : Operand.tmp d' ∉ o.op.operands) : False := by
  obtain ⟨t, h1, h2, h3, h4⟩ := h
  have ht : t ≠ d' := fun e => by subst e; exact hd (by simpa using h1)
  unfold aev at h4
  dsimp only at h4
  cases hs : s.tmps[t]? with
  | none => rw [hs, Option.getD_none, at_any] at h4; cases h4
  | some c => rw [hs, Option.getD_some] at h4; exact (hf b hb).2 t c h2 ht hs h4
theorem exchFF {i j : Nat} {oi oj : Oper} (hap : oi.apart ops oj = true) {K : ASt → Prop} {s : ASt}
    (h : astF P T Av pc ops i oi (fun s' => astF P T Av pc ops j oj K s') s) : astF P T Av pc ops j oj (fun s' => astF P T Av pc ops i oi K s') s := by
  obtain ⟨p1, p2, p3⟩ := Oper.apart_spec hap
  have wj : ∀ (t : ASt) (v : AV), awant ops oj (t.put oi.dst v) = awant ops oj t := fun t v => awant_put p1
  have wi : ∀ (t : ASt) (v : AV), awant ops oi (t.put oj.dst v) = awant ops oi t := fun t v => awant_put p3
  have vj : ∀ (t : ASt) (v : AV), ∀ x ∈ oj.op.operands, aev (t.put oi.dst v) x = aev t x := fun t v x hx => aev_put (fun u hu e => p1 u hu (looks_mem hx e))
  have vi : ∀ (t : ASt) (v : AV), ∀ x ∈ oi.op.operands, aev (t.put oj.dst v) x = aev t x := fun t v x hx => aev_put (fun u hu e => p3 u hu (looks_mem hx e))
  unfold astF at h
  split at h
  rotate_left
  · exact h.elim
  rename_i hwi
  obtain ⟨d, Post, h1, h2, h3, h4, h6, h7, h8⟩ := h
  -- what the second says, from any state behind the first
  have hj : ∀ r l, Post r l → NoId r → FreshD Av pc.2 s d l → fspc P T Av pc j oj (s.put oi.dst r) K ∧ awant ops oj s = some true := fun r l hp hn hf => by
    have := h8 r l hp hn hf
    rw [← h1] at this
    split at this
    · rename_i hw
      rw [wj] at hw
      exact ⟨this, hw⟩
    · exact this.elim
  obtain ⟨r0, l0, q1, q2, q3⟩ := h6 (atL s.tmps)
  obtain ⟨⟨d', Post', k1, k2, k3, k4, k6, k7, _⟩, hwj⟩ := hj r0 l0 q1 q2 (freshD_of q3)
  have k4' : FOp P T pc j oj s Post' := k4.to (fun x hx => (vj _ _ x hx).symm)
  have hne : d ≠ d' := fun e => p2 d h1 (by rw [k1, e])
  have hdi : oi.dst ≠ some d' := fun e => by rw [h1] at e; cases e; exact hne rfl
  have hdj : oj.dst ≠ some d := fun e => by rw [k1] at e; cases e; exact hne rfl
  have k3' : ∃ x, s.tmps[d']? = some x ∧ atB x = [] := by rwa [put_get hdi] at k3
  have noi : Operand.tmp d' ∉ oi.op.operands := fun hx => p3 d' k1 (looks_mem hx rfl)
  unfold astF
  rw [hwj]
  refine ⟨d', Post', k1, k2, k3', k4', k6, fun r l hp => ⟨(k7 r l hp).1, fun b hb => ((k7 r l hp).2 b hb).imp id (fun h => h.to (fun x hx => (vj _ _ x hx).symm))⟩, fun u m hu hnu hfu => ?_⟩
  rw [← k1]
  show (match awant ops oi (s.put oj.dst u) with | some true => fspc P T Av pc i oi (s.put oj.dst u) K | _ => False)
  rw [wi, hwi]
  refine ⟨d, Post, h1, h2, by rwa [put_get hdj], h4.to (fun x hx => vi _ _ x hx), h6, fun r l hp => ⟨(h7 r l hp).1, fun b hb => ((h7 r l hp).2 b hb).imp id (fun h => h.to (fun x hx => vi _ _ x hx))⟩, fun r l hp hn hf => ?_⟩
  -- r is fresh at s as well
  have hf0 : FreshD Av pc.2 s d l := fun b hb => ⟨(hf b hb).1, fun t c t1 t2 t3 => by
    by_cases ht : t = d'
    · subst ht
      obtain ⟨x, x1, x2⟩ := k3'
      rw [t3] at x1; cases x1
      rw [x2]; exact fun h => by cases h
    · exact (hf b hb).2 t c t1 t2 (by rw [put_get (fun e => ht (by rw [k1] at e; cases e; rfl))]; exact t3)⟩
  obtain ⟨⟨d2, Post2, m1, m2, m3, m4, m6, m7, m8⟩, _⟩ := hj r l hp hn hf0
  have hd2 : d2 = d' := by rw [k1] at m1; cases m1; rfl
  subst hd2
  have hP : Post2 = Post' := FOp.one (m4.to (fun x hx => (vj _ _ x hx).symm)) k4'
  subst hP
  have hfr : ∀ b ∈ m, b ∉ atB r := fun b hb hbr => by
    rcases (h7 r l hp).2 b hbr with q | q
    · have hbu := (m7 u m hu).1 b hb
      refine (hf b q).2 d2 u m2 (fun e => hne e.symm) ?_ hbu
      obtain ⟨x, x1, _⟩ := k3'
      simp only [ASt.put, k1, List.getElem?_set_self', x1, Option.map_some]
      try rfl
    · exact q.not hfu hb noi
  have := m8 u m hu hnu (fun b hb => ⟨(hfu b hb).1, fun t c t1 t2 t3 => by
    by_cases ht : t = d
    · subst ht
      rw [h1] at t3
      rw [put_got t3]
      exact hfr b hb
    · exact (hfu b hb).2 t c t1 t2 (by rwa [put_get (fun e => ht (by rw [h1] at e; cases e; rfl))] at t3)⟩)
  rw [← k1, put_comm p2] at this
  rw [← h1]
  exact this
theorem exch {i j : Nat} {oi oj : Oper} (hap : oi.apart ops oj = true) (hcp : compat md oi oj = true) (hli : pc.2.contains i = true → pc.2.contains (2000 + i) = false → pc.2.contains j = false ∧ (cls oj = 0 ∨ cls oj = 2)) (hlj : pc.2.contains j = true → pc.2.contains (2000 + j) = false → pc.2.contains i = false ∧ (cls oi = 0 ∨ cls oi = 2))
    (hfi : pc.2.contains i = true → pc.2.contains (2000 + i) = true → pc.2.contains (1000 + j) = false ∧ ((pc.2.contains j = true ∧ pc.2.contains (2000 + j) = true) ∨ (pc.2.contains j = false ∧ (cls oj = 0 ∨ cls oj = 1) ∧ inD pc.2 oj.dst = false)))
    (hfj : pc.2.contains j = true → pc.2.contains (2000 + j) = true → pc.2.contains (1000 + i) = false ∧ ((pc.2.contains i = true ∧ pc.2.contains (2000 + i) = true) ∨ (pc.2.contains i = false ∧ (cls oi = 0 ∨ cls oi = 1) ∧ inD pc.2 oi.dst = false)))
    (hgi : pc.2.contains (1000 + i) = true → (pc.2.contains j = false ∧ pc.2.contains (1000 + j) = false) ∧ cls oj = 0) (hgj : pc.2.contains (1000 + j) = true → (pc.2.contains i = false ∧ pc.2.contains (1000 + i) = false) ∧ cls oi = 0)
    {K : ASt → Prop} {s : ASt} (hI : Inv s) (h : astp P T md Av pc ops i oi (fun s' => astp P T md Av pc ops j oj K s') s) : astp P T md Av pc ops j oj (fun s' => astp P T md Av pc ops i oi K s') s := by
  unfold astp at *
  cases gi : pc.2.contains (1000 + i) with
  | true =>
    obtain ⟨⟨h1, h2⟩, h3⟩ := hgi gi
    simp only [gi, h1, h2, if_true, if_false, Bool.false_eq_true] at h ⊢
    exact exchG1 hap h3 h
  | false =>
  cases gj : pc.2.contains (1000 + j) with
  | true =>
    obtain ⟨⟨h1, h2⟩, h3⟩ := hgj gj
    simp only [gj, h1, h2, if_true, if_false, Bool.false_eq_true] at h ⊢
    exact exchG2 hap h3 h
  | false =>
  simp only [gi, gj, if_false, Bool.false_eq_true] at h ⊢
  cases hi : pc.2.contains i with
  | true =>
    cases fi : pc.2.contains (2000 + i) with
    | true =>
      rcases (hfi hi fi).2 with ⟨h1, h2⟩ | ⟨h1, h2, h3⟩
      · simp only [hi, h1, fi, h2, if_true, if_false, Bool.false_eq_true] at h ⊢
        exact exchFF hap h
      · simp only [hi, h1, fi, if_true, if_false, Bool.false_eq_true] at h ⊢
        exact exchF1 hap h2 h3 h
    | false =>
    obtain ⟨h1, h2⟩ := hli hi fi
    simp only [hi, h1, fi, if_true, if_false, Bool.false_eq_true] at h ⊢
    exact exchS1 hap h2 hI h
  | false =>
    cases hj : pc.2.contains j with
    | true =>
      cases fj : pc.2.contains (2000 + j) with
      | true =>
        rcases (hfj hj fj).2 with ⟨h1, h2⟩ | ⟨h1, h2, h3⟩
        · rw [hi] at h1; cases h1
        · simp only [hi, hj, fj, if_true, if_false, Bool.false_eq_true] at h ⊢
          exact exchF2 hap h2 h3 h
      | false =>
      obtain ⟨h1, h2⟩ := hlj hj fj
      simp only [hi, hj, fj, if_true, if_false, Bool.false_eq_true] at h ⊢
      exact exchS2 hap h2 hI h
    | false =>
      simp only [hi, hj, if_false, Bool.false_eq_true] at h ⊢
      exact exch0 hap hcp hI h
theorem Closed.set {listed : Array Bool} (hc : Closed ops listed) {j : Nat} (hj : j ∈ Region.ready .any ops listed) : Closed ops (listed.setIfInBounds j true) := by
  intro i o ho hl e he hb
  have ne : ∀ k, j ≠ k → (listed.setIfInBounds j true).getD k false = listed.getD k false := fun k hk => by
    simp [Array.getD_eq_getD_getElem?, Array.getElem?_setIfInBounds, hk]
  have key : ∀ k, listed.getD k false = true → (listed.setIfInBounds j true).getD k false = true := fun k hk => by
    by_cases hjk : j = k
    · subst hjk
      rcases Nat.lt_or_ge j listed.size with h' | h'
      · simp [Array.getD_eq_getD_getElem?, Array.getElem?_setIfInBounds, h']
      · simp [Array.getElem?_eq_none h'] at hk
    · rw [ne k hjk]; exact hk
  apply key
  by_cases hij : j = i
  · subst hij
    obtain ⟨_, oj, hoj, hall⟩ := mem_ready.1 hj
    rw [ho] at hoj; cases hoj
    exact hall e he hb
  · refine hc i o ho ?_ e he hb
    rw [ne i hij] at hl
    exact hl
theorem aAny_first {K : ASt → Prop} (hcmp : cmpL md pc.2 ops = true) {i : Nat} {oi : Oper} (hi : ops[i]? = some oi) :
    ∀ (fuel : Nat) (listed : Array Bool) (s : ASt),
      (∀ j oj, ops[j]? = some oj → j ≠ i → listed.getD j true = false → (∀ e ∈ oj.after, Region.binds .any e = true → e.on ≠ i) → oi.apart ops oj = true) →
      i ∈ Region.ready .any ops listed → Closed ops listed → Inv s →
      astep P T md Av pc ops i (aAny P T md Av pc ops K fuel (listed.setIfInBounds i true)) s → aAny P T md Av pc ops K (fuel + 1) listed s := by
  intro fuel
  induction fuel with
  | zero =>
    intro listed s _ hr _ hI H
    refine ⟨fun h => (by rw [h] at hr; cases hr), fun j hj => ?_⟩
    by_cases hji : j = i
    · subst hji; exact H
    · obtain ⟨t, _, h⟩ := astep_some hI H
      have := ready_mono hj hji
      rw [h.1] at this
      cases this
  | succ fuel ih =>
    intro listed s hfree hr hcl hI H
    refine ⟨fun h => (by rw [h] at hr; cases hr), fun j hj => ?_⟩
    by_cases hji : j = i
    · subst hji; exact H
    · obtain ⟨hjun, oj, hoj, hall⟩ := mem_ready.1 hj
      have key : ∀ (k : Nat), listed.getD k true = false → ∀ e : Edge, listed.getD e.on false = true → e.on ≠ k := fun k hk e he heq => by
        rw [heq] at he
        rcases Nat.lt_or_ge k listed.size with h' | h'
        · simp [h'] at hk he; rw [hk] at he; cases he
        · simp [Array.getElem?_eq_none h'] at he
      have hnot : ∀ e ∈ oj.after, Region.binds .any e = true → e.on ≠ i := fun e he hb => key i (mem_ready.1 hr).1 e (hall e he hb)
      have hnoti : ∀ e ∈ oi.after, Region.binds .any e = true → e.on ≠ j := fun e he hb => by
        obtain ⟨_, oi', hoi', halli⟩ := mem_ready.1 hr
        rw [hi] at hoi'; cases hoi'
        exact key j hjun e (halli e he hb)
      have hanc : ¬ Anc ops j i := fun h => by
        have := hcl.anc h (fun o ho e he hb => by rw [hoj] at ho; cases ho; exact hall e he hb)
        exact key i (mem_ready.1 hr).1 ⟨i, .data⟩ this rfl
      have hanci : ¬ Anc ops i j := fun h => by
        obtain ⟨_, oi', hoi', halli⟩ := mem_ready.1 hr
        have := hcl.anc h (fun o ho e he hb => by rw [hoi'] at ho; cases ho; exact halli e he hb)
        exact key j hjun ⟨j, .data⟩ this rfl
      have h1 : astep P T md Av pc ops i (fun s' => astep P T md Av pc ops j (aAny P T md Av pc ops K fuel ((listed.setIfInBounds i true).setIfInBounds j true)) s') s :=
        astep_mono hI (fun s' _ h => h.2 j (ready_mono hj hji)) H
      have h2 : astep P T md Av pc ops j (fun s' => astep P T md Av pc ops i (aAny P T md Av pc ops K fuel ((listed.setIfInBounds i true).setIfInBounds j true)) s') s := by
        unfold astep at h1 ⊢
        simp only [hi, hoj] at h1 ⊢
        exact exch (hfree j oj hoj hji hjun hnot) (cmpB_spec (cmpL_B hcmp) hi hoj (Ne.symm hji) hanci hanc) (cmpL_spec hcmp hi hoj (Ne.symm hji) hanci hanc) (cmpL_spec hcmp hoj hi hji hanc hanci) (cmpF_spec hcmp hi hoj (Ne.symm hji) hanci hanc) (cmpF_spec hcmp hoj hi hji hanc hanci) (cmpG_spec hcmp hi hoj (Ne.symm hji) hanci hanc) (cmpG_spec hcmp hoj hi hji hanc hanci) hI h1
      have hfree' : ∀ k ok, ops[k]? = some ok → k ≠ i → (listed.setIfInBounds j true).getD k true = false →
          (∀ e ∈ ok.after, Region.binds .any e = true → e.on ≠ i) → oi.apart ops ok = true := fun k ok hk hki hun hno => by
        refine hfree k ok hk hki ?_ hno
        by_cases hjk : j = k
        · subst hjk; exact hjun
        · rw [getD_set_ne true hjk] at hun; exact hun
      refine astep_mono hI (fun s' hI' h3 => ih (listed.setIfInBounds j true) s' hfree' (ready_mono hr (Ne.symm hji)) (hcl.set hj) hI' ?_) h2
      rw [Array.setIfInBounds_comm _ _ hji]
      exact h3
theorem aAny_lex {K : ASt → Prop} (hcmp : cmpL md pc.2 ops = true) : ∀ (l : List Oper) (k : Nat) (listed : Array Bool) (s : ASt), (∀ j, l[j]? = ops[k + j]?) →
    Region.lexFrom .any ops l.length k listed = true → Closed ops listed → Inv s → arunD P T md Av pc ops K l k s → aAny P T md Av pc ops K l.length listed s
  | [], _, _, _, _, hB, _, _, h => ⟨by simpa [Region.lexFrom] using hB, h⟩
  | o :: l, k, listed, s, hl, hB, hcl, hI, h => by
    have h0 : ops[k]? = some o := by simpa using (hl 0).symm
    simp only [List.length_cons, Region.lexFrom, Bool.and_eq_true] at hB
    obtain ⟨⟨hr, hf⟩, hB'⟩ := hB
    have hst : astep P T md Av pc ops k (arunD P T md Av pc ops K l (k + 1)) s := by unfold astep; simp only [h0]; exact h
    exact aAny_first hcmp h0 l.length listed s (Region.free_spec h0 hf) (by simpa using hr) hcl hI
      (astep_mono hI (fun s' hI' h' => aAny_lex hcmp l (k + 1) _ _ (fun j => by have := hl (j + 1); simpa [Nat.add_assoc, Nat.add_comm 1 j] using this) hB' (hcl.set (by simpa using hr)) hI' h') hst)
theorem region_any (hT : Tab.Ok P T) (hA : ∀ b, Av b → w0.A b) {id : Nat} {l : List Oper} {K : ASt → Prop} {Q : Exit → Act → World → Prop} (hm : P.follows .mixedOrders = true) (hB : Region.lexB .any l.toArray = true) (hcmp : cmpL md pc.2 l.toArray = true)
    (hQ : ∀ s w a ρ, SR P w0 S0 rd0 k0 w a s ρ → K s → Q .normal a w) {w : World} {a : Act} {s : ASt} {ρ : Cx} (h : SR P w0 S0 rd0 k0 w a s ρ) (hr : arunD P T md Av pc l.toArray K l 0 s) : (Code.region id l.toArray true).wp P Q a w := by
  simp only [Region.lexB, Bool.and_eq_true] at hB
  obtain ⟨h1, _⟩ := h.grow ((Ext.refl nil w).drew)
  refine wp_region_any hm (wpAny_of_aAny (K := K) (pc := pc) (md := md) hT hA hQ _ _ s _ a ρ h1 ?_)
  have := aAny_lex (P := P) (T := T) (md := md) (pc := pc) (ops := l.toArray) (K := K) hcmp l 0 (Array.replicate l.toArray.size false) s (by simp) (by simpa using hB.2) (fun i o _ hl => by simp [Array.getElem?_replicate] at hl; split at hl <;> simp at hl) h1.inv hr
  simpa using this
end
end Go.Proofs.Ytgfnmhfdmmnaoaa.Eng
namespace Go.Proofs.Ytgfnmhfdmmnaoaa.Eng
open Go Go.RowKit
section
variable {w : World} {ρ ρ' : Cx} {U : Nat → Bool}
structure Cx.Cut (ρ : Cx) (U : Nat → Bool) (ρ' : Cx) : Prop where
  S : ρ'.S = ρ.S
  L : ρ'.L = ρ.L
  rd : ρ'.rd = ρ.rd
  len : ρ'.len = ρ.len
  U : ∀ id, U id = true → ρ'.U id
  row : ∀ id u, ρ'.row id = some u → ρ.row id = some u
theorem Cx.Cut.H (h : Cx.Cut ρ U ρ') {t : VC} {b : Nat} (hb : ρ.H w t b) : ρ'.H w t b := by
  cases t <;> simp only [Cx.H] at * <;> first | rw [h.L]; exact hb | rw [h.S]; exact hb
mutual
theorem Rep.cut (h : Cx.Cut ρ U ρ') : ∀ {c : AV} {v : Value}, AV.In U c → Rep w ρ c v → Rep w ρ' c v
  | .any, _, _, _ => rep_any _
  | .int _ _, _, _, hr => rep_int.2 (rep_int.1 hr)
  | .bool _, _, _, hr => rep_bool.2 (rep_bool.1 hr)
  | .str _, _, _, hr => rep_str.2 (rep_str.1 hr)
  | .rdr, _, _, hr => by rw [rep_rdr] at *; rw [h.rd]; exact hr
  | .own id n, _, hi, hr => by
    rw [rep_own] at *
    obtain ⟨_, h2, h3, h4⟩ := hr
    exact ⟨h.U id (in_own.1 hi), by rw [h.len]; exact h2, h3, fun u hu hn => h4 u (h.row id u hu) (by rw [h.len] at hn; exact hn)⟩
  | .ptr _ _ _ id _ _, _, hi, hr => by
    rw [rep_ptr] at *
    obtain ⟨_, h2, h3, h4⟩ := hr
    exact ⟨h.U id (in_ptr.1 hi), by rw [h.len]; exact h2, h3, fun u hu hn => h4 u (h.row id u hu) (by rw [h.len] at hn; exact hn)⟩
  | .agg cs, _, hi, hr => by
    rw [rep_agg] at *
    obtain ⟨vs, h1, h2, h3⟩ := hr
    exact ⟨vs, h1, h2, RepL.cut h (by unfold AV.In at hi; exact hi) h3⟩
  | .tup cs, _, hi, hr => by
    rw [rep_tup] at *
    obtain ⟨vs, h1, h3⟩ := hr
    exact ⟨vs, h1, RepL.cut h (by unfold AV.In at hi; exact hi) h3⟩
  | .fn f cs, _, hi, hr => by
    rw [rep_fn] at *
    obtain ⟨vs, h1, h3⟩ := hr
    exact ⟨vs, h1, RepL.cut h (by unfold AV.In at hi; exact hi) h3⟩
  | .view _ _ es, _, hi, hr => by
    rw [rep_view] at *
    obtain ⟨a, c, h1, h2, h3, h4, h5, h6⟩ := hr
    refine ⟨a, c, h1, h2, h3, h4, h5, h6.imp (fun h => h) ?_⟩
    rintro ⟨b, o, k1, k2, k3⟩
    exact ⟨b, o, k1, h.H k2, RepE.cut h (by unfold AV.In at hi; exact hi) k3⟩
  | .eptr _ cs, _, hi, hr => by
    rw [rep_eptr] at *
    obtain ⟨b, o, k1, k2, k3⟩ := hr
    exact ⟨b, o, k1, h.H k2, RepC.cut h (by unfold AV.In at hi; exact hi) k3⟩
theorem RepL.cut (h : Cx.Cut ρ U ρ') : ∀ {cs : List AV} {vs : List Value}, AV.InL U cs → RepL w ρ cs vs → RepL w ρ' cs vs
  | [], _, _, hr => by unfold RepL at *; exact hr
  | c :: cs, _, hi, hr => by
    unfold RepL at *
    unfold AV.InL at hi
    obtain ⟨v, vs', h1, h2, h3⟩ := hr
    exact ⟨v, vs', h1, Rep.cut h hi.1 h2, RepL.cut h hi.2 h3⟩
theorem RepC.cut (h : Cx.Cut ρ U ρ') {b : Nat} : ∀ {cs : List AV} {o : Nat}, AV.InL U cs → RepC w ρ b o cs → RepC w ρ' b o cs
  | [], _, _, _ => by unfold RepC; trivial
  | c :: cs, _, hi, hr => by
    unfold RepC at *
    unfold AV.InL at hi
    obtain ⟨⟨v, h1, h2, h3⟩, h4⟩ := hr
    exact ⟨⟨v, h1, h2, Rep.cut h hi.1 h3⟩, RepC.cut h hi.2 h4⟩
theorem RepE.cut (h : Cx.Cut ρ U ρ') {b : Nat} : ∀ {es : List (List AV)} {o : Nat}, AV.InE U es → RepE w ρ b o es → RepE w ρ' b o es
  | [], _, _, _ => by unfold RepE; trivial
  | e :: es, _, hi, hr => by
    unfold RepE at *
    unfold AV.InE at hi
    exact ⟨RepC.cut h hi.1 hr.1, RepE.cut h hi.2 hr.2⟩
end
end
structure LessS (s s' : ASt) : Prop where
  tm : s'.tmps.length = s.tmps.length ∧ ∀ (t : Nat) (c : AV), s'.tmps[t]? = some c → c = .any ∨ s.tmps[t]? = some c
  rw : ∀ id r, s'.rows id = some r → s.rows id = some r
  rd : s'.rd = s.rd ∨ ∃ j j', s.rd = some j ∧ s'.rd = some j' ∧ j' ≤ j
  inv : Inv s'
  rv : ∀ id, 1000 ≤ id → s'.used id = true
section
variable {P : Program} {w0 : W0} {S0 : Nat → Prop} {rd0 : Option Nat} {k0 : Nat} {w : World} {a : Act} {s s' : ASt} {ρ : Cx}
theorem SR.lessS (h : SR P w0 S0 rd0 k0 w a s ρ) (hl : LessS s s') : ∃ ρ', SR P w0 S0 rd0 k0 w a s' ρ' := by
  let ρ' : Cx := { ρ with U := fun id => s'.used id = true, row := fun id => if (s'.rows id).isSome then ρ.row id else none }
  have cut : Cx.Cut ρ s'.used ρ' := ⟨rfl, rfl, rfl, rfl, fun id h => h, fun id u hu => by
    simp only [ρ'] at hu
    split at hu
    · exact hu
    · cases hu⟩
  have hrow : ∀ id u, ρ'.row id = some u → ρ.row id = some u := cut.row
  refine ⟨ρ', ⟨?_, h.df, h.ext, h.s0, h.sl, fun id => Iff.rfl, fun id r hr => ?_, fun id hr => ?_, fun id id' u u' g k1 k2 k3 k4 => h.dj id id' u u' g (hrow _ _ k1) (hrow _ _ k2) k3 k4, fun id u g k1 k2 => h.ns id u g (hrow _ _ k1) k2, h.rl, fun j hj => ?_, fun hj => ?_, fun rb hrb => ?_, h.ll, ?_, hl.rv, h.av⟩⟩
  · refine RepL.of_get (by rw [h.tm.length, hl.tm.1]) (fun i c v h1 h2 => ?_)
    rcases hl.tm.2 i c h1 with rfl | h3
    · exact rep_any _
    · obtain ⟨v', hv, hr⟩ := h.tm.get h3
      rw [h2] at hv; cases hv
      exact hr.cut cut (hl.inv.tm c (List.mem_of_getElem? h1))
  · obtain ⟨_, u, q2, q3, q0, q4, q5, xs, q6, q7, q8⟩ := h.rw id r (hl.rw id r hr)
    refine ⟨(hl.inv.rw id r hr).1, u, by simp only [ρ', hr, Option.isSome_some, if_true]; exact q2, q3, q0, q4, q5, xs, q6, ?_, q8⟩
    refine q7.cut cut (inL_iff.2 (fun c hc => ?_))
    obtain ⟨e, he, hce⟩ := List.mem_flatten.1 hc
    exact (hl.inv.rw id r hr).2 e he c hce
  · simp only [ρ', hr]; rfl
  · rcases hl.rd with h1 | ⟨j0, j1, h1, h2, h3⟩
    · exact h.rdk j (by rw [← h1]; exact hj)
    · rw [h2] at hj; cases hj
      obtain ⟨rb, q1, q2, q3, q4⟩ := h.rdk j0 h1
      exact ⟨rb, q1, q2.less (by omega), q3, q4⟩
  · rcases hl.rd with h1 | ⟨j0, j1, h1, h2, h3⟩
    · exact h.rdn (by rw [← h1]; exact hj)
    · rw [h2] at hj; cases hj
  · refine ⟨(h.r0 rb hrb).1, ?_⟩
    rcases hl.rd with h1 | ⟨j0, j1, h1, h2, h3⟩
    · rw [h1]; exact (h.r0 rb hrb).2
    · rw [h2]; rfl
  · intro id u hK
    obtain ⟨q1, q2⟩ := h.kp id u hK
    exact ⟨q1, fun u' hu' => ⟨(q2 u' (hrow _ _ hu')).1, fun r hr => (q2 u' (hrow _ _ hu')).2 r (hl.rw id r hr)⟩⟩
def ASt.adopt (s : ASt) (t id : Nat) (e : TypeId) (sz : Nat) : ASt := { (s.add id ⟨false, e, sz, []⟩) with tmps := s.tmps.set t (.own id 0) }
theorem SR.adopt (h : SR P w0 S0 rd0 k0 w a s ρ) (t id : Nat) (e : TypeId) (sz sz' : Nat) (he : P.cellsOf e = sz) (ht : s.tmps[t]? = some (.view .tight sz' [])) (hid : s.used id = false) : ∃ ρ', SR P w0 S0 rd0 k0 w a (s.adopt t id e sz) ρ' := by
  obtain ⟨v, hv, hr⟩ := h.tm.get ht
  obtain ⟨ad, c, rfl, hc, _⟩ := rep_view.1 hr
  have hc0 := hc rfl
  simp only [List.length_nil] at hc0
  subst hc0
  have hat : RowAt w 0 e sz (.slice ad 0 0) 0 [] := .inl ⟨rfl, rfl, _, rfl⟩
  obtain ⟨q1, q2⟩ := h.new (Ext.refl nil w) id hid ⟨false, e, sz, []⟩ (.slice ad 0 0) (fun g hg => by cases ad <;> simp [blk] at hg) ⟨⟨he, fun g hg => by cases ad <;> simp [blk] at hg⟩, (fun x hx => by cases hx), (fun hb => by cases hb), [], hat, by simp only [List.flatten_nil]; unfold RepL; rfl, (fun u hu => by cases hu)⟩
  refine ⟨_, ⟨?_, q1.df, q1.ext, q1.s0, q1.sl, q1.us, q1.rw, q1.rn, q1.dj, q1.ns, q1.rl, q1.rdk, q1.rdn, q1.r0, q1.ll, q1.kp, q1.rv, q1.av⟩⟩
  have hown : Rep w (ρ.add id (.slice ad 0 0) 0) (.own id 0) (.slice ad 0 0) := rep_own.2 ⟨Or.inr rfl, by simp [Cx.add, upd_same], own_shape hat, fun u' hu' _ => by simp [Cx.add, upd_same] at hu'; exact hu'⟩
  have := q1.tm.set t hown
  have hset : a.tmps.toList.set t (.slice ad 0 0) = a.tmps.toList := by
    apply List.ext_getElem?
    intro i
    by_cases hi : t = i
    · subst hi
      rw [List.getElem?_set_self (List.getElem?_eq_some_iff.1 hv).1, hv]
      rfl
    · rw [List.getElem?_set_ne hi]
  rw [hset] at this
  exact this
def ASt.adoptB (s : ASt) (b j id : Nat) (e : TypeId) (sz : Nat) : ASt :=
  match s.rows b with
  | some r => { s with rows := upd (upd s.rows id (some ⟨false, e, sz, []⟩)) b (some { r with es := r.es.map (fun x => x.set j (.own id 0)) }), used := upd s.used id true }
  | none => s
theorem SR.adoptB (h : SR P w0 S0 rd0 k0 w a s ρ) (b j id : Nat) (e : TypeId) (sz sz' : Nat) (he : P.cellsOf e = sz) {r : Row} {x : List AV} (hr : s.rows b = some r) (hx : r.es = [x]) (hj : x[j]? = some (.view .tight sz' [])) (hid : s.used id = false) : ∃ ρ', SR P w0 S0 rd0 k0 w a (s.adoptB b j id e sz) ρ' := by
  obtain ⟨hbu, ub, hub, hlb, c0, c1, c2, xs, hatb, hrep, hone⟩ := h.rw b r hr
  have hne : b ≠ id := fun e => by rw [← e, hbu] at hid; cases hid
  rw [hx] at hrep
  simp only [List.flatten_cons, List.flatten_nil, List.append_nil] at hrep
  obtain ⟨v, hv, hrv⟩ := hrep.get hj
  obtain ⟨ad, c, rfl, hc, _⟩ := rep_view.1 hrv
  have hc0 := hc rfl
  simp only [List.length_nil] at hc0
  subst hc0
  have hat : RowAt w 0 e sz (.slice ad 0 0) 0 [] := .inl ⟨rfl, rfl, _, rfl⟩
  obtain ⟨q1, q2⟩ := h.new (Ext.refl nil w) id hid ⟨false, e, sz, []⟩ (.slice ad 0 0) (fun g hg => by cases ad <;> simp [blk] at hg) ⟨⟨he, fun g hg => by cases ad <;> simp [blk] at hg⟩, (fun x hx => by cases hx), (fun hb => by cases hb), [], hat, by simp only [List.flatten_nil]; unfold RepL; rfl, (fun u hu => by cases hu)⟩
  have hown : Rep w (ρ.add id (.slice ad 0 0) 0) (.own id 0) (.slice ad 0 0) := rep_own.2 ⟨Or.inr rfl, by simp [Cx.add, upd_same], own_shape hat, fun u' hu' _ => by simp [Cx.add, upd_same] at hu'; exact hu'⟩
  unfold ASt.adoptB
  rw [hr]
  refine ⟨_, ⟨q1.tm, q1.df, q1.ext, q1.s0, q1.sl, q1.us, fun k r' hk => ?_, fun k hk => ?_, q1.dj, q1.ns, q1.rl, q1.rdk, q1.rdn, q1.r0, q1.ll, q1.kp2 (fun k r' hk => by
      by_cases hkb : k = b
      · subst hkb
        simp only [upd_same, Option.some.injEq] at hk
        subst hk
        exact ⟨r, (by simp only [ASt.add]; rw [upd_ne _ _ hne]; exact hr), rfl⟩
      · dsimp only at hk
        rw [upd_ne _ _ hkb] at hk
        exact ⟨r', hk, rfl⟩), q1.rv, q1.av⟩⟩
  · by_cases hkb : k = b
    · subst hkb
      simp only [upd_same, Option.some.injEq] at hk
      subst hk
      have hrow : (s.add id ⟨false, e, sz, []⟩).rows k = some r := by simp only [ASt.add]; rw [upd_ne _ _ hne]; exact hr
      obtain ⟨t1, u, t2, t3, t0, _, _, xs2, t4, t5, t6⟩ := q1.rw k r hrow
      refine ⟨t1, u, t2, by simpa using t3, t0, fun y hy => ?_, fun hb => by simpa using c2 hb, xs2, by simpa using t4, ?_, t6⟩
      · obtain ⟨y', hy', rfl⟩ := List.mem_map.1 hy
        rw [List.length_set]; exact c1 y' hy'
      · rw [hx] at t5 ⊢
        simp only [List.map_cons, List.map_nil, List.flatten_cons, List.flatten_nil, List.append_nil] at t5 ⊢
        have hux : u = ub := by
          have t2' := t2
          simp only [Cx.add] at t2'
          rw [upd_ne _ _ hne, hub] at t2'
          cases t2'; rfl
        have hl1 : r.es.length = 1 := by rw [hx]; rfl
        have hxs : xs2 = xs := by
          subst hux
          rw [hl1] at hatb t4
          rcases hatb with ⟨z1, _⟩ | ⟨g, cap, cur, z3, _, _, zg, _, _, _, zt, _⟩
          · omega
          · rcases t4 with ⟨z5, _⟩ | ⟨g', cap', cur', z6, _, _, zg', _, _, _, zt', _⟩
            · omega
            · rw [z3] at z6; cases z6
              rw [zg] at zg'; cases zg'
              rw [← zt, ← zt']
        rw [hxs] at t5 ⊢
        have := t5.set j hown
        have hset : xs.set j (.slice ad 0 0) = xs := by
          apply List.ext_getElem?
          intro i
          by_cases hi : j = i
          · subst hi
            rw [List.getElem?_set_self (List.getElem?_eq_some_iff.1 hv).1, hv]
            rfl
          · rw [List.getElem?_set_ne hi]
        rw [hset] at this
        exact this
    · dsimp only at hk
      rw [upd_ne _ _ hkb] at hk
      exact q1.rw k r' hk
  · by_cases hkb : k = b
    · subst hkb; simp [upd_same] at hk
    · dsimp only at hk
      rw [upd_ne _ _ hkb] at hk
      exact q1.rn k hk
def Less (s s' : ASt) : Prop := ∀ (P : Program) (w0 : W0) (S0 : Nat → Prop) (rd0 : Option Nat) (k0 : Nat) (w : World) (a : Act) (ρ : Cx), SR P w0 S0 rd0 k0 w a s ρ → ∃ ρ', SR P w0 S0 rd0 k0 w a s' ρ'
theorem LessS.less {s s' : ASt} (h : LessS s s') : Less s s' := fun _ _ _ _ _ _ _ _ hs => hs.lessS h
theorem Less.trans {s s' s'' : ASt} (h : Less s s') (k : Less s' s'') : Less s s'' := fun P w0 S0 rd0 k0 w a ρ hs => by
  obtain ⟨ρ', h1⟩ := h P w0 S0 rd0 k0 w a ρ hs
  exact k P w0 S0 rd0 k0 w a ρ' h1
theorem SR.less (h : SR P w0 S0 rd0 k0 w a s ρ) (hl : Less s s') : ∃ ρ', SR P w0 S0 rd0 k0 w a s' ρ' := hl _ _ _ _ _ _ _ _ h
end
structure Env where
  P : Program
  T : Tab
  hT : Tab.Ok P T
  hm : P.follows .mixedOrders = true
  w0 : W0
  S0 : Nat → Prop
  rd0 : Option Nat
  k0 : Nat
def SRE (E : Env) (w : World) (a : Act) (s : ASt) (ρ : Cx) : Prop := SR E.P E.w0 E.S0 E.rd0 E.k0 w a s ρ
def AW (E : Env) (c : Code) (Q : Exit → ASt → Prop) (s : ASt) : Prop :=
  ∀ w a ρ, SRE E w a s ρ → c.wp E.P (fun e a' w' => ∃ s' ρ', SRE E w' a' s' ρ' ∧ Q e s') a w
def thenA (K : ASt → Prop) (Q : Exit → ASt → Prop) : Exit → ASt → Prop
  | .normal, s => K s
  | e, s => Q e s
def inBlockA (id : Nat) (Q : Exit → ASt → Prop) : Exit → ASt → Prop
  | .exit id', s => if id' = id then Q .normal s else Q (.exit id') s
  | e, s => Q e s
section
variable {E : Env} {Q : Exit → ASt → Prop} {s : ASt}
theorem AW.seq {x y : Code} (h : AW E x (thenA (AW E y Q) Q) s) : AW E (.seq x y) Q s := fun w a ρ hS => by
  refine wp_seq (wp_mono (h w a ρ hS) ?_)
  rintro e a' w' ⟨s', ρ', h1, h2⟩
  cases e with
  | normal => exact h2 w' a' ρ' h1
  | _ => exact ⟨s', ρ', h1, h2⟩
theorem AW.cond {c : Operand} {x y : Code} (b : Bool) (hc : aev s c = .bool b) (h : AW E (if b then x else y) Q s) : AW E (.cond c x y) Q s := fun w a ρ hS => by
  have := aev_rep hS c
  rw [hc, rep_bool] at this
  exact wp_cond this (h w a ρ hS)
theorem AW.condT {c : Operand} {x y : Code} (hc : aev s c = .bool true) (h : AW E x Q s) : AW E (.cond c x y) Q s := AW.cond true hc h
theorem AW.condF {c : Operand} {x y : Code} (hc : aev s c = .bool false) (h : AW E y Q s) : AW E (.cond c x y) Q s := AW.cond false hc h
theorem AW.block {id : Nat} {c : Code} (h : AW E c (inBlockA id Q) s) : AW E (.block id c) Q s := fun w a ρ hS => by
  refine wp_block (wp_mono (h w a ρ hS) ?_)
  rintro e a' w' ⟨s', ρ', h1, h2⟩
  cases e with
  | exit id' =>
    simp only [Exit.inBlock]
    simp only [inBlockA] at h2
    split
    · rename_i he; rw [if_pos he] at h2; exact ⟨s', ρ', h1, h2⟩
    · rename_i he; rw [if_neg he] at h2; exact ⟨s', ρ', h1, h2⟩
  | _ => exact ⟨s', ρ', h1, h2⟩
theorem AW.skip (h : Q .normal s) : AW E .skip Q s := fun _ _ ρ hS => wp_skip ⟨s, ρ, hS, h⟩
theorem AW.exit {id : Nat} (h : Q (.exit id) s) : AW E (.exit id) Q s := fun _ _ ρ hS => wp_exit ⟨s, ρ, hS, h⟩
theorem AW.ret (h : Q .ret s) : AW E .ret Q s := fun _ _ ρ hS => wp_ret ⟨s, ρ, hS, h⟩
theorem AW.region {md : List Nat} {id : Nat} {l : List Oper} (h : arun E.P E.T E.k0 md l.toArray (Q .normal) l s) : AW E (.region id l.toArray false) Q s := fun w a ρ hS =>
  region_seq E.hT (K := Q .normal) (fun s w a ρ hS hK => ⟨s, ρ, hS, hK⟩) hS h
theorem AW.regionD {md : List Nat} (pc : Pc) {id : Nat} {l : List Oper} (hB : Region.lexB .any l.toArray = true) (hc : cmpL md pc.2 l.toArray = true) (h : arunD E.P E.T md E.w0.A pc l.toArray (Q .normal) l 0 s) : AW E (.region id l.toArray true) Q s := fun w a ρ hS =>
  region_any E.hT (fun _ h => h) (K := Q .normal) E.hm hB hc (fun s w a ρ hS hK => ⟨s, ρ, hS, hK⟩) hS h
theorem AW.less {c : Code} (s' : ASt) (hl : Less s s') (h : AW E c Q s') : AW E c Q s := fun w a ρ hS => by
  obtain ⟨ρ', h1⟩ := SR.less hS hl
  exact h w a ρ' h1
theorem AW.hold {c : Code} (id : Nat) (h : AW E c Q (s.hold id)) : AW E c Q s := fun w a ρ hS => by
  obtain ⟨ρ', h1, _⟩ := SR.held hS id
  exact h w a ρ' h1
theorem AW.adopt {c : Code} (t id : Nat) (e : TypeId) (sz : Nat) {sz' : Nat} (he : ∃ i, E.T e = some i ∧ i.size = sz) (ht : s.tmps[t]? = some (.view .tight sz' [])) (hid : s.used id = false) (h : AW E c Q (s.adopt t id e sz)) : AW E c Q s := fun w a ρ hS => by
  obtain ⟨i, h1, h2⟩ := he
  obtain ⟨d, j, hs⟩ := TI.says (E.hT _ _ h1)
  obtain ⟨ρ', h3⟩ := SR.adopt hS t id e sz sz' (by rw [hs.cells, h2]) ht hid
  exact h w a ρ' h3
theorem AW.adoptB {c : Code} (b j id : Nat) (e : TypeId) (sz : Nat) {sz' : Nat} (he : ∃ i, E.T e = some i ∧ i.size = sz) {r : Row} {x : List AV} (hr : s.rows b = some r) (hx : r.es = [x]) (hj : x[j]? = some (.view .tight sz' [])) (hid : s.used id = false) (h : AW E c Q (s.adoptB b j id e sz)) : AW E c Q s := fun w a ρ hS => by
  obtain ⟨i, h1, h2⟩ := he
  obtain ⟨d, k, hs⟩ := TI.says (E.hT _ _ h1)
  obtain ⟨ρ', h3⟩ := SR.adoptB hS b j id e sz sz' (by rw [hs.cells, h2]) hr hx hj hid
  exact h w a ρ' h3
theorem rounds_mono {P : Program} {c : Code} {R : Exit → Act → World → Prop} : ∀ {n : Nat} {a : Act} {w : World}, Code.rounds P c R n a w → Code.rounds P c R (n + 1) a w
  | 0, _, _, h => h.elim
  | n + 1, a, w, h => by
    unfold Code.rounds at h ⊢
    refine wp_mono h ?_
    intro e a' w' he
    cases e with
    | normal => exact rounds_mono he
    | _ => exact he
theorem rounds_le {P : Program} {c : Code} {R : Exit → Act → World → Prop} {n m : Nat} (hnm : n ≤ m) {a : Act} {w : World} (h : Code.rounds P c R n a w) : Code.rounds P c R m a w := by
  induction hnm with
  | refl => exact h
  | step _ ih => exact rounds_mono ih
theorem AW.loop {c : Code} (I : Nat → ASt → Prop) (n : Nat) (h0 : I n s) (hI : ∀ n s, I n s → AW E c (thenA (fun s' => ∃ m, m < n ∧ I m s') Q) s) : AW E (.loop c) Q s := by
  have key : ∀ n s, I n s → ∀ w a ρ, SRE E w a s ρ → Code.rounds E.P c (fun e a' w' => ∃ s' ρ', SRE E w' a' s' ρ' ∧ Q e s') (n + 1) a w := by
    intro n
    induction n using Nat.strongRecOn with
    | _ n ih =>
      intro s hs w a ρ hS
      unfold Code.rounds
      refine wp_mono (hI n s hs w a ρ hS) ?_
      rintro e a' w' ⟨s', ρ', h1, h2⟩
      cases e with
      | normal =>
        obtain ⟨m, hm, hI'⟩ := h2
        exact rounds_le (by omega) (ih m hm s' hI' w' a' ρ' h1)
      | _ => exact ⟨s', ρ', h1, h2⟩
  exact fun w a ρ hS => wp_loop_rounds (n + 1) (key n s h0 w a ρ hS)
end
def aresL (T : Tab) (s : ASt) : List ResultVar → Option (List AV)
  | [] => some []
  | .tmp t :: rs => match aresL T s rs with | some cs => some ((s.tmps[t]?).getD .any :: cs) | none => none
  | .cell t ty :: rs => match aload T false s ty ((s.tmps[t]?).getD .any), aresL T s rs with | some c, some cs => some (c :: cs) | _, _ => none
def ares (T : Tab) (s : ASt) (rs : List ResultVar) : Option AV :=
  match aresL T s rs with
  | some [c] => some c
  | some cs => some (.tup cs)
  | none => none
section
variable {P : Program} {T : Tab} {w0 : W0} {S0 : Nat → Prop} {rd0 : Option Nat} {k0 : Nat} {w : World} {a : Act} {s : ASt} {ρ : Cx}
theorem aresL_ok (hT : Tab.Ok P T) (h : SR P w0 S0 rd0 k0 w a s ρ) : ∀ {rs : List ResultVar} {cs : List AV}, aresL T s rs = some cs →
    ∃ vs, (rs.mapM (fun (r : ResultVar) => match r with | .tmp t => (pure (a.tmps.getD t undef) : Sem Value) | .cell p t => do loadVar t (← asAddr (a.tmps.getD p undef)))).run P w = .ok vs w ∧ RepL w ρ cs vs
  | [], cs, e => by unfold aresL at e; cases e; exact ⟨[], by simp, by unfold RepL; rfl⟩
  | .tmp t :: rs, cs, e => by
    unfold aresL at e
    split at e
    · rename_i cs' hcs
      cases e
      obtain ⟨vs, h1, h2⟩ := aresL_ok hT h hcs
      have := aev_rep h (.tmp t)
      refine ⟨a.tmps.getD t undef :: vs, ?_, by unfold RepL; exact ⟨_, _, rfl, this, h2⟩⟩
      simp only [List.mapM_cons, Sem.run_bind, Sem.run_pure, Result.andThen_ok, h1]
    · cases e
  | .cell t ty :: rs, cs, e => by
    unfold aresL at e
    split at e
    · rename_i c cs' hc hcs
      cases e
      obtain ⟨vs, h1, h2⟩ := aresL_ok hT h hcs
      have hx := aev_rep h (.tmp t)
      obtain ⟨u, k1, k2⟩ := load_ok hT h hx hc
      refine ⟨u :: vs, ?_, by unfold RepL; exact ⟨_, _, rfl, k2, h2⟩⟩
      have hp : ∃ ad, a.eval (.tmp t) = .pointer (some ad) := by
        unfold Instr.loadAt Instr.sureAddr at k1
        cases hv : a.eval (.tmp t) <;> rw [hv] at k1 <;> simp at k1
        rename_i ad
        cases ad with
        | none => simp at k1
        | some ad => exact ⟨ad, rfl⟩
      obtain ⟨ad, hp⟩ := hp
      rw [hp] at k1
      have hp' : a.tmps.getD t undef = .pointer (some ad) := hp
      simp only [Instr.loadAt, Instr.sureAddr, Sem.run_bind, Sem.run_pure, Result.andThen_ok] at k1
      have hrun : (do loadVar ty (← asAddr (a.tmps.getD t undef)) : Sem Value).run P w = .ok u w := by
        rw [hp', Sem.run_bind]; exact k1
      rw [List.mapM_cons, Sem.run_bind]
      dsimp only
      rw [hrun]
      simp only [Result.andThen_ok, Sem.run_bind, h1, Sem.run_pure]
    · cases e
theorem ares_ok (hT : Tab.Ok P T) (h : SR P w0 S0 rd0 k0 w a s ρ) {fn : Func} {c : AV} (e : ares T s fn.results.toList = some c) : ∃ v, (results fn a.tmps).run P w = .ok v w ∧ Rep w ρ c v := by
  unfold ares at e
  have main : ∀ cs, aresL T s fn.results.toList = some cs → ∃ vs : List Value, (results fn a.tmps).run P w = .ok (if h : vs.toArray.size = 1 then vs.toArray[0] else .tuple vs.toArray) w ∧ RepL w ρ cs vs := fun cs hcs => by
    obtain ⟨vs, h1, h2⟩ := aresL_ok hT h hcs
    refine ⟨vs, ?_, h2⟩
    unfold results
    rw [Array.mapM_eq_mapM_toList]
    simp only [Sem.run_bind, Sem.run_map, Sem.run_pure]
    exact (congrArg (fun r : Result (List Value) => (r.andThen fun a w' => Result.ok a.toArray w').andThen fun a w' => Result.ok (if h : a.size = 1 then a[0] else Value.tuple a) w') h1)
  split at e
  · rename_i c' hcs
    cases e
    obtain ⟨vs, h1, h2⟩ := main _ hcs
    unfold RepL at h2
    obtain ⟨v, vs', rfl, h3, h4⟩ := h2
    unfold RepL at h4
    subst h4
    exact ⟨v, by simpa using h1, h3⟩
  · rename_i cs hne hcs
    cases e
    obtain ⟨vs, h1, h2⟩ := main _ hcs
    have hl : vs.toArray.size ≠ 1 := fun hl => by
      have h3 := h2.length
      simp only [List.size_toArray] at hl
      rw [hl] at h3
      obtain ⟨c, rfl⟩ := List.length_eq_one_iff.1 h3.symm
      exact hne c rfl
    rw [dif_neg hl] at h1
    exact ⟨_, h1, rep_tup.2 ⟨vs, rfl, h2⟩⟩
  · cases e
end
def initSt (args : List AV) (n : Nat) (rd : Option Nat) : ASt := { tmps := args ++ List.replicate (n - args.length) .any, rows := fun _ => none, used := fun id => decide (1000 ≤ id), rd := rd }
def endQ (T : Tab) (fn : Func) (Post : AV → Prop) : Exit → ASt → Prop
  | .normal, s | .ret, s => ∃ r, ares T s fn.results.toList = some r ∧ Pur r ∧ Post r
  | _, _ => False
def W0.of (w : World) : W0 := ⟨w, nil, fun _ => none, fun b => b < w.heap.size⟩
def initC (L S : Nat → Prop) (rb : Option Nat) : Cx := ⟨S, L, fun id => 1000 ≤ id, fun _ => none, fun _ => 0, rb⟩
theorem init_SR {P : Program} {w : World} {L S : Nat → Prop} {rb : Option Nat} {k c n : Nat} {args : List AV} {vs : List Value} (hL : ∀ b, L b → b < w.heap.size ∧ rb ≠ some b) (hS : ∀ b, S b → b < w.heap.size) (hr : ∀ b, rb = some b → ¬ S b ∧ RdOk w S b (k + c)) (h : RepL w (pureC L S rb) args vs) :
    SR P (W0.of w) S rb k w { tmps := vs.toArray ++ Array.replicate (n - vs.toArray.size) undef, defers := [] } (initSt args n (rb.map fun _ => c)) (initC L S rb) := by
  have h : RepL w (initC L S rb) args vs := RepL.le (ρ := pureC L S rb) (ρ' := initC L S rb) ⟨fun _ h => ⟨h, fun _ => rfl⟩, fun _ h => ⟨h, fun _ => rfl⟩, fun _ h => False.elim h, fun _ h => h⟩ h
  refine ⟨?_, rfl, Ext.refl _ _, fun _ h => h, fun b hb => ⟨hS b hb, .inl hb⟩, fun id => by simp [initSt, initC], (fun id r h => by simp [initSt] at h), fun _ _ => rfl, (fun _ _ _ _ _ h => by cases h), (fun _ _ _ h => by cases h), fun b hb => ?_, fun j hj => ?_, fun hj => ?_, fun b hb => ⟨hb, by rw [hb]; rfl⟩, fun b hb => ⟨(hL b hb).1, (hL b hb).2, fun h => h⟩, (fun _ _ h => by cases h), fun id hid => by simp [initSt, hid], fun _ h => h⟩
  · have hl := h.length
    have : RepL w (initC L S rb) (List.replicate (n - args.length) AV.any) (List.replicate (n - args.length) undef) := RepL.of_get (by simp) (fun i c v h1 h2 => by
      have := List.getElem?_eq_some_iff.1 h1
      simp at this
      rw [← this.2]; exact rep_any _)
    have := h.append this
    simpa [initSt, hl] using this
  · have := hr b hb
    refine ⟨?_, this.1⟩
    obtain ⟨_, _, _, _, _, _, _, _, _, h6, _⟩ := this.2
    exact h6
  · simp only [initSt, Option.map_eq_some_iff] at hj
    obtain ⟨b, hb, rfl⟩ := hj
    have := hr b hb
    exact ⟨b, hb, this.2, this.1, .inl hb⟩
  · simp only [initSt, Option.map_eq_none_iff] at hj
    exact hj
theorem enters_of {P : Program} {f : FuncId} {fn : Func} (hf : P.funcs[f]? = some fn) (hn : (fn.name == "runtime.NumGoroutine") = false) (hb : fn.body.isSome = true) : Enters P f := by
  intro «as» w
  unfold callFunc
  simp only [Sem.run_bind, run_program, Result.andThen_ok, hf, hn, Bool.false_eq_true, if_false]
  have : fn.body.isNone = false := by cases h : fn.body <;> simp_all
  simp only [this, Bool.false_eq_true, if_false, Sem.run_pure]
theorem SR.fin_S {P : Program} {w0 w : World} {S : Nat → Prop} {rb : Option Nat} {k : Nat} {a : Act} {s : ASt} {ρ : Cx} (h : SR P (W0.of w0) S rb k w a s ρ) (b : Nat) (hb : ρ.S b) : S b ∨ (w0.heap.size ≤ b ∧ b < w.heap.size) := by
  rcases (SR.sl h b hb).2 with h5 | h5
  · exact .inl h5
  · exact .inr ⟨h5.elim (fun h => h) (fun h => h.elim), (SR.sl h b hb).1⟩
theorem SR.fin_ext {P : Program} {w0 w : World} {S : Nat → Prop} {rb : Option Nat} {k : Nat} {a : Act} {s : ASt} {ρ : Cx} (h : SR P (W0.of w0) S rb k w a s ρ) : Ext (fun b => rb = some b) w0 w := (SR.ext h).mono fun _ hb => hb.elim (fun h => h) (fun h => h.elim)
theorem SR.fin_rd {P : Program} {w0 : W0} {w : World} {S : Nat → Prop} {rb : Option Nat} {k : Nat} {a : Act} {s : ASt} {ρ : Cx} (h : SR P w0 S rb k w a s ρ) (b : Nat) (hb : rb = some b) : RdOk w ρ.S b k := by
  obtain ⟨k3, k4⟩ := SR.r0 h b hb
  obtain ⟨j, hj⟩ := Option.isSome_iff_exists.1 k4
  obtain ⟨rb', q1, q2, _⟩ := SR.rdk h j hj
  rw [k3] at q1; cases q1
  exact q2.less (Nat.le_add_right _ _)
theorem AC.of {P : Program} {T : Tab} (hT : Tab.Ok P T) (hm : P.follows .mixedOrders = true) {f : FuncId} {fn : Func} {code : Code} (hf : P.funcs[f]? = some fn) (hb : fn.body = some code) (hn : (fn.name == "runtime.NumGoroutine") = false)
    {args : List AV} {c : Nat} {Post : AV → Prop}
    (h : ∀ E : Env, E.P = P → E.T = T → AW E code (endQ T fn Post) (initSt args fn.ntmps (E.rd0.map fun _ => c))) : AC P f args c Post := by
  refine ⟨enters_of hf hn (by rw [hb]; rfl), fun w L S rb k vs hL hS hr hargs => ?_⟩
  refine calls_of_wp hf hb ?_
  refine wp_mono (h ⟨P, T, hT, hm, W0.of w, S, rb, k⟩ rfl rfl w _ (initC L S rb) (init_SR hL hS hr hargs)) ?_
  rintro e a' w' ⟨s', ρ', h1, h2⟩
  have fin : ∀ r, ares T s' fn.results.toList = some r → Pur r → Post r → a'.defers = [] ∧ ∃ v, (results fn a'.tmps).run P w' = .ok v w' ∧ ∃ v' r S', Ending.returned v = .returned v' ∧ Ext (fun b => rb = some b) w w' ∧ (∀ b, S b → S' b) ∧ (∀ b, S' b → S b ∨ (w.heap.size ≤ b ∧ b < w'.heap.size)) ∧
      (∀ b, rb = some b → RdOk w' S' b k) ∧ Rep w' (pureC nil S' none) r v' ∧ Post r := fun r hr hp hq => by
    obtain ⟨v, k1, k2⟩ := ares_ok hT h1 hr
    exact ⟨SR.df h1, v, k1, v, r, ρ'.S, rfl, SR.fin_ext h1, SR.s0 h1, SR.fin_S h1, SR.fin_rd h1, hp _ _ _ k2, hq⟩
  cases e with
  | normal => obtain ⟨r, q1, q2, q3⟩ := h2; exact fin r q1 q2 q3
  | ret => obtain ⟨r, q1, q2, q3⟩ := h2; exact fin r q1 q2 q3
  | _ => exact h2.elim
theorem AC0.of {P : Program} {T : Tab} (hT : Tab.Ok P T) (hm : P.follows .mixedOrders = true) {f : FuncId} {fn : Func} {code : Code} (hf : P.funcs[f]? = some fn) (hb : fn.body = some code) (hn : (fn.name == "runtime.NumGoroutine") = false)
    {args : List AV} {Post : AV → Prop}
    (h : ∀ E : Env, E.P = P → E.T = T → E.k0 = 0 → AW E code (endQ T fn Post) (initSt args fn.ntmps none)) : AC0 P f args Post := by
  refine ⟨enters_of hf hn (by rw [hb]; rfl), fun w L S vs hL hS hargs => ?_⟩
  refine calls_of_wp hf hb ?_
  refine wp_mono (h ⟨P, T, hT, hm, W0.of w, S, none, 0⟩ rfl rfl rfl w _ (initC L S none) (init_SR (c := 0) (fun b hb => ⟨hL b hb, fun h => by cases h⟩) hS (fun b hb => by cases hb) hargs)) ?_
  rintro e a' w' ⟨s', ρ', h1, h2⟩
  have fin : ∀ r, ares T s' fn.results.toList = some r → Pur r → Post r → a'.defers = [] ∧ ∃ v, (results fn a'.tmps).run P w' = .ok v w' ∧ ∃ v' r S', Ending.returned v = .returned v' ∧ Grow w w' ∧ (∀ b, S b → S' b) ∧ (∀ b, S' b → S b ∨ (w.heap.size ≤ b ∧ b < w'.heap.size)) ∧
      Rep w' (pureC nil S' none) r v' ∧ Post r := fun r hr hp hq => by
    obtain ⟨v, k1, k2⟩ := ares_ok hT h1 hr
    exact ⟨SR.df h1, v, k1, v, r, ρ'.S, rfl, Grow.ofNone (SR.fin_ext h1), SR.s0 h1, SR.fin_S h1, hp _ _ _ k2, hq⟩
  cases e with
  | normal => obtain ⟨r, q1, q2, q3⟩ := h2; exact fin r q1 q2 q3
  | ret => obtain ⟨r, q1, q2, q3⟩ := h2; exact fin r q1 q2 q3
  | _ => exact h2.elim
def Res1 (id0 : Nat) (r : Nat → AV) : Prop := ∀ w (ρ : Cx) v u id, ρ.row id0 = some u → Rep w ρ (r id0) v → Rep w (oneC ρ.S id u (ρ.len id0)) (r id) v
theorem Res1.pur (id0 : Nat) {c : AV} (h : Pur c) : Res1 id0 (fun _ => c) := fun w ρ v u id _ hr => Rep.le (ρ := pureC nil ρ.S none) (ρ' := oneC ρ.S id u (ρ.len id0)) ⟨fun _ h => ⟨h, fun _ => rfl⟩, fun _ h => False.elim h, fun _ h => False.elim h, fun _ h => by cases h⟩ (h w ρ v hr)
theorem Res1.own (id0 n : Nat) : Res1 id0 (fun id => .own id n) := fun w ρ v u id hu hr => by
  obtain ⟨_, h2, h3, h4⟩ := rep_own.1 hr
  exact rep_own.2 ⟨rfl, by simp only [oneC, if_true]; exact h2, h3, fun u' hu' hn => by
    simp only [oneC, if_true, Option.some.injEq] at hu' hn
    subst hu'; exact h4 u hu hn⟩
theorem Res1.list {id0 : Nat} {cs : List (Nat → AV)} (h : ∀ c ∈ cs, Res1 id0 c) {w : World} {ρ : Cx} {vs : List Value} {u : Value} (id : Nat) (hu : ρ.row id0 = some u) (hr : RepL w ρ (cs.map (fun c => c id0)) vs) : RepL w (oneC ρ.S id u (ρ.len id0)) (cs.map (fun c => c id)) vs :=
  RepL.of_get (by simpa using hr.length) (fun i c v h1 h2 => by
    rw [List.getElem?_map, Option.map_eq_some_iff] at h1
    obtain ⟨f, hf, rfl⟩ := h1
    obtain ⟨v', hv', hr'⟩ := hr.get (i := i) (c := f id0) (by rw [List.getElem?_map, hf]; rfl)
    rw [h2] at hv'; cases hv'
    exact h f (List.mem_of_getElem? hf) w ρ v u id hu hr')
theorem Res1.agg {id0 : Nat} (cs : List (Nat → AV)) (h : ∀ c ∈ cs, Res1 id0 c) : Res1 id0 (fun id => .agg (cs.map (fun c => c id))) := fun w ρ v u id hu hr => by
  obtain ⟨vs, h1, h2, h3⟩ := rep_agg.1 hr
  exact rep_agg.2 ⟨vs, h1, h2, Res1.list h id hu h3⟩
theorem Res1.tup {id0 : Nat} (cs : List (Nat → AV)) (h : ∀ c ∈ cs, Res1 id0 c) : Res1 id0 (fun id => .tup (cs.map (fun c => c id))) := fun w ρ v u id hu hr => by
  obtain ⟨vs, h1, h3⟩ := rep_tup.1 hr
  exact rep_tup.2 ⟨vs, h1, Res1.list h id hu h3⟩
def endR (T : Tab) (fn : Func) (Post0 : AV → Prop) (Post : (Nat → AV) → Row → Prop) : Exit → ASt → Prop
  | .normal, s | .ret, s => ∃ r, ares T s fn.results.toList = some r ∧ ((Pur r ∧ Post0 r) ∨ ∃ f id0 R, r = f id0 ∧ s.rows id0 = some R ∧ Res1 id0 f ∧ (∀ e ∈ R.es, ∀ c ∈ e, Pur c) ∧ Post f R)
  | _, _ => False
theorem ACR.of {P : Program} {T : Tab} (hT : Tab.Ok P T) (hm : P.follows .mixedOrders = true) {f : FuncId} {fn : Func} {code : Code} (hf : P.funcs[f]? = some fn) (hb : fn.body = some code) (hn : (fn.name == "runtime.NumGoroutine") = false)
    {args : List AV} {c : Nat} {Post0 : AV → Prop} {Post : (Nat → AV) → Row → Prop}
    (h : ∀ E : Env, E.P = P → E.T = T → AW E code (endR T fn Post0 Post) (initSt args fn.ntmps (E.rd0.map fun _ => c))) : ACR P f args c Post0 Post := by
  refine ⟨enters_of hf hn (by rw [hb]; rfl), fun w L S rb k vs hL hS hr hargs => ?_⟩
  refine calls_of_wp hf hb ?_
  refine wp_mono (h ⟨P, T, hT, hm, W0.of w, S, rb, k⟩ rfl rfl w _ (initC L S rb) (init_SR hL hS hr hargs)) ?_
  rintro e a' w' ⟨s', ρ', h1, h2⟩
  have fin : ∀ r, ares T s' fn.results.toList = some r → ((Pur r ∧ Post0 r) ∨ ∃ f id0 R, r = f id0 ∧ s'.rows id0 = some R ∧ Res1 id0 f ∧ (∀ e ∈ R.es, ∀ c ∈ e, Pur c) ∧ Post f R) → a'.defers = [] ∧ ∃ v, (results fn a'.tmps).run P w' = .ok v w' ∧ ∃ v' S', Ending.returned v = .returned v' ∧ Ext (fun b => rb = some b) w w' ∧ (∀ b, S b → S' b) ∧ (∀ b, S' b → S b ∨ (w.heap.size ≤ b ∧ b < w'.heap.size)) ∧
      (∀ b, rb = some b → RdOk w' S' b k) ∧ ((∃ r, Rep w' (pureC nil S' none) r v' ∧ Post0 r) ∨
        ∃ r R u, (∀ id, Rep w' (oneC S' id u R.es.length) (r id) v') ∧ RowOk P w' (pureC nil S' none) (fun g => w.heap.size ≤ g) R u ∧ (∀ g, blk u = some g → ¬ S' g) ∧ Post r R) := fun r hr hp => by
    obtain ⟨v, k1, k2⟩ := ares_ok hT h1 hr
    refine ⟨SR.df h1, v, k1, v, ρ'.S, rfl, SR.fin_ext h1, SR.s0 h1, SR.fin_S h1, SR.fin_rd h1, ?_⟩
    rcases hp with ⟨p1, p2⟩ | ⟨g, id0, R, rfl, p1, p2, p3, p4⟩
    · exact .inl ⟨r, p1 _ _ _ k2, p2⟩
    · obtain ⟨_, u, q1, q2, q0, q3, q4, xs, q5, q6, q7⟩ := SR.rw h1 id0 R p1
      refine .inr ⟨g, R, u, fun id => by rw [← q2]; exact p2 _ _ _ _ id q1 k2, ⟨⟨q0.1, fun g hg => (q0.2 g hg).elim (fun h => h) (fun h => h.elim)⟩, q3, q4, xs, q5, RepL.of_get q6.length (fun i c v h1 h2 => ?_), q7⟩, fun b hb => (SR.ns h1 id0 u b q1 hb).1, p4⟩
      obtain ⟨v', hv', hr'⟩ := q6.get h1
      rw [h2] at hv'; cases hv'
      obtain ⟨e, he, hce⟩ := List.mem_flatten.1 (List.mem_of_getElem? h1)
      exact p3 e he c hce _ _ _ hr'
  cases e with
  | normal => obtain ⟨r, q1, q2⟩ := h2; exact fin r q1 q2
  | ret => obtain ⟨r, q1, q2⟩ := h2; exact fin r q1 q2
  | _ => exact h2.elim
def initStG (args : List AV) (n : Nat) (rows0 : List (Nat × Row)) (rd : Option Nat) : ASt := { tmps := args ++ List.replicate (n - args.length) .any, rows := rowsOf rows0, used := fun id => decide (1000 ≤ id), rd := rd }
def PurR (c : AV) : Prop := ∀ w (ρ : Cx) v, Rep w ρ c v → Rep w { ρ with L := nil, rd := none } c v
def endG (T : Tab) (fn : Func) (Post : AV → List (Nat × Row) → Prop) : Exit → ASt → Prop
  | .normal, s | .ret, s => ∃ r l, ares T s fn.results.toList = some r ∧ (∀ p ∈ l, s.rows p.1 = some p.2) ∧ PurR r ∧ (∀ p ∈ l, ∀ e ∈ p.2.es, ∀ c ∈ e, PurR c) ∧ BackIn l r ∧ Post r l
  | _, _ => False
theorem ACGW.of {P : Program} {T : Tab} (hT : Tab.Ok P T) (hm : P.follows .mixedOrders = true) {f : FuncId} {fn : Func} {code : Code} (hf : P.funcs[f]? = some fn) (hb : fn.body = some code) (hn : (fn.name == "runtime.NumGoroutine") = false)
    {args : List AV} {rows0 : List (Nat × Row)} {c : Nat} {Post : World → AV → List (Nat × Row) → Prop} (h0 : ∀ p ∈ rows0, 1000 ≤ p.1)
    (h : ∀ E : Env, E.P = P → E.T = T → (∀ b, b < E.w0.wd.heap.size → E.w0.A b) → (rows0 = [] → ∀ b, ¬ E.w0.X b) → AW E code (endG T fn (Post E.w0.wd)) (initStG args fn.ntmps rows0 (E.rd0.map fun _ => c))) : ACGW P f args rows0 c Post := by
  refine ⟨enters_of hf hn (by rw [hb]; rfl), h0, fun w ρ k vs hL hS hr hU hR hargs => ?_⟩
  refine calls_of_wp hf hb ?_
  have h0' : ∀ id r, rowsOf rows0 id = some r → 1000 ≤ id := fun id r hr => h0 _ (rowsOf_some hr)
  let K : Nat → Option Value := fun id => match rowsOf rows0 id with | some r => if r.bx = true then ρ.row id else none | none => none
  have hK : ∀ id r, rowsOf rows0 id = some r → r.bx = true → K id = ρ.row id := fun id r h1 h2 => by simp only [K, h1, h2, if_true]
  have hK' : ∀ id u, K id = some u → ∃ r, rowsOf rows0 id = some r ∧ r.bx = true ∧ ρ.row id = some u := fun id u h1 => by
    simp only [K] at h1
    split at h1
    · rename_i r hr
      split at h1
      · rename_i hb'; exact ⟨r, hr, hb', h1⟩
      · cases h1
    · cases h1
  have hS0 : SR P ⟨w, blks ρ, K, fun b => b < w.heap.size⟩ ρ.S ρ.rd k w { tmps := vs.toArray ++ Array.replicate (fn.ntmps - vs.toArray.size) undef, defers := [] } (initStG args fn.ntmps rows0 (ρ.rd.map fun _ => c)) ρ := by
    refine ⟨?_, rfl, Ext.refl _ _, fun _ h => h, fun b hb => ⟨hS b hb, .inl hb⟩, fun id => by rw [hU]; simp [initStG], fun id r h1 => ?_, fun id h1 => hR.rn id h1, hR.dj, fun id u g h1 h2 => ⟨hR.ns id u g h1 h2, fun e => (hr g e).2.1 ⟨id, u, h1, h2⟩⟩,
      fun b hb => ?_, fun j hj => ?_, fun hj => ?_, fun b hb => ⟨hb, by simp only [initStG]; rw [hb]; rfl⟩, fun b hb => ⟨(hL b hb).1, (hL b hb).2.1, (hL b hb).2.2⟩, fun id u h1 => ?_, fun id hid => by simp [initStG, hid], fun _ h => h⟩
    · have hl := hargs.length
      have : RepL w ρ (List.replicate (fn.ntmps - args.length) AV.any) (List.replicate (fn.ntmps - args.length) undef) := RepL.of_get (by simp) (fun i c v h1 h2 => by
        have := List.getElem?_eq_some_iff.1 h1
        simp at this
        rw [← this.2]; exact rep_any _)
      have := hargs.append this
      simpa [initStG, hl] using this
    · obtain ⟨u, q1, q2, q3⟩ := hR.rw id r h1
      exact ⟨by simp [initStG, h0' id r h1], u, q1, q2, ⟨q3.1.1, fun g hg => .inr ⟨id, u, q1, hg⟩⟩, q3.2.1, q3.2.2.1, q3.2.2.2⟩
    · obtain ⟨h1, _, h2⟩ := hr b hb
      refine ⟨?_, h1⟩
      obtain ⟨_, _, _, _, _, _, _, _, _, h6, _⟩ := h2
      exact h6
    · simp only [initStG, Option.map_eq_some_iff] at hj
      obtain ⟨b, hb, rfl⟩ := hj
      have := hr b hb
      exact ⟨b, hb, this.2.2, this.1, .inl hb⟩
    · simp only [initStG, Option.map_eq_none_iff] at hj
      exact hj
    · obtain ⟨r, q1, q2, q3⟩ := hK' id u h1
      exact ⟨h0' id r q1, fun u' hu' => by rw [q3] at hu'; cases hu'; exact ⟨rfl, fun r' hr' => by simp only [initStG] at hr'; rw [q1] at hr'; cases hr'; exact q2⟩⟩
  refine wp_mono (h ⟨P, T, hT, hm, ⟨w, blks ρ, K, fun b => b < w.heap.size⟩, ρ.S, ρ.rd, k⟩ rfl rfl (fun _ h => h) (fun e b hb => by obtain ⟨id, u, h1, h2⟩ := hb; rw [hR.rn id (by rw [e]; rfl)] at h1; cases h1) w _ ρ hS0) ?_
  rintro e a' w' ⟨s', ρ', h1, h2⟩
  have fin : ∀ r l, ares T s' fn.results.toList = some r → (∀ p ∈ l, s'.rows p.1 = some p.2) → PurR r → (∀ p ∈ l, ∀ e ∈ p.2.es, ∀ c ∈ e, PurR c) → BackIn l r → Post w r l → a'.defers = [] ∧ ∃ v, (results fn a'.tmps).run P w' = .ok v w' ∧
      ∃ v' r l ρ'', Ending.returned v = .returned v' ∧ Ext (fun b => ρ.rd = some b ∨ blks ρ b) w w' ∧ (∀ b, ρ.S b → ρ''.S b) ∧ (∀ b, ρ''.S b → ρ.S b ∨ ((w.heap.size ≤ b ∨ blks ρ b) ∧ b < w'.heap.size)) ∧ (∀ b, ρ.rd = some b → RdOk w' ρ''.S b k) ∧
      ρ''.L = nil ∧ ρ''.rd = none ∧ Rows P w' (fun g => w.heap.size ≤ g ∨ blks ρ g) (rowsOf l) ρ'' ∧ (∀ id r, rowsOf rows0 id = some r → r.bx = true → ∀ u, ρ''.row id = some u → ρ.row id = some u) ∧ Rep w' ρ'' r v' ∧ Post w r l := fun r l hr hl hp hpl hbi hq => by
    obtain ⟨v, k1, k2⟩ := ares_ok hT h1 hr
    have hl' : ∀ id R, rowsOf l id = some R → s'.rows id = some R := fun id R hR => hl _ (rowsOf_some hR)
    let U : Nat → Bool := fun id => (rowsOf l id).isSome
    let ρ1 : Cx := { ρ' with U := fun id => U id = true, row := fun id => if U id = true then ρ'.row id else none }
    have cut : Cx.Cut ρ' U ρ1 := ⟨rfl, rfl, rfl, rfl, fun id h => h, fun id u hu => by
      simp only [ρ1] at hu
      split at hu
      · exact hu
      · cases hu⟩
    refine ⟨SR.df h1, v, k1, v, r, l, { ρ1 with L := nil, rd := none }, rfl, SR.ext h1, fun b hb => SR.s0 (ρ := ρ') h1 b hb, fun b hb => ?_, fun b hb => SR.fin_rd h1 b hb, rfl, rfl, ⟨fun id R hR => ?_, fun id R hR => ?_, fun id hR => ?_, fun id id' u u' g g1 g2 g3 g4 => ?_, fun id u g g1 g2 => ?_⟩, fun id r0 g1 g2 u g3 => ?_, ?_, hq⟩
    · rcases (SR.sl h1 b hb).2 with h5 | h5
      · exact .inl h5
      · exact .inr ⟨h5, (SR.sl h1 b hb).1⟩
    · show U id = true; simp [U, hR]
    · obtain ⟨_, u, q1, q2, q0, q3, q4, xs, q5, q6, q7⟩ := SR.rw h1 id R (hl' id R hR)
      refine ⟨u, by simp only [ρ1, U, hR, Option.isSome_some, if_true]; exact q1, q2, q0, q3, q4, xs, q5, RepL.of_get q6.length (fun i c v h1 h2 => ?_), q7⟩
      obtain ⟨v', hv', hr'⟩ := q6.get h1
      rw [h2] at hv'; cases hv'
      obtain ⟨e, he, hce⟩ := List.mem_flatten.1 (List.mem_of_getElem? h1)
      exact hpl (id, R) (rowsOf_some hR) e he c hce w' ρ1 _ (hr'.cut cut (hbi.2 (id, R) (rowsOf_some hR) e he c hce))
    · simp only [ρ1, U, hR]; rfl
    · exact SR.dj h1 id id' u u' g (cut.row _ _ g1) (cut.row _ _ g2) g3 g4
    · exact (SR.ns h1 id u g (cut.row _ _ g1) g2).1
    · have g4 := cut.row _ _ g3
      obtain ⟨u0, q1, _, q3⟩ := hR.rw id r0 g1
      have := ((SR.kp h1 id u0 (by rw [show (⟨w, blks ρ, K, fun b => b < w.heap.size⟩ : W0).K id = K id from rfl, hK id r0 g1 g2]; exact q1)).2 u g4).1
      rw [this]; exact q1
    · exact hp w' ρ1 v (k2.cut cut hbi.1)
  cases e with
  | normal => obtain ⟨r, l, q1, q2, q3, q4, q5, q6⟩ := h2; exact fin r l q1 q2 q3 q4 q5 q6
  | ret => obtain ⟨r, l, q1, q2, q3, q4, q5, q6⟩ := h2; exact fin r l q1 q2 q3 q4 q5 q6
  | _ => exact h2.elim
theorem ACG.of {P : Program} {T : Tab} (hT : Tab.Ok P T) (hm : P.follows .mixedOrders = true) {f : FuncId} {fn : Func} {code : Code} (hf : P.funcs[f]? = some fn) (hb : fn.body = some code) (hn : (fn.name == "runtime.NumGoroutine") = false)
    {args : List AV} {rows0 : List (Nat × Row)} {c : Nat} {Post : AV → List (Nat × Row) → Prop} (h0 : ∀ p ∈ rows0, 1000 ≤ p.1)
    (h : ∀ E : Env, E.P = P → E.T = T → AW E code (endG T fn Post) (initStG args fn.ntmps rows0 (E.rd0.map fun _ => c))) : ACG P f args rows0 c Post :=
  ACGW.of (Post := fun _ => Post) hT hm hf hb hn h0 (fun E h1 h2 _ _ => h E h1 h2)
end Go.Proofs.Ytgfnmhfdmmnaoaa.Eng
namespace Go.Proofs.Ytgfnmhfdmmnaoaa.Eng
open Go Go.RowKit
def wpOpsK (P : Program) (ops : Array Oper) (Q : Exit → Act → World → Prop) : List Nat → (Act → World → Prop) → Act → World → Prop
  | [], R => R
  | i :: l, R => fun a w => wpOp P ops Q i (wpOpsK P ops Q l R) a w
theorem wpOpsK_ops {P : Program} {ops : Array Oper} {Q : Exit → Act → World → Prop} : ∀ (l : List Nat) (a : Act) (w : World), wpOpsK P ops Q l (Q .normal) a w → wpOps P ops Q l a w
  | [], _, _, h => h
  | i :: l, a, w, h => by
    rw [wpOps_cons]
    exact wpOp_mono (fun a w h => wpOpsK_ops l a w h) h
theorem wpOpsK_app {P : Program} {ops : Array Oper} {Q : Exit → Act → World → Prop} {R : Act → World → Prop} : ∀ (l l' : List Nat), wpOpsK P ops Q (l ++ l') R = wpOpsK P ops Q l (wpOpsK P ops Q l' R)
  | [], _ => rfl
  | i :: l, l' => by
    show (fun a w => wpOp P ops Q i (wpOpsK P ops Q (l ++ l') R) a w) = _
    rw [wpOpsK_app l l']
    rfl
@[irreducible] def ARun (P : Program) (T : Tab) (k0 : Nat) (Av : Nat → Prop) (_md : List Nat) (ops : Array Oper) (K : ASt → Prop) (l : List Oper) (s : ASt) : Prop :=
  Tab.Ok P T → ∀ (w0 : W0), (∀ b, Av b → w0.A b) → ∀ (S0 : Nat → Prop) (rd0 : Option Nat) (R : Act → World → Prop) (Q : Exit → Act → World → Prop), (∀ s w a ρ, SR P w0 S0 rd0 k0 w a s ρ → K s → R a w) →
    ∀ (k : Nat) (w : World) (a : Act) (ρ : Cx), (∀ j, j < l.length → l[j]? = ops[k + j]?) → SR P w0 S0 rd0 k0 w a s ρ → wpOpsK P ops Q (List.range' k l.length) R a w
section
variable {P : Program} {T : Tab} {k0 : Nat} {md : List Nat} {Av : Nat → Prop} {ops : Array Oper} {K K' : ASt → Prop} {o : Oper} {l l' : List Oper} {s s' : ASt}
theorem ARun.nil (h : K s) : ARun P T k0 Av md ops K [] s := by
  unfold ARun
  intro _ w0 hA S0 rd0 R Q hR k w a ρ _ hS
  exact hR s w a ρ hS h
theorem ARun.app (h : ARun P T k0 Av md ops K' l s) (h' : ∀ s', K' s' → ARun P T k0 Av md ops K l' s') : ARun P T k0 Av md ops K (l ++ l') s := by
  unfold ARun at *
  intro hT w0 hA S0 rd0 R Q hR k w a ρ hl hS
  rw [List.length_append, ← List.range'_append, wpOpsK_app, Nat.one_mul]
  refine h hT w0 hA S0 rd0 _ Q (fun s1 w1 a1 ρ1 h1 h2 => ?_) k w a ρ (fun j hj => ?_) hS
  · refine h' s1 h2 hT w0 hA S0 rd0 R Q hR (k + l.length) w1 a1 ρ1 (fun j hj => ?_) h1
    have := hl (l.length + j) (by rw [List.length_append]; omega)
    rw [List.getElem?_append_right (by omega), Nat.add_sub_cancel_left] at this
    rw [this, Nat.add_assoc]
  · have := hl j (by rw [List.length_append]; omega)
    rwa [List.getElem?_append_left hj] at this
theorem ARun.opA (hw : awant ops o s = some true) (h : ∀ w0 S0 rd0 w a ρ, Tab.Ok P T → (∀ b, Av b → w0.A b) → SR P w0 S0 rd0 k0 w a s ρ → ∀ next Q, (∀ s' w' a' ρ', SR P w0 S0 rd0 k0 w' a' s' ρ' → ARun P T k0 Av md ops K l s' → next a' w') → o.wp P a w next Q) : ARun P T k0 Av md ops K (o :: l) s := by
  unfold ARun
  intro hT w0 hA S0 rd0 R Q hR k w a ρ hl hS
  have h0 : ops[k]? = some o := by have := hl 0 (by simp); simpa using this.symm
  have hl' : ∀ j, j < l.length → l[j]? = ops[k + 1 + j]? := fun j hj => by have := hl (j + 1) (by simpa using hj); simpa [Nat.add_assoc, Nat.add_comm 1 j] using this
  rw [List.length_cons, List.range'_succ]
  unfold wpOpsK wpOp
  simp only [h0]
  rw [if_pos (awant_ok hS hw)]
  refine .inl (h w0 S0 rd0 w a ρ hT hA hS _ _ (fun s' w' a' ρ' h1 h2 => ?_))
  unfold ARun at h2
  exact h2 hT w0 hA S0 rd0 R Q hR (k + 1) w' a' ρ' hl' h1
theorem ARun.op (hw : awant ops o s = some true) (h : ∀ w0 S0 rd0 w a ρ, Tab.Ok P T → SR P w0 S0 rd0 k0 w a s ρ → ∀ next Q, (∀ s' w' a' ρ', SR P w0 S0 rd0 k0 w' a' s' ρ' → ARun P T k0 Av md ops K l s' → next a' w') → o.wp P a w next Q) : ARun P T k0 Av md ops K (o :: l) s :=
  ARun.opA hw fun w0 S0 rd0 w a ρ hT _ hS => h w0 S0 rd0 w a ρ hT hS
theorem ARun.skip (hw : awant ops o s = some false) (h : ARun P T k0 Av md ops K l (s.put o.dst (.tup []))) : ARun P T k0 Av md ops K (o :: l) s := by
  unfold ARun at *
  intro hT w0 hA S0 rd0 R Q hR k w a ρ hl hS
  have h0 : ops[k]? = some o := by have := hl 0 (by simp); simpa using this.symm
  have hl' : ∀ j, j < l.length → l[j]? = ops[k + 1 + j]? := fun j hj => by have := hl (j + 1) (by simpa using hj); simpa [Nat.add_assoc, Nat.add_comm 1 j] using this
  rw [List.length_cons, List.range'_succ]
  unfold wpOpsK wpOp
  simp only [h0]
  rw [awant_ok hS hw, if_neg (by simp)]
  exact h hT w0 hA S0 rd0 R Q hR (k + 1) w _ ρ hl' (hS.putS o.dst rep_undef)
theorem ARun.leaves {v : AV} (hw : awant ops o s = some true) (h : ∀ w0 S0 rd0 w a ρ, Tab.Ok P T → SR P w0 S0 rd0 k0 w a s ρ → Leaves P w0 S0 rd0 k0 o a w v s') (hk : ARun P T k0 Av md ops K l (s'.put o.dst v)) : ARun P T k0 Av md ops K (o :: l) s :=
  ARun.op hw fun w0 S0 rd0 w a ρ hT hS next Q hn => leaves_wp (h w0 S0 rd0 w a ρ hT hS) (fun _ w' ρ' hs => hn _ w' _ ρ' hs hk)
theorem ARun.call {f : FuncId} {xs : List Operand} (hw : awant ops o s = some true) (ha : acall o.op = some (f, xs)) (h : aop P T k0 md o s (ARun P T k0 Av md ops K l)) : ARun P T k0 Av md ops K (o :: l) s := by
  refine ARun.op hw fun w0 S0 rd0 w a ρ hT hS next Q hn => ?_
  unfold aop at h
  rw [ha] at h
  rcases h with h | ⟨args, h2, h⟩
  · obtain ⟨args, rows0, c, Post, ν, h1, h2, h3, h4, h5, h6⟩ := h
    refine callG_ok hS ha h1 ν h2 h3 h4 h5 (fun r l v w' hp hs => ?_)
    obtain ⟨μ, l', r', q1, q2⟩ := h6 r l hp
    obtain ⟨ρ', q3⟩ := hs μ l' r' q1
    exact hn _ _ _ ρ' q3 q2
  · rcases h with ⟨c, Post, h1, h3, h4⟩ | ⟨Post, h1, h3, h4⟩ | ⟨n, h1, h3, h4⟩ | ⟨c, Post0, Post, id, h1, h3, h5, h4, h6⟩
    · exact call_ok hS ha h1 h2 h3 (fun r v w' ρ' hp _ hs => hn _ w' _ ρ' hs (h4 r hp))
    · exact call0_ok hS ha h1 h2 h3 (fun r v w' ρ' hp _ hs => hn _ w' _ ρ' hs (h4 r hp))
    · exact callN_ok hS ha h1 h2 h3 (fun v w' ρ' hs => hn _ w' _ ρ' hs h4)
    · exact callR_ok hS ha h1 h2 h3 h5 (fun r v w' ρ' hp _ hs => hn _ w' _ ρ' hs (h4 r hp)) (fun r R v w' ρ' hp _ hs => hn _ w' _ ρ' hs (h6 r R hp))
theorem ARun.mk : ∀ {l : List Oper} {s : ASt}, arun P T k0 md ops K l s → ARun P T k0 Av md ops K l s
  | [], _, h => ARun.nil h
  | o :: l, s, h => by
    unfold arun at h
    split at h
    · rename_i hw
      cases ha : acall o.op with
      | some q =>
        obtain ⟨f, xs⟩ := q
        refine ARun.call hw ha ?_
        unfold aop at h ⊢
        rw [ha] at h ⊢
        rcases h with h | ⟨args, q2, h⟩
        · obtain ⟨args, rows0, c, Post, ν, g1, g2, g3, g4, g5, g6⟩ := h
          refine .inl ⟨args, rows0, c, Post, ν, g1, g2, g3, g4, g5, fun r l hp => ?_⟩
          obtain ⟨μ, l', r', p1, p2⟩ := g6 r l hp
          exact ⟨μ, l', r', p1, ARun.mk p2⟩
        refine .inr ?_
        rcases h with ⟨c, Post, q1, q3, q4⟩ | ⟨Post, q1, q3, q4⟩ | ⟨n, q1, q3, q4⟩ | ⟨c, Post0, Post, id, q1, q3, q5, q4, q6⟩
        · exact ⟨args, q2, .inl ⟨c, Post, q1, q3, fun r hr => ARun.mk (q4 r hr)⟩⟩
        · exact ⟨args, q2, .inr (.inl ⟨Post, q1, q3, fun r hr => ARun.mk (q4 r hr)⟩)⟩
        · exact ⟨args, q2, .inr (.inr (.inl ⟨n, q1, q3, ARun.mk q4⟩))⟩
        · exact ⟨args, q2, .inr (.inr (.inr ⟨c, Post0, Post, id, q1, q3, q5, fun r hr => ARun.mk (q4 r hr), fun r R hr => ARun.mk (q6 r R hr)⟩))⟩
      | none =>
        unfold aop at h
        rw [ha] at h
        dsimp only at h
        split at h
        · rename_i v s' hd
          exact ARun.leaves hw (fun w0 S0 rd0 w a ρ hT hS => ado_ok hT hS hd) (ARun.mk h)
        · exact h.elim
    · rename_i hw
      exact ARun.skip hw (ARun.mk h)
    · exact h.elim
theorem AW.regionR {E : Env} {Q : Exit → ASt → Prop} {s : ASt} (md : List Nat) {id : Nat} {l : List Oper} (h : ARun E.P E.T E.k0 E.w0.A md l.toArray (Q .normal) l s) : AW E (.region id l.toArray false) Q s := by
  intro w a ρ hS
  refine wp_region ?_
  unfold ARun at h
  have := h E.hT E.w0 (fun _ h => h) E.S0 E.rd0 (fun a' w' => ∃ s' ρ', SRE E w' a' s' ρ' ∧ Q .normal s') (fun e a' w' => ∃ s' ρ', SRE E w' a' s' ρ' ∧ Q e s') (fun s1 w1 a1 ρ1 h1 h2 => ⟨s1, ρ1, h1, h2⟩) 0 w a ρ (fun j _ => by simp) hS
  have := wpOpsK_ops _ _ _ this
  simpa [List.range_eq_range'] using this
theorem AW.regionK {E : Env} {Q : Exit → ASt → Prop} {s : ASt} (md : List Nat) {id : Nat} {l : List Oper} (h : ∀ K : ASt → Prop, (∀ s', Q .normal s' → K s') → ARun E.P E.T E.k0 E.w0.A md l.toArray K l s) : AW E (.region id l.toArray false) Q s :=
  AW.regionR md (h _ fun _ h => h)
theorem arun_kk (k : Nat) (h : ∀ K' : ASt → Prop, (∀ s', ARun P T k0 Av md ops K (l.drop k) s' → K' s') → ARun P T k0 Av md ops K' (l.take k) s) : ARun P T k0 Av md ops K l s := by
  have := ARun.app (K' := ARun P T k0 Av md ops K (l.drop k)) (h _ fun _ h => h) (fun _ h => h)
  rwa [List.take_append_drop] at this
theorem arun_ks (k : Nat) (_ : l.isEmpty = false) (h : ∀ K' : ASt → Prop, (∀ s', ARun P T k0 Av md ops K (l.drop k) s' → K' s') → arun P T k0 md ops K' (l.take k) s) : ARun P T k0 Av md ops K l s :=
  arun_kk k (fun K' hK' => ARun.mk (h K' hK'))
def cn : Nat → List Oper → Nat
  | 0, _ => 0
  | _, [] => 0
  | k + 1, o :: l => if (acall o.op).isSome then 0 else cn k l + 1
theorem arun_kn (k : Nat) (_ : cn k l = k) (h : ∀ K' : ASt → Prop, (∀ s', ARun P T k0 Av md ops K (l.drop k) s' → K' s') → arun P T k0 md ops K' (l.take k) s) : ARun P T k0 Av md ops K l s :=
  arun_kk k (fun K' hK' => ARun.mk (h K' hK'))
theorem arun_skip (hw : awant ops o s = some false) (h : ARun P T k0 Av md ops K l (s.put o.dst (.tup []))) : ARun P T k0 Av md ops K (o :: l) s := ARun.skip hw h
theorem arun_nil (h : K s) : ARun P T k0 Av md ops K [] s := ARun.nil h
end
end Go.Proofs.Ytgfnmhfdmmnaoaa.Eng
namespace Go.Proofs.Ytgfnmhfdmmnaoaa.Eng
open Go Go.RowKit
section
theorem pur_int {k : IntKind} {n : Int} : Pur (.int k n) := fun _ _ _ h => rep_int.2 (rep_int.1 h)
theorem pur_bool {b : Bool} : Pur (.bool b) := fun _ _ _ h => rep_bool.2 (rep_bool.1 h)
theorem pur_str {b : ByteArray} : Pur (.str b) := fun _ _ _ h => rep_str.2 (rep_str.1 h)
theorem purL {w : World} {ρ : Cx} {cs : List AV} {vs : List Value} (hp : ∀ c ∈ cs, Pur c) (h : RepL w ρ cs vs) : RepL w (pureC nil ρ.S none) cs vs :=
  RepL.of_get h.length (fun i c v h1 h2 => by
    obtain ⟨u, hu, hr⟩ := h.get h1
    rw [h2] at hu; cases hu
    exact hp c (List.mem_of_getElem? h1) _ _ _ hr)
theorem purC {w : World} {ρ : Cx} {b o : Nat} {cs : List AV} (hp : ∀ c ∈ cs, Pur c) (h : RepC w ρ b o cs) : RepC w (pureC nil ρ.S none) b o cs :=
  RepC.of_get (fun i c hc => by
    obtain ⟨v, h1, h2, h3⟩ := h.get hc
    exact ⟨v, h1, h2, hp c (List.mem_of_getElem? hc) _ _ _ h3⟩)
theorem pur_agg {cs : List AV} (hp : ∀ c ∈ cs, Pur c) : Pur (.agg cs) := fun _ _ _ h => by
  obtain ⟨vs, h1, h2, h3⟩ := rep_agg.1 h
  exact rep_agg.2 ⟨vs, h1, h2, purL hp h3⟩
theorem pur_tup {cs : List AV} (hp : ∀ c ∈ cs, Pur c) : Pur (.tup cs) := fun _ _ _ h => by
  obtain ⟨vs, h1, h3⟩ := rep_tup.1 h
  exact rep_tup.2 ⟨vs, h1, purL hp h3⟩
theorem pur_view {t : VC} {sz : Nat} {es : List (List AV)} (ht : t ≠ .lent) (hp : ∀ e ∈ es, ∀ c ∈ e, Pur c) : Pur (.view t sz es) := fun _ _ _ h => by
  obtain ⟨a, c, h1, h2, h3, h4, h5, h6⟩ := rep_view.1 h
  refine rep_view.2 ⟨a, c, h1, h2, h3, h4, h5, h6.imp (fun h => h) ?_⟩
  rintro ⟨b, o, k1, k2, k3⟩
  exact ⟨b, o, k1, by cases t <;> first | exact absurd rfl ht | exact k2, RepE.of_get h5 (fun i e he => purC (hp e (List.mem_of_getElem? he)) (k3.get h5 he))⟩
theorem Pur.clo {c : AV} (h : Pur c) : Clo c := fun w ρ v hr => Rep.le (ρ := pureC nil ρ.S none) (ρ' := pureC ρ.L ρ.S ρ.rd) ⟨fun b hb => ⟨hb, fun _ => rfl⟩, fun b hb => False.elim hb, fun id hid => False.elim hid, fun _ h => by cases h⟩ (h w ρ v hr)
theorem clo_view {t : VC} {sz : Nat} {es : List (List AV)} (hp : ∀ e ∈ es, ∀ c ∈ e, Clo c) : Clo (.view t sz es) := fun _ ρ _ h => by
  obtain ⟨a, c, h1, h2, h3, h4, h5, h6⟩ := rep_view.1 h
  refine rep_view.2 ⟨a, c, h1, h2, h3, h4, h5, h6.imp (fun h => h) ?_⟩
  rintro ⟨b, o, k1, k2, k3⟩
  refine ⟨b, o, k1, by cases t <;> exact k2, RepE.of_get h5 (fun i e he => RepC.of_get (fun j c hc => ?_))⟩
  obtain ⟨v, q1, q2, q3⟩ := (k3.get h5 he).get hc
  exact ⟨v, q1, q2, hp e (List.mem_of_getElem? he) c (List.mem_of_getElem? hc) _ _ _ q3⟩
theorem clo_agg {cs : List AV} (hp : ∀ c ∈ cs, Clo c) : Clo (.agg cs) := fun _ _ _ h => by
  obtain ⟨vs, h1, h2, h3⟩ := rep_agg.1 h
  refine rep_agg.2 ⟨vs, h1, h2, RepL.of_get h3.length (fun i c v k1 k2 => ?_)⟩
  obtain ⟨u, hu, hr⟩ := h3.get k1
  rw [k2] at hu; cases hu
  exact hp c (List.mem_of_getElem? k1) _ _ _ hr
theorem clo_rdr : Clo .rdr := fun _ _ _ h => by obtain ⟨b, h1, h2⟩ := rep_rdr.1 h; exact rep_rdr.2 ⟨b, h1, h2⟩
theorem clo_int {k : IntKind} {n : Int} : Clo (.int k n) := pur_int.clo
theorem clo_bool {b : Bool} : Clo (.bool b) := pur_bool.clo
theorem clo_str {b : ByteArray} : Clo (.str b) := pur_str.clo
end
def strsE (xs : List ByteArray) : List (List AV) := xs.map fun s => [.str s]
mutual
def nodeL : Nd → List AV
  | ⟨kind, num, text, names, kids⟩ => [.int .i64 kind, .int .i64 num, .str text, .view .loose 1 (strsE names), .view .loose 5 (nodesL kids)]
def nodesL : List Nd → List (List AV)
  | [] => []
  | k :: ks => nodeL k :: nodesL ks
end
def nodeA (n : Nd) : AV := .agg (nodeL n)
theorem nodesL_map : ∀ (ks : List Nd), nodesL ks = ks.map nodeL
  | [] => by unfold nodesL; rfl
  | k :: ks => by unfold nodesL; rw [nodesL_map ks]; rfl
theorem nodeL_eq (n : Nd) : nodeL n = [.int .i64 n.kind, .int .i64 n.num, .str n.text, .view .loose 1 (strsE n.names), .view .loose 5 (n.kids.map nodeL)] := by
  cases n; unfold nodeL; rw [nodesL_map]
theorem nodeL_len (n : Nd) : (nodeL n).length = 5 := by rw [nodeL_eq]; rfl
theorem strsE_pur (xs : List ByteArray) : ∀ e ∈ strsE xs, ∀ c ∈ e, Pur c := by
  intro e he c hc
  unfold strsE at he
  rw [List.mem_map] at he
  obtain ⟨s, _, rfl⟩ := he
  simp at hc; subst hc; exact pur_str
theorem nodeL_pur : ∀ (n : Nd), ∀ c ∈ nodeL n, Pur c := Nd.ind' _ (fun n ih c hc => by
  rw [nodeL_eq] at hc
  simp only [List.mem_cons, List.not_mem_nil, or_false] at hc
  rcases hc with rfl | rfl | rfl | rfl | rfl
  · exact pur_int
  · exact pur_int
  · exact pur_str
  · exact pur_view (by decide) (strsE_pur _)
  · refine pur_view (by decide) (fun e he c hc => ?_)
    rw [List.mem_map] at he
    obtain ⟨k, hk, rfl⟩ := he
    exact ih k hk c hc)
theorem node_pur (n : Nd) : Pur (nodeA n) := pur_agg (nodeL_pur n)
theorem strs_pur {t : VC} (xs : List ByteArray) (ht : t ≠ .lent) : Pur (.view t 1 (strsE xs)) := pur_view ht (strsE_pur xs)
theorem strs_clo {t : VC} (xs : List ByteArray) : Clo (.view t 1 (strsE xs)) := clo_view (fun e he c hc => (strsE_pur xs e he c hc).clo)
theorem nodesE_pur (ks : List Nd) : ∀ e ∈ ks.map nodeL, ∀ c ∈ e, Pur c := fun e he c hc => by
  rw [List.mem_map] at he
  obtain ⟨k, hk, rfl⟩ := he
  exact nodeL_pur k c hc
theorem nodes_clo {t : VC} (ks : List Nd) : Clo (.view t 5 (ks.map nodeL)) := clo_view (fun e he c hc => (nodesE_pur ks e he c hc).clo)
theorem node_clo (n : Nd) : Clo (nodeA n) := (node_pur n).clo
def nodeTL (t : VC) (n : Nd) : List AV := [.int .i64 n.kind, .int .i64 n.num, .str n.text, .view t 1 (strsE n.names), .view .loose 5 (n.kids.map nodeL)]
def nodeT (t : VC) (n : Nd) : AV := .agg (nodeTL t n)
theorem nodeTL_eq (t : VC) (n : Nd) : nodeTL t n = [.int .i64 n.kind, .int .i64 n.num, .str n.text, .view t 1 (strsE n.names), .view .loose 5 (n.kids.map nodeL)] := rfl
theorem nodeT_loose (n : Nd) : nodeT .loose n = nodeA n := by unfold nodeT nodeA nodeTL; rw [nodeL_eq]
theorem nodeT_clo (t : VC) (n : Nd) : Clo (nodeT t n) := clo_agg (by
  intro c hc
  simp only [nodeTL, List.mem_cons, List.not_mem_nil, or_false] at hc
  rcases hc with rfl | rfl | rfl | rfl | rfl
  · exact clo_int
  · exact clo_int
  · exact clo_str
  · exact strs_clo _
  · exact nodes_clo _)
theorem strsE_get (xs : List ByteArray) (i : Nat) : (strsE xs)[i]? = (xs[i]?).map fun s => [.str s] := by unfold strsE; rw [List.getElem?_map]
theorem strsE_len (xs : List ByteArray) : (strsE xs).length = xs.length := by unfold strsE; rw [List.length_map]
theorem strsE_in {U : Nat → Bool} (xs : List ByteArray) : ∀ e ∈ strsE xs, ∀ c ∈ e, AV.In U c := by
  intro e he c hc
  unfold strsE at he
  rw [List.mem_map] at he
  obtain ⟨s, _, rfl⟩ := he
  simp at hc; subst hc; exact in_str
theorem nodeL_in {U : Nat → Bool} : ∀ (n : Nd), ∀ c ∈ nodeL n, AV.In U c := Nd.ind' _ (fun n ih c hc => by
  rw [nodeL_eq] at hc
  simp only [List.mem_cons, List.not_mem_nil, or_false] at hc
  rcases hc with rfl | rfl | rfl | rfl | rfl
  · exact in_int
  · exact in_int
  · exact in_str
  · exact in_view.2 (strsE_in _)
  · refine in_view.2 (fun e he c hc => ?_)
    rw [List.mem_map] at he
    obtain ⟨k, hk, rfl⟩ := he
    exact ih k hk c hc)
theorem nodeL_sub {id m : Nat} {c : AV} (n : Nd) : AV.subL id m c (nodeL n) = nodeL n := by rw [nodeL_eq]; simp [AV.subL, AV.sub]
theorem nodesE_in {U : Nat → Bool} (ks : List Nd) : ∀ e ∈ ks.map nodeL, ∀ c ∈ e, AV.In U c := fun e he c hc => by
  rw [List.mem_map] at he
  obtain ⟨k, hk, rfl⟩ := he
  exact nodeL_in k c hc
theorem node_in {U : Nat → Bool} (n : Nd) : AV.In U (nodeA n) := in_agg.2 (nodeL_in n)
theorem strs_in {U : Nat → Bool} {t : VC} (xs : List ByteArray) : AV.In U (.view t 1 (strsE xs)) := in_view.2 (strsE_in xs)
theorem nodes_in {U : Nat → Bool} {t : VC} (ks : List Nd) : AV.In U (.view t 5 (ks.map nodeL)) := in_view.2 (fun e he c hc => by
  rw [List.mem_map] at he
  obtain ⟨k, hk, rfl⟩ := he
  exact nodeL_in k c hc)
theorem app_in {U : Nat → Bool} {xs ys : List (List AV)} (h1 : ∀ e ∈ xs, ∀ c ∈ e, AV.In U c) (h2 : ∀ e ∈ ys, ∀ c ∈ e, AV.In U c) : ∀ e ∈ xs ++ ys, ∀ c ∈ e, AV.In U c := fun e he => (List.mem_append.1 he).elim (h1 e) (h2 e)
theorem sing_in {U : Nat → Bool} {y : List AV} (h : ∀ c ∈ y, AV.In U c) : ∀ e ∈ [y], ∀ c ∈ e, AV.In U c := fun e he => by rw [List.mem_singleton.1 he]; exact h
theorem take_in {U : Nat → Bool} {xs : List (List AV)} {i : Nat} (h1 : ∀ e ∈ xs, ∀ c ∈ e, AV.In U c) : ∀ e ∈ xs.take i, ∀ c ∈ e, AV.In U c := fun e he => h1 e (List.mem_of_mem_take he)
theorem in_vnil {U : Nat → Bool} {t : VC} {sz : Nat} : AV.In U (.view t sz []) := in_view.2 (fun e he => by cases he)
def usedOf : List Nat → Nat → Bool
  | [], id => decide (1000 ≤ id)
  | k :: l, id => if id = k then true else usedOf l id
def mkSt (tm : List AV) (rl : List (Nat × Row)) (us : List Nat) (rd : Option Nat) : ASt := ⟨tm, rowsOf rl, usedOf us, rd⟩
theorem usedOf_nil (id : Nat) : usedOf [] id = decide (1000 ≤ id) := rfl
theorem usedOf_cons (k : Nat) (l : List Nat) (id : Nat) : usedOf (k :: l) id = if id = k then true else usedOf l id := rfl
theorem usedOf_rv : ∀ (l : List Nat) {id : Nat}, 1000 ≤ id → usedOf l id = true
  | [], id, h => by simp [usedOf, h]
  | k :: l, id, h => by
    unfold usedOf
    split
    · rfl
    · exact usedOf_rv l h
def lessL : List AV → List AV → Prop
  | [], [] => True
  | x :: xs, y :: ys => (y = .any ∨ y = x) ∧ lessL xs ys
  | _, _ => False
theorem lessL_spec : ∀ {xs ys : List AV}, lessL xs ys → ys.length = xs.length ∧ ∀ (t : Nat) (c : AV), ys[t]? = some c → c = .any ∨ xs[t]? = some c
  | [], [], _ => ⟨rfl, fun t c h => by simp at h⟩
  | x :: xs, y :: ys, h => by
    unfold lessL at h
    obtain ⟨h1, h2⟩ := lessL_spec h.2
    refine ⟨by simp [h1], fun t c hc => ?_⟩
    cases t with
    | zero => simp at hc; subst hc; exact h.1.imp (fun h => h) (fun h => by simp [h])
    | succ t => simpa using h2 t c (by simpa using hc)
  | [], _ :: _, h => by cases h
  | _ :: _, [], h => by cases h
theorem less_of {s : ASt} {tm : List AV} {rl : List (Nat × Row)} {us : List Nat} {rd : Option Nat} (h1 : lessL s.tmps tm) (h2 : ∀ p ∈ rl, s.rows p.1 = some p.2) (h3 : ∀ id ∈ us, s.used id = true)
    (h4 : rd = s.rd ∨ ∃ j j', s.rd = some j ∧ rd = some j' ∧ j' ≤ j) (h5 : ∀ c ∈ tm, AV.In (usedOf us) c) (h6 : ∀ p ∈ rl, usedOf us p.1 = true ∧ ∀ e ∈ p.2.es, ∀ c ∈ e, AV.In (usedOf us) c) : Less s (mkSt tm rl us rd) := by
  refine LessS.less ⟨lessL_spec h1, fun id r hr => h2 (id, r) (rowsOf_some hr), h4, ⟨h5, fun id r hr => ?_⟩, fun id hid => usedOf_rv us hid⟩
  have := h6 (id, r) (rowsOf_some hr)
  exact ⟨this.1, this.2⟩
theorem AW.loopS {E : Env} {Q : Exit → ASt → Prop} {s : ASt} {c : Code} {α : Type} (st : α → ASt) (μ : α → Nat) (G : α → Prop) (x0 : α) (h0 : Less s (st x0)) (g0 : G x0)
    (round : ∀ x, G x → AW E c (thenA (fun s' => ∃ y, μ y < μ x ∧ G y ∧ Less s' (st y)) Q) (st x)) : AW E (.loop c) Q s := by
  refine AW.loop (fun m s => ∃ x, G x ∧ μ x = m ∧ Less s (st x)) (μ x0) ⟨x0, g0, rfl, h0⟩ ?_
  rintro n s ⟨x, hG, hμ, hl⟩
  refine AW.less (st x) hl ?_
  have := round x hG
  intro w a ρ hS
  refine wp_mono (this w a ρ hS) ?_
  rintro e a' w' ⟨s', ρ', k1, k2⟩
  cases e with
  | normal =>
    obtain ⟨y, q1, q2, q3⟩ := k2
    exact ⟨s', ρ', k1, μ y, by omega, y, q2, rfl, q3⟩
  | _ => exact ⟨s', ρ', k1, k2⟩
@[irreducible] def ARunD (P : Program) (T : Tab) (md : List Nat) (Av : Nat → Prop) (pc : Pc) (ops : Array Oper) (K : ASt → Prop) (l : List Oper) (k : Nat) (s : ASt) : Prop := arunD P T md Av pc ops K l k s
theorem ARunD.mk {P : Program} {T : Tab} {md : List Nat} {Av : Nat → Prop} {pc : Pc} {ops : Array Oper} {K : ASt → Prop} {l : List Oper} {k : Nat} {s : ASt} (h : arunD P T md Av pc ops K l k s) : ARunD P T md Av pc ops K l k s := by unfold ARunD; exact h
theorem ARunD.out {P : Program} {T : Tab} {md : List Nat} {Av : Nat → Prop} {pc : Pc} {ops : Array Oper} {K : ASt → Prop} {l : List Oper} {k : Nat} {s : ASt} (h : ARunD P T md Av pc ops K l k s) : arunD P T md Av pc ops K l k s := by unfold ARunD at h; exact h
theorem AW.regionDK {E : Env} {Q : Exit → ASt → Prop} {s : ASt} (md : List Nat) (pc : Pc) {id : Nat} {l : List Oper} (hB : Region.lexB .any l.toArray = true) (hc : cmpL md pc.2 l.toArray = true) (h : ∀ K : ASt → Prop, (∀ s', Q .normal s' → K s') → ARunD E.P E.T md E.w0.A pc l.toArray K l 0 s) : AW E (.region id l.toArray true) Q s :=
  AW.regionD (md := md) pc hB hc (h _ fun _ h => h).out
theorem astp_mono' {P : Program} {T : Tab} {md : List Nat} {Av : Nat → Prop} {pc : Pc} {ops : Array Oper} {i : Nat} {o : Oper} {K K' : ASt → Prop} {s : ASt} (h : ∀ s, K s → K' s) (hh : astp P T md Av pc ops i o K s) : astp P T md Av pc ops i o K' s := by
  unfold astp at *
  split
  · rename_i hi
    rw [if_pos hi] at hh
    unfold astG at *
    split at hh
    · unfold gspc at *
      split at hh
      · exact hh
      · obtain ⟨args, rows0, c, Post, ν, h1, h2, h3, h4, h5, h6, h7⟩ := hh
        refine ⟨args, rows0, c, Post, ν, h1, h2, h3, h4, h5, h6, fun r l hp => ?_⟩
        obtain ⟨μ, l', r', q1, q2, q3⟩ := h7 r l hp
        exact ⟨μ, l', r', q1, q2, h _ q3⟩
    · exact h _ hh
    · exact hh
  rename_i hg
  rw [if_neg hg] at hh
  split
  · rename_i hi
    rw [if_pos hi] at hh
    split
    · rename_i hf
      rw [if_pos hf] at hh
      unfold astF at *
      split at hh
      · obtain ⟨d, Post, h1, h2, h3, h4, h6, h7, h8⟩ := hh
        exact ⟨d, Post, h1, h2, h3, h4, h6, h7, fun r l hp hn hf => h _ (h8 r l hp hn hf)⟩
      · exact hh.elim
    rename_i hf
    rw [if_neg hf] at hh
    unfold astS at *
    split at hh
    · unfold spc at *
      split at hh
      · exact hh
      · obtain ⟨d, args, c, Post0, Post, h1, h2, h3, h4, h5, h6, h7, h8⟩ := hh
        exact ⟨d, args, c, Post0, Post, h1, h2, h3, h4, h5, h6, fun r q1 q2 => h _ (h7 r q1 q2), fun r R q1 q2 => h _ (h8 r R q1 q2)⟩
    · exact h _ hh
    · exact hh
  · rename_i hi
    rw [if_neg hi] at hh
    unfold astp0 at *
    split at hh
    · unfold adr at *
      split at hh
      · exact ⟨hh.1, hh.2.1, hh.2.2.1, fun r hr hn => h _ (hh.2.2.2 r hr hn)⟩
      · split at hh
        · exact h _ hh
        · exact hh
    · exact h _ hh
    · exact hh
theorem arunD_k {P : Program} {T : Tab} {md : List Nat} {Av : Nat → Prop} {pc : Pc} {ops : Array Oper} {K : ASt → Prop} : ∀ (n : Nat) {l : List Oper} {k : Nat} {s : ASt},
    (∀ K' : ASt → Prop, (∀ s', arunD P T md Av pc ops K (l.drop n) (k + n) s' → K' s') → arunD P T md Av pc ops K' (l.take n) k s) → arunD P T md Av pc ops K l k s
  | 0, l, k, s, h => h (arunD P T md Av pc ops K l k) (fun _ h => h)
  | n + 1, [], k, s, h => h K (fun _ h => h)
  | n + 1, o :: l, k, s, h => by
    have h1 := h (arunD P T md Av pc ops K (l.drop n) (k + (n + 1))) (fun _ h => h)
    simp only [List.take_succ_cons] at h1
    unfold arunD at h1 ⊢
    refine astp_mono' (fun s' hs => ?_) h1
    exact arunD_k n (fun K' hK' => arunD_mono (fun s2 h2 => hK' s2 (by rw [show k + 1 + n = k + (n + 1) by omega]; exact h2)) hs)
where
  arunD_mono {K1 K2 : ASt → Prop} (hK : ∀ s, K1 s → K2 s) : ∀ {l : List Oper} {k : Nat} {s : ASt}, arunD P T md Av pc ops K1 l k s → arunD P T md Av pc ops K2 l k s
  | [], _, s, h => hK s h
  | o :: l, k, s, h => by
    unfold arunD at h ⊢
    exact astp_mono' (fun s' hs => arunD_mono hK hs) h
theorem arunD_ks {P : Program} {T : Tab} {md : List Nat} {Av : Nat → Prop} {pc : Pc} {ops : Array Oper} {K : ASt → Prop} (n : Nat) {l : List Oper} {k : Nat} {s : ASt} (_ : l.isEmpty = false)
    (h : ∀ K' : ASt → Prop, (∀ s', ARunD P T md Av pc ops K (l.drop n) (k + n) s' → K' s') → arunD P T md Av pc ops K' (l.take n) k s) : ARunD P T md Av pc ops K l k s := ARunD.mk (arunD_k n (fun K' hK' => h K' (fun s' hs => hK' s' hs.out)))
theorem arunD_nil {P : Program} {T : Tab} {md : List Nat} {Av : Nat → Prop} {pc : Pc} {ops : Array Oper} {K : ASt → Prop} {k : Nat} {s : ASt} (h : K s) : ARunD P T md Av pc ops K [] k s := ARunD.mk h
def pcs (l : List (Nat × Nat × (AV → Prop))) (ls : List Nat) : Pc := (fun i _ => match l.find? (fun p => p.1 == i) with | some p => (some p.2.1, p.2.2) | none => (none, fun _ => False), ls)
theorem arunD_callV {P : Program} {T : Tab} {md : List Nat} {Av : Nat → Prop} {pc : Pc} {ops : Array Oper} {K : ASt → Prop} {o : Oper} {l : List Oper} {k : Nat} {s : ASt} {f : FuncId} {xs : List Operand} {args : List AV} (hl : (pc.2.contains k || pc.2.contains (1000 + k)) = false) (hw : awant ops o s = some true) (ha : acall o.op = some (f, xs)) (hx : xs.map (aev s) = args) {c : Nat} {Post : AV → Prop} (hac : ACV P Av f args c Post)
    (hpc : pc.1 k args = (some c, Post)) (hclo : ∀ x ∈ args, Clo x) (hcan : s.can c) (hne : ∃ r, Post r ∧ NoId r)
    (h : ∀ r, Post r → NoId r → ARunD P T md Av pc ops K l (k + 1) ((s.pay c).put o.dst r)) : ARunD P T md Av pc ops K (o :: l) k s := by
  subst hx
  refine ARunD.mk ?_
  rw [Bool.or_eq_false_iff] at hl
  unfold arunD astp astp0 adr
  rw [if_neg (by rw [hl.2]; simp), if_neg (by rw [hl.1]; simp), hw]
  dsimp only
  rw [ha]
  dsimp only
  rw [hpc]
  exact ⟨⟨hac, hcan⟩, fun x hx => hclo _ (List.mem_map.2 ⟨x, hx, rfl⟩), hne, fun r hr hn => (h r hr hn).out⟩
theorem arunD_call {P : Program} {T : Tab} {md : List Nat} {Av : Nat → Prop} {pc : Pc} {ops : Array Oper} {K : ASt → Prop} {o : Oper} {l : List Oper} {k : Nat} {s : ASt} {f : FuncId} {xs : List Operand} {args : List AV} (hl : (pc.2.contains k || pc.2.contains (1000 + k)) = false) (hw : awant ops o s = some true) (ha : acall o.op = some (f, xs)) (hx : xs.map (aev s) = args) {c : Nat} {Post : AV → Prop} (hac : AC P f args c Post)
    (hpc : pc.1 k args = (some c, Post)) (hclo : ∀ x ∈ args, Clo x) (hcan : s.can c) (hne : ∃ r, Post r ∧ NoId r)
    (h : ∀ r, Post r → NoId r → ARunD P T md Av pc ops K l (k + 1) ((s.pay c).put o.dst r)) : ARunD P T md Av pc ops K (o :: l) k s :=
  arunD_callV hl hw ha hx hac.toV hpc hclo hcan hne h
theorem arunD_fcall {P : Program} {T : Tab} {md : List Nat} {Av : Nat → Prop} {pc : Pc} {ops : Array Oper} {K : ASt → Prop} {o : Oper} {l : List Oper} {k : Nat} {s : ASt} {f : FuncId} {xs : List Operand} {args : List AV} (d : Nat) (hl : (pc.2.contains k && !pc.2.contains (1000 + k) && pc.2.contains (2000 + k) && pc.2.contains (10000 + d)) = true) (hw : awant ops o s = some true) (ha : acall o.op = some (f, xs)) (hx : xs.map (aev s) = args) (hd : o.dst = some d)
    {Post : AV → Prop} (h0 : ∃ x, s.tmps[d]? = some x ∧ atB x = []) (hac : ∀ A : Nat → Prop, ACV P A f args 0 (fun r => Post r ∧ ∀ b ∈ atB r, ¬ A b)) (hpc : pc.1 k args = (some 0, Post)) (hclo : ∀ x ∈ args, Clo x) (hne : ∀ L : List Nat, ∃ r, Post r ∧ NoId r ∧ ∀ b ∈ atB r, b ∉ L ∧ ¬ Av b)
    (h : ∀ r, Post r → NoId r → FreshD Av pc.2 s d (atB r) → ARunD P T md Av pc ops K l (k + 1) (s.put (some d) r)) : ARunD P T md Av pc ops K (o :: l) k s := by
  subst hx
  refine ARunD.mk ?_
  rw [Bool.and_eq_true, Bool.and_eq_true, Bool.and_eq_true, Bool.not_eq_true'] at hl
  unfold arunD astp astF fspc FOp
  rw [if_neg (by rw [hl.1.1.2]; simp), if_pos hl.1.1.1, if_pos hl.1.2, hw]
  dsimp only
  rw [ha]
  refine ⟨d, _, hd, hl.2, h0, ⟨by rw [hpc]; exact hac, fun x hx => hclo _ (List.mem_map.2 ⟨x, hx, rfl⟩), rfl⟩, fun L => ?_, fun r l hp => ?_, fun r l hp hn hf => ?_⟩
  · obtain ⟨r, q1, q2, q3⟩ := hne L
    exact ⟨r, _, ⟨by rw [hpc]; exact q1, rfl⟩, q2, q3⟩
  · obtain ⟨_, rfl⟩ := hp
    exact ⟨fun b hb => hb, fun b hb => .inl hb⟩
  · obtain ⟨h1, rfl⟩ := hp
    rw [hpc] at h1
    exact (h r h1 hn hf).out
theorem arunD_fbuild {P : Program} {T : Tab} {md : List Nat} {Av : Nat → Prop} {pc : Pc} {ops : Array Oper} {K : ASt → Prop} {o : Oper} {l : List Oper} {k : Nat} {s : ASt} (d : Nat) {ty : TypeId} {n : Nat} {ps : Array (Nat × Operand)} {sz : Nat} {es : List (List AV)} (hl : (pc.2.contains k && !pc.2.contains (1000 + k) && pc.2.contains (2000 + k) && pc.2.contains (10000 + d)) = true) (hw : awant ops o s = some true) (ho : o.op = .buildSlice ty n ps) (hd : o.dst = some d)
    (h0 : ∃ x, s.tmps[d]? = some x ∧ atB x = []) (hb : abuildSlice T ty n (aps s ps) = some (.view .tight sz es)) (hes : es ≠ []) (hin : ∀ e ∈ es, ∀ c ∈ e, NoId c) (hop : ∀ b ∈ atE es, OpL pc.2 s o d b) (hAv : ∃ N, ∀ b, Av b → b < N)
    (h : ∀ g, FreshD Av pc.2 s d [g] → ARunD P T md Av pc ops K l (k + 1) (s.put (some d) (.view (.fr g) sz es))) : ARunD P T md Av pc ops K (o :: l) k s := by
  refine ARunD.mk ?_
  rw [Bool.and_eq_true, Bool.and_eq_true, Bool.and_eq_true, Bool.not_eq_true'] at hl
  have ha : acall o.op = none := by rw [ho]; rfl
  have hem : es.isEmpty = false := by cases es <;> simp_all
  unfold arunD astp astF fspc FOp
  rw [if_neg (by rw [hl.1.1.2]; simp), if_pos hl.1.1.1, if_pos hl.1.2, hw]
  dsimp only
  rw [ha, ho]
  refine ⟨d, _, hd, hl.2, h0, ⟨sz, es, hb, rfl⟩, fun L => ?_, fun r l hp => ?_, fun r l hp hn hf => ?_⟩
  · obtain ⟨N, hN⟩ := hAv
    obtain ⟨g, hg⟩ := nat_out (List.range N ++ L)
    refine ⟨_, _, ⟨g, rfl, rfl⟩, in_view.2 hin, fun b hb => ?_⟩
    rw [frB_fr, hem, if_neg (by simp), List.mem_singleton] at hb
    subst hb
    exact ⟨fun h => hg (List.mem_append.2 (.inr h)), fun h => hg (List.mem_append.2 (.inl (List.mem_range.2 (hN _ h))))⟩
  · obtain ⟨g, rfl, rfl⟩ := hp
    rw [at_view]
    exact ⟨fun b hb => List.mem_append.2 (.inl hb), fun b hb => (List.mem_append.1 hb).imp id (fun h => hop b h)⟩
  · obtain ⟨g, rfl, rfl⟩ := hp
    rw [frB_fr, hem, if_neg (by simp)] at hf
    exact (h g hf).out
theorem arunD_kn {P : Program} {T : Tab} {md : List Nat} {Av : Nat → Prop} {pc : Pc} {ops : Array Oper} {K : ASt → Prop} (n : Nat) {l : List Oper} {k : Nat} {s : ASt} (_ : cn n l = n)
    (h : ∀ K' : ASt → Prop, (∀ s', ARunD P T md Av pc ops K (l.drop n) (k + n) s' → K' s') → arunD P T md Av pc ops K' (l.take n) k s) : ARunD P T md Av pc ops K l k s := ARunD.mk (arunD_k n (fun K' hK' => h K' (fun s' hs => hK' s' hs.out)))
theorem clo_vnil {t : VC} {sz : Nat} : Clo (.view t sz []) := clo_view (fun e he => by cases he)
def cloL : List AV → Prop
  | [] => True
  | x :: xs => Clo x ∧ cloL xs
theorem cloL_spec {s : ASt} : ∀ {xs : List Operand}, cloL (xs.map (aev s)) → ∀ x ∈ xs, Clo (aev s x)
  | x :: xs, h, y, hy => by
    rcases List.mem_cons.1 hy with rfl | hy
    · exact h.1
    · exact cloL_spec h.2 y hy
section
variable {P : Program} {T : Tab} {k0 : Nat} {md : List Nat} {Av : Nat → Prop} {ops : Array Oper} {K : ASt → Prop} {o : Oper} {l : List Oper} {s : ASt}
theorem arun_call {f : FuncId} {xs : List Operand} {args : List AV} (hw : awant ops o s = some true) (ha : acall o.op = some (f, xs)) (hx : xs.map (aev s) = args) {c : Nat} {Post : AV → Prop} (hac : AC P f args c Post) (hclo : cloL args) (hcan : s.can c)
    (h : ∀ r, Post r → ARun P T k0 Av md ops K l ((s.pay c).put o.dst r)) : ARun P T k0 Av md ops K (o :: l) s := by
  subst hx
  refine ARun.call hw ha ?_
  unfold aop
  rw [ha]
  exact .inr ⟨_, lendL_ops (cloL_spec hclo), .inl ⟨c, Post, hac, hcan, fun r hr => (h r hr)⟩⟩
theorem pay_zero : s.pay 0 = s := by
  cases s; unfold ASt.pay
  congr 1
  rename_i rd
  cases rd <;> rfl
theorem arun_call0 {f : FuncId} {xs : List Operand} {args : List AV} (hw : awant ops o s = some true) (ha : acall o.op = some (f, xs)) (hx : xs.map (aev s) = args) {Post : AV → Prop} (hac : AC P f args 0 Post) (hclo : cloL args)
    (h : ∀ r, Post r → ARun P T k0 Av md ops K l (s.put o.dst r)) : ARun P T k0 Av md ops K (o :: l) s :=
  arun_call hw ha hx hac hclo (fun _ _ => Nat.zero_le _) (fun r hr => by rw [pay_zero]; exact h r hr)
end
def Wk (c d : AV) : Prop := ∀ w ρ v, Rep w ρ c v → Rep w ρ d v
theorem Wk.refl (c : AV) : Wk c c := fun _ _ _ h => h
theorem Wk.nil {t t' : VC} {sz sz' : Nat} (h : t' = .tight → t = .tight) : Wk (.view t sz []) (.view t' sz' []) := fun _ _ _ hr => by
  obtain ⟨a, c, h1, h2, h3, h4, _, _⟩ := rep_view.1 hr
  exact rep_view.2 ⟨a, c, h1, fun e => h2 (h e), h3, h4, (fun e he => by cases he), .inl rfl⟩
theorem Wk.loose {t : VC} {sz : Nat} {es : List (List AV)} (h : t ≠ .lent) : Wk (.view t sz es) (.view .loose sz es) := fun _ ρ _ hr => by
  obtain ⟨a, c, h1, h2, h3, h4, h5, h6⟩ := rep_view.1 hr
  refine rep_view.2 ⟨a, c, h1, (fun e => by cases e), h3, h4, h5, h6.imp (fun h => h) ?_⟩
  rintro ⟨b, o, k1, k2, k3⟩
  exact ⟨b, o, k1, by cases t <;> first | exact absurd rfl h | exact k2 | exact k2.1, k3⟩
inductive WkL : List AV → List AV → Prop
  | nil : WkL [] []
  | cons {c d : AV} {cs ds : List AV} (h : Wk c d) (t : WkL cs ds) : WkL (c :: cs) (d :: ds)
theorem WkL.refl : ∀ (cs : List AV), WkL cs cs
  | [] => .nil
  | c :: cs => .cons (Wk.refl c) (WkL.refl cs)
theorem WkL.rep {cs ds : List AV} (h : WkL cs ds) : ∀ {w : World} {ρ : Cx} {vs : List Value}, RepL w ρ cs vs → RepL w ρ ds vs := by
  induction h with
  | nil => exact fun h => h
  | cons h _ ih =>
    intro w ρ vs hr
    unfold RepL at hr ⊢
    obtain ⟨v, vs', h1, h2, h3⟩ := hr
    exact ⟨v, vs', h1, h _ _ _ h2, ih h3⟩
theorem Wk.agg {cs ds : List AV} (h : WkL cs ds) : Wk (.agg cs) (.agg ds) := fun _ _ _ hr => by
  obtain ⟨vs, h1, h2, h3⟩ := rep_agg.1 hr
  exact rep_agg.2 ⟨vs, h1, h2, h.rep h3⟩
theorem Wk.tup {cs ds : List AV} (h : WkL cs ds) : Wk (.tup cs) (.tup ds) := fun _ _ _ hr => by
  obtain ⟨vs, h1, h3⟩ := rep_tup.1 hr
  exact rep_tup.2 ⟨vs, h1, h.rep h3⟩
theorem AC.weak {P : Program} {f : FuncId} {args : List AV} {c : Nat} {Q : AV → Prop} (h : AC P f args c (fun r => ∃ r', Wk r r' ∧ Q r')) : AC P f args c Q :=
  ⟨h.1, fun w L S rb k vs h0 h1 h2 h3 => (h.2 w L S rb k vs h0 h1 h2 h3).mono fun e w' ⟨v, _, S', k1, k2, k3, k4, k5, k6, r', k7, k8⟩ => ⟨v, r', S', k1, k2, k3, k4, k5, k7 _ _ _ k6, k8⟩⟩
theorem ACR.weak {P : Program} {f : FuncId} {args : List AV} {c : Nat} {Q0 : AV → Prop} {Q : (Nat → AV) → Row → Prop} (h : ACR P f args c (fun r => ∃ r', Wk r r' ∧ Q0 r') Q) : ACR P f args c Q0 Q :=
  ⟨h.1, fun w L S rb k vs h0 h1 h2 h3 => (h.2 w L S rb k vs h0 h1 h2 h3).mono fun e w' ⟨v, S', k1, k2, k3, k4, k5, k6⟩ => ⟨v, S', k1, k2, k3, k4, k5, by
    rcases k6 with ⟨r, q1, r', q2, q3⟩ | q
    · exact .inl ⟨r', q2 _ _ _ q1, q3⟩
    · exact .inr q⟩⟩
theorem AW.cutN {E : Env} {Q : Exit → ASt → Prop} {K : ASt → Prop} {s : ASt} {c : Code} {α : Type} (st : α → ASt) (G : α → Prop) (hx : AW E c (thenA (fun s' => ∃ a, G a ∧ Less s' (st a)) Q) s) (hy : ∀ a s', G a → Less s' (st a) → K s') : AW E c (thenA K Q) s := by
  intro w a ρ hS
  refine wp_mono (hx w a ρ hS) ?_
  rintro e a' w' ⟨s', ρ', k1, k2⟩
  refine ⟨s', ρ', k1, ?_⟩
  cases e with
  | normal =>
    obtain ⟨x, h1, h2⟩ := k2
    exact hy x s' h1 h2
  | _ => exact k2
theorem thenA_normal {K : ASt → Prop} {Q : Exit → ASt → Prop} {s : ASt} : thenA K Q .normal s = K s := rfl
theorem thenA_exit {K : ASt → Prop} {Q : Exit → ASt → Prop} {s : ASt} {i : Nat} : thenA K Q (.exit i) s = Q (.exit i) s := rfl
theorem inBlockA_normal {Q : Exit → ASt → Prop} {s : ASt} {i : Nat} : inBlockA i Q .normal s = Q .normal s := rfl
theorem inBlockA_exit {Q : Exit → ASt → Prop} {s : ASt} {i j : Nat} : inBlockA i Q (.exit j) s = if j = i then Q .normal s else Q (.exit j) s := rfl
theorem endQ_normal {T : Tab} {fn : Func} {Post : AV → Prop} {s : ASt} : endQ T fn Post .normal s = ∃ r, ares T s fn.results.toList = some r ∧ Pur r ∧ Post r := rfl
theorem endR_ret {T : Tab} {fn : Func} {Post0 : AV → Prop} {Post : (Nat → AV) → Row → Prop} {s : ASt} : endR T fn Post0 Post .ret s = ∃ r, ares T s fn.results.toList = some r ∧ ((Pur r ∧ Post0 r) ∨ ∃ f id0 R, r = f id0 ∧ s.rows id0 = some R ∧ Res1 id0 f ∧ (∀ e ∈ R.es, ∀ c ∈ e, Pur c) ∧ Post f R) := rfl
theorem endR_normal {T : Tab} {fn : Func} {Post0 : AV → Prop} {Post : (Nat → AV) → Row → Prop} {s : ASt} : endR T fn Post0 Post .normal s = ∃ r, ares T s fn.results.toList = some r ∧ ((Pur r ∧ Post0 r) ∨ ∃ f id0 R, r = f id0 ∧ s.rows id0 = some R ∧ Res1 id0 f ∧ (∀ e ∈ R.es, ∀ c ∈ e, Pur c) ∧ Post f R) := rfl
theorem wE : (∀ (K : ASt → Prop) (Q : Exit → ASt → Prop) (s : ASt), thenA K Q .normal s = K s) ∧ (∀ (K : ASt → Prop) (Q : Exit → ASt → Prop) (s : ASt) (i : Nat), thenA K Q (.exit i) s = Q (.exit i) s) ∧ (∀ (K : ASt → Prop) (Q : Exit → ASt → Prop) (s : ASt), thenA K Q .ret s = Q .ret s) ∧
    (∀ (Q : Exit → ASt → Prop) (s : ASt) (i : Nat), inBlockA i Q .normal s = Q .normal s) ∧ (∀ (Q : Exit → ASt → Prop) (s : ASt) (i : Nat), inBlockA i Q .ret s = Q .ret s) ∧ (∀ (Q : Exit → ASt → Prop) (s : ASt) (i j : Nat), inBlockA i Q (.exit j) s = if j = i then Q .normal s else Q (.exit j) s) ∧
    (∀ (T : Tab) (fn : Func) (Post : AV → Prop) (s : ASt), endQ T fn Post .ret s = ∃ r, ares T s fn.results.toList = some r ∧ Pur r ∧ Post r) ∧ (∀ (T : Tab) (fn : Func) (Post : AV → Prop) (s : ASt), endQ T fn Post .normal s = ∃ r, ares T s fn.results.toList = some r ∧ Pur r ∧ Post r) ∧
    (∀ (T : Tab) (fn : Func) (Post0 : AV → Prop) (Post : (Nat → AV) → Row → Prop) (s : ASt), endR T fn Post0 Post .ret s = ∃ r, ares T s fn.results.toList = some r ∧ ((Pur r ∧ Post0 r) ∨ ∃ f id0 R, r = f id0 ∧ s.rows id0 = some R ∧ Res1 id0 f ∧ (∀ e ∈ R.es, ∀ c ∈ e, Pur c) ∧ Post f R)) ∧
    (∀ (T : Tab) (fn : Func) (Post0 : AV → Prop) (Post : (Nat → AV) → Row → Prop) (s : ASt), endR T fn Post0 Post .normal s = ∃ r, ares T s fn.results.toList = some r ∧ ((Pur r ∧ Post0 r) ∨ ∃ f id0 R, r = f id0 ∧ s.rows id0 = some R ∧ Res1 id0 f ∧ (∀ e ∈ R.es, ∀ c ∈ e, Pur c) ∧ Post f R)) ∧
    (∀ (T : Tab) (fn : Func) (Post : AV → List (Nat × Row) → Prop) (s : ASt), endG T fn Post .ret s = ∃ r l, ares T s fn.results.toList = some r ∧ (∀ p ∈ l, s.rows p.1 = some p.2) ∧ PurR r ∧ (∀ p ∈ l, ∀ e ∈ p.2.es, ∀ c ∈ e, PurR c) ∧ BackIn l r ∧ Post r l) ∧
    (∀ (T : Tab) (fn : Func) (Post : AV → List (Nat × Row) → Prop) (s : ASt), endG T fn Post .normal s = ∃ r l, ares T s fn.results.toList = some r ∧ (∀ p ∈ l, s.rows p.1 = some p.2) ∧ PurR r ∧ (∀ p ∈ l, ∀ e ∈ p.2.es, ∀ c ∈ e, PurR c) ∧ BackIn l r ∧ Post r l) :=
  ⟨fun _ _ _ => rfl, fun _ _ _ _ => rfl, fun _ _ _ => rfl, fun _ _ _ => rfl, fun _ _ _ => rfl, fun _ _ _ _ => rfl, fun _ _ _ _ => rfl, fun _ _ _ _ => rfl, fun _ _ _ _ _ => rfl, fun _ _ _ _ _ => rfl, fun _ _ _ _ => rfl, fun _ _ _ _ => rfl⟩
theorem Pur.purR {c : AV} (h : Pur c) : PurR c := fun w ρ v hr => Rep.le (ρ := pureC nil ρ.S none) (ρ' := { ρ with L := nil, rd := none }) ⟨fun _ h => ⟨h, fun _ => rfl⟩, fun _ h => False.elim h, fun _ h => False.elim h, fun _ h => by cases h⟩ (h w ρ v hr)
theorem purR_own {id n : Nat} : PurR (.own id n) := fun w ρ v hr => by
  have := rep_own.1 hr
  exact rep_own.2 this
theorem purR_list {w : World} {ρ : Cx} {cs : List AV} {vs : List Value} (h : ∀ c ∈ cs, PurR c) (hr : RepL w ρ cs vs) : RepL w { ρ with L := nil, rd := none } cs vs :=
  RepL.of_get hr.length (fun i c v h1 h2 => by
    obtain ⟨u, hu, hr'⟩ := hr.get h1
    rw [h2] at hu; cases hu
    exact h c (List.mem_of_getElem? h1) _ _ _ hr')
theorem purR_agg {cs : List AV} (h : ∀ c ∈ cs, PurR c) : PurR (.agg cs) := fun w ρ v hr => by
  obtain ⟨vs, h1, h2, h3⟩ := rep_agg.1 hr
  exact rep_agg.2 ⟨vs, h1, h2, purR_list h h3⟩
theorem can_of {o : Option Nat} {j c : Nat} (h : c ≤ j) {tm : List AV} {rows : Nat → Option Row} {used : Nat → Bool} : ASt.can ⟨tm, rows, used, Option.map (fun _ => j) o⟩ c := by
  intro i hi
  cases o <;> simp at hi
  omega
theorem can_some {j c : Nat} (h : c ≤ j) {tm : List AV} {rows : Nat → Option Row} {used : Nat → Bool} : ASt.can ⟨tm, rows, used, some j⟩ c := by
  intro i hi
  cases hi
  exact h
theorem can_none {c : Nat} {tm : List AV} {rows : Nat → Option Row} {used : Nat → Bool} : ASt.can ⟨tm, rows, used, none⟩ c := by
  intro i hi; cases hi
theorem rd_less {o : Option Nat} {j i : Nat} (h : i ≤ j) : Option.map (fun _ => i) o = Option.map (fun _ => j) o ∨ ∃ a b, Option.map (fun _ => j) o = some a ∧ Option.map (fun _ => i) o = some b ∧ b ≤ a := by
  cases o with
  | none => exact .inl rfl
  | some x => exact .inr ⟨j, i, rfl, rfl, h⟩
def intsE (xs : List Int) : List (List AV) := xs.map fun s => [.int .i64 s]
theorem intsE_pur (xs : List Int) : ∀ e ∈ intsE xs, ∀ c ∈ e, Pur c := by
  intro e he c hc
  unfold intsE at he
  rw [List.mem_map] at he
  obtain ⟨s, _, rfl⟩ := he
  simp at hc; subst hc; exact pur_int
theorem ints_clo {t : VC} (xs : List Int) : Clo (.view t 1 (intsE xs)) := clo_view (fun e he c hc => (intsE_pur xs e he c hc).clo)
theorem intsE_get (xs : List Int) (i : Nat) : (intsE xs)[i]? = (xs[i]?).map fun s => [.int .i64 s] := by unfold intsE; rw [List.getElem?_map]
theorem intsE_len (xs : List Int) : (intsE xs).length = xs.length := by unfold intsE; rw [List.length_map]
theorem ints_in {U : Nat → Bool} {t : VC} (xs : List Int) : AV.In U (.view t 1 (intsE xs)) := in_view.2 (by
  intro e he c hc
  unfold intsE at he
  rw [List.mem_map] at he
  obtain ⟨s, _, rfl⟩ := he
  simp at hc; subst hc; exact in_int)
theorem strsE_at (xs : List ByteArray) (i : Nat) (h : i < (strsE xs).length) : (strsE xs)[i] = [.str (xs[i]'(by rw [strsE_len] at h; exact h))] := Option.some.inj (by rw [← List.getElem?_eq_getElem h, strsE_get, List.getElem?_eq_getElem (by rw [strsE_len] at h; exact h)]; rfl)
theorem intsE_at (xs : List Int) (i : Nat) (h : i < (intsE xs).length) : (intsE xs)[i] = [.int .i64 (xs[i]'(by rw [intsE_len] at h; exact h))] := Option.some.inj (by rw [← List.getElem?_eq_getElem h, intsE_get, List.getElem?_eq_getElem (by rw [intsE_len] at h; exact h)]; rfl)
def flatB : AV → Bool
  | .int _ _ | .str _ | .bool _ => true
  | .view _ _ es => es.all fun e => e.all fun c => match c with | .int _ _ | .str _ | .bool _ => true | _ => false
  | _ => false
theorem clo_lit (c : AV) (h : flatB c = true) : Clo c := by
  cases c with
  | int k n => exact clo_int
  | str b => exact clo_str
  | bool b => exact clo_bool
  | view t sz es =>
    refine clo_view fun e he c hc => ?_
    simp only [flatB, List.all_eq_true] at h
    have := h e he c hc
    cases c <;> simp at this
    · exact clo_int
    · exact clo_bool
    · exact clo_str
  | _ => simp [flatB] at h
theorem size_mk (a : Array UInt8) : (ByteArray.mk a).size = a.size := rfl
def slots : Nat → Nat → List (Nat × AV) → List AV
  | _, 0, _ => []
  | k, n + 1, [] => .any :: slots (k + 1) n []
  | k, n + 1, (t, c) :: l => if t = k then c :: slots (k + 1) n l else .any :: slots (k + 1) n ((t, c) :: l)
end Go.Proofs.Ytgfnmhfdmmnaoaa.Eng
namespace Go.Proofs.Ytgfnmhfdmmnaoaa.Eng
open Go Go.RowKit
section
variable {P : Program} {w0 : W0} {S0 : Nat → Prop} {rd0 : Option Nat} {k0 : Nat} {w : World} {a : Act} {s : ASt} {ρ : Cx} {T : Tab}
theorem flat_rep_zero {w : World} {ρ : Cx} {z : List AV} {zs : List Value} (h : RepL w ρ z zs) : ∀ n : Nat, RepL w ρ (List.replicate n z).flatten (List.replicate n zs).flatten
  | 0 => by simp only [List.replicate_zero, List.flatten_nil]; unfold RepL; rfl
  | n + 1 => by simp only [List.replicate_succ, List.flatten_cons]; exact h.append (flat_rep_zero h n)
theorem madeCells_flat (zs : List Value) (n : Nat) : (madeCells zs.toArray (n * zs.length)).toList = (List.replicate n zs).flatten := by
  apply List.ext_getElem?
  intro i
  rcases Nat.lt_or_ge i (n * zs.length) with h | h
  · have hz : 0 < zs.length := by rcases Nat.eq_zero_or_pos zs.length with h0 | h0; rw [h0] at h; simp at h; exact h0
    have hl : ((List.replicate n zs).flatten).length = n * zs.length := by simp
    have hd : i / zs.length < n := Nat.div_lt_of_lt_mul (by rw [Nat.mul_comm]; exact h)
    have hm : i % zs.length < zs.length := Nat.mod_lt _ hz
    have e1 : i = i / zs.length * zs.length + i % zs.length := by rw [Nat.mul_comm]; exact (Nat.div_add_mod i zs.length).symm
    have e2 := flat_get (sz := zs.length) (es := List.replicate n zs) (fun e he => by rw [List.eq_of_mem_replicate he]) (i := i / zs.length) (j := i % zs.length) (e := zs) (by rw [List.getElem?_replicate, if_pos hd]) hm
    rw [← e1] at e2
    rw [e2]
    unfold madeCells
    simp [h, hz, hm]
  · have hl : ((List.replicate n zs).flatten).length = n * zs.length := by simp
    rw [List.getElem?_eq_none (by rw [Array.length_toList, size_madeCells]; exact h), List.getElem?_eq_none (by rw [hl]; exact h)]
theorem makeOwn_ok (hT : Tab.Ok P T) (h : SR P w0 S0 rd0 k0 w a s ρ) {o : Oper} {t e : TypeId} {x : Operand} {n : Nat} {kl : IntKind} {sz by' : Nat} {z : List ZK} {i : TI} (ho : o.op = .makeSlice t x x) (hx : aev s x = .int kl n) (ht : T t = some ⟨sz, by', .slice e, z⟩) (he : T e = some i) (hno : i.d ≠ .other) (hi : i.z.length = i.size)
    (hby : i.bytes * n ≤ 281474976710656) (hn : n ≤ maxLen) (id : Nat) (hid : s.used id = false) : Leaves P w0 S0 rd0 k0 o a w (.own id n) (s.add id ⟨false, e, i.size, List.replicate n (i.z.map ZK.av)⟩) := by
  obtain ⟨d, j, hs⟩ := TI.says (hT _ _ ht)
  have hd := hs.dd
  cases d <;> simp [TD.fits] at hd
  subst hd
  obtain ⟨d2, j2, hs2⟩ := TI.says (hT _ _ he)
  obtain ⟨j', zv, zs, k1, k2, k3, k3', k3'', k4, k5, k6⟩ := zero_ok (w := w) (ρ := ρ) (hT _ _ he) hno
  rw [hs2.inf] at k1; cases k1
  obtain ⟨w', m1, m2, m3⟩ := run_make_full (P := P) w w.heap.size t e j2 zv i.size hs.un hs2.inf k2 hs2.sz kl kl n (by rw [hs2.by']; exact hby) hn (Nat.le_refl _)
  have hg : Grow w w' := ⟨m3.os, m3.tape, m3.output, m3.size, fun k hk _ => m3.block k hk (by simp)⟩
  have hz : (madeCells zv.cells (n * i.size)).toList = (List.replicate n zs).flatten := by rw [k3, ← k6]; exact madeCells_flat zs n
  rw [hz] at m2
  have hat := RowAt.of_owns m2
  have hes : ∀ x ∈ List.replicate n (i.z.map ZK.av), x.length = i.size := fun x hx => by rw [List.eq_of_mem_replicate hx, List.length_map, hi]
  have hat0 : RowAt w' 0 e i.size (.slice (some ⟨w.heap.size, 0, none⟩) n n) (List.replicate n (i.z.map ZK.av)).length (List.replicate n zs).flatten := by
    rw [List.length_replicate]
    exact hat.imp (fun h => h) (fun ⟨g, cap, cur, q1, q2, _, q4⟩ => ⟨g, cap, cur, q1, q2, Nat.zero_le _, q4⟩)
  have hlt : ∀ g, blk (.slice (some ⟨w.heap.size, 0, none⟩) n n) = some g → w.heap.size ≤ g := fun g hg => (hat.lt g hg).1
  obtain ⟨q1, q2⟩ := h.new hg id hid ⟨false, e, i.size, List.replicate n (i.z.map ZK.av)⟩ (.slice (some ⟨w.heap.size, 0, none⟩) n n) hlt
    ⟨⟨hs2.cells, hlt⟩, hes, (fun hb => by cases hb), _, hat0, (flat_rep_zero k4 n).le (h.grow hg).2, fun u hu => by
      obtain ⟨l, hl, hul⟩ := List.mem_flatten.1 hu
      rw [List.eq_of_mem_replicate hl] at hul
      exact k5 u hul⟩
  have hev := aev_rep h x
  rw [hx, rep_int] at hev
  refine ⟨.slice (some ⟨w.heap.size, 0, none⟩) n n, w', _, .inl (by unfold execOp; simp only [ho, hev, Sem.run_bind, m1, Sem.run_pure, Result.andThen_ok]), q1, rep_own.2 ⟨.inr rfl, by simp [Cx.add, upd_same], ⟨_, _, rfl, .inr ⟨_, rfl⟩⟩, fun u hu _ => by simp [Cx.add, upd_same] at hu; exact hu⟩⟩
theorem copyAll_ok (hT : Tab.Ok P T) (h : SR P w0 S0 rd0 k0 w a s ρ) {o : Oper} {x y : Operand} {dT sT e : TypeId} {id n : Nat} {tt : VC} {es : List (List AV)} {r : Row} {szt by' : Nat} {z : List ZK} {i : TI} (ho : o.op = .call { callee := .builtin .copy, args := #[x, y], argTypes := #[dT, sT] })
    (hx : aev s x = .own id n) (hr : s.rows id = some r) (hb : r.bx = false) (hz : r.sz = 1) (hn : r.es.length = n) (hy : aev s y = .view tt 1 es) (hes : es.length = n) (ht : T dT = some ⟨szt, by', .slice e, z⟩) (he : T e = some i) (hi : i.size = 1) :
    Leaves P w0 S0 rd0 k0 o a w (.int .i64 n) (s.turn id { r with es := es }) := by
  obtain ⟨d, j, hs⟩ := TI.says (hT _ _ ht)
  have hd := hs.dd
  cases d <;> simp [TD.fits] at hd
  subst hd
  obtain ⟨d2, j2, hs2⟩ := TI.says (hT _ _ he)
  have hsz : (P.info? e).map (·.size) = some 1 := by rw [hs2.inf]; simp [hs2.sz, hi]
  have ex := aev_rep h x
  have ey := aev_rep h y
  rw [hx] at ex
  rw [hy] at ey
  obtain ⟨ad, c, xs, hv, hl, hxs, hone, hsrc, hes1, hcel, hrow, hat⟩ := own_src h ex hr hn
  obtain ⟨bd, c2, ys, hv2, hys, hone2, hsrc2, hes2, _, _, hor⟩ := view_src ey
  have hyl : ys.length = n := by rw [hys.length, flat_len hes2, hes]; simp
  have hgoint : (goInt (n : Int)) = .int .i64 n := rfl
  rcases Nat.eq_zero_or_pos n with h0 | hp
  · have e0 : es = [] := List.length_eq_zero_iff.1 (by omega)
    have r0 : r.es = [] := List.length_eq_zero_iff.1 (by omega)
    have hst : s.turn id { r with es := es } = s := by
      cases s
      simp only [ASt.turn, ASt.mk.injEq, true_and, and_true]
      funext k
      unfold upd
      split
      · rename_i e; subst e; rw [e0]; simp only at hr; rw [hr]
        cases r; simp only [Option.some.injEq, Row.mk.injEq, true_and] at *; exact r0.symm
      · rfl
    rw [hst]
    refine ⟨.int .i64 n, w, ρ, .inl ?_, h, rep_int.2 rfl⟩
    have hrun := run_copy_none (P := P) w dT sT o.type e ad bd r.es.length c es.length c2 hs.un hsz (by rw [hes, h0]; simp)
    unfold execOp
    simp only [ho, resolve, invoke, builtin, Sem.run_bind, Sem.run_pure, Result.andThen_ok, List.map_toArray, List.map_cons, List.map_nil, hv, hv2, hrun]
    rw [h0]; rfl
  · rcases hat with ⟨hn0, _⟩ | ⟨g, cap, cur, he2, hcp, _, hg, hn2, hcm, hcs, htk, hol⟩
    · omega
    · rw [hv] at he2
      cases he2
      rcases hsrc2 with ⟨h1, _⟩ | ⟨ad2, had2, hcells⟩
      · omega
      · subst had2
        have hbl : blk (a.eval x) = some g := by rw [hv]; exact blk_slice _ _ _ hcp
        rw [hz] at hcs htk hol
        have hrun := run_copy_row (P := P) w dT sT o.type e g 0 r.es.length c ad2 es.length c2 cur r.e ys hs.un hsz hg (by rw [hyl, hes, hn]; simp) hcells (by rw [hcs, hyl]; omega) hone2
        have hxx : Ext (fun k => k = g) w (w.setRow g (cur.toList.take 0 ++ ys ++ cur.toList.drop (0 + ys.length)).toArray) := ⟨rfl, rfl, rfl, by simp, fun k _ hk => setRow_other w g k _ hk⟩
        obtain ⟨u', hu', hln', hok'⟩ := (h.rw id r hr).2
        have hu2 : ρ.row id = some (a.eval x) := hrow
        rw [hu2] at hu'; cases hu'
        obtain ⟨m1, m2⟩ := h.turn id (a.eval x) g hu2 hbl hxx { r with es := es } (by rw [hln']; dsimp only; omega) (fun r0 hr0 => by rw [hr] at hr0; cases hr0; rfl) (fun ρ' le => by
          refine ⟨⟨hcel, hok'.1.2⟩, (fun q hq => by rw [hz]; exact hes2 q hq), (fun hbx => by rw [hb] at hbx; cases hbx), ys, ?_, hys.le le, hone2⟩
          dsimp only
          rw [hv, hz]
          refine .inr ⟨g, c, _, by rw [hes, hn], hcp, Nat.zero_le _, setRow_heap w g cur _ r.e _ hg, by omega, hcm, ?_, ?_, by rw [hyl, hes]; simp⟩
          · simp only [List.size_toArray, List.length_append, List.length_take, List.length_drop, Array.length_toList, hcs, hyl]; omega
          · simp only [List.take_zero, List.nil_append]
            rw [hes, Nat.mul_one, ← hyl]
            exact List.take_left)
        refine ⟨.int .i64 n, _, ρ, .inl ?_, m1, rep_int.2 rfl⟩
        unfold execOp
        simp only [ho, resolve, invoke, builtin, Sem.run_bind, Sem.run_pure, Result.andThen_ok, List.map_toArray, List.map_cons, List.map_nil, hv, hv2, hrun]
        rw [hyl]; rfl
end
section
end
theorem MvR.nil {rows : Nat → Option Row} {M : List Nat} {ν : Nat → Nat} : MvR rows M ν [] := fun p hp => by cases hp
theorem MvR.cons {rows : Nat → Option Row} {M : List Nat} {ν : Nat → Nat} {k : Nat} {R0 : Row} {l : List (Nat × Row)} {R : Row} (h : rows (ν k) = some R) (hb : R.bx = R0.bx) (he : R.e = R0.e) (hs : R.sz = R0.sz) (hm : MvE rows M ν R.es R0.es) (t : MvR rows M ν l) : MvR rows M ν ((k, R0) :: l) := fun p hp => by
  rcases List.mem_cons.1 hp with rfl | hp
  · exact ⟨R, h, hb, he, hs, hm⟩
  · exact t p hp
section
variable {P : Program} {T : Tab} {k0 : Nat} {md : List Nat} {Av : Nat → Prop} {pc : Pc} {ops : Array Oper} {K : ASt → Prop} {o : Oper} {l : List Oper} {s : ASt}
theorem arun_make {t e : TypeId} {x : Operand} {n sz by' : Nat} {z : List ZK} {i : TI} {kl : IntKind} (id : Nat) (ho : o.op = .makeSlice t x x) (hw : awant ops o s = some true) (hx : aev s x = .int kl n) (ht : T t = some ⟨sz, by', .slice e, z⟩) (he : T e = some i) (hno : i.d ≠ .other) (hi : i.z.length = i.size)
    (hby : i.bytes * n ≤ 281474976710656) (hn : n ≤ maxLen) (hid : s.used id = false) (h : ARun P T k0 Av md ops K l ((s.add id ⟨false, e, i.size, List.replicate n (i.z.map ZK.av)⟩).put o.dst (.own id n))) : ARun P T k0 Av md ops K (o :: l) s :=
  ARun.leaves hw (fun w0 S0 rd0 w a ρ hT hS => makeOwn_ok hT hS ho hx ht he hno hi hby hn id hid) h
theorem arun_copyAll {x y : Operand} {dT sT e : TypeId} {id n : Nat} {tt : VC} {es : List (List AV)} {r : Row} {szt by' : Nat} {z : List ZK} {i : TI} (ho : o.op = .call { callee := .builtin .copy, args := #[x, y], argTypes := #[dT, sT] }) (hw : awant ops o s = some true)
    (hx : aev s x = .own id n) (hr : s.rows id = some r) (hb : r.bx = false) (hz : r.sz = 1) (hn : r.es.length = n) (hy : aev s y = .view tt 1 es) (hes : es.length = n) (ht : T dT = some ⟨szt, by', .slice e, z⟩) (he : T e = some i) (hi : i.size = 1)
    (h : ARun P T k0 Av md ops K l ((s.turn id { r with es := es }).put o.dst (.int .i64 n))) : ARun P T k0 Av md ops K (o :: l) s :=
  ARun.leaves hw (fun w0 S0 rd0 w a ρ hT hS => copyAll_ok hT hS ho hx hr hb hz hn hy hes ht he hi) h
end
inductive Hd0 (l : List (Nat × Row)) : AV → AV → Prop
  | pur {c : AV} (h : Pur c) : Hd0 l c c
  | own {k n : Nat} {R : Row} {t : VC} (ht : t = .loose) (hr : rowsOf l k = some R) (hn : n = R.es.length) (hp : ∀ e ∈ R.es, ∀ c ∈ e, Pur c) : Hd0 l (.own k n) (.view t R.sz R.es)
inductive HdL0 (l : List (Nat × Row)) : List AV → List AV → Prop
  | nil : HdL0 l [] []
  | cons {c d : AV} {cs ds : List AV} (h : Hd0 l c d) (t : HdL0 l cs ds) : HdL0 l (c :: cs) (d :: ds)
inductive Hd1 (l : List (Nat × Row)) : AV → AV → Prop
  | base {c d : AV} (h : Hd0 l c d) : Hd1 l c d
  | agg {cs ds : List AV} (h : HdL0 l cs ds) : Hd1 l (.agg cs) (.agg ds)
inductive HdL1 (l : List (Nat × Row)) : List AV → List AV → Prop
  | nil : HdL1 l [] []
  | cons {c d : AV} {cs ds : List AV} (h : Hd1 l c d) (t : HdL1 l cs ds) : HdL1 l (c :: cs) (d :: ds)
inductive Hd (l : List (Nat × Row)) : AV → AV → Prop
  | base {c d : AV} (h : Hd1 l c d) : Hd l c d
  | tup {cs ds : List AV} (h : HdL1 l cs ds) : Hd l (.tup cs) (.tup ds)
def holdC (ρ : Cx) : Cx := pureC nil (fun b => ρ.S b ∨ blks ρ b) none
section
variable {P : Program} {w : World} {own : Nat → Prop} {l : List (Nat × Row)} {ρ : Cx}
theorem le_hold (w : World) (ρ : Cx) : Cx.Le w (pureC nil ρ.S none) w (holdC ρ) := ⟨fun _ h => ⟨.inl h, fun _ => rfl⟩, fun _ h => h.elim, fun _ h => h.elim, fun _ h => by cases h⟩
theorem Hd0.rep (hR : Rows P w own (rowsOf l) ρ) {c d : AV} {v : Value} (h : Hd0 l c d) (hv : Rep w ρ c v) : Rep w (holdC ρ) d v := by
  cases h with
  | pur hp => exact (hp w ρ v hv).le (le_hold w ρ)
  | @own k n R t ht hr hn hp =>
    subst ht hn
    obtain ⟨u, hu, hln, h0, hlen, hbx, xs, hat, hrep, hone⟩ := hR.rw k R hr
    obtain ⟨_, _, _, hvu⟩ := rep_own.1 hv
    have := hvu u hu hln.symm
    subst this
    have hat0 := hat
    rcases hat with ⟨hn0, rfl, a0, rfl⟩ | ⟨g, cap, cur, rfl, hpc, hb, hg, hn0, hcap, hcs, htk, hl⟩
    · have he : R.es = [] := List.length_eq_zero_iff.1 hn0
      exact rep_view.2 ⟨a0, 0, by rw [he]; rfl, fun _ => by rw [he]; rfl, by rw [he]; exact Nat.le_refl _, by rw [he]; exact Nat.zero_le _, hlen, .inl he⟩
    · refine rep_view.2 ⟨_, cap, rfl, (fun h => by cases h), hn0, by unfold maxLen at hcap; unfold big; omega, hlen, .inr ⟨g, 0, rfl, .inr ⟨k, _, hu, blk_slice _ _ _ hpc⟩, RepE.of_get hlen (fun i e he => RepC.of_get (fun j c hc' => ?_))⟩⟩
      have hlt : j < R.sz := by rw [← hlen e (List.mem_of_getElem? he)]; exact (List.getElem?_eq_some_iff.1 hc').1
      have hf := flat_get hlen he hlt
      rw [hc'] at hf
      obtain ⟨v, hv, hrv⟩ := hrep.get hf
      refine ⟨v, ?_, hone v (List.mem_of_getElem? hv), (hp e (List.mem_of_getElem? he) c (List.mem_of_getElem? hc') _ _ _ hrv).le (le_hold w ρ)⟩
      rw [Nat.zero_add]
      exact hat0.cells _ _ hv
theorem HdL0.rep (hR : Rows P w own (rowsOf l) ρ) {cs ds : List AV} (h : HdL0 l cs ds) : ∀ {vs : List Value}, RepL w ρ cs vs → RepL w (holdC ρ) ds vs := by
  induction h with
  | nil => intro vs hr; unfold RepL at *; exact hr
  | cons hc _ ih =>
    intro vs hr
    unfold RepL at hr ⊢
    obtain ⟨v, vs', rfl, h2, h3⟩ := hr
    exact ⟨v, vs', rfl, hc.rep hR h2, ih h3⟩
theorem Hd1.rep (hR : Rows P w own (rowsOf l) ρ) {c d : AV} {v : Value} (h : Hd1 l c d) (hv : Rep w ρ c v) : Rep w (holdC ρ) d v := by
  cases h with
  | base h => exact h.rep hR hv
  | agg h =>
    obtain ⟨vs, h1, h2, h3⟩ := rep_agg.1 hv
    exact rep_agg.2 ⟨vs, h1, h2, h.rep hR h3⟩
theorem HdL1.rep (hR : Rows P w own (rowsOf l) ρ) {cs ds : List AV} (h : HdL1 l cs ds) : ∀ {vs : List Value}, RepL w ρ cs vs → RepL w (holdC ρ) ds vs := by
  induction h with
  | nil => intro vs hr; unfold RepL at *; exact hr
  | cons hc _ ih =>
    intro vs hr
    unfold RepL at hr ⊢
    obtain ⟨v, vs', rfl, h2, h3⟩ := hr
    exact ⟨v, vs', rfl, hc.rep hR h2, ih h3⟩
theorem Hd.rep (hR : Rows P w own (rowsOf l) ρ) {c d : AV} {v : Value} (h : Hd l c d) (hv : Rep w ρ c v) : Rep w (holdC ρ) d v := by
  cases h with
  | base h => exact h.rep hR hv
  | tup h =>
    obtain ⟨vs, h1, h3⟩ := rep_tup.1 hv
    exact rep_tup.2 ⟨vs, h1, h.rep hR h3⟩
theorem AC.ofG {f : FuncId} {args : List AV} {c : Nat} {Post : AV → List (Nat × Row) → Prop} {Q : AV → Prop} (h : ACG P f args [] c Post) (hq : ∀ r l, Post r l → ∃ d, Hd l r d ∧ Q d) : AC P f args c Q := by
  refine ⟨h.1, fun w L S rb k vs h0 h1 h2 h3 => ?_⟩
  have nb : ∀ b, ¬ blks (initC L S rb) b := fun b ⟨id, u, q, _⟩ => by cases q
  refine (h.2.2 w (initC L S rb) k vs (fun b hb => ⟨(h0 b hb).1, (h0 b hb).2, nb b⟩) h1 (fun b hb => ⟨(h2 b hb).1, nb b, (h2 b hb).2⟩) (fun _ => Iff.rfl) ⟨(fun id r h => by cases h), (fun id r h => by cases h), fun _ _ => rfl, (fun _ _ _ _ _ h => by cases h), (fun _ _ _ h => by cases h)⟩ (RepL.le (ρ := pureC L S rb) (ρ' := initC L S rb) ⟨fun _ h => ⟨h, fun _ => rfl⟩, fun _ h => ⟨h, fun _ => rfl⟩, fun _ h => False.elim h, fun _ h => h⟩ h3)).mono ?_
  rintro e w' ⟨v, r, l, ρ', rfl, hx, k1, k2, k3, k4, k5, k6, _, k8, k9⟩
  obtain ⟨d, q1, q2⟩ := hq r l k9
  have hlt : ∀ b, blks ρ' b → w.heap.size ≤ b ∧ b < w'.heap.size := fun b ⟨id, u, p1, p2⟩ => by
    cases hr : rowsOf l id with
    | none => rw [k6.rn id hr] at p1; cases p1
    | some R =>
      obtain ⟨u', p3, _, p5⟩ := k6.rw id R hr
      rw [p1] at p3; cases p3
      obtain ⟨p6, p7⟩ := p5.lt b p2
      exact ⟨p6.resolve_right (nb b), p7⟩
  refine ⟨v, d, fun b => ρ'.S b ∨ blks ρ' b, rfl, hx.mono (fun b hb => hb.resolve_right (nb b)), fun b hb => .inl (k1 b hb), fun b hb => ?_, fun b hb => ?_, q1.rep k6 k8, q2⟩
  · rcases hb with hb | hb
    · rcases k2 b hb with hb | ⟨hb, hb2⟩
      · exact .inl hb
      · exact .inr ⟨hb.resolve_right (nb b), hb2⟩
    · exact .inr (hlt b hb)
  · exact (k3 b hb).moved (Ext.refl nil w') (fun h => h) (fun b hb => ⟨.inl hb, fun h => h⟩)
end
end Go.Proofs.Ytgfnmhfdmmnaoaa.Eng
