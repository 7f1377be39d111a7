/-
  Texts of this claim, joined.
-/
import Derived.Test.YtgfnmhfdmmnaoaaOnE

set_option linter.unusedSimpArgs false
set_option linter.unusedVariables false
set_option linter.unnecessarySimpa false
set_option maxRecDepth 100000
set_option maxHeartbeats 16000000
namespace Go.Proofs.Ytgfnmhfdmmnaoaa.Eng
open Go Go.RowKit
structure Lb where
  kind : Int
  num : Int
  text : ByteArray
  names : List ByteArray
  nb : Nat
  kids : List Lb
  kb : Nat
theorem Lb.ind' (P : Lb → Prop) (h : ∀ n : Lb, (∀ k ∈ n.kids, P k) → P n) : ∀ n, P n := by
  intro n
  refine Lb.rec (motive_1 := P) (motive_2 := fun l => ∀ k ∈ l, P k) ?_ ?_ ?_ n
  · intro kind num text names nb kids kb ih
    exact h _ ih
  · intro k hk; cases hk
  · intro k ks h1 h2 x hx
    rcases List.mem_cons.1 hx with rfl | hx
    · exact h1
    · exact h2 _ hx
mutual
def Lb.nd : Lb → Nd
  | ⟨kind, num, text, names, _, kids, _⟩ => ⟨kind, num, text, names, Lb.nds kids⟩
def Lb.nds : List Lb → List Nd
  | [] => []
  | k :: ks => Lb.nd k :: Lb.nds ks
end
theorem nds_map : ∀ (ks : List Lb), Lb.nds ks = ks.map Lb.nd
  | [] => by unfold Lb.nds; rfl
  | k :: ks => by unfold Lb.nds; rw [nds_map ks]; rfl
theorem nd_eq (n : Lb) : n.nd = ⟨n.kind, n.num, n.text, n.names, n.kids.map Lb.nd⟩ := by cases n; unfold Lb.nd; rw [nds_map]
mutual
def labL : Lb → List AV
  | ⟨kind, num, text, names, nb, kids, kb⟩ => [.int .i64 kind, .int .i64 num, .str text, .view (.fr nb) 1 (strsE names), .view (.fr kb) 5 (labsL kids)]
def labsL : List Lb → List (List AV)
  | [] => []
  | k :: ks => labL k :: labsL ks
end
def labA (n : Lb) : AV := .agg (labL n)
theorem labsL_map : ∀ (ks : List Lb), labsL ks = ks.map labL
  | [] => by unfold labsL; rfl
  | k :: ks => by unfold labsL; rw [labsL_map ks]; rfl
theorem labL_eq (n : Lb) : labL n = [.int .i64 n.kind, .int .i64 n.num, .str n.text, .view (.fr n.nb) 1 (strsE n.names), .view (.fr n.kb) 5 (n.kids.map labL)] := by
  cases n; unfold labL; rw [labsL_map]
theorem labL_len (n : Lb) : (labL n).length = 5 := by rw [labL_eq]; rfl
theorem labL_pur : ∀ (n : Lb), ∀ c ∈ labL n, Pur c := Lb.ind' _ (fun n ih c hc => by
  rw [labL_eq] at hc
  simp only [List.mem_cons, List.not_mem_nil, or_false] at hc
  rcases hc with rfl | rfl | rfl | rfl | rfl
  · exact pur_int
  · exact pur_int
  · exact pur_str
  · exact pur_view (by simp) (strsE_pur _)
  · refine pur_view (by simp) (fun e he c hc => ?_)
    rw [List.mem_map] at he
    obtain ⟨k, hk, rfl⟩ := he
    exact ih k hk c hc)
theorem lab_pur (n : Lb) : Pur (labA n) := pur_agg (labL_pur n)
theorem lab_clo (n : Lb) : Clo (labA n) := (lab_pur n).clo
theorem labL_in {U : Nat → Bool} : ∀ (n : Lb), ∀ c ∈ labL n, AV.In U c := Lb.ind' _ (fun n ih c hc => by
  rw [labL_eq] at hc
  simp only [List.mem_cons, List.not_mem_nil, or_false] at hc
  rcases hc with rfl | rfl | rfl | rfl | rfl
  · exact in_int
  · exact in_int
  · exact in_str
  · exact in_view.2 (strsE_in _)
  · refine in_view.2 (fun e he c hc => ?_)
    rw [List.mem_map] at he
    obtain ⟨k, hk, rfl⟩ := he
    exact ih k hk c hc)
theorem lab_in {U : Nat → Bool} (n : Lb) : AV.In U (labA n) := in_agg.2 (labL_in n)
theorem labsE_in {U : Nat → Bool} (ks : List Lb) : ∀ e ∈ ks.map labL, ∀ c ∈ e, AV.In U c := fun e he c hc => by
  rw [List.mem_map] at he
  obtain ⟨k, hk, rfl⟩ := he
  exact labL_in k c hc
theorem labL_sub {id m : Nat} {c : AV} (n : Lb) : AV.subL id m c (labL n) = labL n := by rw [labL_eq]; simp [AV.subL, AV.sub]
theorem labsE_sub {id m : Nat} {c : AV} (ks : List Lb) : (ks.map labL).map (AV.subL id m c) = ks.map labL := by
  rw [List.map_map]; exact List.map_congr_left (fun k _ => labL_sub k)
def Lb.fp (n : Lb) : List Nat := atL (labL n)
theorem at_strsE : ∀ (xs : List ByteArray), atE (strsE xs) = []
  | [] => by unfold strsE; rw [List.map_nil, atE_nil]
  | x :: xs => by
    have := at_strsE xs
    unfold strsE at this ⊢
    rw [List.map_cons, atE_cons, this, atL_cons, at_str, atL_nil]; rfl
theorem atE_labs : ∀ (ks : List Lb), atE (ks.map labL) = ks.flatMap Lb.fp
  | [] => by rw [List.map_nil, atE_nil]; rfl
  | k :: ks => by rw [List.map_cons, atE_cons, atE_labs ks]; rfl
theorem fp_eq (n : Lb) : n.fp = frB (.fr n.nb) n.names.isEmpty ++ (frB (.fr n.kb) n.kids.isEmpty ++ n.kids.flatMap Lb.fp) := by
  have e1 : (strsE n.names).isEmpty = n.names.isEmpty := by unfold strsE; cases n.names <;> rfl
  have e2 : (n.kids.map labL).isEmpty = n.kids.isEmpty := by cases n.kids <;> rfl
  show atL (labL n) = _
  rw [labL_eq, atL_cons, atL_cons, atL_cons, atL_cons, atL_cons, atL_nil, at_int, at_int, at_str, at_view, at_view, at_strsE, atE_labs, e1, e2]
  simp
theorem at_lab (n : Lb) : atB (labA n) = n.fp := by unfold labA Lb.fp; rw [at_agg]
theorem labL_wk : ∀ (n : Lb), WkL (labL n) (nodeL n.nd) := Lb.ind' _ (fun n ih => by
  rw [labL_eq, nd_eq, nodeL_eq]
  dsimp only
  refine .cons (Wk.refl _) (.cons (Wk.refl _) (.cons (Wk.refl _) (.cons (Wk.loose (by simp)) (.cons (Wk.view (by simp) ?_) .nil))))
  have aux : ∀ ks : List Lb, (∀ k ∈ ks, WkL (labL k) (nodeL k.nd)) → WkE (ks.map labL) ((ks.map Lb.nd).map nodeL) := fun ks h => by
    induction ks with
    | nil => exact .nil
    | cons k ks ih2 => exact .cons (h k (by simp)) (ih2 (fun x hx => h x (by simp [hx])))
  exact aux _ (fun k hk => ih k hk))
section
variable {w : World} {ρ : Cx}
theorem strsF_of_rep {g : Nat} {xs : List ByteArray} {a : Option Addr} {c : Nat} (h : Rep w ρ (.view (.fr g) 1 (strsE xs)) (.slice a xs.length c)) : StrsF w a c xs (frB (.fr g) xs.isEmpty) := by
  obtain ⟨a', c', h1, _, h3, h4, h5, h6⟩ := rep_view.1 h
  rw [strsE_len] at *
  cases h1
  have hsz : ∀ x ∈ xs, x.size ≤ big := by
    rcases h6 with h6 | ⟨b, o, ha, hb, he⟩
    · unfold strsE at h6
      rw [List.map_eq_nil_iff.1 h6]
      exact fun x hx => by cases hx
    · intro x hx
      obtain ⟨i, hi, rfl⟩ := List.getElem_of_mem hx
      obtain ⟨u, q1, _, q3⟩ := (he.get h5 (i := i) (e := [.str xs[i]]) (by rw [strsE_get, List.getElem?_eq_getElem hi]; rfl)).get (i := 0) rfl
      exact (rep_str.1 q3).2
  refine ⟨h3, h4, hsz, ?_⟩
  by_cases hne : xs = []
  · subst hne; exact .inl ⟨rfl, rfl⟩
  · rcases h6 with h6 | ⟨b, o, ha, hb, he⟩
    · unfold strsE at h6
      exact absurd (List.map_eq_nil_iff.1 h6) hne
    · obtain ⟨_, rfl, _⟩ := hb
      refine .inr ⟨b, o, hne, ha, ?_, fun i hi => ?_⟩
      · cases xs with
        | nil => exact absurd rfl hne
        | cons x xs => rfl
      · obtain ⟨u, q1, _, q3⟩ := (he.get h5 (i := i) (e := [.str xs[i]]) (by rw [strsE_get, List.getElem?_eq_getElem hi]; rfl)).get (i := 0) rfl
        rw [(rep_str.1 q3).1] at q1
        simpa using q1
theorem kidsF_of_rep {b : Nat} : ∀ {ks : List Lb} {o : Nat}, (∀ k ∈ ks, ∀ (ρ : Cx) na nc ka kc, k.text.size ≤ big → Rep w ρ (.view (.fr k.nb) 1 (strsE k.names)) (.slice na k.names.length nc) → Rep w ρ (.view (.fr k.kb) 5 (k.kids.map labL)) (.slice ka k.kids.length kc) → NodeF w k.nd na nc ka kc k.fp) →
    RepE w ρ b o (ks.map labL) → KidsF w b o (ks.map Lb.nd) (ks.flatMap Lb.fp)
  | [], _, _, _ => by unfold KidsF; rfl
  | k :: ks, o, ih, h => by
    rw [List.map_cons] at h
    unfold RepE at h
    obtain ⟨h1, h2⟩ := h
    rw [labL_len] at h2
    rw [labL_eq] at h1
    obtain ⟨v0, p0, _, q0⟩ := h1.get (i := 0) rfl
    obtain ⟨v1, p1, _, q1⟩ := h1.get (i := 1) rfl
    obtain ⟨v2, p2, _, q2⟩ := h1.get (i := 2) rfl
    obtain ⟨v3, p3, _, q3⟩ := h1.get (i := 3) rfl
    obtain ⟨v4, p4, _, q4⟩ := h1.get (i := 4) rfl
    rw [rep_int] at q0 q1
    obtain ⟨q2, q2'⟩ := rep_str.1 q2
    obtain ⟨na, nc, r3, _⟩ := rep_view.1 q3
    obtain ⟨ka, kc, r4, _⟩ := rep_view.1 q4
    rw [strsE_len] at r3
    rw [List.length_map] at r4
    subst q0 q1 q2 r3 r4
    rw [List.map_cons, List.flatMap_cons]
    unfold KidsF
    have e := nd_eq k
    refine ⟨k.fp, ks.flatMap Lb.fp, rfl, ⟨na, nc, ka, kc, ?_, ?_, ?_, ?_, ?_, ih k (by simp) ρ na nc ka kc q2' q3 q4⟩, kidsF_of_rep (fun x hx => ih x (by simp [hx])) h2⟩
    · rw [e]; exact p0
    · rw [e]; exact p1
    · rw [e]; exact p2
    · rw [e]; exact p3
    · rw [e]; dsimp only; rw [List.length_map]; exact p4
theorem nodeF_of_rep : ∀ (n : Lb) (ρ : Cx) na nc ka kc, n.text.size ≤ big → Rep w ρ (.view (.fr n.nb) 1 (strsE n.names)) (.slice na n.names.length nc) → Rep w ρ (.view (.fr n.kb) 5 (n.kids.map labL)) (.slice ka n.kids.length kc) → NodeF w n.nd na nc ka kc n.fp :=
  Lb.ind' _ (fun n ih ρ na nc ka kc h0 h1 h2 => by
    have s1 := strsF_of_rep h1
    obtain ⟨a', c', g1, _, g3, g4, g5, g6⟩ := rep_view.1 h2
    rw [List.length_map] at *
    cases g1
    rw [nd_eq, fp_eq]
    refine NodeF.mk h0 s1 ⟨by rw [List.length_map]; exact g3, by rw [List.length_map]; exact g4, ?_⟩
    by_cases hne : n.kids = []
    · left
      rw [hne]
      exact ⟨rfl, rfl⟩
    · right
      rcases g6 with g6 | ⟨b, o, ha, hb, he⟩
      · exact absurd (List.map_eq_nil_iff.1 g6) hne
      · obtain ⟨_, rfl, _⟩ := hb
        refine ⟨n.kb, o, n.kids.flatMap Lb.fp, fun h => hne (List.map_eq_nil_iff.1 h), ha, ?_, kidsF_of_rep ih he⟩
        cases hk : n.kids with
        | nil => exact absurd hk hne
        | cons x xs => rfl)
theorem fv_of_rep {n : Lb} {v : Value} (h : Rep w ρ (labA n) v) : FV nodeRep packA w n.nd v n.fp := by
  unfold labA at h
  rw [labL_eq] at h
  obtain ⟨vs, rfl, _, h2⟩ := rep_agg.1 h
  obtain ⟨v0, p0, q0⟩ := h2.get (i := 0) rfl
  obtain ⟨v1, p1, q1⟩ := h2.get (i := 1) rfl
  obtain ⟨v2, p2, q2⟩ := h2.get (i := 2) rfl
  obtain ⟨v3, p3, q3⟩ := h2.get (i := 3) rfl
  obtain ⟨v4, p4, q4⟩ := h2.get (i := 4) rfl
  rw [rep_int] at q0 q1
  obtain ⟨q2, q2'⟩ := rep_str.1 q2
  obtain ⟨na, nc, r3, _⟩ := rep_view.1 q3
  obtain ⟨ka, kc, r4, _⟩ := rep_view.1 q4
  rw [strsE_len] at r3
  rw [List.length_map] at r4
  subst q0 q1 q2 r3 r4
  have hl := h2.length
  simp only [List.length_cons, List.length_nil] at hl
  refine ⟨vs, rfl, na, nc, ka, kc, ?_, nodeF_of_rep n ρ na nc ka kc q2' q3 q4⟩
  rw [nd_eq]
  unfold Go.Proofs.Ytgfnmhfdmmnaoaa.nodeL
  dsimp only
  rw [List.length_map]
  apply List.ext_getElem?
  intro i
  rcases i with _ | _ | _ | _ | _ | i
  · exact p0
  · exact p1
  · exact p2
  · exact p3
  · exact p4
  · rw [List.getElem?_eq_none (by omega), List.getElem?_eq_none (by simp)]
end
end Go.Proofs.Ytgfnmhfdmmnaoaa.Eng
-- EV: fresh
namespace Go.Proofs.Ytgfnmhfdmmnaoaa.Eng
open Go Go.RowKit
attribute [local simp] big size_mk ASt.pay Option.map_map Function.comp_def awant aop acall ado aev ofVal ofVal0 ASt.put ASt.add ASt.turn ASt.kill abox aalloc astore aload aloadD astoreD idOf ASt.at cellsTo afieldAddr afield aindexAddr aindex alen abin aint acmp astr aun apick aextract anil aslice abound abuild afill abuildSlice asCells aps avCells over upd aappend asrc amax amin aconv mkSt slots rowsOf_cons rowsOf_nil usedOf_cons usedOf_nil ZK.av List.replicate ASt.back ASt.addL ASt.killL nodeA nodeT nodeTL_eq nodeL_eq strsE_get strsE_len intsE_get intsE_len strsE_at intsE_at tab2 tab3 tab4 tab5 tab6 tab7 tab8 tab9 tab10 tab11 tab12 tab13 tab14 tab15 tab16 tab17 tab18 tab19 tab21 tab22 tab23 tab24 tab25 tab26 tab27 tab28 tab29 tab30 tab39 tab40 tab41 tab42 tab43 tab47 tab48 tab55 tab56 tab57 tab60 tab61 tab62 tab73 tab74 tab75 tab85 tab92 tab115 tab116 tab143 tab144 tab145 tab154 tab155 tab170 tab175 tab182 tab197 tab198 tab203 tab204 tab205 tab207 tab208 tab209
def labsR (ks : List Lb) : Row := ⟨false, 30, 5, ks.map labL⟩
def rLab (n : Nd) (r : AV) : Prop := ∃ l : Lb, l.nd = n ∧ l.fp.Nodup ∧ r = labA l
def rLabX (n : Nd) (r : AV) : Prop := ∃ l : Lb, l.nd = n ∧ l.fp.Nodup ∧ r = .agg [.int .i64 l.kind, .int .i64 l.num, .str l.text, .view (.fr l.nb) 1 (strsE l.names), .view (.fr l.kb) 5 (l.kids.map labL)]
theorem rLab_X {n : Nd} {r : AV} (h : rLab n r) : rLabX n r := by
  obtain ⟨l, h1, h2, rfl⟩ := h
  exact ⟨l, h1, h2, by unfold labA; rw [labL_eq]⟩
def partF (ls : List Lb) (m : Nat) : List (List AV) := ls.map labL ++ List.replicate (m - ls.length) zeroN
theorem partF_len (ls : List Lb) (m : Nat) (h : ls.length ≤ m) : (partF ls m).length = m := by unfold partF; simp; omega
theorem partF_get (ls : List Lb) (m : Nat) (h : ls.length < m) : (partF ls m)[ls.length]? = some [.int .i64 0, .int .i64 0, .str ⟨#[]⟩, .view .tight 0 [], .view .tight 0 []] := by
  unfold partF
  rw [List.getElem?_append_right (by simp), List.length_map, Nat.sub_self, List.getElem?_replicate, if_pos (by omega)]
  rfl
theorem partF_set (ls : List Lb) (m : Nat) (h : ls.length < m) (l : Lb) : (partF ls m).set ls.length (labL l) = partF (ls ++ [l]) m := by
  unfold partF
  rw [List.set_append_right _ _ (by simp), List.length_map, Nat.sub_self]
  have : m - ls.length = (m - (ls ++ [l]).length) + 1 := by rw [List.length_append, List.length_singleton]; omega
  rw [this, List.replicate_succ, List.set_cons_zero, List.map_append, List.append_assoc]
  rfl
theorem partF_in {U : Nat → Bool} (ls : List Lb) (m : Nat) : ∀ e ∈ partF ls m, ∀ c ∈ e, AV.In U c := by
  intro e he c hc
  unfold partF at he
  rcases List.mem_append.1 he with he | he
  · exact labsE_in ls e he c hc
  · rw [List.eq_of_mem_replicate he] at hc
    simp only [zeroN, List.mem_cons, List.not_mem_nil, or_false] at hc
    rcases hc with rfl | rfl | rfl | rfl | rfl
    · exact in_int
    · exact in_int
    · exact in_str
    · exact in_vnil
    · exact in_vnil
theorem at_zeroN : atL zeroN = [] := by
  unfold zeroN
  simp only [atL_cons, atL_nil, at_int, at_str, at_view, atE_nil, frB_tight, List.append_nil]
theorem at_partF (ls : List Lb) (m : Nat) : atE (partF ls m) = ls.flatMap Lb.fp := by
  unfold partF
  rw [atE_app, atE_labs]
  have : ∀ k, atE (List.replicate k zeroN) = [] := fun k => by
    induction k with
    | zero => rw [List.replicate_zero, atE_nil]
    | succ k ih => rw [List.replicate_succ, atE_cons, ih, at_zeroN]; rfl
  rw [this, List.append_nil]
theorem fp_nodup {l : Lb} (h : (l.kids.flatMap Lb.fp).Nodup) (f1 : ∀ b ∈ l.kids.flatMap Lb.fp, l.nb ≠ b) (f2 : ∀ b ∈ l.kids.flatMap Lb.fp, l.kb ≠ b) (f3 : l.names ≠ [] → l.kids ≠ [] → l.kb ≠ l.nb) : l.fp.Nodup := by
  rw [fp_eq, frB_fr, frB_fr]
  refine List.nodup_append.2 ⟨by split <;> simp, List.nodup_append.2 ⟨by split <;> simp, h, fun a ha b hb e => ?_⟩, fun a ha b hb e => ?_⟩
  · split at ha <;> simp at ha
    exact f2 b hb (by rw [← ha, e])
  · rcases List.mem_append.1 hb with hb | hb
    · split at ha <;> split at hb <;> simp at ha hb
      rename_i q1 q2
      exact f3 (fun h => by rw [h] at q1; simp at q1) (fun h => by rw [h] at q2; simp at q2) (by rw [← ha, ← hb, e])
    · split at ha <;> simp at ha
      exact f1 b hb (by rw [← ha, e])
theorem fp_ge {l : Lb} {B : Nat} (h : ∀ b ∈ l.kids.flatMap Lb.fp, B ≤ b) (g1 : B ≤ l.nb) (g2 : B ≤ l.kb) : ∀ b ∈ l.fp, B ≤ b := by
  intro b hb
  rw [fp_eq, frB_fr, frB_fr] at hb
  rcases List.mem_append.1 hb with hb | hb
  · split at hb <;> simp at hb
    rw [hb]; exact g1
  · rcases List.mem_append.1 hb with hb | hb
    · split at hb <;> simp at hb
      rw [hb]; exact g2
    · exact h b hb
theorem lab_ex : ∀ (n : Nd) (N : Nat), ∃ (l : Lb) (M : Nat), l.nd = n ∧ l.fp.Nodup ∧ N ≤ M ∧ ∀ b ∈ l.fp, N ≤ b ∧ b < M := Nd.ind' _ (fun n ih N => by
  have aux : ∀ (ks : List Nd), (∀ k ∈ ks, ∀ N, ∃ (l : Lb) (M : Nat), l.nd = k ∧ l.fp.Nodup ∧ N ≤ M ∧ ∀ b ∈ l.fp, N ≤ b ∧ b < M) → ∀ N, ∃ (ls : List Lb) (M : Nat), ls.map Lb.nd = ks ∧ (ls.flatMap Lb.fp).Nodup ∧ N ≤ M ∧ ∀ b ∈ ls.flatMap Lb.fp, N ≤ b ∧ b < M := by
    intro ks
    induction ks with
    | nil => exact fun _ N => ⟨[], N, rfl, by simp, Nat.le_refl _, by simp⟩
    | cons k ks ih2 =>
      intro h N
      obtain ⟨l, M, h1, h2, h3, h4⟩ := h k (by simp) N
      obtain ⟨ls, M', g1, g2, g3, g4⟩ := ih2 (fun x hx => h x (by simp [hx])) M
      refine ⟨l :: ls, M', by rw [List.map_cons, h1, g1], ?_, by omega, ?_⟩
      · rw [List.flatMap_cons]
        exact List.nodup_append.2 ⟨h2, g2, fun a ha b hb e => by have := (h4 a ha).2; have := (g4 b hb).1; omega⟩
      · intro b hb
        rw [List.flatMap_cons] at hb
        rcases List.mem_append.1 hb with hb | hb
        · have := h4 b hb; omega
        · have := g4 b hb; omega
  obtain ⟨ls, M, h1, h2, h3, h4⟩ := aux n.kids ih (N + 2)
  refine ⟨⟨n.kind, n.num, n.text, n.names, N, ls, N + 1⟩, M, by rw [nd_eq]; dsimp only; rw [h1]; cases n; rfl, ?_, by omega, ?_⟩
  · rw [fp_eq, frB_fr, frB_fr]
    dsimp only
    refine List.nodup_append.2 ⟨by split <;> simp, List.nodup_append.2 ⟨by split <;> simp, h2, fun a ha b hb e => ?_⟩, fun a ha b hb e => ?_⟩
    · have := (h4 b hb).1
      split at ha <;> simp at ha
      omega
    · rcases List.mem_append.1 hb with hb | hb
      · split at ha <;> split at hb <;> simp at ha hb
        omega
      · have := (h4 b hb).1
        split at ha <;> simp at ha
        omega
  · intro b hb
    rw [fp_eq, frB_fr, frB_fr] at hb
    dsimp only at hb
    rcases List.mem_append.1 hb with hb | hb
    · split at hb <;> simp at hb
      omega
    · rcases List.mem_append.1 hb with hb | hb
      · split at hb <;> simp at hb
        omega
      · have := h4 b hb; omega)
theorem rLabX_ex (n : Nd) {A : Nat → Prop} {N : Nat} (hN : ∀ b, A b → b < N) : ∃ r, (rLabX n r ∧ ∀ b ∈ atB r, ¬ A b) ∧ NoId r := by
  obtain ⟨l, M, h1, h2, _, h4⟩ := lab_ex n N
  have hr : rLab n (labA l) := ⟨l, h1, h2, rfl⟩
  exact ⟨labA l, ⟨rLab_X hr, fun b hb ha => by rw [at_lab] at hb; have := (h4 b hb).1; have := hN b ha; omega⟩, lab_in l⟩
theorem nodup_snoc {ls : List Lb} {l : Lb} (h : (ls.flatMap Lb.fp).Nodup) (k : l.fp.Nodup) (ha : ∀ b ∈ l.fp, ¬ b ∈ ls.flatMap Lb.fp) : ((ls ++ [l]).flatMap Lb.fp).Nodup := by
  rw [List.flatMap_append, List.flatMap_cons, List.flatMap_nil, List.append_nil]
  exact List.nodup_append.2 ⟨h, k, fun a h1 b h2 e => ha b h2 (e ▸ h1)⟩
theorem implCopyF_hold (n : Nd) (hs : Sml n) (ih : ∀ k ∈ n.kids, ACF Try.prog 75 [nodeA k] 0 (rLabX k)) : ACF Try.prog 75 [nodeA n] 0 (rLabX n) := by
  have hs1 := hs.names
  have hs2 := hs.kids
  unfold nodeA at ih ⊢
  rw [nodeL_eq]
  refine ACF.of tab_ok mixed_ok Try.func75 (by rfl) (by kernel_rfl) ?_; rintro ⟨P, T, hT, hm, w0, S0, rd0, k0⟩ hP hTT hN; dsimp only at hP hTT hN; subst hP hTT; dsimp only; unfold initSt; rw [Try.ntmps75]
  refine AW.seq ?_
  (refine AW.regionK [] (fun K hK => ?_); (repeat (refine arun_ks 4 rfl (fun C hC => ?_); (repeat ((conv => whnf); simp)); refine hC _ ?_; clear hC C; simp only [List.drop_succ_cons, List.drop_zero, List.drop_nil])); refine arun_nil ?_; refine hK _ ?_; clear hK K; simp only [thenA_normal, inBlockA_normal, endQ_normal, endR_normal])
  refine AW.seq ?_
  (refine AW.regionK [] (fun K hK => ?_); (repeat (refine arun_ks 4 rfl (fun C hC => ?_); (repeat ((conv => whnf); simp)); refine hC _ ?_; clear hC C; simp only [List.drop_succ_cons, List.drop_zero, List.drop_nil])); refine arun_nil ?_; refine hK _ ?_; clear hK K; simp only [thenA_normal, inBlockA_normal, endQ_normal, endR_normal])
  refine AW.seq ?_
  refine AW.cutN (fun (_ : Unit) => mkSt (slots 0 52 [(1, .ptr true 5 1 1 0 0), (2, .ptr true 5 1 2 0 0), (3, .ptr true 5 1 3 0 0)]) [(1, ⟨true, 30, 5, [[.int .i64 n.kind, .int .i64 n.num, .str n.text, .view .loose 1 (strsE n.names), .view .loose 5 (n.kids.map nodeL)]]⟩), (2, ⟨true, 30, 5, [zeroN]⟩), (3, ⟨true, 30, 5, [[.int .i64 n.kind, .int .i64 n.num, .str n.text, .own 20 n.names.length, .view .tight 0 []]]⟩), (20, namesR n.names)] [1, 2, 3, 20] (rd0.map fun _ => 0)) (fun _ => True) ?_ ?_
  · by_cases hn0 : 0 < n.names.length
    · (repeat (first | with_reducible refine AW.seq ?_ | ((first | refine arun_kn 1 rfl (fun C hC => ?_) | refine arunD_kn 1 rfl (fun C hC => ?_)); (repeat ((conv => whnf); simp [hn0])); refine hC _ ?_; clear hC C; simp only [List.drop, Nat.reduceAdd]) | (refine arun_skip ?_ ?_; (focus (simp [awant, hn0]; done))) | (refine AW.regionK [] (fun K hK => ?_)) | (refine AW.regionDK [] (pcs [] []) (by kernel_rfl) (by kernel_rfl) (fun K hK => ?_)) | (refine AW.condT ?_ ?_; (focus (simp [aev, hn0]; done))) | (refine AW.condF ?_ ?_; (focus (simp [aev, hn0]; done))) | with_reducible refine AW.block ?_ | ((first | ((first | refine arun_nil ?_ | refine arunD_nil ?_); refine hK _ ?_; clear hK K) | refine AW.skip ?_ | refine AW.exit ?_ | refine AW.ret ?_); simp only [wE, if_true, if_false, Nat.reduceEqDiff, reduceIte, endF_ret, endF_normal])))
      refine arun_make 20 rfl (by simp [awant]) rfl tab23 tab9 (by decide) rfl (by dsimp only; omega) (by unfold maxLen; omega) (by simp [upd]) ?_
      (repeat (first | with_reducible refine AW.seq ?_ | ((first | refine arun_kn 1 rfl (fun C hC => ?_) | refine arunD_kn 1 rfl (fun C hC => ?_)); (repeat ((conv => whnf); simp [hn0])); refine hC _ ?_; clear hC C; simp only [List.drop, Nat.reduceAdd]) | (refine arun_skip ?_ ?_; (focus (simp [awant, hn0]; done))) | (refine AW.regionK [] (fun K hK => ?_)) | (refine AW.regionDK [] (pcs [] []) (by kernel_rfl) (by kernel_rfl) (fun K hK => ?_)) | (refine AW.condT ?_ ?_; (focus (simp [aev, hn0]; done))) | (refine AW.condF ?_ ?_; (focus (simp [aev, hn0]; done))) | with_reducible refine AW.block ?_ | ((first | ((first | refine arun_nil ?_ | refine arunD_nil ?_); refine hK _ ?_; clear hK K) | refine AW.skip ?_ | refine AW.exit ?_ | refine AW.ret ?_); simp only [wE, if_true, if_false, Nat.reduceEqDiff, reduceIte, endF_ret, endF_normal])))
      refine arun_copyAll (r := ⟨false, 9, 1, List.replicate n.names.length [AV.str ⟨#[]⟩]⟩) rfl (by simp [awant]) rfl (by simp [upd]) rfl rfl List.length_replicate rfl (strsE_len _) tab23 tab9 rfl ?_
      (repeat (first | with_reducible refine AW.seq ?_ | ((first | refine arun_kn 1 rfl (fun C hC => ?_) | refine arunD_kn 1 rfl (fun C hC => ?_)); (repeat ((conv => whnf); simp [hn0])); refine hC _ ?_; clear hC C; simp only [List.drop, Nat.reduceAdd]) | (refine arun_skip ?_ ?_; (focus (simp [awant, hn0]; done))) | (refine AW.regionK [] (fun K hK => ?_)) | (refine AW.regionDK [] (pcs [] []) (by kernel_rfl) (by kernel_rfl) (fun K hK => ?_)) | (refine AW.condT ?_ ?_; (focus (simp [aev, hn0]; done))) | (refine AW.condF ?_ ?_; (focus (simp [aev, hn0]; done))) | with_reducible refine AW.block ?_ | ((first | ((first | refine arun_nil ?_ | refine arunD_nil ?_); refine hK _ ?_; clear hK K) | refine AW.skip ?_ | refine AW.exit ?_ | refine AW.ret ?_); simp only [wE, if_true, if_false, Nat.reduceEqDiff, reduceIte, endF_ret, endF_normal])))
      exact ⟨(), trivial, (less_of (by simp [lessL, mkSt, slots, namesR, zeroN]) (by simp [upd, mkSt, rowsOf_cons, namesR, zeroN]) (by simp [upd, mkSt, usedOf_cons, namesR, zeroN]) (by first | exact rd_less (by omega) | simp [mkSt, namesR, zeroN]) (by simp [slots, in_any, in_int, in_bool, in_str, in_ptr, in_own, in_agg, in_vnil, in_rdr, usedOf_cons, usedOf_nil, strs_in, ints_in, nodes_in, in_tup, namesR, zeroN]) (by simp only [List.forall_mem_cons, List.not_mem_nil, false_implies, implies_true, and_true, true_and, namesR, zeroN]; (repeat (first | with_reducible exact trivial | with_reducible refine And.intro ?_ ?_ | with_reducible exact in_int | with_reducible exact in_str | with_reducible exact in_bool | with_reducible exact strs_in _ | with_reducible exact nodes_in _ | with_reducible exact items_in _ | with_reducible exact in_vnil | with_reducible exact in_any | exact hin _ | with_reducible refine take_in ?_ | with_reducible exact strsE_in _ | with_reducible exact nodesE_in _ | with_reducible exact nodeL_in _ | with_reducible exact itemsE_in _ | with_reducible exact itemL_in _ | with_reducible refine app_in ?_ ?_ | with_reducible refine sing_in ?_ | (focus (simp [in_any, in_int, in_bool, in_str, in_ptr, in_own, in_agg, in_vnil, in_rdr, usedOf_cons, usedOf_nil, strs_in, ints_in, nodes_in, namesR, zeroN]; done)))); done))⟩
    · have hl0 : n.names.length = 0 := by omega
      have he0 : n.names = [] := List.length_eq_zero_iff.1 hl0
      refine AW.adoptB 3 3 20 9 1 ⟨_, tab9, rfl⟩ (by simp [upd]; rfl) rfl rfl (by simp [upd]) ?_
      simp only [ASt.adoptB]
      (repeat (first | with_reducible refine AW.seq ?_ | ((first | refine arun_kn 1 rfl (fun C hC => ?_) | refine arunD_kn 1 rfl (fun C hC => ?_)); (repeat ((conv => whnf); simp [hl0])); refine hC _ ?_; clear hC C; simp only [List.drop, Nat.reduceAdd]) | (refine arun_skip ?_ ?_; (focus (simp [awant, hl0]; done))) | (refine AW.regionK [] (fun K hK => ?_)) | (refine AW.regionDK [] (pcs [] []) (by kernel_rfl) (by kernel_rfl) (fun K hK => ?_)) | (refine AW.condT ?_ ?_; (focus (simp [aev, hl0]; done))) | (refine AW.condF ?_ ?_; (focus (simp [aev, hl0]; done))) | with_reducible refine AW.block ?_ | ((first | ((first | refine arun_nil ?_ | refine arunD_nil ?_); refine hK _ ?_; clear hK K) | refine AW.skip ?_ | refine AW.exit ?_ | refine AW.ret ?_); simp only [wE, if_true, if_false, Nat.reduceEqDiff, reduceIte, endF_ret, endF_normal])))
      exact ⟨(), trivial, (less_of (by simp [lessL, mkSt, slots, namesR, zeroN, he0, strsE]) (by simp [upd, mkSt, rowsOf_cons, namesR, zeroN, he0, strsE]) (by simp [upd, mkSt, usedOf_cons, namesR, zeroN, he0, strsE]) (by first | exact rd_less (by omega) | simp [mkSt, namesR, zeroN, he0, strsE]) (by simp [slots, in_any, in_int, in_bool, in_str, in_ptr, in_own, in_agg, in_vnil, in_rdr, usedOf_cons, usedOf_nil, strs_in, ints_in, nodes_in, in_tup, namesR, zeroN, he0, strsE]) (by simp only [List.forall_mem_cons, List.not_mem_nil, false_implies, implies_true, and_true, true_and, namesR, zeroN, he0, strsE]; (repeat (first | with_reducible exact trivial | with_reducible refine And.intro ?_ ?_ | with_reducible exact in_int | with_reducible exact in_str | with_reducible exact in_bool | with_reducible exact strs_in _ | with_reducible exact nodes_in _ | with_reducible exact items_in _ | with_reducible exact in_vnil | with_reducible exact in_any | exact hin _ | with_reducible refine take_in ?_ | with_reducible exact strsE_in _ | with_reducible exact nodesE_in _ | with_reducible exact nodeL_in _ | with_reducible exact itemsE_in _ | with_reducible exact itemL_in _ | with_reducible refine app_in ?_ ?_ | with_reducible refine sing_in ?_ | (focus (simp [in_any, in_int, in_bool, in_str, in_ptr, in_own, in_agg, in_vnil, in_rdr, usedOf_cons, usedOf_nil, strs_in, ints_in, nodes_in, namesR, zeroN, he0, strsE]; done)))); done))⟩
  rintro ⟨⟩ s' - hls
  refine AW.less _ hls ?_
  clear hls s'
  refine AW.seq ?_
  refine AW.cutN (fun (ks : List Lb) => mkSt (slots 0 52 [(2, .ptr true 5 1 2 0 0), (3, .ptr true 5 1 3 0 0)]) [(2, ⟨true, 30, 5, [zeroN]⟩), (3, ⟨true, 30, 5, [[.int .i64 n.kind, .int .i64 n.num, .str n.text, .own 20 n.names.length, .own 34 n.kids.length]]⟩), (20, namesR n.names), (34, labsR ks)] [2, 3, 20, 34] (rd0.map fun _ => 0)) (fun ks => ks.map Lb.nd = n.kids ∧ (ks.flatMap Lb.fp).Nodup ∧ ∀ b ∈ ks.flatMap Lb.fp, w0.wd.heap.size ≤ b) ?_ ?_
  · by_cases hn0 : 0 < n.kids.length
    · (repeat (first | with_reducible refine AW.seq ?_ | ((first | refine arun_kn 1 rfl (fun C hC => ?_) | refine arunD_kn 1 rfl (fun C hC => ?_)); (repeat ((conv => whnf); simp [hn0])); refine hC _ ?_; clear hC C; simp only [List.drop, Nat.reduceAdd]) | (refine arun_skip ?_ ?_; (focus (simp [awant, hn0]; done))) | (refine AW.regionK [] (fun K hK => ?_)) | (refine AW.regionDK [] (pcs [] []) (by kernel_rfl) (by kernel_rfl) (fun K hK => ?_)) | (refine AW.condT ?_ ?_; (focus (simp [aev, hn0]; done))) | (refine AW.condF ?_ ?_; (focus (simp [aev, hn0]; done))) | with_reducible refine AW.block ?_ | ((first | ((first | refine arun_nil ?_ | refine arunD_nil ?_); refine hK _ ?_; clear hK K) | refine AW.skip ?_ | refine AW.exit ?_ | refine AW.ret ?_); simp only [wE, if_true, if_false, Nat.reduceEqDiff, reduceIte, endF_ret, endF_normal])))
      refine arun_make 34 rfl (by simp [awant]) rfl tab28 tab30 (by decide) rfl (by dsimp only; omega) (by unfold maxLen; omega) (by simp [upd]) ?_
      (repeat (first | with_reducible refine AW.seq ?_ | ((first | refine arun_kn 1 rfl (fun C hC => ?_) | refine arunD_kn 1 rfl (fun C hC => ?_)); (repeat ((conv => whnf); simp [hn0])); refine hC _ ?_; clear hC C; simp only [List.drop, Nat.reduceAdd]) | (refine arun_skip ?_ ?_; (focus (simp [awant, hn0]; done))) | (refine AW.regionK [] (fun K hK => ?_)) | (refine AW.regionDK [] (pcs [] []) (by kernel_rfl) (by kernel_rfl) (fun K hK => ?_)) | (refine AW.condT ?_ ?_; (focus (simp [aev, hn0]; done))) | (refine AW.condF ?_ ?_; (focus (simp [aev, hn0]; done))) | with_reducible refine AW.block ?_ | ((first | ((first | refine arun_nil ?_ | refine arunD_nil ?_); refine hK _ ?_; clear hK K) | refine AW.skip ?_ | refine AW.exit ?_ | refine AW.ret ?_); simp only [wE, if_true, if_false, Nat.reduceEqDiff, reduceIte, endF_ret, endF_normal])))
      refine AW.loopS (fun (ls : List Lb) => mkSt (slots 0 52 [(1, .ptr true 5 1 1 0 0), (2, .ptr true 5 1 2 0 0), (3, .ptr true 5 1 3 0 0), (37, .view .loose 5 (n.kids.map nodeL)), (38, .int .i64 n.kids.length), (39, .int .i64 ls.length)]) [(1, ⟨true, 30, 5, [[.int .i64 n.kind, .int .i64 n.num, .str n.text, .view .loose 1 (strsE n.names), .view .loose 5 (n.kids.map nodeL)]]⟩), (2, ⟨true, 30, 5, [zeroN]⟩), (3, ⟨true, 30, 5, [[.int .i64 n.kind, .int .i64 n.num, .str n.text, .own 20 n.names.length, .own 34 n.kids.length]]⟩), (20, namesR n.names), (34, ⟨false, 30, 5, partF ls n.kids.length⟩)] [1, 2, 3, 20, 34] (rd0.map fun _ => 0)) (fun ls => n.kids.length - ls.length) (fun ls => ls.map Lb.nd = n.kids.take ls.length ∧ ls.length ≤ n.kids.length ∧ (ls.flatMap Lb.fp).Nodup ∧ ∀ b ∈ ls.flatMap Lb.fp, w0.wd.heap.size ≤ b) [] ?_ ⟨rfl, Nat.zero_le _, List.nodup_nil, fun b hb => by cases hb⟩ ?_
      · have hin : ∀ U : Nat → Bool, ∀ e ∈ partF [] n.kids.length, ∀ c ∈ e, AV.In U c := fun U => partF_in _ _
        have e0 : partF [] n.kids.length = List.replicate n.kids.length zeroN := rfl
        rw [e0] at hin ⊢
        exact (less_of (by simp [lessL, mkSt, slots, namesR, zeroN]) (by simp [upd, mkSt, rowsOf_cons, namesR, zeroN]) (by simp [upd, mkSt, usedOf_cons, namesR, zeroN]) (by first | exact rd_less (by omega) | simp [mkSt, namesR, zeroN]) (by simp [slots, in_any, in_int, in_bool, in_str, in_ptr, in_own, in_agg, in_vnil, in_rdr, usedOf_cons, usedOf_nil, strs_in, ints_in, nodes_in, in_tup, namesR, zeroN]) (by simp only [List.forall_mem_cons, List.not_mem_nil, false_implies, implies_true, and_true, true_and, namesR, zeroN]; (repeat (first | with_reducible exact trivial | with_reducible refine And.intro ?_ ?_ | with_reducible exact in_int | with_reducible exact in_str | with_reducible exact in_bool | with_reducible exact strs_in _ | with_reducible exact nodes_in _ | with_reducible exact items_in _ | with_reducible exact in_vnil | with_reducible exact in_any | exact hin _ | with_reducible refine take_in ?_ | with_reducible exact strsE_in _ | with_reducible exact nodesE_in _ | with_reducible exact nodeL_in _ | with_reducible exact itemsE_in _ | with_reducible exact itemL_in _ | with_reducible refine app_in ?_ ?_ | with_reducible refine sing_in ?_ | (focus (simp [in_any, in_int, in_bool, in_str, in_ptr, in_own, in_agg, in_vnil, in_rdr, usedOf_cons, usedOf_nil, strs_in, ints_in, nodes_in, namesR, zeroN]; done)))); done))
      · rintro ls ⟨hnd, hi, hnp, hge⟩
        have hpl := partF_len ls n.kids.length hi
        by_cases hlt : ls.length < n.kids.length
        · have hw : IntKind.i64.wrap ((ls.length : Int) + 1) = ((ls.length + 1 : Nat) : Int) := by rw [i64_nat (by omega) (by omega)]; simp
          have hg := partF_get ls n.kids.length hlt
          have hgd : ∀ h, (partF ls n.kids.length)[ls.length]'h = [.int .i64 0, .int .i64 0, .str ⟨#[]⟩, .view .tight 0 [], .view .tight 0 []] := fun h => by
            rw [List.getElem?_eq_getElem h] at hg; exact Option.some.inj hg
          have hik := ih n.kids[ls.length] (List.getElem_mem hlt)
          have hck := node_clo n.kids[ls.length]
          unfold nodeA at hck
          rw [nodeL_eq n.kids[ls.length]] at hik hck
          have x1 : (n.kids.map nodeL)[ls.length]? = some [.int .i64 n.kids[ls.length].kind, .int .i64 n.kids[ls.length].num, .str n.kids[ls.length].text, .view .loose 1 (strsE n.kids[ls.length].names), .view .loose 5 (n.kids[ls.length].kids.map nodeL)] := by rw [List.getElem?_map, List.getElem?_eq_getElem hlt, ← nodeL_eq]; rfl
          refine AW.noteR 34 (r := ⟨false, 30, 5, partF ls n.kids.length⟩) (by simp [mkSt, rowsOf_cons]) ?_
          have hN' := hN.note (atE (partF ls n.kids.length))
          refine AW.bound (fun N hNb => ?_)
          (repeat (first | with_reducible refine AW.seq ?_ | ((first | refine arun_kn 1 rfl (fun C hC => ?_) | refine arunD_kn 1 rfl (fun C hC => ?_)); (repeat ((conv => whnf); simp [hlt, hw, hpl, hg, hgd, x1])); refine hC _ ?_; clear hC C; simp only [List.drop, Nat.reduceAdd]) | (refine arun_skip ?_ ?_; (focus (simp [awant, hlt, hw, hpl, hg, hgd, x1]; done))) | (refine AW.regionK [] (fun K hK => ?_)) | (refine AW.condT ?_ ?_; (focus (simp [aev, hlt, hw, hpl, hg, hgd, x1]; done))) | (refine AW.condF ?_ ?_; (focus (simp [aev, hlt, hw, hpl, hg, hgd, x1]; done))) | with_reducible refine AW.block ?_ | ((first | ((first | refine arun_nil ?_ | refine arunD_nil ?_); refine hK _ ?_; clear hK K) | refine AW.skip ?_ | refine AW.exit ?_ | refine AW.ret ?_); simp only [wE, if_true, if_false, Nat.reduceEqDiff, reduceIte, endF_ret, endF_normal])))
          refine AW.regionDK [] (pcs [(4, 0, fun r => rLabX n.kids[ls.length] r ∧ ∀ b ∈ atB r, ¬ (w0.note (atE (partF ls n.kids.length))).A b)] []) (by kernel_rfl) (by kernel_rfl) (fun K hK => ?_)
          (repeat (first | with_reducible refine AW.seq ?_ | ((first | refine arun_kn 1 rfl (fun C hC => ?_) | refine arunD_kn 1 rfl (fun C hC => ?_)); (repeat ((conv => whnf); simp [hlt, hw, hpl, hg, hgd, x1])); refine hC _ ?_; clear hC C; simp only [List.drop, Nat.reduceAdd]) | (refine arun_skip ?_ ?_; (focus (simp [awant, hlt, hw, hpl, hg, hgd, x1]; done))) | (refine arun_cF (0) (hik) ?_; (rintro _ ⟨l, hl, hlp, rfl⟩ hA)) | (refine arunD_cF (0) (hik) (by exact rLabX_ex _ hNb) ?_; (rintro _ ⟨l, hl, hlp, rfl⟩ hA); intro _) | (refine AW.regionK [] (fun K hK => ?_)) | (refine AW.regionDK [] (pcs [] []) (by kernel_rfl) (by kernel_rfl) (fun K hK => ?_)) | (refine AW.condT ?_ ?_; (focus (simp [aev, hlt, hw, hpl, hg, hgd, x1]; done))) | (refine AW.condF ?_ ?_; (focus (simp [aev, hlt, hw, hpl, hg, hgd, x1]; done))) | with_reducible refine AW.block ?_ | ((first | ((first | refine arun_nil ?_ | refine arunD_nil ?_); refine hK _ ?_; clear hK K) | refine AW.skip ?_ | refine AW.exit ?_ | refine AW.ret ?_); simp only [wE, if_true, if_false, Nat.reduceEqDiff, reduceIte, endF_ret, endF_normal])))
          have hA' : ∀ b ∈ l.fp, ¬ (w0.A b ∨ b ∈ atE (partF ls n.kids.length)) := fun b hb => hA b (by rw [at_agg, ← labL_eq]; exact hb)
          have hset := partF_set ls n.kids.length hlt l
          rw [labL_eq] at hset
          have hin : ∀ U : Nat → Bool, ∀ e ∈ partF (ls ++ [l]) n.kids.length, ∀ c ∈ e, AV.In U c := fun U => partF_in _ _
          have hll : (ls ++ [l]).length = ls.length + 1 := by rw [List.length_append]; rfl
          refine ⟨ls ++ [l], by rw [hll]; omega, ⟨?_, by rw [hll]; omega, nodup_snoc hnp hlp (fun b hb hm => hA' b hb (.inr (by rw [at_partF]; exact hm))), fun b hb => ?_⟩, ?_⟩
          · rw [hll, List.take_add_one, List.getElem?_eq_getElem hlt, List.map_append, hnd, List.map_cons, List.map_nil, hl]; rfl
          · rw [List.flatMap_append, List.flatMap_cons, List.flatMap_nil, List.append_nil] at hb
            rcases List.mem_append.1 hb with hb | hb
            · exact hge b hb
            · rcases Nat.lt_or_ge b w0.wd.heap.size with h | h
              · exact absurd (.inl (hN.A b h)) (hA' b hb)
              · exact h
          · rw [hll]
            exact (less_of (by simp [lessL, mkSt, slots, namesR, zeroN, hset]) (by simp [upd, mkSt, rowsOf_cons, namesR, zeroN, hset]) (by simp [upd, mkSt, usedOf_cons, namesR, zeroN, hset]) (by first | exact rd_less (by omega) | simp [mkSt, namesR, zeroN, hset]) (by simp [slots, in_any, in_int, in_bool, in_str, in_ptr, in_own, in_agg, in_vnil, in_rdr, usedOf_cons, usedOf_nil, strs_in, ints_in, nodes_in, in_tup, namesR, zeroN, hset]) (by simp only [List.forall_mem_cons, List.not_mem_nil, false_implies, implies_true, and_true, true_and, namesR, zeroN, hset]; (repeat (first | with_reducible exact trivial | with_reducible refine And.intro ?_ ?_ | with_reducible exact in_int | with_reducible exact in_str | with_reducible exact in_bool | with_reducible exact strs_in _ | with_reducible exact nodes_in _ | with_reducible exact items_in _ | with_reducible exact in_vnil | with_reducible exact in_any | exact hin _ | with_reducible refine take_in ?_ | with_reducible exact strsE_in _ | with_reducible exact nodesE_in _ | with_reducible exact nodeL_in _ | with_reducible exact itemsE_in _ | with_reducible exact itemL_in _ | with_reducible refine app_in ?_ ?_ | with_reducible refine sing_in ?_ | (focus (simp [in_any, in_int, in_bool, in_str, in_ptr, in_own, in_agg, in_vnil, in_rdr, usedOf_cons, usedOf_nil, strs_in, ints_in, nodes_in, namesR, zeroN, hset]; done)))); done))
        · have hl : ls.length = n.kids.length := by omega
          have hpa : partF ls n.kids.length = ls.map labL := by unfold partF; rw [hl, Nat.sub_self]; simp
          rw [hpa, hl]
          (repeat (first | with_reducible refine AW.seq ?_ | ((first | refine arun_kn 1 rfl (fun C hC => ?_) | refine arunD_kn 1 rfl (fun C hC => ?_)); (repeat ((conv => whnf); simp)); refine hC _ ?_; clear hC C; simp only [List.drop, Nat.reduceAdd]) | (refine arun_skip ?_ ?_; (focus (simp [awant]; done))) | (refine AW.regionK [] (fun K hK => ?_)) | (refine AW.regionDK [] (pcs [] []) (by kernel_rfl) (by kernel_rfl) (fun K hK => ?_)) | (refine AW.condT ?_ ?_; (focus (simp [aev]; done))) | (refine AW.condF ?_ ?_; (focus (simp [aev]; done))) | with_reducible refine AW.block ?_ | ((first | ((first | refine arun_nil ?_ | refine arunD_nil ?_); refine hK _ ?_; clear hK K) | refine AW.skip ?_ | refine AW.exit ?_ | refine AW.ret ?_); simp only [wE, if_true, if_false, Nat.reduceEqDiff, reduceIte, endF_ret, endF_normal])))
          refine ⟨ls, ⟨by rw [hnd, hl, List.take_of_length_le (Nat.le_refl _)], hnp, hge⟩, ?_⟩
          have hin : ∀ U : Nat → Bool, ∀ e ∈ ls.map labL, ∀ c ∈ e, AV.In U c := fun U => labsE_in _
          exact (less_of (by simp [lessL, mkSt, slots, namesR, labsR, zeroN]) (by simp [upd, mkSt, rowsOf_cons, namesR, labsR, zeroN]) (by simp [upd, mkSt, usedOf_cons, namesR, labsR, zeroN]) (by first | exact rd_less (by omega) | simp [mkSt, namesR, labsR, zeroN]) (by simp [slots, in_any, in_int, in_bool, in_str, in_ptr, in_own, in_agg, in_vnil, in_rdr, usedOf_cons, usedOf_nil, strs_in, ints_in, nodes_in, in_tup, namesR, labsR, zeroN]) (by simp only [List.forall_mem_cons, List.not_mem_nil, false_implies, implies_true, and_true, true_and, namesR, labsR, zeroN]; (repeat (first | with_reducible exact trivial | with_reducible refine And.intro ?_ ?_ | with_reducible exact in_int | with_reducible exact in_str | with_reducible exact in_bool | with_reducible exact strs_in _ | with_reducible exact nodes_in _ | with_reducible exact items_in _ | with_reducible exact in_vnil | with_reducible exact in_any | exact hin _ | with_reducible refine take_in ?_ | with_reducible exact strsE_in _ | with_reducible exact nodesE_in _ | with_reducible exact nodeL_in _ | with_reducible exact itemsE_in _ | with_reducible exact itemL_in _ | with_reducible refine app_in ?_ ?_ | with_reducible refine sing_in ?_ | (focus (simp [in_any, in_int, in_bool, in_str, in_ptr, in_own, in_agg, in_vnil, in_rdr, usedOf_cons, usedOf_nil, strs_in, ints_in, nodes_in, namesR, labsR, zeroN]; done)))); done))
    · have hl0 : n.kids.length = 0 := by omega
      have he0 : n.kids = [] := List.length_eq_zero_iff.1 hl0
      refine AW.adoptB 3 4 34 30 5 ⟨_, tab30, rfl⟩ (by simp [mkSt, rowsOf_cons]; rfl) rfl rfl (by simp [mkSt, usedOf_cons, usedOf_nil]) ?_
      simp only [ASt.adoptB]
      (repeat (first | with_reducible refine AW.seq ?_ | ((first | refine arun_kn 1 rfl (fun C hC => ?_) | refine arunD_kn 1 rfl (fun C hC => ?_)); (repeat ((conv => whnf); simp [hl0])); refine hC _ ?_; clear hC C; simp only [List.drop, Nat.reduceAdd]) | (refine arun_skip ?_ ?_; (focus (simp [awant, hl0]; done))) | (refine AW.regionK [] (fun K hK => ?_)) | (refine AW.regionDK [] (pcs [] []) (by kernel_rfl) (by kernel_rfl) (fun K hK => ?_)) | (refine AW.condT ?_ ?_; (focus (simp [aev, hl0]; done))) | (refine AW.condF ?_ ?_; (focus (simp [aev, hl0]; done))) | with_reducible refine AW.block ?_ | ((first | ((first | refine arun_nil ?_ | refine arunD_nil ?_); refine hK _ ?_; clear hK K) | refine AW.skip ?_ | refine AW.exit ?_ | refine AW.ret ?_); simp only [wE, if_true, if_false, Nat.reduceEqDiff, reduceIte, endF_ret, endF_normal])))
      refine ⟨[], ⟨by rw [he0]; rfl, List.nodup_nil, fun b hb => by cases hb⟩, ?_⟩
      exact (less_of (by simp [lessL, mkSt, slots, namesR, labsR, zeroN, he0]) (by simp [upd, mkSt, rowsOf_cons, namesR, labsR, zeroN, he0]) (by simp [upd, mkSt, usedOf_cons, namesR, labsR, zeroN, he0]) (by first | exact rd_less (by omega) | simp [mkSt, namesR, labsR, zeroN, he0]) (by simp [slots, in_any, in_int, in_bool, in_str, in_ptr, in_own, in_agg, in_vnil, in_rdr, usedOf_cons, usedOf_nil, strs_in, ints_in, nodes_in, in_tup, namesR, labsR, zeroN, he0]) (by simp only [List.forall_mem_cons, List.not_mem_nil, false_implies, implies_true, and_true, true_and, namesR, labsR, zeroN, he0]; (repeat (first | with_reducible exact trivial | with_reducible refine And.intro ?_ ?_ | with_reducible exact in_int | with_reducible exact in_str | with_reducible exact in_bool | with_reducible exact strs_in _ | with_reducible exact nodes_in _ | with_reducible exact items_in _ | with_reducible exact in_vnil | with_reducible exact in_any | exact hin _ | with_reducible refine take_in ?_ | with_reducible exact strsE_in _ | with_reducible exact nodesE_in _ | with_reducible exact nodeL_in _ | with_reducible exact itemsE_in _ | with_reducible exact itemL_in _ | with_reducible refine app_in ?_ ?_ | with_reducible refine sing_in ?_ | (focus (simp [in_any, in_int, in_bool, in_str, in_ptr, in_own, in_agg, in_vnil, in_rdr, usedOf_cons, usedOf_nil, strs_in, ints_in, nodes_in, namesR, labsR, zeroN, he0]; done)))); done))
  rintro ks s' ⟨hk1, hk2, hk3⟩ hls
  refine AW.less _ hls ?_
  clear hls s'
  have hlk : ks.length = n.kids.length := by rw [← hk1, List.length_map]
  refine AW.holdF 20 hN (fun g1 hg1 ht1 hr1 => ?_)
  have f1 := hr1 34 (labsR ks) (by simp [mkSt, rowsOf_cons])
  refine AW.holdF 34 hN (fun g2 hg2 ht2 hr2 => ?_)
  have f2 := hr2 34 (labsR ks) (by simp [mkSt, ASt.holdF, rowsOf_cons, upd, namesR, labsR, Row.sub, labsE_sub]; exact fun a _ => labL_sub a)
  have f3 := hr2 3 ⟨true, 30, 5, [[.int .i64 n.kind, .int .i64 n.num, .str n.text, .view (.fr g1) 1 (strsE n.names), .own 34 n.kids.length]]⟩ (by simp [mkSt, ASt.holdF, rowsOf_cons, upd, namesR, AV.subL, AV.sub, Row.sub, strsE_len])
  clear ht1 hr1 ht2 hr2
  (repeat (first | with_reducible refine AW.seq ?_ | ((first | refine arun_kn 1 rfl (fun C hC => ?_) | refine arunD_kn 1 rfl (fun C hC => ?_)); (repeat ((conv => whnf); simp [zeroN, ASt.holdF, namesR, labsR, AV.subL, AV.sub, Row.sub, rowsOf_cons, upd, labsE_sub, strsE_len, hlk])); refine hC _ ?_; clear hC C; simp only [List.drop, Nat.reduceAdd]) | (refine arun_skip ?_ ?_; (focus (simp [awant, zeroN, ASt.holdF, namesR, labsR, AV.subL, AV.sub, Row.sub, rowsOf_cons, upd, labsE_sub, strsE_len, hlk]; done))) | (refine AW.regionK [] (fun K hK => ?_)) | (refine AW.regionDK [] (pcs [] []) (by kernel_rfl) (by kernel_rfl) (fun K hK => ?_)) | (refine AW.condT ?_ ?_; (focus (simp [aev, zeroN, ASt.holdF, namesR, labsR, AV.subL, AV.sub, Row.sub, rowsOf_cons, upd, labsE_sub, strsE_len, hlk]; done))) | (refine AW.condF ?_ ?_; (focus (simp [aev, zeroN, ASt.holdF, namesR, labsR, AV.subL, AV.sub, Row.sub, rowsOf_cons, upd, labsE_sub, strsE_len, hlk]; done))) | with_reducible refine AW.block ?_ | ((first | ((first | refine arun_nil ?_ | refine arunD_nil ?_); refine hK _ ?_; clear hK K) | refine AW.skip ?_ | refine AW.exit ?_ | refine AW.ret ?_); simp only [wE, if_true, if_false, Nat.reduceEqDiff, reduceIte, endF_ret, endF_normal])))
  have e2 : atE (labsR ks).es = ks.flatMap Lb.fp := atE_labs ks
  rw [e2] at f1 f2
  refine ⟨labA ⟨n.kind, n.num, n.text, n.names, g1, ks, g2⟩, by unfold labA; rw [labL_eq]; simp [ares, aresL, upd, rowsOf_cons, labL_sub], lab_pur _, fun b hb => ?_, rLab_X ⟨_, ?_, fp_nodup hk2 f1 f2 (fun h1 _ => f3 g1 ?_), rfl⟩⟩
  · rw [at_lab] at hb
    exact fp_ge (l := ⟨n.kind, n.num, n.text, n.names, g1, ks, g2⟩) hk3 hg1 hg2 b hb
  · rw [nd_eq]; dsimp only; rw [hk1]; cases n; rfl
  · dsimp only at h1
    have : (strsE n.names).isEmpty = false := by unfold strsE; cases hh : n.names with | nil => exact absurd hh h1 | cons _ _ => rfl
    simp [atE_cons, atE_nil, atL_cons, atL_nil, at_int, at_str, at_own, at_view, frB_fr, this]
theorem implCopyF_ACF : ∀ n, Sml n → ACF Try.prog 75 [nodeA n] 0 (rLabX n) :=
  sml_ind fun n hs ih => implCopyF_hold n hs ih
end Go.Proofs.Ytgfnmhfdmmnaoaa.Eng
-- EV: fresh
namespace Go.Proofs.Ytgfnmhfdmmnaoaa
open Go.RowKit
theorem openV_node {w : World} {S : Nat → Prop} {x : Nd} {v : Value} (h : RV nodeRep packA w S x v) : ∃ na nc ka kc, v = nodeV x na nc ka kc := by
  obtain ⟨na, nc, ka, kc, hv, _⟩ := node_open h
  exact ⟨na, nc, ka, kc, hv⟩
theorem cntT_zero : cntT Nd.zero = 0 := by unfold cntT Nd.zero; simp [cntL]
namespace Eng
def rNB (m : Nd) (b : Bool) (r : AV) : Prop := ∃ l : Lb, l.nd = m ∧ l.fp.Nodup ∧ r = .tup [labA l, .bool b]
theorem ACF.weak {P : Program} {f : FuncId} {args : List AV} {c : Nat} {Q : AV → Prop} (h : ACF P f args c (fun r => ∃ r', Wk r r' ∧ (∀ b ∈ atB r', b ∈ atB r) ∧ Q r')) : ACF P f args c Q :=
  ⟨h.1, fun w L S rb k vs h0 h1 h2 h3 => (h.2 w L S rb k vs h0 h1 h2 h3).mono fun e w' ⟨v, r, S', k1, k2, k3, k4, k5, k6, ⟨r', q1, q2, q3⟩, k8⟩ => ⟨v, r', S', k1, k2, k3, k4, k5, q1 _ _ _ k6, q3, fun b hb => k8 b (q2 b hb)⟩⟩
theorem at_tup2 (l : Lb) (b : Bool) : atB (.tup [labA l, .bool b]) = l.fp := by
  rw [at_tup, atL_cons, atL_cons, atL_nil, at_lab, at_bool]; simp
theorem acf_nb {P : Program} {f : FuncId} {args : List AV} {m : Nd} {b : Bool} (h : ACF P f args 0 (rNB m b)) (w : World) (vs : List Value) (hargs : RepL w (pureC nil (fun k => k < w.heap.size) none) args vs) :
    Calls P f vs.toArray w fun e w' => ∃ v fp, e = .returned (.tuple #[v, .bool b]) ∧ Grow w w' ∧ FV nodeRep packA w' m v fp ∧ Free w.heap.size w' fp := by
  refine (h.2 w nil (fun k => k < w.heap.size) none 0 vs (fun _ h => h.elim) (fun _ h => h) (fun _ h => by cases h) hargs).mono ?_
  rintro e w' ⟨v, r, S', rfl, hx, hS1, hS2, _, hr, ⟨l, rfl, hnp, rfl⟩, hb⟩
  rw [at_tup2] at hb
  obtain ⟨us, rfl, h2⟩ := rep_tup.1 hr
  obtain ⟨v0, p0, q0⟩ := h2.get (i := 0) rfl
  obtain ⟨v1, p1, q1⟩ := h2.get (i := 1) rfl
  have hl := h2.length
  simp only [List.length_cons, List.length_nil] at hl
  have hus : us = [v0, v1] := by
    apply List.ext_getElem?
    intro i
    rcases i with _ | _ | i
    · exact p0
    · exact p1
    · rw [List.getElem?_eq_none (by omega), List.getElem?_eq_none (by simp)]
  subst hus
  rw [rep_bool] at q1
  subst q1
  have hg := Grow.ofNone hx
  refine ⟨v0, l.fp, rfl, hg, fv_of_rep q0, hnp, fun k hk => ?_⟩
  have hat := q0.at k (by rw [at_lab]; exact hk)
  refine ⟨hb k hk, ?_, hat.2⟩
  rcases hS2 k hat.1 with h | h
  · exact Nat.lt_of_lt_of_le h hg.size
  · exact h.2
theorem ac_nb {P : Program} {f : FuncId} {args : List AV} {m : Nd} {b : Bool} (h : AC P f args 0 (fun r => r = .tup [nodeA m, .bool b])) (w : World) (vs : List Value) (hargs : RepL w (pureC nil (fun k => k < w.heap.size) none) args vs) :
    Calls P f vs.toArray w fun e w' => ∃ v, e = .returned (.tuple #[v, .bool b]) ∧ Grow w w' ∧ RV nodeRep packA w' Go.Proofs.Ytgfnmhfdmmnaoaa.any m v := by
  refine (h.2 w nil (fun k => k < w.heap.size) none 0 vs (fun _ h => h.elim) (fun _ h => h) (fun _ h => by cases h) hargs).mono ?_
  rintro e w' ⟨v, r, S', rfl, hx, hS1, hS2, _, hr, rfl⟩
  obtain ⟨us, rfl, h2⟩ := rep_tup.1 hr
  obtain ⟨v0, p0, q0⟩ := h2.get (i := 0) rfl
  obtain ⟨v1, p1, q1⟩ := h2.get (i := 1) rfl
  have hl := h2.length
  simp only [List.length_cons, List.length_nil] at hl
  have hus : us = [v0, v1] := by
    apply List.ext_getElem?
    intro i
    rcases i with _ | _ | i
    · exact p0
    · exact p1
    · rw [List.getElem?_eq_none (by omega), List.getElem?_eq_none (by simp)]
  subst hus
  rw [rep_bool] at q1
  subst q1
  exact ⟨v0, rfl, Grow.ofNone hx, node_shut (nodeA_of_rep q0)⟩
theorem args1 {w : World} {ρ : Cx} {a : AV} {v : Value} (h : Rep w ρ a v) : RepL w ρ [a] [v] := by unfold RepL; exact ⟨_, _, rfl, h, by unfold RepL; rfl⟩
end Eng
end Go.Proofs.Ytgfnmhfdmmnaoaa
namespace Go.Proofs.Ytgfnmhfdmmnaoaa.Eng
open Go Go.RowKit
attribute [local simp] big size_mk ASt.pay Option.map_map Function.comp_def awant aop acall ado aev ofVal ofVal0 ASt.put ASt.add ASt.turn ASt.kill abox aalloc astore aload aloadD astoreD idOf ASt.at cellsTo afieldAddr afield aindexAddr aindex alen abin aint acmp astr aun apick aextract anil aslice abound abuild afill abuildSlice asCells aps avCells over upd aappend asrc amax amin aconv mkSt slots rowsOf_cons rowsOf_nil usedOf_cons usedOf_nil ZK.av List.replicate ASt.back ASt.addL ASt.killL nodeA nodeT nodeTL_eq nodeL_eq strsE_get strsE_len intsE_get intsE_len strsE_at intsE_at tab2 tab3 tab4 tab5 tab6 tab7 tab8 tab9 tab10 tab11 tab12 tab13 tab14 tab15 tab16 tab17 tab18 tab19 tab21 tab22 tab23 tab24 tab25 tab26 tab27 tab28 tab29 tab30 tab39 tab40 tab41 tab42 tab43 tab47 tab48 tab55 tab56 tab57 tab60 tab61 tab62 tab73 tab74 tab75 tab85 tab92 tab115 tab116 tab143 tab144 tab145 tab154 tab155 tab170 tab175 tab182 tab197 tab198 tab203 tab204 tab205 tab207 tab208 tab209
set_option maxRecDepth 100000
set_option maxHeartbeats 8000000
theorem inRange_AC (a b c : Int) : AC Try.prog 131 [.int .i64 a, .int .i64 b, .int .i64 c] 0 (fun r => r = .bool (inR a b c)) := by
  refine AC.ofGrow (enters_of Try.func131 (by kernel_rfl) (by kernel_rfl)) (fun w L S rb vs h => ?_)
  unfold RepL at h
  obtain ⟨v0, vs0, rfl, h0, h⟩ := h
  unfold RepL at h
  obtain ⟨v1, vs1, rfl, h1, h⟩ := h
  unfold RepL at h
  obtain ⟨v2, vs2, rfl, h2, h⟩ := h
  unfold RepL at h
  subst h
  rw [rep_int] at h0 h1 h2
  subst h0 h1 h2
  refine (inRange_ok a b c w).mono ?_
  rintro e w' ⟨rfl, rfl⟩
  exact ⟨_, _, rfl, Ext.refl _ _, rep_bool.2 rfl, rfl⟩
end Go.Proofs.Ytgfnmhfdmmnaoaa.Eng
namespace Go.Proofs.Ytgfnmhfdmmnaoaa
open Go.RowKit
end Go.Proofs.Ytgfnmhfdmmnaoaa
namespace Go.Proofs.Ytgfnmhfdmmnaoaa
open Go.RowKit
theorem Good.names {n : Nd} (h : Good n) (h4 : n.kind ≠ 4) : n.names = [] := by
  have hp := h.parts
  unfold partsB at hp
  simp only [Bool.and_eq_true, Bool.or_eq_true, decide_eq_true_eq] at hp
  rcases hp.1.2 with h | h
  · exact absurd h h4
  · exact List.length_eq_zero_iff.1 (by simpa using h)
end Go.Proofs.Ytgfnmhfdmmnaoaa
namespace Go.Proofs.Ytgfnmhfdmmnaoaa
open Go.RowKit
abbrev Opr := Int × List ByteArray × List ByteArray × Nd
def oprRep : Rep Opr := pairRep intRep (pairRep strsRep (pairRep strsRep (nodeRep)))
def oprL (x : Opr) (a1 : Option Addr) (c1 : Nat) (a2 : Option Addr) (c2 : Nat) (na3 : Option Addr) (nc3 : Nat) (ka3 : Option Addr) (kc3 : Nat) : List Value := [.int .i64 x.1, .slice a1 x.2.1.length c1, .slice a2 x.2.2.1.length c2, .int .i64 x.2.2.2.kind, .int .i64 x.2.2.2.num, .string x.2.2.2.text, .slice na3 x.2.2.2.names.length nc3, .slice ka3 x.2.2.2.kids.length kc3]
def costOpr (x : Opr) : Nat := costS x.2.1 + costS x.2.2.1 + costN x.2.2.2
theorem oprRep_open {w : World} {S : Nat → Prop} {x : Opr} {cs : List Value} (h : oprRep.R w S x cs) : ∃ (a1 : Option Addr) (c1 : Nat) (a2 : Option Addr) (c2 : Nat) (na3 : Option Addr) (nc3 : Nat) (ka3 : Option Addr) (kc3 : Nat), cs = oprL x a1 c1 a2 c2 na3 nc3 ka3 kc3 ∧ StrsR w S a1 c1 x.2.1 ∧ StrsR w S a2 c2 x.2.2.1 ∧ NodeC w S x.2.2.2 na3 nc3 ka3 kc3 := by
  obtain ⟨_, _, rfl, rfl, ⟨_, _, rfl, ⟨a1, c1, rfl, h1⟩, ⟨_, _, rfl, ⟨a2, c2, rfl, h2⟩, ⟨na3, nc3, ka3, kc3, rfl, h3⟩⟩⟩⟩ := h
  exact ⟨a1, c1, a2, c2, na3, nc3, ka3, kc3, rfl, h1, h2, h3⟩
theorem szOpr_ok (x : Opr) (cs : List Value) (left : Int) (w : World) (hb0 : 0 ≤ left) (hb1 : left ≤ 1048576) (hx : oprRep.R w any x cs) :
    Calls Try.prog 19 #[.agg cs.toArray, .int .i64 left] w fun e w' => e = .returned (.int .i64 (szR (costOpr x) left)) ∧ Grow w w' := by
  obtain ⟨a1, c1, a2, c2, na3, nc3, ka3, kc3, rfl, h1, h2, h3⟩ := oprRep_open hx
  have H1 := Lib.hid h1
  have H2 := Lib.hid h2
  have H3 := Lib.hid h3
  clear h1 h2 h3
  have Hce : Hid (costOpr x = costS x.2.1 + costS x.2.2.1 + costN x.2.2.2) := Lib.hid rfl
  unfold oprL
  by_cases a1 : left < ((costS x.2.1 : Nat) : Int)
  · have Hf := Lib.hid (szR_neg (c := costOpr x) (left := left) (by have := Hce.out; omega))
    have Hs1 := Lib.hid (szR_neg a1)
    go_enter Try.func19, Try.ntmps19
    go_wp2_with fail
    refine (szStringS_ok _ _ x.2.1 _ _ (H1.out.grow (by repeat (first | with_reducible exact Ext.refl _ _ | with_reducible refine Ext.trans ?_ (by assumption) | with_reducible refine Ext.drew ?_ | with_reducible refine Ext.drewN ?_ _ | with_reducible refine Ext.alloc ?_ _ | with_reducible refine Ext.setNew ?_ (by simp; done) _ | with_reducible refine Ext.setNew ?_ (by simp; omega) _))) (by omega) (by omega)).mono ?_
    rintro e w2 ⟨rfl, hg2⟩
    simp only [Hs1.out]
    have hcc2 := bcell hg2
    go_wp2_with fail
    go_ret
    exact ⟨by simp [Hf.out], (by repeat (first | with_reducible exact Ext.refl _ _ | with_reducible refine Ext.trans ?_ (by assumption) | with_reducible refine Ext.drew ?_ | with_reducible refine Ext.drewN ?_ _ | with_reducible refine Ext.alloc ?_ _ | with_reducible refine Ext.setNew ?_ (by simp; done) _ | with_reducible refine Ext.setNew ?_ (by simp; omega) _))⟩
  have Hs1 := Lib.hid (szR_pos (c := costS x.2.1) (left := left) (by omega))
  by_cases a2 : left - ((costS x.2.1 : Nat) : Int) < ((costS x.2.2.1 : Nat) : Int)
  · have Hf := Lib.hid (szR_neg (c := costOpr x) (left := left) (by have := Hce.out; omega))
    have Hs2 := Lib.hid (szR_neg a2)
    go_enter Try.func19, Try.ntmps19
    go_wp2_with fail
    refine (szStringS_ok _ _ x.2.1 _ _ (H1.out.grow (by repeat (first | with_reducible exact Ext.refl _ _ | with_reducible refine Ext.trans ?_ (by assumption) | with_reducible refine Ext.drew ?_ | with_reducible refine Ext.drewN ?_ _ | with_reducible refine Ext.alloc ?_ _ | with_reducible refine Ext.setNew ?_ (by simp; done) _ | with_reducible refine Ext.setNew ?_ (by simp; omega) _))) (by omega) (by omega)).mono ?_
    rintro e w2 ⟨rfl, hg2⟩
    simp only [Hs1.out]
    have hcc2 := bcell hg2
    go_wp2_with fail
    refine (szStringS_ok _ _ x.2.2.1 _ _ (H2.out.grow (by repeat (first | with_reducible exact Ext.refl _ _ | with_reducible refine Ext.trans ?_ (by assumption) | with_reducible refine Ext.drew ?_ | with_reducible refine Ext.drewN ?_ _ | with_reducible refine Ext.alloc ?_ _ | with_reducible refine Ext.setNew ?_ (by simp; done) _ | with_reducible refine Ext.setNew ?_ (by simp; omega) _))) (by omega) (by omega)).mono ?_
    rintro e w3 ⟨rfl, hg3⟩
    simp only [Hs2.out]
    have hcc3 := bcell (hg2.trans hg3)
    go_wp2_with fail
    go_ret
    exact ⟨by simp [Hf.out], (by repeat (first | with_reducible exact Ext.refl _ _ | with_reducible refine Ext.trans ?_ (by assumption) | with_reducible refine Ext.drew ?_ | with_reducible refine Ext.drewN ?_ _ | with_reducible refine Ext.alloc ?_ _ | with_reducible refine Ext.setNew ?_ (by simp; done) _ | with_reducible refine Ext.setNew ?_ (by simp; omega) _))⟩
  have Hs2 := Lib.hid (szR_pos (c := costS x.2.2.1) (left := left - ((costS x.2.1 : Nat) : Int)) (by omega))
  by_cases a3 : left - ((costS x.2.1 : Nat) : Int) - ((costS x.2.2.1 : Nat) : Int) < ((costN x.2.2.2 : Nat) : Int)
  · have Hf := Lib.hid (szR_neg (c := costOpr x) (left := left) (by have := Hce.out; omega))
    have Hs3 := Lib.hid (szR_neg a3)
    go_enter Try.func19, Try.ntmps19
    go_wp2_with fail
    refine (szStringS_ok _ _ x.2.1 _ _ (H1.out.grow (by repeat (first | with_reducible exact Ext.refl _ _ | with_reducible refine Ext.trans ?_ (by assumption) | with_reducible refine Ext.drew ?_ | with_reducible refine Ext.drewN ?_ _ | with_reducible refine Ext.alloc ?_ _ | with_reducible refine Ext.setNew ?_ (by simp; done) _ | with_reducible refine Ext.setNew ?_ (by simp; omega) _))) (by omega) (by omega)).mono ?_
    rintro e w2 ⟨rfl, hg2⟩
    simp only [Hs1.out]
    have hcc2 := bcell hg2
    go_wp2_with fail
    refine (szStringS_ok _ _ x.2.2.1 _ _ (H2.out.grow (by repeat (first | with_reducible exact Ext.refl _ _ | with_reducible refine Ext.trans ?_ (by assumption) | with_reducible refine Ext.drew ?_ | with_reducible refine Ext.drewN ?_ _ | with_reducible refine Ext.alloc ?_ _ | with_reducible refine Ext.setNew ?_ (by simp; done) _ | with_reducible refine Ext.setNew ?_ (by simp; omega) _))) (by omega) (by omega)).mono ?_
    rintro e w3 ⟨rfl, hg3⟩
    simp only [Hs2.out]
    have hcc3 := bcell (hg2.trans hg3)
    go_wp2_with fail
    refine (szNode_ok x.2.2.2 _ _ _ (by omega) (by omega) ⟨_, _, _, _, rfl, H3.out.grow' (by repeat (first | with_reducible exact Ext.refl _ _ | with_reducible refine Ext.trans ?_ (by assumption) | with_reducible refine Ext.drew ?_ | with_reducible refine Ext.drewN ?_ _ | with_reducible refine Ext.alloc ?_ _ | with_reducible refine Ext.setNew ?_ (by simp; done) _ | with_reducible refine Ext.setNew ?_ (by simp; omega) _))⟩).mono ?_
    rintro e w4 ⟨rfl, hg4⟩
    simp only [Hs3.out]
    have hcc4 := bcell ((hg2.trans hg3).trans hg4)
    go_wp2_with fail
    go_ret
    exact ⟨by simp [Hf.out], (by repeat (first | with_reducible exact Ext.refl _ _ | with_reducible refine Ext.trans ?_ (by assumption) | with_reducible refine Ext.drew ?_ | with_reducible refine Ext.drewN ?_ _ | with_reducible refine Ext.alloc ?_ _ | with_reducible refine Ext.setNew ?_ (by simp; done) _ | with_reducible refine Ext.setNew ?_ (by simp; omega) _))⟩
  have Hs3 := Lib.hid (szR_pos (c := costN x.2.2.2) (left := left - ((costS x.2.1 : Nat) : Int) - ((costS x.2.2.1 : Nat) : Int)) (by omega))
  have Hf := Lib.hid (szR_pos (c := costOpr x) (left := left) (by have := Hce.out; omega))
  go_enter Try.func19, Try.ntmps19
  go_wp2_with fail
  refine (szStringS_ok _ _ x.2.1 _ _ (H1.out.grow (by repeat (first | with_reducible exact Ext.refl _ _ | with_reducible refine Ext.trans ?_ (by assumption) | with_reducible refine Ext.drew ?_ | with_reducible refine Ext.drewN ?_ _ | with_reducible refine Ext.alloc ?_ _ | with_reducible refine Ext.setNew ?_ (by simp; done) _ | with_reducible refine Ext.setNew ?_ (by simp; omega) _))) (by omega) (by omega)).mono ?_
  rintro e w2 ⟨rfl, hg2⟩
  simp only [Hs1.out]
  have hcc2 := bcell hg2
  go_wp2_with fail
  refine (szStringS_ok _ _ x.2.2.1 _ _ (H2.out.grow (by repeat (first | with_reducible exact Ext.refl _ _ | with_reducible refine Ext.trans ?_ (by assumption) | with_reducible refine Ext.drew ?_ | with_reducible refine Ext.drewN ?_ _ | with_reducible refine Ext.alloc ?_ _ | with_reducible refine Ext.setNew ?_ (by simp; done) _ | with_reducible refine Ext.setNew ?_ (by simp; omega) _))) (by omega) (by omega)).mono ?_
  rintro e w3 ⟨rfl, hg3⟩
  simp only [Hs2.out]
  have hcc3 := bcell (hg2.trans hg3)
  go_wp2_with fail
  refine (szNode_ok x.2.2.2 _ _ _ (by omega) (by omega) ⟨_, _, _, _, rfl, H3.out.grow' (by repeat (first | with_reducible exact Ext.refl _ _ | with_reducible refine Ext.trans ?_ (by assumption) | with_reducible refine Ext.drew ?_ | with_reducible refine Ext.drewN ?_ _ | with_reducible refine Ext.alloc ?_ _ | with_reducible refine Ext.setNew ?_ (by simp; done) _ | with_reducible refine Ext.setNew ?_ (by simp; omega) _))⟩).mono ?_
  rintro e w4 ⟨rfl, hg4⟩
  simp only [Hs3.out]
  have hcc4 := bcell ((hg2.trans hg3).trans hg4)
  go_wp2_with fail
  go_ret
  exact ⟨by have h1 := Hf.out; have h2 := Hce.out; rw [h1]; simp; omega, (by repeat (first | with_reducible exact Ext.refl _ _ | with_reducible refine Ext.trans ?_ (by assumption) | with_reducible refine Ext.drew ?_ | with_reducible refine Ext.drewN ?_ _ | with_reducible refine Ext.alloc ?_ _ | with_reducible refine Ext.setNew ?_ (by simp; done) _ | with_reducible refine Ext.setNew ?_ (by simp; omega) _))⟩
theorem eqOpr_same (x : Opr) (cs ds : List Value) (w : World) (hx : oprRep.R w any x cs) (hy : oprRep.R w any x ds) :
    Calls Try.prog 24 #[.agg cs.toArray, .agg ds.toArray] w fun e w' => e = .returned (.bool true) ∧ Grow w w' := by
  obtain ⟨a1, c1, a2, c2, na3, nc3, ka3, kc3, rfl, h1, h2, h3⟩ := oprRep_open hx
  obtain ⟨a1', c1', a2', c2', na3', nc3', ka3', kc3', rfl, h1', h2', h3'⟩ := oprRep_open hy
  have H1 := Lib.hid h1
  have H1' := Lib.hid h1'
  have H2 := Lib.hid h2
  have H2' := Lib.hid h2'
  have H3 := Lib.hid h3
  have H3' := Lib.hid h3'
  have e0 : (x.1 != x.1) = false := by simp
  have E1 : Hid (eqS x.2.1 x.2.1 = true) := Lib.hid (by simp [eqS])
  have E2 : Hid (eqS x.2.2.1 x.2.2.1 = true) := Lib.hid (by simp [eqS])
  have E3 : Hid (eqN x.2.2.2 x.2.2.2 = true) := Lib.hid (eqN_refl _)
  clear hx hy h1 h1' h2 h2' h3 h3'
  unfold oprL
  go_enter Try.func24, Try.ntmps24
  go_wp2_with fail
  refine (eqStringS_ok _ _ _ _ x.2.1 x.2.1 _ (H1.out.grow (by repeat (first | with_reducible exact Ext.refl _ _ | with_reducible refine Ext.trans ?_ (by assumption) | with_reducible refine Ext.drew ?_ | with_reducible refine Ext.drewN ?_ _ | with_reducible refine Ext.alloc ?_ _ | with_reducible refine Ext.setNew ?_ (by simp; done) _ | with_reducible refine Ext.setNew ?_ (by simp; omega) _))) (H1'.out.grow (by repeat (first | with_reducible exact Ext.refl _ _ | with_reducible refine Ext.trans ?_ (by assumption) | with_reducible refine Ext.drew ?_ | with_reducible refine Ext.drewN ?_ _ | with_reducible refine Ext.alloc ?_ _ | with_reducible refine Ext.setNew ?_ (by simp; done) _ | with_reducible refine Ext.setNew ?_ (by simp; omega) _)))).mono ?_
  rintro e w3 ⟨rfl, hg3⟩
  simp only [E1.out]
  have hcc3 := bcell hg3
  go_wp2_with fail
  refine (eqStringS_ok _ _ _ _ x.2.2.1 x.2.2.1 _ (H2.out.grow (by repeat (first | with_reducible exact Ext.refl _ _ | with_reducible refine Ext.trans ?_ (by assumption) | with_reducible refine Ext.drew ?_ | with_reducible refine Ext.drewN ?_ _ | with_reducible refine Ext.alloc ?_ _ | with_reducible refine Ext.setNew ?_ (by simp; done) _ | with_reducible refine Ext.setNew ?_ (by simp; omega) _))) (H2'.out.grow (by repeat (first | with_reducible exact Ext.refl _ _ | with_reducible refine Ext.trans ?_ (by assumption) | with_reducible refine Ext.drew ?_ | with_reducible refine Ext.drewN ?_ _ | with_reducible refine Ext.alloc ?_ _ | with_reducible refine Ext.setNew ?_ (by simp; done) _ | with_reducible refine Ext.setNew ?_ (by simp; omega) _)))).mono ?_
  rintro e w4 ⟨rfl, hg4⟩
  simp only [E2.out]
  have hcc4 := bcell (hg3.trans hg4)
  go_wp2_with fail
  refine (eqNode_ok x.2.2.2 x.2.2.2 _ _ _ ⟨_, _, _, _, rfl, H3.out.grow' (by repeat (first | with_reducible exact Ext.refl _ _ | with_reducible refine Ext.trans ?_ (by assumption) | with_reducible refine Ext.drew ?_ | with_reducible refine Ext.drewN ?_ _ | with_reducible refine Ext.alloc ?_ _ | with_reducible refine Ext.setNew ?_ (by simp; done) _ | with_reducible refine Ext.setNew ?_ (by simp; omega) _))⟩ ⟨_, _, _, _, rfl, H3'.out.grow' (by repeat (first | with_reducible exact Ext.refl _ _ | with_reducible refine Ext.trans ?_ (by assumption) | with_reducible refine Ext.drew ?_ | with_reducible refine Ext.drewN ?_ _ | with_reducible refine Ext.alloc ?_ _ | with_reducible refine Ext.setNew ?_ (by simp; done) _ | with_reducible refine Ext.setNew ?_ (by simp; omega) _))⟩).mono ?_
  rintro e w5 ⟨rfl, hg5⟩
  simp only [E3.out]
  have hcc5 := bcell ((hg3.trans hg4).trans hg5)
  go_wp2_with fail
  go_ret
  exact ⟨by simp, (by repeat (first | with_reducible exact Ext.refl _ _ | with_reducible refine Ext.trans ?_ (by assumption) | with_reducible refine Ext.drew ?_ | with_reducible refine Ext.drewN ?_ _ | with_reducible refine Ext.alloc ?_ _ | with_reducible refine Ext.setNew ?_ (by simp; done) _ | with_reducible refine Ext.setNew ?_ (by simp; omega) _))⟩
end Go.Proofs.Ytgfnmhfdmmnaoaa
namespace Go.Proofs.Ytgfnmhfdmmnaoaa
open Go.RowKit
def wd : Nat → ByteArray
  | 1 => ⟨#[97, 100, 100]⟩
  | 2 => ⟨#[114, 101, 109, 111, 118, 101]⟩
  | 3 => ⟨#[114, 101, 112, 108, 97, 99, 101]⟩
  | 4 => ⟨#[109, 111, 118, 101]⟩
  | 5 => ⟨#[99, 111, 112, 121]⟩
  | 6 => ⟨#[116, 101, 115, 116]⟩
  | _ => ⟨#[]⟩
def wordN (s : ByteArray) : Nd := ⟨2, 0, s, [], []⟩
def stepsN (p : List ByteArray) : Nd := ⟨3, 0, ⟨#[]⟩, [], p.map wordN⟩
def opNms : List ByteArray := [⟨#[102, 114, 111, 109]⟩, ⟨#[111, 112]⟩, ⟨#[112, 97, 116, 104]⟩, ⟨#[118, 97, 108, 117, 101]⟩]
def opNd (k : Nat) (p f : List ByteArray) (v : Nd) : Nd := ⟨4, 0, ⟨#[]⟩, opNms, [stepsN f, wordN (wd k), stepsN p, v]⟩
def oprB (o : Opr) : Bool := inR o.1 1 6 && pathB o.2.1 && pathB o.2.2.1 && validB o.2.2.2
def opOf (o : Opr) : Nd := opNd o.1.toNat o.2.1 o.2.2.1 o.2.2.2
end Go.Proofs.Ytgfnmhfdmmnaoaa
-- EV: skip
namespace Go.Proofs.Ytgfnmhfdmmnaoaa.Eng
open Go Go.RowKit
attribute [local simp] big size_mk ASt.pay Option.map_map Function.comp_def awant aop acall ado aev ofVal ofVal0 ASt.put ASt.add ASt.turn ASt.kill abox aalloc astore aload aloadD astoreD idOf ASt.at cellsTo afieldAddr afield aindexAddr aindex alen abin aint acmp astr aun apick aextract anil aslice abound abuild afill abuildSlice asCells aps avCells over upd aappend asrc amax amin aconv mkSt slots rowsOf_cons rowsOf_nil usedOf_cons usedOf_nil ZK.av List.replicate ASt.back ASt.addL ASt.killL nodeA nodeT nodeTL_eq nodeL_eq strsE_get strsE_len intsE_get intsE_len strsE_at intsE_at tab2 tab3 tab4 tab5 tab6 tab7 tab8 tab9 tab10 tab11 tab12 tab13 tab14 tab15 tab16 tab17 tab18 tab19 tab21 tab22 tab23 tab24 tab25 tab26 tab27 tab28 tab29 tab30 tab39 tab40 tab41 tab42 tab43 tab47 tab48 tab55 tab56 tab57 tab60 tab61 tab62 tab73 tab74 tab75 tab85 tab92 tab115 tab116 tab143 tab144 tab145 tab154 tab155 tab170 tab175 tab182 tab197 tab198 tab203 tab204 tab205 tab207 tab208 tab209
def oprA (o : Opr) : AV := .agg [.int .i64 o.1, .view .loose 1 (strsE o.2.1), .view .loose 1 (strsE o.2.2.1), .int .i64 o.2.2.2.kind, .int .i64 o.2.2.2.num, .str o.2.2.2.text, .view .loose 1 (strsE o.2.2.2.names), .view .loose 5 (o.2.2.2.kids.map nodeL)]
theorem oprA_pur (o : Opr) : Pur (oprA o) := pur_agg (by
  simp only [List.forall_mem_cons, List.not_mem_nil, false_implies, implies_true, and_true]
  exact ⟨pur_int, strs_pur _ (by decide), strs_pur _ (by decide), pur_int, pur_int, pur_str, strs_pur _ (by decide), pur_view (by decide) (nodesE_pur _)⟩)
theorem oprA_clo (o : Opr) : Clo (oprA o) := (oprA_pur o).clo
def mets : List ByteArray := [⟨#[]⟩, wd 1, wd 2, wd 3, wd 4, wd 5, wd 6]
set_option maxRecDepth 100000
set_option maxHeartbeats 8000000
theorem word_AC (s : ByteArray) : AC Try.prog 140 [.str s] 0 (fun r => r = nodeA (wordN s)) := by
  refine AC.weak ?_
  refine AC.of tab_ok mixed_ok Try.func140 (by rfl) (by kernel_rfl) ?_; rintro ⟨P, T, hT, hm, w0, S0, rd0, k0⟩ hP hTT; dsimp only at hP hTT; subst hP hTT; unfold initSt; rw [Try.ntmps140]
  (repeat (first | with_reducible refine AW.seq ?_ | ((first | refine arun_kn 1 rfl (fun C hC => ?_) | refine arunD_kn 1 rfl (fun C hC => ?_)); (repeat ((conv => whnf); simp)); refine hC _ ?_; clear hC C; simp only [List.drop, Nat.reduceAdd]) | (refine arun_skip ?_ ?_; (focus (simp [awant]; done))) | (refine arunD_skip ?_ ?_; (focus (simp [awant]; done))) | (refine AW.regionK [] (fun K hK => ?_)) | (refine AW.regionDK [] (pcs [] []) (by kernel_rfl) (by kernel_rfl) (fun K hK => ?_)) | (refine AW.condT ?_ ?_; (focus (simp [aev]; done))) | (refine AW.condF ?_ ?_; (focus (simp [aev]; done))) | with_reducible refine AW.block ?_ | ((first | ((first | refine arun_nil ?_ | refine arunD_nil ?_); refine hK _ ?_; clear hK K) | refine AW.skip ?_ | refine AW.exit ?_ | refine AW.ret ?_); simp only [wE, if_true, if_false, Nat.reduceEqDiff, reduceIte])))
  refine ⟨.agg [.int .i64 2, .int .i64 0, .str s, .view .tight 0 [], .view .tight 0 []], by simp [ares, aresL, upd, rowsOf_cons], ?_, nodeA (wordN s), ?_, rfl⟩
  · refine pur_agg ?_
    simp only [List.forall_mem_cons, List.not_mem_nil, false_implies, implies_true, and_true]
    exact ⟨pur_int, pur_int, pur_str, pur_view (by decide) (fun e he => by cases he), pur_view (by decide) (fun e he => by cases he)⟩
  · unfold nodeA wordN
    rw [nodeL_eq]
    exact Wk.agg (.cons (Wk.refl _) (.cons (Wk.refl _) (.cons (Wk.refl _) (.cons (Wk.nil (fun h => by cases h)) (.cons (Wk.nil (fun h => by cases h)) .nil)))))
theorem methods_AC : AC Try.prog 93 [] 0 (fun r => r = .view .loose 1 (strsE mets)) := by
  refine AC.weak ?_
  refine AC.of tab_ok mixed_ok Try.func93 (by rfl) (by kernel_rfl) ?_; rintro ⟨P, T, hT, hm, w0, S0, rd0, k0⟩ hP hTT; dsimp only at hP hTT; subst hP hTT; unfold initSt; rw [Try.ntmps93]
  (repeat (first | with_reducible refine AW.seq ?_ | ((first | refine arun_kn 1 rfl (fun C hC => ?_) | refine arunD_kn 1 rfl (fun C hC => ?_)); (repeat ((conv => whnf); simp)); refine hC _ ?_; clear hC C; simp only [List.drop, Nat.reduceAdd]) | (refine arun_skip ?_ ?_; (focus (simp [awant]; done))) | (refine arunD_skip ?_ ?_; (focus (simp [awant]; done))) | (refine AW.regionK [] (fun K hK => ?_)) | (refine AW.regionDK [] (pcs [] []) (by kernel_rfl) (by kernel_rfl) (fun K hK => ?_)) | (refine AW.condT ?_ ?_; (focus (simp [aev]; done))) | (refine AW.condF ?_ ?_; (focus (simp [aev]; done))) | with_reducible refine AW.block ?_ | ((first | ((first | refine arun_nil ?_ | refine arunD_nil ?_); refine hK _ ?_; clear hK K) | refine AW.skip ?_ | refine AW.exit ?_ | refine AW.ret ?_); simp only [wE, if_true, if_false, Nat.reduceEqDiff, reduceIte])))
  exact ⟨.view .tight 1 (strsE mets), by simp [ares, aresL, strsE, mets, wd], strs_pur _ (by decide), _, Wk.loose (by decide), rfl⟩
def stepsO (p : List ByteArray) (id : Nat) : AV := .agg [.int .i64 3, .int .i64 0, .str ⟨#[]⟩, .view .tight 1 [], .own id p.length]
def stepsR (p : List ByteArray) : Row := ⟨false, 30, 5, (p.map wordN).map nodeL⟩
theorem stepsO_sub (p : List ByteArray) : AV.sub 0 (stepsR p).es.length (.view .loose (stepsR p).sz (stepsR p).es) (stepsO p 0) = .agg [.int .i64 3, .int .i64 0, .str ⟨#[]⟩, .view .tight 1 [], .view .loose 5 ((p.map wordN).map nodeL)] := by
  simp [stepsO, stepsR, AV.sub, AV.subL]
theorem steps_step (p : List ByteArray) (hp : p.length ≤ 6) : ACR Try.prog 139 [.view .loose 1 (strsE p)] 0 (fun _ => False) (fun f R => f = stepsO p ∧ R = stepsR p) := by
  refine ACR.of tab_ok mixed_ok Try.func139 (by rfl) (by kernel_rfl) ?_; rintro ⟨P, T, hT, hm, w0, S0, rd0, k0⟩ hP hTT; dsimp only at hP hTT; subst hP hTT; unfold initSt; rw [Try.ntmps139]
  (repeat (first | with_reducible refine AW.seq ?_ | ((first | refine arun_kn 1 rfl (fun C hC => ?_) | refine arunD_kn 1 rfl (fun C hC => ?_)); (repeat ((conv => whnf); simp)); refine hC _ ?_; clear hC C; simp only [List.drop, Nat.reduceAdd]) | (refine arun_skip ?_ ?_; (focus (simp [awant]; done))) | (refine arunD_skip ?_ ?_; (focus (simp [awant]; done))) | (refine AW.regionK [] (fun K hK => ?_)) | (refine AW.regionDK [] (pcs [] []) (by kernel_rfl) (by kernel_rfl) (fun K hK => ?_)) | (refine AW.condT ?_ ?_; (focus (simp [aev]; done))) | (refine AW.condF ?_ ?_; (focus (simp [aev]; done))) | with_reducible refine AW.block ?_ | ((first | ((first | refine arun_nil ?_ | refine arunD_nil ?_); refine hK _ ?_; clear hK K) | refine AW.skip ?_ | refine AW.exit ?_ | refine AW.ret ?_); simp only [wE, if_true, if_false, Nat.reduceEqDiff, reduceIte])))
  refine AW.adopt 3 3 30 5 ⟨_, tab30, rfl⟩ rfl rfl ?_
  simp only [ASt.adopt, ASt.add, List.set_cons_zero, List.set_cons_succ]
  refine AW.loopS (fun (i : Nat) => mkSt (slots 0 23 [(0, .view .loose 1 (strsE p)), (2, .ptr true 5 1 2 0 0), (3, .own 3 i), (4, .int .i64 i)]) [(2, ⟨true, 30, 5, [[.int .i64 0, .int .i64 0, .str ⟨#[]⟩, .view .tight 0 [], .view .tight 0 []]]⟩), (3, ⟨false, 30, 5, ((p.take i).map wordN).map nodeL⟩)] [2, 3] (rd0.map fun _ => 0)) (fun i => p.length - i) (fun i => i ≤ p.length) 0 ?_ (Nat.zero_le _) ?_
  · exact (less_of (by simp [lessL, mkSt, slots, ASt.adopt, ASt.add]) (by simp [upd, mkSt, rowsOf_cons, ASt.adopt, ASt.add]) (by simp [upd, mkSt, usedOf_cons, ASt.adopt, ASt.add]) (by first | exact rd_less (by omega) | simp [mkSt, ASt.adopt, ASt.add]) (by simp [slots, in_any, in_int, in_bool, in_str, in_ptr, in_own, in_agg, in_vnil, in_rdr, usedOf_cons, usedOf_nil, strs_in, ints_in, nodes_in, in_tup, ASt.adopt, ASt.add]) (by simp only [List.forall_mem_cons, List.not_mem_nil, false_implies, implies_true, and_true, true_and, ASt.adopt, ASt.add]; (repeat (first | with_reducible exact trivial | with_reducible refine And.intro ?_ ?_ | with_reducible exact in_int | with_reducible exact in_str | with_reducible exact in_bool | with_reducible exact strs_in _ | with_reducible exact nodes_in _ | with_reducible exact items_in _ | with_reducible exact in_vnil | with_reducible exact in_any | exact hin _ | with_reducible refine take_in ?_ | with_reducible exact strsE_in _ | with_reducible exact nodesE_in _ | with_reducible exact nodeL_in _ | with_reducible exact itemsE_in _ | with_reducible exact itemL_in _ | with_reducible refine app_in ?_ ?_ | with_reducible refine sing_in ?_ | (focus (simp [in_any, in_int, in_bool, in_str, in_ptr, in_own, in_agg, in_vnil, in_rdr, usedOf_cons, usedOf_nil, strs_in, ints_in, nodes_in, ASt.adopt, ASt.add]; done)))); done))
  intro i hi
  have hl : (((p.take i).map wordN).map nodeL).length = i := by simp; omega
  by_cases hlt : i < p.length
  · have hw : IntKind.i64.wrap ((i : Int) + 1) = (i : Int) + 1 := i64_nat (by omega) (by omega)
    have hb1 : (i + 1) * 80 ≤ 140737488355328 := by omega
    have hb2 : i + 1 ≤ 140737488355328 := by omega
    have htk : p.take (i + 1) = p.take i ++ [p[i]] := take_snoc' _ _ hlt
    have pw := word_AC p[i]
    unfold nodeA at pw
    rw [nodeL_eq] at pw
    obtain ⟨Ks, hK⟩ : ∃ Ks, Ks = ((p.take i).map wordN).map nodeL := ⟨_, rfl⟩
    rw [← hK] at hl ⊢
    (repeat (first | with_reducible refine AW.seq ?_ | ((first | refine arun_kn 1 rfl (fun C hC => ?_) | refine arunD_kn 1 rfl (fun C hC => ?_)); (repeat ((conv => whnf); simp [hlt, hw, hl, hb1, hb2, strsE_len])); refine hC _ ?_; clear hC C; simp only [List.drop, Nat.reduceAdd]) | (refine arun_skip ?_ ?_; (focus (simp [awant, hlt, hw, hl, hb1, hb2, strsE_len]; done))) | (refine arun_c0 (pw) ?_; rintro _ rfl) | (refine arunD_skip ?_ ?_; (focus (simp [awant, hlt, hw, hl, hb1, hb2, strsE_len]; done))) | (refine AW.regionK [] (fun K hK => ?_)) | (refine AW.regionDK [] (pcs [] []) (by kernel_rfl) (by kernel_rfl) (fun K hK => ?_)) | (refine AW.condT ?_ ?_; (focus (simp [aev, hlt, hw, hl, hb1, hb2, strsE_len]; done))) | (refine AW.condF ?_ ?_; (focus (simp [aev, hlt, hw, hl, hb1, hb2, strsE_len]; done))) | with_reducible refine AW.block ?_ | ((first | ((first | refine arun_nil ?_ | refine arunD_nil ?_); refine hK _ ?_; clear hK K) | refine AW.skip ?_ | refine AW.exit ?_ | refine AW.ret ?_); simp only [wE, if_true, if_false, Nat.reduceEqDiff, reduceIte])))
    refine ⟨i + 1, by omega, by omega, ?_⟩
    have hin : ∀ U : Nat → Bool, ∀ e ∈ ((p.take (i + 1)).map wordN).map nodeL, ∀ c ∈ e, AV.In U c := fun U e he => nodesE_in _ e he
    rw [htk, List.map_append, List.map_append, ← hK] at hin ⊢
    have e1 : List.map nodeL (List.map wordN [p[i]]) = [nodeL (wordN p[i])] := rfl
    rw [e1, nodeL_eq] at hin ⊢
    exact less_a
  · obtain rfl : i = p.length := by omega
    rw [List.take_length] at hl ⊢
    obtain ⟨Ks, hK⟩ : ∃ Ks, Ks = (p.map wordN).map nodeL := ⟨_, rfl⟩
    rw [← hK] at hl ⊢
    (repeat (first | with_reducible refine AW.seq ?_ | ((first | refine arun_kn 1 rfl (fun C hC => ?_) | refine arunD_kn 1 rfl (fun C hC => ?_)); (repeat ((conv => whnf); simp [hlt, strsE_len])); refine hC _ ?_; clear hC C; simp only [List.drop, Nat.reduceAdd]) | (refine arun_skip ?_ ?_; (focus (simp [awant, hlt, strsE_len]; done))) | (refine arunD_skip ?_ ?_; (focus (simp [awant, hlt, strsE_len]; done))) | (refine AW.regionK [] (fun K hK => ?_)) | (refine AW.regionDK [] (pcs [] []) (by kernel_rfl) (by kernel_rfl) (fun K hK => ?_)) | (refine AW.condT ?_ ?_; (focus (simp [aev, hlt, strsE_len]; done))) | (refine AW.condF ?_ ?_; (focus (simp [aev, hlt, strsE_len]; done))) | with_reducible refine AW.block ?_ | ((first | ((first | refine arun_nil ?_ | refine arunD_nil ?_); refine hK _ ?_; clear hK K) | refine AW.skip ?_ | refine AW.exit ?_ | refine AW.ret ?_); simp only [wE, if_true, if_false, Nat.reduceEqDiff, reduceIte])))
    refine ⟨stepsO p 3, ?_, .inr ⟨stepsO p, 3, stepsR p, rfl, ?_, ?_, nodesE_pur _, rfl, rfl⟩⟩
    · simp [ares, aresL, upd, rowsOf_cons, stepsO]
    · simp only [stepsR, ← hK]; simp [upd, rowsOf_cons]
    · exact Res1.agg [fun _ => .int .i64 3, fun _ => .int .i64 0, fun _ => .str ⟨#[]⟩, fun _ => .view .tight 1 [], fun id => .own id p.length] (by
          simp only [List.forall_mem_cons, List.not_mem_nil, false_implies, implies_true, and_true]
          exact ⟨Res1.pur _ pur_int, Res1.pur _ pur_int, Res1.pur _ pur_str, Res1.pur _ (strs_pur [] (by decide)), Res1.own _ _⟩)
theorem steps_AC (p : List ByteArray) (hp : p.length ≤ 6) : AC Try.prog 139 [.view .loose 1 (strsE p)] 0 (fun r => r = nodeA (stepsN p)) := by
  refine AC.weak ((AC.ofR (steps_step p hp) ?_).mono ?_)
  · rintro r R ⟨rfl, rfl⟩
    rw [stepsO_sub]
    refine in_agg.2 ?_
    simp only [List.forall_mem_cons, List.not_mem_nil, false_implies, implies_true, and_true]
    exact ⟨in_int, in_int, in_str, strs_in [], in_view.2 (nodesE_in _)⟩
  · rintro r (h | ⟨f, R, ⟨rfl, rfl⟩, rfl⟩)
    · exact h.elim
    · rw [stepsO_sub]
      refine ⟨nodeA (stepsN p), ?_, rfl⟩
      unfold nodeA stepsN
      rw [nodeL_eq]
      exact Wk.agg (.cons (Wk.refl _) (.cons (Wk.refl _) (.cons (Wk.refl _) (.cons (Wk.nil (fun h => by cases h)) (.cons (Wk.refl _) .nil)))))
end Go.Proofs.Ytgfnmhfdmmnaoaa.Eng
-- EV: skip
namespace Go.Proofs.Ytgfnmhfdmmnaoaa.Eng
open Go Go.RowKit
attribute [local simp] big size_mk ASt.pay Option.map_map Function.comp_def awant aop acall ado aev ofVal ofVal0 ASt.put ASt.add ASt.turn ASt.kill abox aalloc astore aload aloadD astoreD idOf ASt.at cellsTo afieldAddr afield aindexAddr aindex alen abin aint acmp astr aun apick aextract anil aslice abound abuild afill abuildSlice asCells aps avCells over upd aappend asrc amax amin aconv mkSt slots rowsOf_cons rowsOf_nil usedOf_cons usedOf_nil ZK.av List.replicate ASt.back ASt.addL ASt.killL nodeA nodeT nodeTL_eq nodeL_eq strsE_get strsE_len intsE_get intsE_len strsE_at intsE_at tab2 tab3 tab4 tab5 tab6 tab7 tab8 tab9 tab10 tab11 tab12 tab13 tab14 tab15 tab16 tab17 tab18 tab19 tab21 tab22 tab23 tab24 tab25 tab26 tab27 tab28 tab29 tab30 tab39 tab40 tab41 tab42 tab43 tab47 tab48 tab55 tab56 tab57 tab60 tab61 tab62 tab73 tab74 tab75 tab85 tab92 tab115 tab116 tab143 tab144 tab145 tab154 tab155 tab170 tab175 tab182 tab197 tab198 tab203 tab204 tab205 tab207 tab208 tab209
set_option maxRecDepth 100000
set_option maxHeartbeats 8000000
theorem validOp_AC (o : Opr) : AC Try.prog 67 [oprA o] 0 (fun r => r = .bool (oprB o)) := by
  have p1 := inRange_AC o.1 1 6
  have p2 := validPath_AC o.2.1 .loose
  have p3 := validPath_AC o.2.2.1 .loose
  have p4 := validNode_AC o.2.2.2 .loose
  have hc := node_clo o.2.2.2
  have e0 : oprB o = (inR o.1 1 6 && pathB o.2.1 && pathB o.2.2.1 && validB o.2.2.2) := rfl
  unfold oprA
  rw [nodeT_loose] at p4
  unfold nodeA at p4 hc
  rw [nodeL_eq] at p4 hc
  cases h1 : inR o.1 1 6
  · rw [h1] at p1 e0
    have e : oprB o = false := by rw [e0]; rfl
    refine AC.of tab_ok mixed_ok Try.func67 (by rfl) (by kernel_rfl) ?_; rintro ⟨P, T, hT, hm, w0, S0, rd0, k0⟩ hP hTT; dsimp only at hP hTT; subst hP hTT; unfold initSt; rw [Try.ntmps67]
    (repeat (first | with_reducible refine AW.seq ?_ | ((first | refine arun_kn 1 rfl (fun C hC => ?_) | refine arunD_kn 1 rfl (fun C hC => ?_)); (repeat ((conv => whnf); simp)); refine hC _ ?_; clear hC C; simp only [List.drop, Nat.reduceAdd]) | (refine arun_skip ?_ ?_; (focus (simp [awant]; done))) | (refine arun_c0 (p1) ?_; rintro _ rfl) | (refine arun_c0 (p2) ?_; rintro _ rfl) | (refine arun_c0 (p3) ?_; rintro _ rfl) | (refine arun_c0 (p4) ?_; rintro _ rfl) | (refine arunD_skip ?_ ?_; (focus (simp [awant]; done))) | (refine AW.regionK [] (fun K hK => ?_)) | (refine AW.regionDK [] (pcs [] []) (by kernel_rfl) (by kernel_rfl) (fun K hK => ?_)) | (refine AW.condT ?_ ?_; (focus (simp [aev]; done))) | (refine AW.condF ?_ ?_; (focus (simp [aev]; done))) | with_reducible refine AW.block ?_ | ((first | ((first | refine arun_nil ?_ | refine arunD_nil ?_); refine hK _ ?_; clear hK K) | refine AW.skip ?_ | refine AW.exit ?_ | refine AW.ret ?_); simp only [wE, if_true, if_false, Nat.reduceEqDiff, reduceIte])))
    exact ⟨.bool false, by simp [ares, aresL], pur_bool, by rw [e]⟩
  cases h2 : pathB o.2.1
  · rw [h1, h2] at e0; rw [h1] at p1; rw [h2] at p2
    have e : oprB o = false := by rw [e0]; rfl
    refine AC.of tab_ok mixed_ok Try.func67 (by rfl) (by kernel_rfl) ?_; rintro ⟨P, T, hT, hm, w0, S0, rd0, k0⟩ hP hTT; dsimp only at hP hTT; subst hP hTT; unfold initSt; rw [Try.ntmps67]
    (repeat (first | with_reducible refine AW.seq ?_ | ((first | refine arun_kn 1 rfl (fun C hC => ?_) | refine arunD_kn 1 rfl (fun C hC => ?_)); (repeat ((conv => whnf); simp)); refine hC _ ?_; clear hC C; simp only [List.drop, Nat.reduceAdd]) | (refine arun_skip ?_ ?_; (focus (simp [awant]; done))) | (refine arun_c0 (p1) ?_; rintro _ rfl) | (refine arun_c0 (p2) ?_; rintro _ rfl) | (refine arun_c0 (p3) ?_; rintro _ rfl) | (refine arun_c0 (p4) ?_; rintro _ rfl) | (refine arunD_skip ?_ ?_; (focus (simp [awant]; done))) | (refine AW.regionK [] (fun K hK => ?_)) | (refine AW.regionDK [] (pcs [] []) (by kernel_rfl) (by kernel_rfl) (fun K hK => ?_)) | (refine AW.condT ?_ ?_; (focus (simp [aev]; done))) | (refine AW.condF ?_ ?_; (focus (simp [aev]; done))) | with_reducible refine AW.block ?_ | ((first | ((first | refine arun_nil ?_ | refine arunD_nil ?_); refine hK _ ?_; clear hK K) | refine AW.skip ?_ | refine AW.exit ?_ | refine AW.ret ?_); simp only [wE, if_true, if_false, Nat.reduceEqDiff, reduceIte])))
    exact ⟨.bool false, by simp [ares, aresL], pur_bool, by rw [e]⟩
  cases h3 : pathB o.2.2.1
  · rw [h1, h2, h3] at e0; rw [h1] at p1; rw [h2] at p2; rw [h3] at p3
    have e : oprB o = false := by rw [e0]; rfl
    refine AC.of tab_ok mixed_ok Try.func67 (by rfl) (by kernel_rfl) ?_; rintro ⟨P, T, hT, hm, w0, S0, rd0, k0⟩ hP hTT; dsimp only at hP hTT; subst hP hTT; unfold initSt; rw [Try.ntmps67]
    (repeat (first | with_reducible refine AW.seq ?_ | ((first | refine arun_kn 1 rfl (fun C hC => ?_) | refine arunD_kn 1 rfl (fun C hC => ?_)); (repeat ((conv => whnf); simp)); refine hC _ ?_; clear hC C; simp only [List.drop, Nat.reduceAdd]) | (refine arun_skip ?_ ?_; (focus (simp [awant]; done))) | (refine arun_c0 (p1) ?_; rintro _ rfl) | (refine arun_c0 (p2) ?_; rintro _ rfl) | (refine arun_c0 (p3) ?_; rintro _ rfl) | (refine arun_c0 (p4) ?_; rintro _ rfl) | (refine arunD_skip ?_ ?_; (focus (simp [awant]; done))) | (refine AW.regionK [] (fun K hK => ?_)) | (refine AW.regionDK [] (pcs [] []) (by kernel_rfl) (by kernel_rfl) (fun K hK => ?_)) | (refine AW.condT ?_ ?_; (focus (simp [aev]; done))) | (refine AW.condF ?_ ?_; (focus (simp [aev]; done))) | with_reducible refine AW.block ?_ | ((first | ((first | refine arun_nil ?_ | refine arunD_nil ?_); refine hK _ ?_; clear hK K) | refine AW.skip ?_ | refine AW.exit ?_ | refine AW.ret ?_); simp only [wE, if_true, if_false, Nat.reduceEqDiff, reduceIte])))
    exact ⟨.bool false, by simp [ares, aresL], pur_bool, by rw [e]⟩
  rw [h1, h2, h3] at e0; rw [h1] at p1; rw [h2] at p2; rw [h3] at p3
  have e : oprB o = validB o.2.2.2 := by rw [e0]; rfl
  generalize validB o.2.2.2 = bb at *
  refine AC.of tab_ok mixed_ok Try.func67 (by rfl) (by kernel_rfl) ?_; rintro ⟨P, T, hT, hm, w0, S0, rd0, k0⟩ hP hTT; dsimp only at hP hTT; subst hP hTT; unfold initSt; rw [Try.ntmps67]
  (repeat (first | with_reducible refine AW.seq ?_ | ((first | refine arun_kn 1 rfl (fun C hC => ?_) | refine arunD_kn 1 rfl (fun C hC => ?_)); (repeat ((conv => whnf); simp)); refine hC _ ?_; clear hC C; simp only [List.drop, Nat.reduceAdd]) | (refine arun_skip ?_ ?_; (focus (simp [awant]; done))) | (refine arun_c0 (p1) ?_; rintro _ rfl) | (refine arun_c0 (p2) ?_; rintro _ rfl) | (refine arun_c0 (p3) ?_; rintro _ rfl) | (refine arun_c0 (p4) ?_; rintro _ rfl) | (refine arunD_skip ?_ ?_; (focus (simp [awant]; done))) | (refine AW.regionK [] (fun K hK => ?_)) | (refine AW.regionDK [] (pcs [] []) (by kernel_rfl) (by kernel_rfl) (fun K hK => ?_)) | (refine AW.condT ?_ ?_; (focus (simp [aev]; done))) | (refine AW.condF ?_ ?_; (focus (simp [aev]; done))) | with_reducible refine AW.block ?_ | ((first | ((first | refine arun_nil ?_ | refine arunD_nil ?_); refine hK _ ?_; clear hK K) | refine AW.skip ?_ | refine AW.exit ?_ | refine AW.ret ?_); simp only [wE, if_true, if_false, Nat.reduceEqDiff, reduceIte])))
  exact ⟨.bool bb, by simp [ares, aresL], pur_bool, by rw [e]⟩
end Go.Proofs.Ytgfnmhfdmmnaoaa.Eng
-- EV: skip
namespace Go.Proofs.Ytgfnmhfdmmnaoaa.Eng
open Go Go.RowKit
attribute [local simp] big size_mk ASt.pay Option.map_map Function.comp_def awant aop acall ado aev ofVal ofVal0 ASt.put ASt.add ASt.turn ASt.kill abox aalloc astore aload aloadD astoreD idOf ASt.at cellsTo afieldAddr afield aindexAddr aindex alen abin aint acmp astr aun apick aextract anil aslice abound abuild afill abuildSlice asCells aps avCells over upd aappend asrc amax amin aconv mkSt slots rowsOf_cons rowsOf_nil usedOf_cons usedOf_nil ZK.av List.replicate ASt.back ASt.addL ASt.killL nodeA nodeT nodeTL_eq nodeL_eq strsE_get strsE_len intsE_get intsE_len strsE_at intsE_at tab2 tab3 tab4 tab5 tab6 tab7 tab8 tab9 tab10 tab11 tab12 tab13 tab14 tab15 tab16 tab17 tab18 tab19 tab21 tab22 tab23 tab24 tab25 tab26 tab27 tab28 tab29 tab30 tab39 tab40 tab41 tab42 tab43 tab47 tab48 tab55 tab56 tab57 tab60 tab61 tab62 tab73 tab74 tab75 tab85 tab92 tab115 tab116 tab143 tab144 tab145 tab154 tab155 tab170 tab175 tab182 tab197 tab198 tab203 tab204 tab205 tab207 tab208 tab209
set_option maxRecDepth 100000
set_option maxHeartbeats 16000000
theorem mets_at {k : Nat} (h1 : 1 ≤ k) (h6 : k ≤ 6) (h : k < mets.length) : mets[k] = wd k := by
  have : k = 1 ∨ k = 2 ∨ k = 3 ∨ k = 4 ∨ k = 5 ∨ k = 6 := by omega
  rcases this with rfl | rfl | rfl | rfl | rfl | rfl <;> rfl
theorem opNode_AC (o : Opr) (k : Nat) (hk : o.1 = (k : Int)) (h1 : 1 ≤ k) (h6 : k ≤ 6) (hp : o.2.1.length ≤ 5) (hf : o.2.2.1.length ≤ 5) (hv : Sml o.2.2.2) : AC Try.prog 69 [oprA o] 0 (fun r => r = nodeA (opOf o)) := by
  refine AC.weak ?_
  have p1 := steps_AC o.2.1 (by omega)
  have p2 := steps_AC o.2.2.1 (by omega)
  have p3 := methods_AC
  have p4 := word_AC (wd k)
  have p5 := copyNode_AC o.2.2.2 hv .loose
  have hc := node_clo o.2.2.2
  have m4 := fun h => mets_at h1 h6 h
  have m2 : mets.length = 7 := rfl
  have m3 : (strsE mets).length = 7 := rfl
  have hk7 : k < 7 := by omega
  have hk7' : (k : Int) < 7 := by omega
  rw [nodeT_loose] at p5
  have hi1 : NoId (nodeA (stepsN o.2.1)) := node_in _
  have hi2 : NoId (nodeA (stepsN o.2.2.1)) := node_in _
  have hi3 : NoId (nodeA (wordN (wd k))) := node_in _
  have hi4 : NoId (nodeA o.2.2.2) := node_in _
  unfold oprA
  unfold nodeA at p1 p2 p4 p5 hc hi1 hi2 hi3 hi4
  rw [nodeL_eq] at p1 p2 p4 p5 hc hi1 hi2 hi3 hi4
  rw [hk]
  refine AC.of tab_ok mixed_ok Try.func69 (by rfl) (by kernel_rfl) ?_; rintro ⟨P, T, hT, hm, w0, S0, rd0, k0⟩ hP hTT; dsimp only at hP hTT; subst hP hTT; unfold initSt; rw [Try.ntmps69]
  (repeat (first | with_reducible refine AW.seq ?_ | ((first | refine arun_kn 1 rfl (fun C hC => ?_) | refine arunD_kn 1 rfl (fun C hC => ?_)); (repeat ((conv => whnf); simp)); refine hC _ ?_; clear hC C; simp only [List.drop, Nat.reduceAdd]) | (refine arun_skip ?_ ?_; (focus (simp [awant]; done))) | (refine arunD_skip ?_ ?_; (focus (simp [awant]; done))) | (refine AW.regionK [] (fun K hK => ?_)) | (refine AW.condT ?_ ?_; (focus (simp [aev]; done))) | (refine AW.condF ?_ ?_; (focus (simp [aev]; done))) | with_reducible refine AW.block ?_ | ((first | ((first | refine arun_nil ?_ | refine arunD_nil ?_); refine hK _ ?_; clear hK K) | refine AW.skip ?_ | refine AW.exit ?_ | refine AW.ret ?_); simp only [wE, if_true, if_false, Nat.reduceEqDiff, reduceIte])))
  refine AW.regionDK [] (pcs [(3, 0, fun r => r = .agg [.int .i64 (stepsN o.2.2.1).kind, .int .i64 (stepsN o.2.2.1).num, .str (stepsN o.2.2.1).text, .view .loose 1 (strsE (stepsN o.2.2.1).names), .view .loose 5 ((stepsN o.2.2.1).kids.map nodeL)]), (4, 0, fun r => r = .view .loose 1 (strsE mets)), (9, 0, fun r => r = .agg [.int .i64 (wordN (wd k)).kind, .int .i64 (wordN (wd k)).num, .str (wordN (wd k)).text, .view .loose 1 (strsE (wordN (wd k)).names), .view .loose 5 ((wordN (wd k)).kids.map nodeL)]), (12, 0, fun r => r = .agg [.int .i64 (stepsN o.2.1).kind, .int .i64 (stepsN o.2.1).num, .str (stepsN o.2.1).text, .view .loose 1 (strsE (stepsN o.2.1).names), .view .loose 5 ((stepsN o.2.1).kids.map nodeL)]), (15, 0, fun r => r = .agg [.int .i64 o.2.2.2.kind, .int .i64 o.2.2.2.num, .str o.2.2.2.text, .view .loose 1 (strsE o.2.2.2.names), .view .loose 5 (o.2.2.2.kids.map nodeL)])] []) (by kernel_rfl) (by kernel_rfl) (fun K hK => ?_)
  (repeat (first | with_reducible refine AW.seq ?_ | ((first | refine arun_kn 1 rfl (fun C hC => ?_) | refine arunD_kn 1 rfl (fun C hC => ?_)); (repeat ((conv => whnf); simp [m4, m2, m3, hk7, hk7', strsE_len])); refine hC _ ?_; clear hC C; simp only [List.drop, Nat.reduceAdd]) | (refine arun_skip ?_ ?_; (focus (simp [awant, m4, m2, m3, hk7, hk7', strsE_len]; done))) | (refine arun_c0 (p1) ?_; rintro _ rfl) | (refine arun_c0 (p2) ?_; rintro _ rfl) | (refine arun_c0 (p3) ?_; rintro _ rfl) | (refine arun_c0 (p4) ?_; rintro _ rfl) | (refine arun_c0 (p5) ?_; rintro _ rfl) | (refine arunD_skip ?_ ?_; (focus (simp [awant, m4, m2, m3, hk7, hk7', strsE_len]; done))) | (refine arunD_cE (0) (p1) (by exact ⟨_, rfl, hi1⟩) ?_; rintro _ rfl; intro _) | (refine arunD_cE (0) (p2) (by exact ⟨_, rfl, hi2⟩) ?_; rintro _ rfl; intro _) | (refine arunD_cE (0) (p3) (by exact ⟨_, rfl, strs_in _⟩) ?_; rintro _ rfl; intro _) | (refine arunD_cE (0) (p4) (by exact ⟨_, rfl, hi3⟩) ?_; rintro _ rfl; intro _) | (refine arunD_cE (0) (p5) (by exact ⟨_, rfl, hi4⟩) ?_; rintro _ rfl; intro _) | (refine AW.regionK [] (fun K hK => ?_)) | (refine AW.regionDK [] (pcs [] []) (by kernel_rfl) (by kernel_rfl) (fun K hK => ?_)) | (refine AW.condT ?_ ?_; (focus (simp [aev, m4, m2, m3, hk7, hk7', strsE_len]; done))) | (refine AW.condF ?_ ?_; (focus (simp [aev, m4, m2, m3, hk7, hk7', strsE_len]; done))) | with_reducible refine AW.block ?_ | ((first | ((first | refine arun_nil ?_ | refine arunD_nil ?_); refine hK _ ?_; clear hK K) | refine AW.skip ?_ | refine AW.exit ?_ | refine AW.ret ?_); simp only [wE, if_true, if_false, Nat.reduceEqDiff, reduceIte])))
  have eo : opOf o = opNd k o.2.1 o.2.2.1 o.2.2.2 := by unfold opOf; rw [hk]; rfl
  refine ⟨.agg [.int .i64 4, .int .i64 0, .str ⟨#[]⟩, .view .tight 1 (strsE opNms), .view .tight 5 ([stepsN o.2.2.1, wordN (wd k), stepsN o.2.1, o.2.2.2].map nodeL)], ?_, ?_, nodeA (opOf o), ?_, rfl⟩
  · simp [ares, aresL, upd, rowsOf_cons, strsE, opNms, nodeL_eq]
  · refine pur_agg ?_
    simp only [List.forall_mem_cons, List.not_mem_nil, false_implies, implies_true, and_true]
    exact ⟨pur_int, pur_int, pur_str, strs_pur _ (by decide), pur_view (by decide) (nodesE_pur _)⟩
  · rw [eo]
    unfold nodeA opNd
    rw [nodeL_eq]
    exact Wk.agg (.cons (Wk.refl _) (.cons (Wk.refl _) (.cons (Wk.refl _) (.cons (Wk.loose (by decide)) (.cons (Wk.loose (by decide)) .nil)))))
end Go.Proofs.Ytgfnmhfdmmnaoaa.Eng
namespace Go.Proofs.Ytgfnmhfdmmnaoaa.Eng
open Go Go.RowKit
section
variable {P : Program} {w0 : W0} {S0 : Nat → Prop} {rd0 : Option Nat} {k0 : Nat} {w : World} {a : Act} {s : ASt} {ρ : Cx}
end
section
variable {P : Program} {T : Tab} {hT : Tab.Ok P T} {hm : P.follows .mixedOrders = true} {w0 : W0} {S0 : Nat → Prop} {rd0 : Option Nat} {k0 : Nat} {Q : Exit → ASt → Prop} {s : ASt} {code : Code}
end
section
variable {P : Program} {T : Tab} {k0 : Nat} {md : List Nat} {Av : Nat → Prop} {ops : Array Oper} {K : ASt → Prop} {o : Oper} {l : List Oper} {s : ASt}
end
end Go.Proofs.Ytgfnmhfdmmnaoaa.Eng
namespace Go.Proofs.Ytgfnmhfdmmnaoaa.Eng
open Go Go.RowKit
end Go.Proofs.Ytgfnmhfdmmnaoaa.Eng
-- EV: fresh
namespace Go.Proofs.Ytgfnmhfdmmnaoaa.Eng
open Go Go.RowKit
attribute [local simp] big size_mk ASt.pay Option.map_map Function.comp_def awant aop acall ado aev ofVal ofVal0 ASt.put ASt.add ASt.turn ASt.kill abox aalloc astore aload aloadD astoreD idOf ASt.at cellsTo afieldAddr afield aindexAddr aindex alen abin aint acmp astr aun apick aextract anil aslice abound abuild afill abuildSlice asCells aps avCells over upd aappend asrc amax amin aconv mkSt slots rowsOf_cons rowsOf_nil usedOf_cons usedOf_nil ZK.av List.replicate ASt.back ASt.addL ASt.killL nodeA nodeT nodeTL_eq nodeL_eq strsE_get strsE_len intsE_get intsE_len strsE_at intsE_at tab2 tab3 tab4 tab5 tab6 tab7 tab8 tab9 tab10 tab11 tab12 tab13 tab14 tab15 tab16 tab17 tab18 tab19 tab21 tab22 tab23 tab24 tab25 tab26 tab27 tab28 tab29 tab30 tab39 tab40 tab41 tab42 tab43 tab47 tab48 tab55 tab56 tab57 tab60 tab61 tab62 tab73 tab74 tab75 tab85 tab92 tab115 tab116 tab143 tab144 tab145 tab154 tab155 tab170 tab175 tab182 tab197 tab198 tab203 tab204 tab205 tab207 tab208 tab209
end Go.Proofs.Ytgfnmhfdmmnaoaa.Eng
-- EV: rows
namespace Go.Proofs.Ytgfnmhfdmmnaoaa.Eng
open Go Go.RowKit
attribute [local simp] big size_mk ASt.pay Option.map_map Function.comp_def awant aop acall ado aev ofVal ofVal0 ASt.put ASt.add ASt.turn ASt.kill abox aalloc astore aload aloadD astoreD idOf ASt.at cellsTo afieldAddr afield aindexAddr aindex alen abin aint acmp astr aun apick aextract anil aslice abound abuild afill abuildSlice asCells aps avCells over upd aappend asrc amax amin aconv mkSt slots rowsOf_cons rowsOf_nil usedOf_cons usedOf_nil ZK.av List.replicate ASt.back ASt.addL ASt.killL nodeA nodeT nodeTL_eq nodeL_eq strsE_get strsE_len intsE_get intsE_len strsE_at intsE_at nodeN namesRow nodeO kidsRow tab2 tab3 tab4 tab5 tab6 tab7 tab8 tab9 tab10 tab11 tab12 tab13 tab14 tab15 tab16 tab17 tab18 tab19 tab21 tab22 tab23 tab24 tab25 tab26 tab27 tab28 tab29 tab30 tab39 tab40 tab41 tab42 tab43 tab47 tab48 tab55 tab56 tab57 tab60 tab61 tab62 tab73 tab74 tab75 tab85 tab92 tab115 tab116 tab143 tab144 tab145 tab154 tab155 tab170 tab175 tab182 tab197 tab198 tab203 tab204 tab205 tab207 tab208 tab209
end Go.Proofs.Ytgfnmhfdmmnaoaa.Eng
-- EV: fresh
namespace Go.Proofs.Ytgfnmhfdmmnaoaa.Eng
open Go Go.RowKit
attribute [local simp] big size_mk ASt.pay Option.map_map Function.comp_def awant aop acall ado aev ofVal ofVal0 ASt.put ASt.add ASt.turn ASt.kill abox aalloc astore aload aloadD astoreD idOf ASt.at cellsTo afieldAddr afield aindexAddr aindex alen abin aint acmp astr aun apick aextract anil aslice abound abuild afill abuildSlice asCells aps avCells over upd aappend asrc amax amin aconv mkSt slots rowsOf_cons rowsOf_nil usedOf_cons usedOf_nil ZK.av List.replicate ASt.back ASt.addL ASt.killL nodeA nodeT nodeTL_eq nodeL_eq strsE_get strsE_len intsE_get intsE_len strsE_at intsE_at tab2 tab3 tab4 tab5 tab6 tab7 tab8 tab9 tab10 tab11 tab12 tab13 tab14 tab15 tab16 tab17 tab18 tab19 tab21 tab22 tab23 tab24 tab25 tab26 tab27 tab28 tab29 tab30 tab39 tab40 tab41 tab42 tab43 tab47 tab48 tab55 tab56 tab57 tab60 tab61 tab62 tab73 tab74 tab75 tab85 tab92 tab115 tab116 tab143 tab144 tab145 tab154 tab155 tab170 tab175 tab182 tab197 tab198 tab203 tab204 tab205 tab207 tab208 tab209
def ckN (m : Nd) : Option Nd := if validB m then some m else none
set_option maxRecDepth 100000
set_option maxHeartbeats 8000000
theorem specChk (m : Nd) (b : Bool) : AC Try.prog 68 [nodeA m, .bool b] 0 (fun r => r = optA (if b then ckN m else none)) := by
  refine AC.weak ?_
  have p1 := validNode_AC m .loose
  unfold nodeA
  rw [nodeL_eq]
  cases b
  · have e : (if false then ckN m else none) = none := rfl
    refine AC.of tab_ok mixed_ok Try.func68 (by rfl) (by kernel_rfl) ?_; rintro ⟨P, T, hT, hm, w0, S0, rd0, k0⟩ hP hTT; dsimp only at hP hTT; subst hP hTT; unfold initSt; rw [Try.ntmps68]
    (repeat (first | with_reducible refine AW.seq ?_ | ((first | refine arun_kn 1 rfl (fun C hC => ?_) | refine arunD_kn 1 rfl (fun C hC => ?_)); (repeat ((conv => whnf); simp)); refine hC _ ?_; clear hC C; simp only [List.drop, Nat.reduceAdd]) | (refine arun_skip ?_ ?_; (focus (simp [awant]; done))) | (refine arun_c0 (p1) ?_; rintro _ rfl) | (refine AW.regionK [] (fun K hK => ?_)) | (refine AW.regionDK [] (pcs [] []) (by kernel_rfl) (by kernel_rfl) (fun K hK => ?_)) | (refine AW.condT ?_ ?_; (focus (simp [aev]; done))) | (refine AW.condF ?_ ?_; (focus (simp [aev]; done))) | with_reducible refine AW.block ?_ | ((first | ((first | refine arun_nil ?_ | refine arunD_nil ?_); refine hK _ ?_; clear hK K) | refine AW.skip ?_ | refine AW.exit ?_ | refine AW.ret ?_); simp only [wE, if_true, if_false, Nat.reduceEqDiff, reduceIte, endF_ret, endF_normal])))
    exact ⟨.tup [node0 0 0 ⟨#[]⟩, .bool false], by simp [node0, ares, aresL, upd, rowsOf_cons], none_end.1, _, none_end.2, by rw [e]; rfl⟩
  cases h1 : validB m
  · have e : ckN m = none := by unfold ckN; rw [h1]; rfl
    rw [h1] at p1
    refine AC.of tab_ok mixed_ok Try.func68 (by rfl) (by kernel_rfl) ?_; rintro ⟨P, T, hT, hm, w0, S0, rd0, k0⟩ hP hTT; dsimp only at hP hTT; subst hP hTT; unfold initSt; rw [Try.ntmps68]
    (repeat (first | with_reducible refine AW.seq ?_ | ((first | refine arun_kn 1 rfl (fun C hC => ?_) | refine arunD_kn 1 rfl (fun C hC => ?_)); (repeat ((conv => whnf); simp)); refine hC _ ?_; clear hC C; simp only [List.drop, Nat.reduceAdd]) | (refine arun_skip ?_ ?_; (focus (simp [awant]; done))) | (refine arun_c0 (p1) ?_; rintro _ rfl) | (refine AW.regionK [] (fun K hK => ?_)) | (refine AW.regionDK [] (pcs [] []) (by kernel_rfl) (by kernel_rfl) (fun K hK => ?_)) | (refine AW.condT ?_ ?_; (focus (simp [aev]; done))) | (refine AW.condF ?_ ?_; (focus (simp [aev]; done))) | with_reducible refine AW.block ?_ | ((first | ((first | refine arun_nil ?_ | refine arunD_nil ?_); refine hK _ ?_; clear hK K) | refine AW.skip ?_ | refine AW.exit ?_ | refine AW.ret ?_); simp only [wE, if_true, if_false, Nat.reduceEqDiff, reduceIte, endF_ret, endF_normal])))
    exact ⟨.tup [node0 0 0 ⟨#[]⟩, .bool false], by simp [node0, ares, aresL, upd, rowsOf_cons], none_end.1, _, none_end.2, by rw [e]; rfl⟩
  · have e : ckN m = some m := by unfold ckN; rw [h1]; rfl
    rw [h1] at p1
    refine AC.of tab_ok mixed_ok Try.func68 (by rfl) (by kernel_rfl) ?_; rintro ⟨P, T, hT, hm, w0, S0, rd0, k0⟩ hP hTT; dsimp only at hP hTT; subst hP hTT; unfold initSt; rw [Try.ntmps68]
    (repeat (first | with_reducible refine AW.seq ?_ | ((first | refine arun_kn 1 rfl (fun C hC => ?_) | refine arunD_kn 1 rfl (fun C hC => ?_)); (repeat ((conv => whnf); simp)); refine hC _ ?_; clear hC C; simp only [List.drop, Nat.reduceAdd]) | (refine arun_skip ?_ ?_; (focus (simp [awant]; done))) | (refine arun_c0 (p1) ?_; rintro _ rfl) | (refine AW.regionK [] (fun K hK => ?_)) | (refine AW.regionDK [] (pcs [] []) (by kernel_rfl) (by kernel_rfl) (fun K hK => ?_)) | (refine AW.condT ?_ ?_; (focus (simp [aev]; done))) | (refine AW.condF ?_ ?_; (focus (simp [aev]; done))) | with_reducible refine AW.block ?_ | ((first | ((first | refine arun_nil ?_ | refine arunD_nil ?_); refine hK _ ?_; clear hK K) | refine AW.skip ?_ | refine AW.exit ?_ | refine AW.ret ?_); simp only [wE, if_true, if_false, Nat.reduceEqDiff, reduceIte, endF_ret, endF_normal])))
    exact ⟨.tup [nodeA m, .bool true], by simp [ares, aresL, upd, rowsOf_cons], tup2_pur (node_pur m) pur_bool, _, Wk.refl _, by rw [e]; rfl⟩
end Go.Proofs.Ytgfnmhfdmmnaoaa.Eng
-- EV: skip
namespace Go.Proofs.Ytgfnmhfdmmnaoaa
open Go.RowKit
def o2nB (o : Opr) : Bool := oprB o && validB (opOf o)
def o2nN (o : Opr) : Nd := if o2nB o then opOf o else Nd.zero
theorem oprB_parts {o : Opr} (h : oprB o = true) : ∃ k : Nat, o.1 = (k : Int) ∧ 1 ≤ k ∧ k ≤ 6 ∧ pathB o.2.1 = true ∧ pathB o.2.2.1 = true ∧ validB o.2.2.2 = true := by
  unfold oprB at h
  simp only [Bool.and_eq_true] at h
  obtain ⟨⟨⟨h1, h2⟩, h3⟩, h4⟩ := h
  unfold inR at h1
  simp at h1
  exact ⟨o.1.toNat, by omega, by omega, by omega, h2, h3, h4⟩
end Go.Proofs.Ytgfnmhfdmmnaoaa
namespace Go.Proofs.Ytgfnmhfdmmnaoaa.Eng
open Go Go.RowKit
attribute [local simp] big size_mk ASt.pay Option.map_map Function.comp_def awant aop acall ado aev ofVal ofVal0 ASt.put ASt.add ASt.turn ASt.kill abox aalloc astore aload aloadD astoreD idOf ASt.at cellsTo afieldAddr afield aindexAddr aindex alen abin aint acmp astr aun apick aextract anil aslice abound abuild afill abuildSlice asCells aps avCells over upd aappend asrc amax amin aconv mkSt slots rowsOf_cons rowsOf_nil usedOf_cons usedOf_nil ZK.av List.replicate ASt.back ASt.addL ASt.killL nodeA nodeT nodeTL_eq nodeL_eq strsE_get strsE_len intsE_get intsE_len strsE_at intsE_at tab2 tab3 tab4 tab5 tab6 tab7 tab8 tab9 tab10 tab11 tab12 tab13 tab14 tab15 tab16 tab17 tab18 tab19 tab21 tab22 tab23 tab24 tab25 tab26 tab27 tab28 tab29 tab30 tab39 tab40 tab41 tab42 tab43 tab47 tab48 tab55 tab56 tab57 tab60 tab61 tab62 tab73 tab74 tab75 tab85 tab92 tab115 tab116 tab143 tab144 tab145 tab154 tab155 tab170 tab175 tab182 tab197 tab198 tab203 tab204 tab205 tab207 tab208 tab209
set_option maxRecDepth 100000
set_option maxHeartbeats 8000000
theorem isOp_AC (o : Opr) : AC Try.prog 71 [oprA o] 0 (fun r => r = .bool (oprB o)) := by
  have p2 := isPath_AC o.2.1 .loose
  have p3 := isPath_AC o.2.2.1 .loose
  have p4 := ValidNode_AC o.2.2.2 .loose
  have hc := node_clo o.2.2.2
  have e0 : oprB o = (inR o.1 1 6 && pathB o.2.1 && pathB o.2.2.1 && validB o.2.2.2) := rfl
  unfold oprA
  rw [nodeT_loose] at p4
  unfold nodeA at p4 hc
  rw [nodeL_eq] at p4 hc
  by_cases h0 : 1 ≤ o.1
  rotate_left
  · have h1 : inR o.1 1 6 = false := by unfold inR; simp; omega
    have g1 : (1 ≤ o.1) = False := by simp; omega
    have g2 := g1
    rw [h1] at e0
    have e : oprB o = false := by rw [e0]; rfl
    refine AC.of tab_ok mixed_ok Try.func71 (by rfl) (by kernel_rfl) ?_; rintro ⟨P, T, hT, hm, w0, S0, rd0, k0⟩ hP hTT; dsimp only at hP hTT; subst hP hTT; unfold initSt; rw [Try.ntmps71]
    (repeat (first | with_reducible refine AW.seq ?_ | ((first | refine arun_kn 1 rfl (fun C hC => ?_) | refine arunD_kn 1 rfl (fun C hC => ?_)); (repeat ((conv => whnf); simp [g1, g2])); refine hC _ ?_; clear hC C; simp only [List.drop, Nat.reduceAdd]) | (refine arun_skip ?_ ?_; (focus (simp [awant, g1, g2]; done))) | (refine arun_c0 (p2) ?_; rintro _ rfl) | (refine arun_c0 (p3) ?_; rintro _ rfl) | (refine arun_c0 (p4) ?_; rintro _ rfl) | (refine arunD_skip ?_ ?_; (focus (simp [awant, g1, g2]; done))) | (refine AW.regionK [] (fun K hK => ?_)) | (refine AW.regionDK [] (pcs [] []) (by kernel_rfl) (by kernel_rfl) (fun K hK => ?_)) | (refine AW.condT ?_ ?_; (focus (simp [aev, g1, g2]; done))) | (refine AW.condF ?_ ?_; (focus (simp [aev, g1, g2]; done))) | with_reducible refine AW.block ?_ | ((first | ((first | refine arun_nil ?_ | refine arunD_nil ?_); refine hK _ ?_; clear hK K) | refine AW.skip ?_ | refine AW.exit ?_ | refine AW.ret ?_); simp only [wE, if_true, if_false, Nat.reduceEqDiff, reduceIte])))
    exact ⟨.bool false, by simp [ares, aresL], pur_bool, by rw [e]⟩
  have g1 : (1 ≤ o.1) = True := by simp; omega
  by_cases h6 : o.1 ≤ 6
  rotate_left
  · have h1 : inR o.1 1 6 = false := by unfold inR; simp; omega
    have g2 : (o.1 ≤ 6) = False := by simp; omega
    rw [h1] at e0
    have e : oprB o = false := by rw [e0]; rfl
    refine AC.of tab_ok mixed_ok Try.func71 (by rfl) (by kernel_rfl) ?_; rintro ⟨P, T, hT, hm, w0, S0, rd0, k0⟩ hP hTT; dsimp only at hP hTT; subst hP hTT; unfold initSt; rw [Try.ntmps71]
    (repeat (first | with_reducible refine AW.seq ?_ | ((first | refine arun_kn 1 rfl (fun C hC => ?_) | refine arunD_kn 1 rfl (fun C hC => ?_)); (repeat ((conv => whnf); simp [g1, g2])); refine hC _ ?_; clear hC C; simp only [List.drop, Nat.reduceAdd]) | (refine arun_skip ?_ ?_; (focus (simp [awant, g1, g2]; done))) | (refine arun_c0 (p2) ?_; rintro _ rfl) | (refine arun_c0 (p3) ?_; rintro _ rfl) | (refine arun_c0 (p4) ?_; rintro _ rfl) | (refine arunD_skip ?_ ?_; (focus (simp [awant, g1, g2]; done))) | (refine AW.regionK [] (fun K hK => ?_)) | (refine AW.regionDK [] (pcs [] []) (by kernel_rfl) (by kernel_rfl) (fun K hK => ?_)) | (refine AW.condT ?_ ?_; (focus (simp [aev, g1, g2]; done))) | (refine AW.condF ?_ ?_; (focus (simp [aev, g1, g2]; done))) | with_reducible refine AW.block ?_ | ((first | ((first | refine arun_nil ?_ | refine arunD_nil ?_); refine hK _ ?_; clear hK K) | refine AW.skip ?_ | refine AW.exit ?_ | refine AW.ret ?_); simp only [wE, if_true, if_false, Nat.reduceEqDiff, reduceIte])))
    exact ⟨.bool false, by simp [ares, aresL], pur_bool, by rw [e]⟩
  have g2 : (o.1 ≤ 6) = True := by simp; omega
  have h1 : inR o.1 1 6 = true := by unfold inR; simp; omega
  rw [h1] at e0
  cases h2 : pathB o.2.1
  · rw [h2] at e0; rw [h2] at p2
    have e : oprB o = false := by rw [e0]; rfl
    refine AC.of tab_ok mixed_ok Try.func71 (by rfl) (by kernel_rfl) ?_; rintro ⟨P, T, hT, hm, w0, S0, rd0, k0⟩ hP hTT; dsimp only at hP hTT; subst hP hTT; unfold initSt; rw [Try.ntmps71]
    (repeat (first | with_reducible refine AW.seq ?_ | ((first | refine arun_kn 1 rfl (fun C hC => ?_) | refine arunD_kn 1 rfl (fun C hC => ?_)); (repeat ((conv => whnf); simp [g1, g2])); refine hC _ ?_; clear hC C; simp only [List.drop, Nat.reduceAdd]) | (refine arun_skip ?_ ?_; (focus (simp [awant, g1, g2]; done))) | (refine arun_c0 (p2) ?_; rintro _ rfl) | (refine arun_c0 (p3) ?_; rintro _ rfl) | (refine arun_c0 (p4) ?_; rintro _ rfl) | (refine arunD_skip ?_ ?_; (focus (simp [awant, g1, g2]; done))) | (refine AW.regionK [] (fun K hK => ?_)) | (refine AW.regionDK [] (pcs [] []) (by kernel_rfl) (by kernel_rfl) (fun K hK => ?_)) | (refine AW.condT ?_ ?_; (focus (simp [aev, g1, g2]; done))) | (refine AW.condF ?_ ?_; (focus (simp [aev, g1, g2]; done))) | with_reducible refine AW.block ?_ | ((first | ((first | refine arun_nil ?_ | refine arunD_nil ?_); refine hK _ ?_; clear hK K) | refine AW.skip ?_ | refine AW.exit ?_ | refine AW.ret ?_); simp only [wE, if_true, if_false, Nat.reduceEqDiff, reduceIte])))
    exact ⟨.bool false, by simp [ares, aresL], pur_bool, by rw [e]⟩
  cases h3 : pathB o.2.2.1
  · rw [h2, h3] at e0; rw [h2] at p2; rw [h3] at p3
    have e : oprB o = false := by rw [e0]; rfl
    refine AC.of tab_ok mixed_ok Try.func71 (by rfl) (by kernel_rfl) ?_; rintro ⟨P, T, hT, hm, w0, S0, rd0, k0⟩ hP hTT; dsimp only at hP hTT; subst hP hTT; unfold initSt; rw [Try.ntmps71]
    (repeat (first | with_reducible refine AW.seq ?_ | ((first | refine arun_kn 1 rfl (fun C hC => ?_) | refine arunD_kn 1 rfl (fun C hC => ?_)); (repeat ((conv => whnf); simp [g1, g2])); refine hC _ ?_; clear hC C; simp only [List.drop, Nat.reduceAdd]) | (refine arun_skip ?_ ?_; (focus (simp [awant, g1, g2]; done))) | (refine arun_c0 (p2) ?_; rintro _ rfl) | (refine arun_c0 (p3) ?_; rintro _ rfl) | (refine arun_c0 (p4) ?_; rintro _ rfl) | (refine arunD_skip ?_ ?_; (focus (simp [awant, g1, g2]; done))) | (refine AW.regionK [] (fun K hK => ?_)) | (refine AW.regionDK [] (pcs [] []) (by kernel_rfl) (by kernel_rfl) (fun K hK => ?_)) | (refine AW.condT ?_ ?_; (focus (simp [aev, g1, g2]; done))) | (refine AW.condF ?_ ?_; (focus (simp [aev, g1, g2]; done))) | with_reducible refine AW.block ?_ | ((first | ((first | refine arun_nil ?_ | refine arunD_nil ?_); refine hK _ ?_; clear hK K) | refine AW.skip ?_ | refine AW.exit ?_ | refine AW.ret ?_); simp only [wE, if_true, if_false, Nat.reduceEqDiff, reduceIte])))
    exact ⟨.bool false, by simp [ares, aresL], pur_bool, by rw [e]⟩
  rw [h2, h3] at e0; rw [h2] at p2; rw [h3] at p3
  have e : oprB o = validB o.2.2.2 := by rw [e0]; rfl
  generalize validB o.2.2.2 = bb at *
  refine AC.of tab_ok mixed_ok Try.func71 (by rfl) (by kernel_rfl) ?_; rintro ⟨P, T, hT, hm, w0, S0, rd0, k0⟩ hP hTT; dsimp only at hP hTT; subst hP hTT; unfold initSt; rw [Try.ntmps71]
  (repeat (first | with_reducible refine AW.seq ?_ | ((first | refine arun_kn 1 rfl (fun C hC => ?_) | refine arunD_kn 1 rfl (fun C hC => ?_)); (repeat ((conv => whnf); simp [g1, g2])); refine hC _ ?_; clear hC C; simp only [List.drop, Nat.reduceAdd]) | (refine arun_skip ?_ ?_; (focus (simp [awant, g1, g2]; done))) | (refine arun_c0 (p2) ?_; rintro _ rfl) | (refine arun_c0 (p3) ?_; rintro _ rfl) | (refine arun_c0 (p4) ?_; rintro _ rfl) | (refine arunD_skip ?_ ?_; (focus (simp [awant, g1, g2]; done))) | (refine AW.regionK [] (fun K hK => ?_)) | (refine AW.regionDK [] (pcs [] []) (by kernel_rfl) (by kernel_rfl) (fun K hK => ?_)) | (refine AW.condT ?_ ?_; (focus (simp [aev, g1, g2]; done))) | (refine AW.condF ?_ ?_; (focus (simp [aev, g1, g2]; done))) | with_reducible refine AW.block ?_ | ((first | ((first | refine arun_nil ?_ | refine arunD_nil ?_); refine hK _ ?_; clear hK K) | refine AW.skip ?_ | refine AW.exit ?_ | refine AW.ret ?_); simp only [wE, if_true, if_false, Nat.reduceEqDiff, reduceIte])))
  exact ⟨.bool bb, by simp [ares, aresL], pur_bool, by rw [e]⟩
end Go.Proofs.Ytgfnmhfdmmnaoaa.Eng
-- EV: skip
namespace Go.Proofs.Ytgfnmhfdmmnaoaa.Eng
open Go Go.RowKit
attribute [local simp] big size_mk ASt.pay Option.map_map Function.comp_def awant aop acall ado aev ofVal ofVal0 ASt.put ASt.add ASt.turn ASt.kill abox aalloc astore aload aloadD astoreD idOf ASt.at cellsTo afieldAddr afield aindexAddr aindex alen abin aint acmp astr aun apick aextract anil aslice abound abuild afill abuildSlice asCells aps avCells over upd aappend asrc amax amin aconv mkSt slots rowsOf_cons rowsOf_nil usedOf_cons usedOf_nil ZK.av List.replicate ASt.back ASt.addL ASt.killL nodeA nodeT nodeTL_eq nodeL_eq strsE_get strsE_len intsE_get intsE_len strsE_at intsE_at tab2 tab3 tab4 tab5 tab6 tab7 tab8 tab9 tab10 tab11 tab12 tab13 tab14 tab15 tab16 tab17 tab18 tab19 tab21 tab22 tab23 tab24 tab25 tab26 tab27 tab28 tab29 tab30 tab39 tab40 tab41 tab42 tab43 tab47 tab48 tab55 tab56 tab57 tab60 tab61 tab62 tab73 tab74 tab75 tab85 tab92 tab115 tab116 tab143 tab144 tab145 tab154 tab155 tab170 tab175 tab182 tab197 tab198 tab203 tab204 tab205 tab207 tab208 tab209
set_option maxRecDepth 100000
set_option maxHeartbeats 8000000
def wordT (s : ByteArray) : List AV := [.int .i64 2, .int .i64 0, .str s, .view .tight 0 [], .view .tight 0 []]
def stepsT (p : List ByteArray) : Row := ⟨false, 30, 5, p.map wordT⟩
theorem wordT_pur (p : List ByteArray) : ∀ e ∈ p.map wordT, ∀ c ∈ e, Pur c := fun e he c hc => by
  obtain ⟨s, _, rfl⟩ := List.mem_map.1 he
  have h0 := pur_view (t := .tight) (sz := 0) (es := []) (by decide) (fun e he => by cases he)
  simp only [wordT, List.mem_cons, List.not_mem_nil, or_false] at hc
  rcases hc with rfl | rfl | rfl | rfl | rfl
  · exact pur_int
  · exact pur_int
  · exact pur_str
  · exact h0
  · exact h0
theorem wordT_in {U : Nat → Bool} (p : List ByteArray) : ∀ e ∈ p.map wordT, ∀ c ∈ e, AV.In U c := fun e he c hc => by
  obtain ⟨s, _, rfl⟩ := List.mem_map.1 he
  simp only [wordT, List.mem_cons, List.not_mem_nil, or_false] at hc
  rcases hc with rfl | rfl | rfl | rfl | rfl
  · exact in_int
  · exact in_int
  · exact in_str
  · exact in_vnil
  · exact in_vnil
theorem wordT_wk : ∀ p : List ByteArray, WkE (p.map wordT) ((p.map wordN).map nodeL)
  | [] => .nil
  | s :: p => .cons (by
      show WkL (wordT s) (nodeL (wordN s))
      rw [nodeL_eq]
      exact .cons (Wk.refl _) (.cons (Wk.refl _) (.cons (Wk.refl _) (.cons (Wk.nil (fun h => by cases h)) (.cons (Wk.nil (fun h => by cases h)) .nil))))) (wordT_wk p)
theorem pathToNode_step (p : List ByteArray) (hp : p.length ≤ 6) : ACR Try.prog 73 [.view .loose 1 (strsE p)] 0 (fun _ => False) (fun f R => f = (fun id => .agg [.int .i64 3, .int .i64 0, .str ⟨#[]⟩, .view .tight 0 [], .own id p.length]) ∧ R = stepsT p) := by
  refine ACR.of tab_ok mixed_ok Try.func73 (by rfl) (by kernel_rfl) ?_; rintro ⟨P, T, hT, hm, w0, S0, rd0, k0⟩ hP hTT; dsimp only at hP hTT; subst hP hTT; unfold initSt; rw [Try.ntmps73]
  (repeat (first | with_reducible refine AW.seq ?_ | ((first | refine arun_kn 1 rfl (fun C hC => ?_) | refine arunD_kn 1 rfl (fun C hC => ?_)); (repeat ((conv => whnf); simp)); refine hC _ ?_; clear hC C; simp only [List.drop, Nat.reduceAdd]) | (refine arun_skip ?_ ?_; (focus (simp [awant]; done))) | (refine arunD_skip ?_ ?_; (focus (simp [awant]; done))) | (refine AW.regionK [] (fun K hK => ?_)) | (refine AW.regionDK [] (pcs [] []) (by kernel_rfl) (by kernel_rfl) (fun K hK => ?_)) | (refine AW.condT ?_ ?_; (focus (simp [aev]; done))) | (refine AW.condF ?_ ?_; (focus (simp [aev]; done))) | with_reducible refine AW.block ?_ | ((first | ((first | refine arun_nil ?_ | refine arunD_nil ?_); refine hK _ ?_; clear hK K) | refine AW.skip ?_ | refine AW.exit ?_ | refine AW.ret ?_); simp only [wE, if_true, if_false, Nat.reduceEqDiff, reduceIte])))
  refine AW.adoptB 3 4 50 30 5 ⟨_, tab30, rfl⟩ (by simp [upd]; rfl) rfl rfl (by simp [upd]) ?_
  simp only [ASt.adoptB]
  refine AW.loopS (fun (i : Nat) => mkSt (slots 0 22 [(2, .ptr true 5 1 2 0 0), (3, .ptr true 5 1 3 0 0), (7, .view .loose 1 (strsE p)), (8, .int .i64 p.length), (9, .int .i64 i)]) [(2, ⟨true, 30, 5, [[.int .i64 0, .int .i64 0, .str ⟨#[]⟩, .view .tight 0 [], .view .tight 0 []]]⟩), (3, ⟨true, 30, 5, [[.int .i64 3, .int .i64 0, .str ⟨#[]⟩, .view .tight 0 [], .own 50 i]]⟩), (50, ⟨false, 30, 5, (p.take i).map wordT⟩)] [2, 3, 50] (rd0.map fun _ => 0)) (fun i => p.length - i) (fun i => i ≤ p.length) 0 ?_ (Nat.zero_le _) ?_
  · exact (less_of (by simp [lessL, mkSt, slots, ASt.adoptB, ASt.add]) (by simp [upd, mkSt, rowsOf_cons, ASt.adoptB, ASt.add]) (by simp [upd, mkSt, usedOf_cons, ASt.adoptB, ASt.add]) (by first | exact rd_less (by omega) | simp [mkSt, ASt.adoptB, ASt.add]) (by simp [slots, in_any, in_int, in_bool, in_str, in_ptr, in_own, in_agg, in_vnil, in_rdr, usedOf_cons, usedOf_nil, strs_in, ints_in, nodes_in, in_tup, ASt.adoptB, ASt.add]) (by simp only [List.forall_mem_cons, List.not_mem_nil, false_implies, implies_true, and_true, true_and, ASt.adoptB, ASt.add]; (repeat (first | with_reducible exact trivial | with_reducible refine And.intro ?_ ?_ | with_reducible exact in_int | with_reducible exact in_str | with_reducible exact in_bool | with_reducible exact strs_in _ | with_reducible exact nodes_in _ | with_reducible exact items_in _ | with_reducible exact in_vnil | with_reducible exact in_any | exact hin _ | with_reducible refine take_in ?_ | with_reducible exact strsE_in _ | with_reducible exact nodesE_in _ | with_reducible exact nodeL_in _ | with_reducible exact itemsE_in _ | with_reducible exact itemL_in _ | with_reducible refine app_in ?_ ?_ | with_reducible refine sing_in ?_ | (focus (simp [in_any, in_int, in_bool, in_str, in_ptr, in_own, in_agg, in_vnil, in_rdr, usedOf_cons, usedOf_nil, strs_in, ints_in, nodes_in, ASt.adoptB, ASt.add]; done)))); done))
  intro i hi
  have hl : ((p.take i).map wordT).length = i := by simp; omega
  by_cases hlt : i < p.length
  · have hw : IntKind.i64.wrap ((i : Int) + 1) = (i : Int) + 1 := i64_nat (by omega) (by omega)
    have hlt' : (i : Int) < (p.length : Int) := by omega
    have hb1 : (i + 1) * 80 ≤ 140737488355328 := by omega
    have hb2 : i + 1 ≤ 140737488355328 := by omega
    have htk : p.take (i + 1) = p.take i ++ [p[i]] := take_snoc' _ _ hlt
    obtain ⟨Ks, hK⟩ : ∃ Ks, Ks = (p.take i).map wordT := ⟨_, rfl⟩
    rw [← hK] at hl ⊢
    (repeat (first | with_reducible refine AW.seq ?_ | ((first | refine arun_kn 1 rfl (fun C hC => ?_) | refine arunD_kn 1 rfl (fun C hC => ?_)); (repeat ((conv => whnf); simp [hlt, hlt', hw, hl, hb1, hb2, strsE_len])); refine hC _ ?_; clear hC C; simp only [List.drop, Nat.reduceAdd]) | (refine arun_skip ?_ ?_; (focus (simp [awant, hlt, hlt', hw, hl, hb1, hb2, strsE_len]; done))) | (refine arunD_skip ?_ ?_; (focus (simp [awant, hlt, hlt', hw, hl, hb1, hb2, strsE_len]; done))) | (refine AW.regionK [] (fun K hK => ?_)) | (refine AW.regionDK [] (pcs [] []) (by kernel_rfl) (by kernel_rfl) (fun K hK => ?_)) | (refine AW.condT ?_ ?_; (focus (simp [aev, hlt, hlt', hw, hl, hb1, hb2, strsE_len]; done))) | (refine AW.condF ?_ ?_; (focus (simp [aev, hlt, hlt', hw, hl, hb1, hb2, strsE_len]; done))) | with_reducible refine AW.block ?_ | ((first | ((first | refine arun_nil ?_ | refine arunD_nil ?_); refine hK _ ?_; clear hK K) | refine AW.skip ?_ | refine AW.exit ?_ | refine AW.ret ?_); simp only [wE, if_true, if_false, Nat.reduceEqDiff, reduceIte])))
    refine ⟨i + 1, by omega, by omega, ?_⟩
    have hin : ∀ U : Nat → Bool, ∀ e ∈ (p.take (i + 1)).map wordT, ∀ c ∈ e, AV.In U c := fun U => wordT_in _
    rw [htk, List.map_append, ← hK] at hin ⊢
    have e1 : List.map wordT [p[i]] = [[.int .i64 2, .int .i64 0, .str p[i], .view .tight 0 [], .view .tight 0 []]] := rfl
    rw [e1] at hin ⊢
    exact less_a
  · obtain rfl : i = p.length := by omega
    rw [List.take_length] at hl ⊢
    obtain ⟨Ks, hK⟩ : ∃ Ks, Ks = p.map wordT := ⟨_, rfl⟩
    rw [← hK] at hl ⊢
    (repeat (first | with_reducible refine AW.seq ?_ | ((first | refine arun_kn 1 rfl (fun C hC => ?_) | refine arunD_kn 1 rfl (fun C hC => ?_)); (repeat ((conv => whnf); simp [hlt, strsE_len])); refine hC _ ?_; clear hC C; simp only [List.drop, Nat.reduceAdd]) | (refine arun_skip ?_ ?_; (focus (simp [awant, hlt, strsE_len]; done))) | (refine arunD_skip ?_ ?_; (focus (simp [awant, hlt, strsE_len]; done))) | (refine AW.regionK [] (fun K hK => ?_)) | (refine AW.regionDK [] (pcs [] []) (by kernel_rfl) (by kernel_rfl) (fun K hK => ?_)) | (refine AW.condT ?_ ?_; (focus (simp [aev, hlt, strsE_len]; done))) | (refine AW.condF ?_ ?_; (focus (simp [aev, hlt, strsE_len]; done))) | with_reducible refine AW.block ?_ | ((first | ((first | refine arun_nil ?_ | refine arunD_nil ?_); refine hK _ ?_; clear hK K) | refine AW.skip ?_ | refine AW.exit ?_ | refine AW.ret ?_); simp only [wE, if_true, if_false, Nat.reduceEqDiff, reduceIte])))
    refine ⟨.agg [.int .i64 3, .int .i64 0, .str ⟨#[]⟩, .view .tight 0 [], .own 50 p.length], ?_, .inr ⟨fun id => .agg [.int .i64 3, .int .i64 0, .str ⟨#[]⟩, .view .tight 0 [], .own id p.length], 50, stepsT p, rfl, ?_, ?_, wordT_pur _, rfl, rfl⟩⟩
    · simp [ares, aresL, upd, rowsOf_cons]
    · simp only [stepsT, ← hK]; simp [upd, rowsOf_cons]
    · exact Res1.agg [fun _ => .int .i64 3, fun _ => .int .i64 0, fun _ => .str ⟨#[]⟩, fun _ => .view .tight 0 [], fun id => .own id p.length] (by
          simp only [List.forall_mem_cons, List.not_mem_nil, false_implies, implies_true, and_true]
          exact ⟨Res1.pur _ pur_int, Res1.pur _ pur_int, Res1.pur _ pur_str, Res1.pur _ (pur_view (by decide) (fun e he => by cases he)), Res1.own _ _⟩)
theorem pathToNode_AC (p : List ByteArray) (hp : p.length ≤ 6) : AC Try.prog 73 [.view .loose 1 (strsE p)] 0 (fun r => r = nodeA (stepsN p)) := by
  refine AC.weak ((AC.ofR (pathToNode_step p hp) ?_).mono ?_)
  · rintro r R ⟨rfl, rfl⟩
    simp only [AV.sub, AV.subL, stepsT, List.length_map, if_true, reduceIte]
    refine in_agg.2 ?_
    simp only [List.forall_mem_cons, List.not_mem_nil, false_implies, implies_true, and_true]
    exact ⟨in_int, in_int, in_str, in_vnil, in_view.2 (wordT_in _)⟩
  · rintro r (h | ⟨f, R, ⟨rfl, rfl⟩, rfl⟩)
    · exact h.elim
    · refine ⟨nodeA (stepsN p), ?_, rfl⟩
      simp only [AV.sub, AV.subL, stepsT, List.length_map, if_true, reduceIte]
      unfold nodeA stepsN
      rw [nodeL_eq]
      exact Wk.agg (.cons (Wk.refl _) (.cons (Wk.refl _) (.cons (Wk.refl _) (.cons (Wk.nil (fun h => by cases h)) (.cons (Wk.view (by decide) (wordT_wk p)) .nil)))))
end Go.Proofs.Ytgfnmhfdmmnaoaa.Eng
namespace Go.Proofs.Ytgfnmhfdmmnaoaa
open Go.RowKit
end Go.Proofs.Ytgfnmhfdmmnaoaa
-- EV: fresh
namespace Go.Proofs.Ytgfnmhfdmmnaoaa.Eng
open Go Go.RowKit
attribute [local simp] big size_mk ASt.pay Option.map_map Function.comp_def awant aop acall ado aev ofVal ofVal0 ASt.put ASt.add ASt.turn ASt.kill abox aalloc astore aload aloadD astoreD idOf ASt.at cellsTo afieldAddr afield aindexAddr aindex alen abin aint acmp astr aun apick aextract anil aslice abound abuild afill abuildSlice asCells aps avCells over upd aappend asrc amax amin aconv mkSt slots rowsOf_cons rowsOf_nil usedOf_cons usedOf_nil ZK.av List.replicate ASt.back ASt.addL ASt.killL nodeA nodeT nodeTL_eq nodeL_eq strsE_get strsE_len intsE_get intsE_len strsE_at intsE_at tab2 tab3 tab4 tab5 tab6 tab7 tab8 tab9 tab10 tab11 tab12 tab13 tab14 tab15 tab16 tab17 tab18 tab19 tab21 tab22 tab23 tab24 tab25 tab26 tab27 tab28 tab29 tab30 tab39 tab40 tab41 tab42 tab43 tab47 tab48 tab55 tab56 tab57 tab60 tab61 tab62 tab73 tab74 tab75 tab85 tab92 tab115 tab116 tab143 tab144 tab145 tab154 tab155 tab170 tab175 tab182 tab197 tab198 tab203 tab204 tab205 tab207 tab208 tab209
section
variable {P : Program} {T : Tab} {md : List Nat} {Av : Nat → Prop} {pc : Pc} {ops : Array Oper} {K : ASt → Prop} {o : Oper} {l : List Oper} {s : ASt}
end
end Go.Proofs.Ytgfnmhfdmmnaoaa.Eng
-- EV: fresh
namespace Go.Proofs.Ytgfnmhfdmmnaoaa.Eng
open Go Go.RowKit
attribute [local simp] big size_mk ASt.pay Option.map_map Function.comp_def awant aop acall ado aev ofVal ofVal0 ASt.put ASt.add ASt.turn ASt.kill abox aalloc astore aload aloadD astoreD idOf ASt.at cellsTo afieldAddr afield aindexAddr aindex alen abin aint acmp astr aun apick aextract anil aslice abound abuild afill abuildSlice asCells aps avCells over upd aappend asrc amax amin aconv mkSt slots rowsOf_cons rowsOf_nil usedOf_cons usedOf_nil ZK.av List.replicate ASt.back ASt.addL ASt.killL nodeA nodeT nodeTL_eq nodeL_eq strsE_get strsE_len intsE_get intsE_len strsE_at intsE_at tab2 tab3 tab4 tab5 tab6 tab7 tab8 tab9 tab10 tab11 tab12 tab13 tab14 tab15 tab16 tab17 tab18 tab19 tab21 tab22 tab23 tab24 tab25 tab26 tab27 tab28 tab29 tab30 tab39 tab40 tab41 tab42 tab43 tab47 tab48 tab55 tab56 tab57 tab60 tab61 tab62 tab73 tab74 tab75 tab85 tab92 tab115 tab116 tab143 tab144 tab145 tab154 tab155 tab170 tab175 tab182 tab197 tab198 tab203 tab204 tab205 tab207 tab208 tab209
set_option maxRecDepth 100000
set_option maxHeartbeats 8000000
theorem opWord_ACF {k : Nat} (h1 : 1 ≤ k) (h6 : k ≤ 6) : ACF Try.prog 74 [.int .i64 (k : Int)] 0 (fun r => r = .str (wd k)) := by
  have : k = 1 ∨ k = 2 ∨ k = 3 ∨ k = 4 ∨ k = 5 ∨ k = 6 := by omega
  rcases this with rfl | rfl | rfl | rfl | rfl | rfl
  ·
    refine ACF.of tab_ok mixed_ok Try.func74 (by rfl) (by kernel_rfl) ?_; rintro ⟨P, T, hT, hm, w0, S0, rd0, k0⟩ hP hTT hN; dsimp only at hP hTT hN; subst hP hTT; dsimp only; unfold initSt; rw [Try.ntmps74]
    (repeat (first | with_reducible refine AW.seq ?_ | ((first | refine arun_kn 1 rfl (fun C hC => ?_) | refine arunD_kn 1 rfl (fun C hC => ?_)); (repeat ((conv => whnf); simp)); refine hC _ ?_; clear hC C; simp only [List.drop, Nat.reduceAdd]) | (refine arun_skip ?_ ?_; (focus (simp [awant]; done))) | (refine AW.regionK [] (fun K hK => ?_)) | (refine AW.regionDK [] (pcs [] []) (by kernel_rfl) (by kernel_rfl) (fun K hK => ?_)) | (refine AW.condT ?_ ?_; (focus (simp [aev]; done))) | (refine AW.condF ?_ ?_; (focus (simp [aev]; done))) | with_reducible refine AW.block ?_ | ((first | ((first | refine arun_nil ?_ | refine arunD_nil ?_); refine hK _ ?_; clear hK K) | refine AW.skip ?_ | refine AW.exit ?_ | refine AW.ret ?_); simp only [wE, if_true, if_false, Nat.reduceEqDiff, reduceIte, endF_ret, endF_normal])))
    exact ⟨.str (wd 1), by simp [ares, aresL, wd], pur_str, fun b hb => by simp [at_str] at hb, rfl⟩
  ·
    refine ACF.of tab_ok mixed_ok Try.func74 (by rfl) (by kernel_rfl) ?_; rintro ⟨P, T, hT, hm, w0, S0, rd0, k0⟩ hP hTT hN; dsimp only at hP hTT hN; subst hP hTT; dsimp only; unfold initSt; rw [Try.ntmps74]
    (repeat (first | with_reducible refine AW.seq ?_ | ((first | refine arun_kn 1 rfl (fun C hC => ?_) | refine arunD_kn 1 rfl (fun C hC => ?_)); (repeat ((conv => whnf); simp)); refine hC _ ?_; clear hC C; simp only [List.drop, Nat.reduceAdd]) | (refine arun_skip ?_ ?_; (focus (simp [awant]; done))) | (refine AW.regionK [] (fun K hK => ?_)) | (refine AW.regionDK [] (pcs [] []) (by kernel_rfl) (by kernel_rfl) (fun K hK => ?_)) | (refine AW.condT ?_ ?_; (focus (simp [aev]; done))) | (refine AW.condF ?_ ?_; (focus (simp [aev]; done))) | with_reducible refine AW.block ?_ | ((first | ((first | refine arun_nil ?_ | refine arunD_nil ?_); refine hK _ ?_; clear hK K) | refine AW.skip ?_ | refine AW.exit ?_ | refine AW.ret ?_); simp only [wE, if_true, if_false, Nat.reduceEqDiff, reduceIte, endF_ret, endF_normal])))
    exact ⟨.str (wd 2), by simp [ares, aresL, wd], pur_str, fun b hb => by simp [at_str] at hb, rfl⟩
  ·
    refine ACF.of tab_ok mixed_ok Try.func74 (by rfl) (by kernel_rfl) ?_; rintro ⟨P, T, hT, hm, w0, S0, rd0, k0⟩ hP hTT hN; dsimp only at hP hTT hN; subst hP hTT; dsimp only; unfold initSt; rw [Try.ntmps74]
    (repeat (first | with_reducible refine AW.seq ?_ | ((first | refine arun_kn 1 rfl (fun C hC => ?_) | refine arunD_kn 1 rfl (fun C hC => ?_)); (repeat ((conv => whnf); simp)); refine hC _ ?_; clear hC C; simp only [List.drop, Nat.reduceAdd]) | (refine arun_skip ?_ ?_; (focus (simp [awant]; done))) | (refine AW.regionK [] (fun K hK => ?_)) | (refine AW.regionDK [] (pcs [] []) (by kernel_rfl) (by kernel_rfl) (fun K hK => ?_)) | (refine AW.condT ?_ ?_; (focus (simp [aev]; done))) | (refine AW.condF ?_ ?_; (focus (simp [aev]; done))) | with_reducible refine AW.block ?_ | ((first | ((first | refine arun_nil ?_ | refine arunD_nil ?_); refine hK _ ?_; clear hK K) | refine AW.skip ?_ | refine AW.exit ?_ | refine AW.ret ?_); simp only [wE, if_true, if_false, Nat.reduceEqDiff, reduceIte, endF_ret, endF_normal])))
    exact ⟨.str (wd 3), by simp [ares, aresL, wd], pur_str, fun b hb => by simp [at_str] at hb, rfl⟩
  ·
    refine ACF.of tab_ok mixed_ok Try.func74 (by rfl) (by kernel_rfl) ?_; rintro ⟨P, T, hT, hm, w0, S0, rd0, k0⟩ hP hTT hN; dsimp only at hP hTT hN; subst hP hTT; dsimp only; unfold initSt; rw [Try.ntmps74]
    (repeat (first | with_reducible refine AW.seq ?_ | ((first | refine arun_kn 1 rfl (fun C hC => ?_) | refine arunD_kn 1 rfl (fun C hC => ?_)); (repeat ((conv => whnf); simp)); refine hC _ ?_; clear hC C; simp only [List.drop, Nat.reduceAdd]) | (refine arun_skip ?_ ?_; (focus (simp [awant]; done))) | (refine AW.regionK [] (fun K hK => ?_)) | (refine AW.regionDK [] (pcs [] []) (by kernel_rfl) (by kernel_rfl) (fun K hK => ?_)) | (refine AW.condT ?_ ?_; (focus (simp [aev]; done))) | (refine AW.condF ?_ ?_; (focus (simp [aev]; done))) | with_reducible refine AW.block ?_ | ((first | ((first | refine arun_nil ?_ | refine arunD_nil ?_); refine hK _ ?_; clear hK K) | refine AW.skip ?_ | refine AW.exit ?_ | refine AW.ret ?_); simp only [wE, if_true, if_false, Nat.reduceEqDiff, reduceIte, endF_ret, endF_normal])))
    exact ⟨.str (wd 4), by simp [ares, aresL, wd], pur_str, fun b hb => by simp [at_str] at hb, rfl⟩
  ·
    refine ACF.of tab_ok mixed_ok Try.func74 (by rfl) (by kernel_rfl) ?_; rintro ⟨P, T, hT, hm, w0, S0, rd0, k0⟩ hP hTT hN; dsimp only at hP hTT hN; subst hP hTT; dsimp only; unfold initSt; rw [Try.ntmps74]
    (repeat (first | with_reducible refine AW.seq ?_ | ((first | refine arun_kn 1 rfl (fun C hC => ?_) | refine arunD_kn 1 rfl (fun C hC => ?_)); (repeat ((conv => whnf); simp)); refine hC _ ?_; clear hC C; simp only [List.drop, Nat.reduceAdd]) | (refine arun_skip ?_ ?_; (focus (simp [awant]; done))) | (refine AW.regionK [] (fun K hK => ?_)) | (refine AW.regionDK [] (pcs [] []) (by kernel_rfl) (by kernel_rfl) (fun K hK => ?_)) | (refine AW.condT ?_ ?_; (focus (simp [aev]; done))) | (refine AW.condF ?_ ?_; (focus (simp [aev]; done))) | with_reducible refine AW.block ?_ | ((first | ((first | refine arun_nil ?_ | refine arunD_nil ?_); refine hK _ ?_; clear hK K) | refine AW.skip ?_ | refine AW.exit ?_ | refine AW.ret ?_); simp only [wE, if_true, if_false, Nat.reduceEqDiff, reduceIte, endF_ret, endF_normal])))
    exact ⟨.str (wd 5), by simp [ares, aresL, wd], pur_str, fun b hb => by simp [at_str] at hb, rfl⟩
  ·
    refine ACF.of tab_ok mixed_ok Try.func74 (by rfl) (by kernel_rfl) ?_; rintro ⟨P, T, hT, hm, w0, S0, rd0, k0⟩ hP hTT hN; dsimp only at hP hTT hN; subst hP hTT; dsimp only; unfold initSt; rw [Try.ntmps74]
    (repeat (first | with_reducible refine AW.seq ?_ | ((first | refine arun_kn 1 rfl (fun C hC => ?_) | refine arunD_kn 1 rfl (fun C hC => ?_)); (repeat ((conv => whnf); simp)); refine hC _ ?_; clear hC C; simp only [List.drop, Nat.reduceAdd]) | (refine arun_skip ?_ ?_; (focus (simp [awant]; done))) | (refine AW.regionK [] (fun K hK => ?_)) | (refine AW.regionDK [] (pcs [] []) (by kernel_rfl) (by kernel_rfl) (fun K hK => ?_)) | (refine AW.condT ?_ ?_; (focus (simp [aev]; done))) | (refine AW.condF ?_ ?_; (focus (simp [aev]; done))) | with_reducible refine AW.block ?_ | ((first | ((first | refine arun_nil ?_ | refine arunD_nil ?_); refine hK _ ?_; clear hK K) | refine AW.skip ?_ | refine AW.exit ?_ | refine AW.ret ?_); simp only [wE, if_true, if_false, Nat.reduceEqDiff, reduceIte, endF_ret, endF_normal])))
    exact ⟨.str (wd 6), by simp [ares, aresL, wd], pur_str, fun b hb => by simp [at_str] at hb, rfl⟩
end Go.Proofs.Ytgfnmhfdmmnaoaa.Eng
-- EV: skip
namespace Go.Proofs.Ytgfnmhfdmmnaoaa.Eng
open Go Go.RowKit
attribute [local simp] big size_mk ASt.pay Option.map_map Function.comp_def awant aop acall ado aev ofVal ofVal0 ASt.put ASt.add ASt.turn ASt.kill abox aalloc astore aload aloadD astoreD idOf ASt.at cellsTo afieldAddr afield aindexAddr aindex alen abin aint acmp astr aun apick aextract anil aslice abound abuild afill abuildSlice asCells aps avCells over upd aappend asrc amax amin aconv mkSt slots rowsOf_cons rowsOf_nil usedOf_cons usedOf_nil ZK.av List.replicate ASt.back ASt.addL ASt.killL nodeA nodeT nodeTL_eq nodeL_eq strsE_get strsE_len intsE_get intsE_len strsE_at intsE_at tab2 tab3 tab4 tab5 tab6 tab7 tab8 tab9 tab10 tab11 tab12 tab13 tab14 tab15 tab16 tab17 tab18 tab19 tab21 tab22 tab23 tab24 tab25 tab26 tab27 tab28 tab29 tab30 tab39 tab40 tab41 tab42 tab43 tab47 tab48 tab55 tab56 tab57 tab60 tab61 tab62 tab73 tab74 tab75 tab85 tab92 tab115 tab116 tab143 tab144 tab145 tab154 tab155 tab170 tab175 tab182 tab197 tab198 tab203 tab204 tab205 tab207 tab208 tab209
set_option maxRecDepth 100000
set_option maxHeartbeats 16000000
theorem tupn_in (m : Nd) (b : Bool) : NoId (.tup [nodeA m, .bool b]) := by
  refine in_tup.2 ?_
  simp only [List.forall_mem_cons, List.not_mem_nil, false_implies, implies_true, and_true]
  exact ⟨node_in _, in_bool⟩
theorem o2n_no {o : Opr} (h : o2nB o = false) : o2nN o = Nd.zero := by unfold o2nN; rw [h]; rfl
theorem o2n_yes {o : Opr} (h : o2nB o = true) : o2nN o = opOf o := by unfold o2nN; rw [h]; rfl
theorem specOpToNode_AC (o : Opr) (hv : oprB o = true → Sml o.2.2.2) : AC Try.prog 20 [oprA o] 0 (fun r => r = .tup [nodeA (o2nN o), .bool (o2nB o)]) := by
  refine AC.weak ?_
  have pv := validOp_AC o
  have co := oprA_clo o
  cases hvo : oprB o
  · have hb : o2nB o = false := by unfold o2nB; rw [hvo]; rfl
    rw [hvo] at pv
    unfold oprA at pv co ⊢
    refine AC.of tab_ok mixed_ok Try.func20 (by rfl) (by kernel_rfl) ?_; rintro ⟨P, T, hT, hm, w0, S0, rd0, k0⟩ hP hTT; dsimp only at hP hTT; subst hP hTT; unfold initSt; rw [Try.ntmps20]
    (repeat (first | with_reducible refine AW.seq ?_ | ((first | refine arun_kn 1 rfl (fun C hC => ?_) | refine arunD_kn 1 rfl (fun C hC => ?_)); (repeat ((conv => whnf); simp)); refine hC _ ?_; clear hC C; simp only [List.drop, Nat.reduceAdd]) | (refine arun_skip ?_ ?_; (focus (simp [awant]; done))) | (refine arun_c0 (pv) ?_; rintro _ rfl) | (refine arunD_skip ?_ ?_; (focus (simp [awant]; done))) | (refine AW.regionK [] (fun K hK => ?_)) | (refine AW.regionDK [] (pcs [] []) (by kernel_rfl) (by kernel_rfl) (fun K hK => ?_)) | (refine AW.condT ?_ ?_; (focus (simp [aev]; done))) | (refine AW.condF ?_ ?_; (focus (simp [aev]; done))) | with_reducible refine AW.block ?_ | ((first | ((first | refine arun_nil ?_ | refine arunD_nil ?_); refine hK _ ?_; clear hK K) | refine AW.skip ?_ | refine AW.exit ?_ | refine AW.ret ?_); simp only [wE, if_true, if_false, Nat.reduceEqDiff, reduceIte])))
    exact ⟨.tup [node0 0 0 ⟨#[]⟩, .bool false], by simp [node0, ares, aresL, upd, rowsOf_cons], none_end.1, .tup [nodeA Nd.zero, .bool false], none_end.2, by rw [hb, o2n_no hb]⟩
  replace hv := hv hvo
  rw [hvo] at pv
  obtain ⟨k, hk, k1, k6, hp, hf, hvv⟩ := oprB_parts hvo
  have l1 : o.2.1.length ≤ 5 := by unfold pathB at hp; simp at hp; exact hp.1
  have l2 : o.2.2.1.length ≤ 5 := by unfold pathB at hf; simp at hf; exact hf.1
  have po := opNode_AC o k hk k1 k6 l1 l2 hv
  have pc := specChk (opOf o) true
  have hcM := node_clo (opOf o)
  have hB : o2nB o = validB (opOf o) := by unfold o2nB; rw [hvo]; rfl
  unfold ckN at pc
  cases hvv2 : validB (opOf o)
  · have hb : o2nB o = false := by rw [hB, hvv2]
    rw [hvv2] at pc
    simp only [if_true, Bool.false_eq_true, if_false, reduceIte, optA, Option.getD_none, Option.isSome_none] at pc
    unfold nodeA at po pc hcM
    rw [nodeL_eq] at po pc hcM
    unfold oprA at pv co po ⊢
    generalize opOf o = M at *
    have ez : nodeL Nd.zero = [.int .i64 0, .int .i64 0, .str ⟨#[]⟩, .view .loose 1 [], .view .loose 5 []] := by rw [nodeL_eq]; rfl
    rw [ez] at pc
    refine AC.of tab_ok mixed_ok Try.func20 (by rfl) (by kernel_rfl) ?_; rintro ⟨P, T, hT, hm, w0, S0, rd0, k0⟩ hP hTT; dsimp only at hP hTT; subst hP hTT; unfold initSt; rw [Try.ntmps20]
    (repeat (first | with_reducible refine AW.seq ?_ | ((first | refine arun_kn 1 rfl (fun C hC => ?_) | refine arunD_kn 1 rfl (fun C hC => ?_)); (repeat ((conv => whnf); simp)); refine hC _ ?_; clear hC C; simp only [List.drop, Nat.reduceAdd]) | (refine arun_skip ?_ ?_; (focus (simp [awant]; done))) | (refine arun_c0 (pv) ?_; rintro _ rfl) | (refine arun_c0 (po) ?_; rintro _ rfl) | (refine arun_c0 (pc) ?_; rintro _ rfl) | (refine arunD_skip ?_ ?_; (focus (simp [awant]; done))) | (refine AW.regionK [] (fun K hK => ?_)) | (refine AW.regionDK [] (pcs [] []) (by kernel_rfl) (by kernel_rfl) (fun K hK => ?_)) | (refine AW.condT ?_ ?_; (focus (simp [aev]; done))) | (refine AW.condF ?_ ?_; (focus (simp [aev]; done))) | with_reducible refine AW.block ?_ | ((first | ((first | refine arun_nil ?_ | refine arunD_nil ?_); refine hK _ ?_; clear hK K) | refine AW.skip ?_ | refine AW.exit ?_ | refine AW.ret ?_); simp only [wE, if_true, if_false, Nat.reduceEqDiff, reduceIte])))
    exact ⟨.tup [.agg [.int .i64 0, .int .i64 0, .str ⟨#[]⟩, .view .loose 1 [], .view .loose 5 []], .bool false], by simp [ares, aresL, upd, rowsOf_cons], tup2_pur (by rw [← ez]; exact node_pur Nd.zero) pur_bool, _, Wk.refl _, by rw [hb, o2n_no hb]; unfold nodeA; rw [ez]⟩
  · have hb : o2nB o = true := by rw [hB, hvv2]
    have he := o2n_yes hb
    rw [hvv2] at pc
    simp only [if_true, reduceIte, optA, Option.getD_some, Option.isSome_some] at pc
    unfold nodeA at po pc hcM
    rw [nodeL_eq] at po pc hcM
    unfold oprA at pv co po ⊢
    generalize opOf o = M at *
    refine AC.of tab_ok mixed_ok Try.func20 (by rfl) (by kernel_rfl) ?_; rintro ⟨P, T, hT, hm, w0, S0, rd0, k0⟩ hP hTT; dsimp only at hP hTT; subst hP hTT; unfold initSt; rw [Try.ntmps20]
    (repeat (first | with_reducible refine AW.seq ?_ | ((first | refine arun_kn 1 rfl (fun C hC => ?_) | refine arunD_kn 1 rfl (fun C hC => ?_)); (repeat ((conv => whnf); simp)); refine hC _ ?_; clear hC C; simp only [List.drop, Nat.reduceAdd]) | (refine arun_skip ?_ ?_; (focus (simp [awant]; done))) | (refine arun_c0 (pv) ?_; rintro _ rfl) | (refine arun_c0 (po) ?_; rintro _ rfl) | (refine arun_c0 (pc) ?_; rintro _ rfl) | (refine arunD_skip ?_ ?_; (focus (simp [awant]; done))) | (refine AW.regionK [] (fun K hK => ?_)) | (refine AW.regionDK [] (pcs [] []) (by kernel_rfl) (by kernel_rfl) (fun K hK => ?_)) | (refine AW.condT ?_ ?_; (focus (simp [aev]; done))) | (refine AW.condF ?_ ?_; (focus (simp [aev]; done))) | with_reducible refine AW.block ?_ | ((first | ((first | refine arun_nil ?_ | refine arunD_nil ?_); refine hK _ ?_; clear hK K) | refine AW.skip ?_ | refine AW.exit ?_ | refine AW.ret ?_); simp only [wE, if_true, if_false, Nat.reduceEqDiff, reduceIte])))
    refine ⟨.tup [nodeA M, .bool true], by unfold nodeA; rw [nodeL_eq]; simp [ares, aresL, upd, rowsOf_cons], tup2_pur (node_pur M) pur_bool, _, Wk.refl _, by rw [hb, he]⟩
theorem implChk (m : Nd) : AC Try.prog 72 [nodeA m, .bool true] 0 (fun r => r = optA (ckN m)) := by
  refine AC.weak ?_
  have p1 := ValidNode_AC m .loose
  rw [nodeT_loose] at p1
  have hc := node_clo m
  unfold nodeA at p1 hc ⊢
  rw [nodeL_eq] at p1 hc ⊢
  cases hv : validB m
  · rw [hv] at p1
    have e : ckN m = none := by unfold ckN; rw [hv]; rfl
    refine AC.of tab_ok mixed_ok Try.func72 (by rfl) (by kernel_rfl) ?_; rintro ⟨P, T, hT, hm, w0, S0, rd0, k0⟩ hP hTT; dsimp only at hP hTT; subst hP hTT; unfold initSt; rw [Try.ntmps72]
    (repeat (first | with_reducible refine AW.seq ?_ | ((first | refine arun_kn 1 rfl (fun C hC => ?_) | refine arunD_kn 1 rfl (fun C hC => ?_)); (repeat ((conv => whnf); simp)); refine hC _ ?_; clear hC C; simp only [List.drop, Nat.reduceAdd]) | (refine arun_skip ?_ ?_; (focus (simp [awant]; done))) | (refine arun_c0 (p1) ?_; rintro _ rfl) | (refine arunD_skip ?_ ?_; (focus (simp [awant]; done))) | (refine AW.regionK [] (fun K hK => ?_)) | (refine AW.regionDK [] (pcs [] []) (by kernel_rfl) (by kernel_rfl) (fun K hK => ?_)) | (refine AW.condT ?_ ?_; (focus (simp [aev]; done))) | (refine AW.condF ?_ ?_; (focus (simp [aev]; done))) | with_reducible refine AW.block ?_ | ((first | ((first | refine arun_nil ?_ | refine arunD_nil ?_); refine hK _ ?_; clear hK K) | refine AW.skip ?_ | refine AW.exit ?_ | refine AW.ret ?_); simp only [wE, if_true, if_false, Nat.reduceEqDiff, reduceIte])))
    exact ⟨.tup [node0 0 0 ⟨#[]⟩, .bool false], by simp [node0, ares, aresL, upd, rowsOf_cons], none_end.1, .tup [nodeA Nd.zero, .bool false], none_end.2, by rw [e]; rfl⟩
  · rw [hv] at p1
    have e : ckN m = some m := by unfold ckN; rw [hv]; rfl
    refine AC.of tab_ok mixed_ok Try.func72 (by rfl) (by kernel_rfl) ?_; rintro ⟨P, T, hT, hm, w0, S0, rd0, k0⟩ hP hTT; dsimp only at hP hTT; subst hP hTT; unfold initSt; rw [Try.ntmps72]
    (repeat (first | with_reducible refine AW.seq ?_ | ((first | refine arun_kn 1 rfl (fun C hC => ?_) | refine arunD_kn 1 rfl (fun C hC => ?_)); (repeat ((conv => whnf); simp)); refine hC _ ?_; clear hC C; simp only [List.drop, Nat.reduceAdd]) | (refine arun_skip ?_ ?_; (focus (simp [awant]; done))) | (refine arun_c0 (p1) ?_; rintro _ rfl) | (refine arunD_skip ?_ ?_; (focus (simp [awant]; done))) | (refine AW.regionK [] (fun K hK => ?_)) | (refine AW.regionDK [] (pcs [] []) (by kernel_rfl) (by kernel_rfl) (fun K hK => ?_)) | (refine AW.condT ?_ ?_; (focus (simp [aev]; done))) | (refine AW.condF ?_ ?_; (focus (simp [aev]; done))) | with_reducible refine AW.block ?_ | ((first | ((first | refine arun_nil ?_ | refine arunD_nil ?_); refine hK _ ?_; clear hK K) | refine AW.skip ?_ | refine AW.exit ?_ | refine AW.ret ?_); simp only [wE, if_true, if_false, Nat.reduceEqDiff, reduceIte])))
    exact ⟨.tup [nodeA m, .bool true], by unfold nodeA; rw [nodeL_eq]; simp [ares, aresL, upd, rowsOf_cons], tup2_pur (node_pur m) pur_bool, _, Wk.refl _, by rw [e]; rfl⟩
theorem implOpToNode_AC (o : Opr) (hv : oprB o = true → Sml o.2.2.2) : AC Try.prog 22 [oprA o] 0 (fun r => r = .tup [nodeA (o2nN o), .bool (o2nB o)]) := by
  refine AC.weak ?_
  have pv := isOp_AC o
  have co := oprA_clo o
  cases hvo : oprB o
  · have hb : o2nB o = false := by unfold o2nB; rw [hvo]; rfl
    rw [hvo] at pv
    unfold oprA at pv co ⊢
    refine AC.of tab_ok mixed_ok Try.func22 (by rfl) (by kernel_rfl) ?_; rintro ⟨P, T, hT, hm, w0, S0, rd0, k0⟩ hP hTT; dsimp only at hP hTT; subst hP hTT; unfold initSt; rw [Try.ntmps22]
    (repeat (first | with_reducible refine AW.seq ?_ | ((first | refine arun_kn 1 rfl (fun C hC => ?_) | refine arunD_kn 1 rfl (fun C hC => ?_)); (repeat ((conv => whnf); simp)); refine hC _ ?_; clear hC C; simp only [List.drop, Nat.reduceAdd]) | (refine arun_skip ?_ ?_; (focus (simp [awant]; done))) | (refine arun_c0 (pv) ?_; rintro _ rfl) | (refine arunD_skip ?_ ?_; (focus (simp [awant]; done))) | (refine AW.regionK [] (fun K hK => ?_)) | (refine AW.regionDK [] (pcs [] []) (by kernel_rfl) (by kernel_rfl) (fun K hK => ?_)) | (refine AW.condT ?_ ?_; (focus (simp [aev]; done))) | (refine AW.condF ?_ ?_; (focus (simp [aev]; done))) | with_reducible refine AW.block ?_ | ((first | ((first | refine arun_nil ?_ | refine arunD_nil ?_); refine hK _ ?_; clear hK K) | refine AW.skip ?_ | refine AW.exit ?_ | refine AW.ret ?_); simp only [wE, if_true, if_false, Nat.reduceEqDiff, reduceIte])))
    exact ⟨.tup [node0 0 0 ⟨#[]⟩, .bool false], by simp [node0, ares, aresL, upd, rowsOf_cons], none_end.1, .tup [nodeA Nd.zero, .bool false], none_end.2, by rw [hb, o2n_no hb]⟩
  replace hv := hv hvo
  rw [hvo] at pv
  obtain ⟨k, hk, k1, k6, hp, hf, hvv⟩ := oprB_parts hvo
  have l1 : o.2.1.length ≤ 5 := by unfold pathB at hp; simp at hp; exact hp.1
  have l2 : o.2.2.1.length ≤ 5 := by unfold pathB at hf; simp at hf; exact hf.1
  have pp := pathToNode_AC o.2.1 (by omega)
  have pf := pathToNode_AC o.2.2.1 (by omega)
  have pw := (opWord_ACF k1 k6).toAC
  have pd := implCopy_AC o.2.2.2 hv
  have hcd := node_clo o.2.2.2
  have id := node_in (U := fun _ => false) o.2.2.2
  have i1 := node_in (U := fun _ => false) (stepsN o.2.1)
  have i2 := node_in (U := fun _ => false) (stepsN o.2.2.1)
  have hB : o2nB o = validB (opOf o) := by unfold o2nB; rw [hvo]; rfl
  have eo : opOf o = opNd k o.2.1 o.2.2.1 o.2.2.2 := by unfold opOf; rw [hk]; rfl
  obtain ⟨S1, hS1⟩ : ∃ S1, S1 = stepsN o.2.1 := ⟨_, rfl⟩
  obtain ⟨S2, hS2⟩ : ∃ S2, S2 = stepsN o.2.2.1 := ⟨_, rfl⟩
  rw [← hS1] at pp i1
  rw [← hS2] at pf i2
  obtain ⟨T, hT0⟩ : ∃ T : AV, T = .agg [.int .i64 4, .int .i64 0, .str ⟨#[]⟩, .view .tight 1 [[.str ⟨#[102, 114, 111, 109]⟩], [.str ⟨#[111, 112]⟩], [.str ⟨#[112, 97, 116, 104]⟩], [.str ⟨#[118, 97, 108, 117, 101]⟩]], .view .tight 5 [nodeL S2, [.int .i64 2, .int .i64 0, .str (wd k), .view .tight 0 [], .view .tight 0 []], nodeL S1, nodeL o.2.2.2]] := ⟨_, rfl⟩
  have hwT : Wk T (nodeA (opOf o)) := by
    rw [eo, hT0, hS1, hS2]
    unfold nodeA opNd
    rw [nodeL_eq ⟨4, 0, ⟨#[]⟩, opNms, [stepsN o.2.2.1, wordN (wd k), stepsN o.2.1, o.2.2.2]⟩]
    refine Wk.agg (.cons (Wk.refl _) (.cons (Wk.refl _) (.cons (Wk.refl _) (.cons (Wk.loose (by decide)) (.cons (Wk.view (by decide) ?_) .nil)))))
    refine .cons (WkL.refl _) (.cons ?_ (.cons (WkL.refl _) (.cons (WkL.refl _) .nil)))
    show WkL _ (nodeL (wordN (wd k)))
    rw [nodeL_eq]
    exact .cons (Wk.refl _) (.cons (Wk.refl _) (.cons (Wk.refl _) (.cons (Wk.nil (fun h => by cases h)) (.cons (Wk.nil (fun h => by cases h)) .nil))))
  have pc := AC.arg (bs := [T, .bool true]) (implChk (opOf o)) (.cons hwT (.cons (Wk.refl _) .nil))
  have hcT : Clo T := by
    rw [hT0]
    refine (pur_agg ?_).clo
    have h0 := pur_view (t := .tight) (sz := 0) (es := []) (by decide) (fun e he => by cases he)
    simp only [List.forall_mem_cons, List.not_mem_nil, false_implies, implies_true, and_true]
    refine ⟨pur_int, pur_int, pur_str, pur_view (by decide) (strsE_pur opNms), pur_view (by decide) ?_⟩
    simp only [List.forall_mem_cons, List.not_mem_nil, false_implies, implies_true, and_true]
    exact ⟨nodeL_pur S2, ⟨pur_int, pur_int, pur_str, h0, h0⟩, nodeL_pur S1, nodeL_pur o.2.2.2⟩
  rw [hT0] at pc hcT
  clear hT0 hwT
  unfold ckN at pc
  unfold nodeA at pp pf pd hcd id i1 i2
  rw [nodeL_eq] at pp pf pd hcd id i1 i2
  rw [nodeL_eq S1, nodeL_eq S2, nodeL_eq o.2.2.2] at pc hcT
  unfold oprA at pv co ⊢
  rw [hk] at pv co ⊢
  generalize hM : opOf o = M at *
  cases hvv2 : validB M
  · have hb : o2nB o = false := by rw [hB, hvv2]
    rw [hvv2] at pc
    simp only [Bool.false_eq_true, if_false, reduceIte, optA, Option.getD_none, Option.isSome_none] at pc
    unfold nodeA at pc
    have ez : nodeL Nd.zero = [.int .i64 0, .int .i64 0, .str ⟨#[]⟩, .view .loose 1 [], .view .loose 5 []] := by rw [nodeL_eq]; rfl
    have iz : NoId (.tup [.agg [.int .i64 0, .int .i64 0, .str ⟨#[]⟩, .view .loose 1 [], .view .loose 5 []], .bool false]) := by rw [← ez]; exact tupn_in Nd.zero false
    rw [ez] at pc
    refine AC.of tab_ok mixed_ok Try.func22 (by rfl) (by kernel_rfl) ?_; rintro ⟨P, T, hT, hm, w0, S0, rd0, k0⟩ hP hTT; dsimp only at hP hTT; subst hP hTT; unfold initSt; rw [Try.ntmps22]
    (repeat (first | with_reducible refine AW.seq ?_ | ((first | refine arun_kn 1 rfl (fun C hC => ?_) | refine arunD_kn 1 rfl (fun C hC => ?_)); (repeat ((conv => whnf); simp)); refine hC _ ?_; clear hC C; simp only [List.drop, Nat.reduceAdd]) | (refine arun_skip ?_ ?_; (focus (simp [awant]; done))) | (refine arun_c0 (pv) ?_; rintro _ rfl) | (refine arunD_skip ?_ ?_; (focus (simp [awant]; done))) | (refine AW.regionK [] (fun K hK => ?_)) | (refine AW.condT ?_ ?_; (focus (simp [aev]; done))) | (refine AW.condF ?_ ?_; (focus (simp [aev]; done))) | with_reducible refine AW.block ?_ | ((first | ((first | refine arun_nil ?_ | refine arunD_nil ?_); refine hK _ ?_; clear hK K) | refine AW.skip ?_ | refine AW.exit ?_ | refine AW.ret ?_); simp only [wE, if_true, if_false, Nat.reduceEqDiff, reduceIte])))
    refine AW.regionDK [] (pcs [(3, 0, fun r => r = .agg [.int .i64 S2.kind, .int .i64 S2.num, .str S2.text, .view .loose 1 (strsE S2.names), .view .loose 5 (S2.kids.map nodeL)]), (6, 0, fun r => r = .str (wd k)), (10, 0, fun r => r = .agg [.int .i64 S1.kind, .int .i64 S1.num, .str S1.text, .view .loose 1 (strsE S1.names), .view .loose 5 (S1.kids.map nodeL)]), (13, 0, fun r => r = .agg [.int .i64 o.2.2.2.kind, .int .i64 o.2.2.2.num, .str o.2.2.2.text, .view .loose 1 (strsE o.2.2.2.names), .view .loose 5 (o.2.2.2.kids.map nodeL)]), (16, 0, fun r => r = .tup [.agg [.int .i64 0, .int .i64 0, .str ⟨#[]⟩, .view .loose 1 [], .view .loose 5 []], .bool false])] []) (by kernel_rfl) (by kernel_rfl) (fun K hK => ?_)
    (repeat (first | with_reducible refine AW.seq ?_ | ((first | refine arun_kn 1 rfl (fun C hC => ?_) | refine arunD_kn 1 rfl (fun C hC => ?_)); (repeat ((conv => whnf); simp)); refine hC _ ?_; clear hC C; simp only [List.drop, Nat.reduceAdd]) | (refine arun_skip ?_ ?_; (focus (simp [awant]; done))) | (refine arun_c0 (pf) ?_; rintro _ rfl) | (refine arun_c0 (pw) ?_; rintro _ rfl) | (refine arun_c0 (pp) ?_; rintro _ rfl) | (refine arun_c0 (pd) ?_; rintro _ rfl) | (refine arun_c0 (pc) ?_; rintro _ rfl) | (refine arunD_skip ?_ ?_; (focus (simp [awant]; done))) | (refine arunD_cE (0) (pf) (by exact ⟨_, rfl, i2⟩) ?_; rintro _ rfl; intro _) | (refine arunD_cE (0) (pw) (by exact ⟨_, rfl, in_str⟩) ?_; rintro _ rfl; intro _) | (refine arunD_cE (0) (pp) (by exact ⟨_, rfl, i1⟩) ?_; rintro _ rfl; intro _) | (refine arunD_cE (0) (pd) (by exact ⟨_, rfl, id⟩) ?_; rintro _ rfl; intro _) | (refine arunD_cE (0) (pc) (by exact ⟨_, rfl, iz⟩) ?_; rintro _ rfl; intro _) | (refine AW.regionK [] (fun K hK => ?_)) | (refine AW.regionDK [] (pcs [] []) (by kernel_rfl) (by kernel_rfl) (fun K hK => ?_)) | (refine AW.condT ?_ ?_; (focus (simp [aev]; done))) | (refine AW.condF ?_ ?_; (focus (simp [aev]; done))) | with_reducible refine AW.block ?_ | ((first | ((first | refine arun_nil ?_ | refine arunD_nil ?_); refine hK _ ?_; clear hK K) | refine AW.skip ?_ | refine AW.exit ?_ | refine AW.ret ?_); simp only [wE, if_true, if_false, Nat.reduceEqDiff, reduceIte])))
    exact ⟨.tup [.agg [.int .i64 0, .int .i64 0, .str ⟨#[]⟩, .view .loose 1 [], .view .loose 5 []], .bool false], by simp [ares, aresL, upd, rowsOf_cons], tup2_pur (by rw [← ez]; exact node_pur Nd.zero) pur_bool, _, Wk.refl _, by rw [hb, o2n_no hb]; unfold nodeA; rw [ez]⟩
  · have hb : o2nB o = true := by rw [hB, hvv2]
    have he := o2n_yes hb
    rw [hM] at he
    rw [hvv2] at pc
    simp only [if_true, reduceIte, optA, Option.getD_some, Option.isSome_some] at pc
    unfold nodeA at pc
    have iz : NoId (.tup [.agg (nodeL M), .bool true]) := tupn_in M true
    rw [nodeL_eq M] at pc iz
    refine AC.of tab_ok mixed_ok Try.func22 (by rfl) (by kernel_rfl) ?_; rintro ⟨P, T, hT, hm, w0, S0, rd0, k0⟩ hP hTT; dsimp only at hP hTT; subst hP hTT; unfold initSt; rw [Try.ntmps22]
    (repeat (first | with_reducible refine AW.seq ?_ | ((first | refine arun_kn 1 rfl (fun C hC => ?_) | refine arunD_kn 1 rfl (fun C hC => ?_)); (repeat ((conv => whnf); simp)); refine hC _ ?_; clear hC C; simp only [List.drop, Nat.reduceAdd]) | (refine arun_skip ?_ ?_; (focus (simp [awant]; done))) | (refine arun_c0 (pv) ?_; rintro _ rfl) | (refine arunD_skip ?_ ?_; (focus (simp [awant]; done))) | (refine AW.regionK [] (fun K hK => ?_)) | (refine AW.condT ?_ ?_; (focus (simp [aev]; done))) | (refine AW.condF ?_ ?_; (focus (simp [aev]; done))) | with_reducible refine AW.block ?_ | ((first | ((first | refine arun_nil ?_ | refine arunD_nil ?_); refine hK _ ?_; clear hK K) | refine AW.skip ?_ | refine AW.exit ?_ | refine AW.ret ?_); simp only [wE, if_true, if_false, Nat.reduceEqDiff, reduceIte])))
    refine AW.regionDK [] (pcs [(3, 0, fun r => r = .agg [.int .i64 S2.kind, .int .i64 S2.num, .str S2.text, .view .loose 1 (strsE S2.names), .view .loose 5 (S2.kids.map nodeL)]), (6, 0, fun r => r = .str (wd k)), (10, 0, fun r => r = .agg [.int .i64 S1.kind, .int .i64 S1.num, .str S1.text, .view .loose 1 (strsE S1.names), .view .loose 5 (S1.kids.map nodeL)]), (13, 0, fun r => r = .agg [.int .i64 o.2.2.2.kind, .int .i64 o.2.2.2.num, .str o.2.2.2.text, .view .loose 1 (strsE o.2.2.2.names), .view .loose 5 (o.2.2.2.kids.map nodeL)]), (16, 0, fun r => r = .tup [.agg [.int .i64 M.kind, .int .i64 M.num, .str M.text, .view .loose 1 (strsE M.names), .view .loose 5 (M.kids.map nodeL)], .bool true])] []) (by kernel_rfl) (by kernel_rfl) (fun K hK => ?_)
    (repeat (first | with_reducible refine AW.seq ?_ | ((first | refine arun_kn 1 rfl (fun C hC => ?_) | refine arunD_kn 1 rfl (fun C hC => ?_)); (repeat ((conv => whnf); simp)); refine hC _ ?_; clear hC C; simp only [List.drop, Nat.reduceAdd]) | (refine arun_skip ?_ ?_; (focus (simp [awant]; done))) | (refine arun_c0 (pf) ?_; rintro _ rfl) | (refine arun_c0 (pw) ?_; rintro _ rfl) | (refine arun_c0 (pp) ?_; rintro _ rfl) | (refine arun_c0 (pd) ?_; rintro _ rfl) | (refine arun_c0 (pc) ?_; rintro _ rfl) | (refine arunD_skip ?_ ?_; (focus (simp [awant]; done))) | (refine arunD_cE (0) (pf) (by exact ⟨_, rfl, i2⟩) ?_; rintro _ rfl; intro _) | (refine arunD_cE (0) (pw) (by exact ⟨_, rfl, in_str⟩) ?_; rintro _ rfl; intro _) | (refine arunD_cE (0) (pp) (by exact ⟨_, rfl, i1⟩) ?_; rintro _ rfl; intro _) | (refine arunD_cE (0) (pd) (by exact ⟨_, rfl, id⟩) ?_; rintro _ rfl; intro _) | (refine arunD_cE (0) (pc) (by exact ⟨_, rfl, iz⟩) ?_; rintro _ rfl; intro _) | (refine AW.regionK [] (fun K hK => ?_)) | (refine AW.regionDK [] (pcs [] []) (by kernel_rfl) (by kernel_rfl) (fun K hK => ?_)) | (refine AW.condT ?_ ?_; (focus (simp [aev]; done))) | (refine AW.condF ?_ ?_; (focus (simp [aev]; done))) | with_reducible refine AW.block ?_ | ((first | ((first | refine arun_nil ?_ | refine arunD_nil ?_); refine hK _ ?_; clear hK K) | refine AW.skip ?_ | refine AW.exit ?_ | refine AW.ret ?_); simp only [wE, if_true, if_false, Nat.reduceEqDiff, reduceIte])))
    exact ⟨.tup [nodeA M, .bool true], by unfold nodeA; rw [nodeL_eq]; simp [ares, aresL, upd, rowsOf_cons], tup2_pur (node_pur M) pur_bool, _, Wk.refl _, by rw [hb, he]⟩
end Go.Proofs.Ytgfnmhfdmmnaoaa.Eng
-- EV: fresh
namespace Go.Proofs.Ytgfnmhfdmmnaoaa.Eng
open Go Go.RowKit
attribute [local simp] big size_mk ASt.pay Option.map_map Function.comp_def awant aop acall ado aev ofVal ofVal0 ASt.put ASt.add ASt.turn ASt.kill abox aalloc astore aload aloadD astoreD idOf ASt.at cellsTo afieldAddr afield aindexAddr aindex alen abin aint acmp astr aun apick aextract anil aslice abound abuild afill abuildSlice asCells aps avCells over upd aappend asrc amax amin aconv mkSt slots rowsOf_cons rowsOf_nil usedOf_cons usedOf_nil ZK.av List.replicate ASt.back ASt.addL ASt.killL nodeA nodeT nodeTL_eq nodeL_eq strsE_get strsE_len intsE_get intsE_len strsE_at intsE_at tab2 tab3 tab4 tab5 tab6 tab7 tab8 tab9 tab10 tab11 tab12 tab13 tab14 tab15 tab16 tab17 tab18 tab19 tab21 tab22 tab23 tab24 tab25 tab26 tab27 tab28 tab29 tab30 tab39 tab40 tab41 tab42 tab43 tab47 tab48 tab55 tab56 tab57 tab60 tab61 tab62 tab73 tab74 tab75 tab85 tab92 tab115 tab116 tab143 tab144 tab145 tab154 tab155 tab170 tab175 tab182 tab197 tab198 tab203 tab204 tab205 tab207 tab208 tab209
set_option maxRecDepth 100000
set_option maxHeartbeats 16000000
theorem Wk.viewT {t : VC} {sz : Nat} {es ds : List (List AV)} (he : WkE es ds) : Wk (.view t sz es) (.view t sz ds) := fun _ ρ _ hr => by
  obtain ⟨a, c, h1, h2, h3, h4, h5, h6⟩ := rep_view.1 hr
  refine rep_view.2 ⟨a, c, by rw [he.length]; exact h1, by rw [he.length]; exact h2, by rw [he.length]; exact h3, by rw [he.length]; exact h4, he.sz h5, ?_⟩
  rcases h6 with rfl | ⟨b, o, k1, k2, k3⟩
  · cases he; exact .inl rfl
  · exact .inr ⟨b, o, k1, k2, he.rows k3⟩
def lblW (s : ByteArray) : Lb := ⟨2, 0, s, [], 0, [], 0⟩
def lblS (p : List ByteArray) (g : Nat) : Lb := ⟨3, 0, ⟨#[]⟩, [], 0, p.map lblW, g⟩
theorem lblW_nd (s : ByteArray) : (lblW s).nd = wordN s := by rw [nd_eq]; rfl
theorem lblW_fp (s : ByteArray) : (lblW s).fp = [] := by rw [fp_eq]; simp [lblW, frB_fr]
theorem lblS_nd (p : List ByteArray) (g : Nat) : (lblS p g).nd = stepsN p := by
  rw [nd_eq]
  unfold lblS stepsN
  dsimp only
  rw [List.map_map]
  congr 1
theorem lblS_fp (p : List ByteArray) (g : Nat) : (lblS p g).fp = frB (.fr g) p.isEmpty := by
  rw [fp_eq]
  have h1 : (p.map lblW).flatMap Lb.fp = [] := by
    induction p with
    | nil => rfl
    | cons x xs ih => rw [List.map_cons, List.flatMap_cons, lblW_fp, ih]; rfl
  have h2 : (p.map lblW).isEmpty = p.isEmpty := by cases p <;> rfl
  unfold lblS at *
  simp only [h1, h2, frB_fr, List.isEmpty_nil, if_true, List.nil_append, List.append_nil]
theorem wordT_wkL : ∀ p : List ByteArray, WkE (p.map wordT) ((p.map lblW).map labL)
  | [] => .nil
  | s :: p => .cons (by
      show WkL (wordT s) (labL (lblW s))
      rw [labL_eq]
      exact .cons (Wk.refl _) (.cons (Wk.refl _) (.cons (Wk.refl _) (.cons (Wk.nil (fun h => by cases h)) (.cons (Wk.nil (fun h => by cases h)) .nil))))) (wordT_wkL p)
theorem at_wordT : ∀ p : List ByteArray, atE (p.map wordT) = []
  | [] => by rw [List.map_nil, atE_nil]
  | s :: p => by
    rw [List.map_cons, atE_cons, at_wordT p]
    simp [wordT, atL_cons, atL_nil, at_int, at_str, at_view, atE_nil, frB_tight]
theorem wordT_sub {id m : Nat} {c : AV} (p : List ByteArray) : (p.map wordT).map (AV.subL id m c) = p.map wordT := by
  rw [List.map_map]
  exact List.map_congr_left (fun k _ => by simp [wordT, AV.subL, AV.sub])
theorem pathToNode_ACF (p : List ByteArray) (hp : p.length ≤ 6) : ACF Try.prog 73 [.view .loose 1 (strsE p)] 0 (rLabX (stepsN p)) := by
  refine (ACF.weak (Q := rLab (stepsN p)) ?_).mono (fun r h => rLab_X h)
  refine ACF.of tab_ok mixed_ok Try.func73 (by rfl) (by kernel_rfl) ?_; rintro ⟨P, T, hT, hm, w0, S0, rd0, k0⟩ hP hTT hN; dsimp only at hP hTT hN; subst hP hTT; dsimp only; unfold initSt; rw [Try.ntmps73]
  (repeat (first | with_reducible refine AW.seq ?_ | ((first | refine arun_kn 1 rfl (fun C hC => ?_) | refine arunD_kn 1 rfl (fun C hC => ?_)); (repeat ((conv => whnf); simp)); refine hC _ ?_; clear hC C; simp only [List.drop, Nat.reduceAdd]) | (refine arun_skip ?_ ?_; (focus (simp [awant]; done))) | (refine AW.regionK [] (fun K hK => ?_)) | (refine AW.regionDK [] (pcs [] []) (by kernel_rfl) (by kernel_rfl) (fun K hK => ?_)) | (refine AW.condT ?_ ?_; (focus (simp [aev]; done))) | (refine AW.condF ?_ ?_; (focus (simp [aev]; done))) | with_reducible refine AW.block ?_ | ((first | ((first | refine arun_nil ?_ | refine arunD_nil ?_); refine hK _ ?_; clear hK K) | refine AW.skip ?_ | refine AW.exit ?_ | refine AW.ret ?_); simp only [wE, if_true, if_false, Nat.reduceEqDiff, reduceIte, endF_ret, endF_normal])))
  refine AW.adoptB 3 4 50 30 5 ⟨_, tab30, rfl⟩ (by simp [upd]; rfl) rfl rfl (by simp [upd]) ?_
  simp only [ASt.adoptB]
  refine AW.loopS (fun (i : Nat) => mkSt (slots 0 22 [(2, .ptr true 5 1 2 0 0), (3, .ptr true 5 1 3 0 0), (7, .view .loose 1 (strsE p)), (8, .int .i64 p.length), (9, .int .i64 i)]) [(2, ⟨true, 30, 5, [[.int .i64 0, .int .i64 0, .str ⟨#[]⟩, .view .tight 0 [], .view .tight 0 []]]⟩), (3, ⟨true, 30, 5, [[.int .i64 3, .int .i64 0, .str ⟨#[]⟩, .view .tight 0 [], .own 50 i]]⟩), (50, ⟨false, 30, 5, (p.take i).map wordT⟩)] [2, 3, 50] (rd0.map fun _ => 0)) (fun i => p.length - i) (fun i => i ≤ p.length) 0 ?_ (Nat.zero_le _) ?_
  · exact (less_of (by simp [lessL, mkSt, slots, ASt.adoptB, ASt.add]) (by simp [upd, mkSt, rowsOf_cons, ASt.adoptB, ASt.add]) (by simp [upd, mkSt, usedOf_cons, ASt.adoptB, ASt.add]) (by first | exact rd_less (by omega) | simp [mkSt, ASt.adoptB, ASt.add]) (by simp [slots, in_any, in_int, in_bool, in_str, in_ptr, in_own, in_agg, in_vnil, in_rdr, usedOf_cons, usedOf_nil, strs_in, ints_in, nodes_in, in_tup, ASt.adoptB, ASt.add]) (by simp only [List.forall_mem_cons, List.not_mem_nil, false_implies, implies_true, and_true, true_and, ASt.adoptB, ASt.add]; (repeat (first | with_reducible exact trivial | with_reducible refine And.intro ?_ ?_ | with_reducible exact in_int | with_reducible exact in_str | with_reducible exact in_bool | with_reducible exact strs_in _ | with_reducible exact nodes_in _ | with_reducible exact items_in _ | with_reducible exact in_vnil | with_reducible exact in_any | exact hin _ | with_reducible refine take_in ?_ | with_reducible exact strsE_in _ | with_reducible exact nodesE_in _ | with_reducible exact nodeL_in _ | with_reducible exact itemsE_in _ | with_reducible exact itemL_in _ | with_reducible refine app_in ?_ ?_ | with_reducible refine sing_in ?_ | (focus (simp [in_any, in_int, in_bool, in_str, in_ptr, in_own, in_agg, in_vnil, in_rdr, usedOf_cons, usedOf_nil, strs_in, ints_in, nodes_in, ASt.adoptB, ASt.add]; done)))); done))
  intro i hi
  have hl : ((p.take i).map wordT).length = i := by simp; omega
  by_cases hlt : i < p.length
  · have hw : IntKind.i64.wrap ((i : Int) + 1) = (i : Int) + 1 := i64_nat (by omega) (by omega)
    have hlt' : (i : Int) < (p.length : Int) := by omega
    have hb1 : (i + 1) * 80 ≤ 140737488355328 := by omega
    have hb2 : i + 1 ≤ 140737488355328 := by omega
    have htk : p.take (i + 1) = p.take i ++ [p[i]] := take_snoc' _ _ hlt
    obtain ⟨Ks, hK⟩ : ∃ Ks, Ks = (p.take i).map wordT := ⟨_, rfl⟩
    rw [← hK] at hl ⊢
    (repeat (first | with_reducible refine AW.seq ?_ | ((first | refine arun_kn 1 rfl (fun C hC => ?_) | refine arunD_kn 1 rfl (fun C hC => ?_)); (repeat ((conv => whnf); simp [hlt, hlt', hw, hl, hb1, hb2, strsE_len])); refine hC _ ?_; clear hC C; simp only [List.drop, Nat.reduceAdd]) | (refine arun_skip ?_ ?_; (focus (simp [awant, hlt, hlt', hw, hl, hb1, hb2, strsE_len]; done))) | (refine AW.regionK [] (fun K hK => ?_)) | (refine AW.regionDK [] (pcs [] []) (by kernel_rfl) (by kernel_rfl) (fun K hK => ?_)) | (refine AW.condT ?_ ?_; (focus (simp [aev, hlt, hlt', hw, hl, hb1, hb2, strsE_len]; done))) | (refine AW.condF ?_ ?_; (focus (simp [aev, hlt, hlt', hw, hl, hb1, hb2, strsE_len]; done))) | with_reducible refine AW.block ?_ | ((first | ((first | refine arun_nil ?_ | refine arunD_nil ?_); refine hK _ ?_; clear hK K) | refine AW.skip ?_ | refine AW.exit ?_ | refine AW.ret ?_); simp only [wE, if_true, if_false, Nat.reduceEqDiff, reduceIte, endF_ret, endF_normal])))
    refine ⟨i + 1, by omega, by omega, ?_⟩
    have hin : ∀ U : Nat → Bool, ∀ e ∈ (p.take (i + 1)).map wordT, ∀ c ∈ e, AV.In U c := fun U => wordT_in _
    rw [htk, List.map_append, ← hK] at hin ⊢
    have e1 : List.map wordT [p[i]] = [[.int .i64 2, .int .i64 0, .str p[i], .view .tight 0 [], .view .tight 0 []]] := rfl
    rw [e1] at hin ⊢
    exact less_a
  · obtain rfl : i = p.length := by omega
    rw [List.take_length] at hl ⊢
    have hsub : ∀ (id m : Nat) (c : AV), (p.map wordT).map (AV.subL id m c) = p.map wordT := fun id m c => wordT_sub p
    have hat := at_wordT p
    have hwk := wordT_wkL p
    have hpu := wordT_pur p
    have hem : (p.map wordT).isEmpty = p.isEmpty := by cases p <;> rfl
    obtain ⟨Ks, hK⟩ : ∃ Ks, Ks = p.map wordT := ⟨_, rfl⟩
    rw [← hK] at hl hsub hat hwk hpu hem ⊢
    (repeat (first | with_reducible refine AW.seq ?_ | ((first | refine arun_kn 1 rfl (fun C hC => ?_) | refine arunD_kn 1 rfl (fun C hC => ?_)); (repeat ((conv => whnf); simp)); refine hC _ ?_; clear hC C; simp only [List.drop, Nat.reduceAdd]) | (refine arun_skip ?_ ?_; (focus (simp [awant]; done))) | (refine AW.condT ?_ ?_; (focus (simp [aev]; done))) | (refine AW.condF ?_ ?_; (focus (simp [aev]; done))) | with_reducible refine AW.block ?_ | ((first | ((first | refine arun_nil ?_ | refine arunD_nil ?_); refine hK _ ?_; clear hK K) | refine AW.skip ?_ | refine AW.exit ?_ | refine AW.ret ?_); simp only [wE, if_true, if_false, Nat.reduceEqDiff, reduceIte, endF_ret, endF_normal])))
    refine AW.regionK [] (fun K hK => ?_)
    (repeat (first | with_reducible refine AW.seq ?_ | ((first | refine arun_kn 1 rfl (fun C hC => ?_) | refine arunD_kn 1 rfl (fun C hC => ?_)); (repeat ((conv => whnf); simp [hlt, strsE_len])); refine hC _ ?_; clear hC C; simp only [List.drop, Nat.reduceAdd]) | (refine arun_skip ?_ ?_; (focus (simp [awant, hlt, strsE_len]; done))) | (refine AW.condT ?_ ?_; (focus (simp [aev, hlt, strsE_len]; done))) | (refine AW.condF ?_ ?_; (focus (simp [aev, hlt, strsE_len]; done))) | with_reducible refine AW.block ?_ | ((first | ((first | refine arun_nil ?_ | refine arunD_nil ?_); refine hK _ ?_; clear hK K) | refine AW.skip ?_ | refine AW.exit ?_ | refine AW.ret ?_); simp only [wE, if_true, if_false, Nat.reduceEqDiff, reduceIte, endF_ret, endF_normal])))
    refine AW.holdF 50 hN (fun g hg ht hr => ?_)
    clear ht hr
    (repeat (first | with_reducible refine AW.seq ?_ | ((first | refine arun_kn 1 rfl (fun C hC => ?_) | refine arunD_kn 1 rfl (fun C hC => ?_)); (repeat ((conv => whnf); simp [ASt.holdF, AV.subL, AV.sub, Row.sub, rowsOf_cons, upd, hl, hsub])); refine hC _ ?_; clear hC C; simp only [List.drop, Nat.reduceAdd]) | (refine arun_skip ?_ ?_; (focus (simp [awant, ASt.holdF, AV.subL, AV.sub, Row.sub, rowsOf_cons, upd, hl, hsub]; done))) | (refine AW.regionK [] (fun K hK => ?_)) | (refine AW.regionDK [] (pcs [] []) (by kernel_rfl) (by kernel_rfl) (fun K hK => ?_)) | (refine AW.condT ?_ ?_; (focus (simp [aev, ASt.holdF, AV.subL, AV.sub, Row.sub, rowsOf_cons, upd, hl, hsub]; done))) | (refine AW.condF ?_ ?_; (focus (simp [aev, ASt.holdF, AV.subL, AV.sub, Row.sub, rowsOf_cons, upd, hl, hsub]; done))) | with_reducible refine AW.block ?_ | ((first | ((first | refine arun_nil ?_ | refine arunD_nil ?_); refine hK _ ?_; clear hK K) | refine AW.skip ?_ | refine AW.exit ?_ | refine AW.ret ?_); simp only [wE, if_true, if_false, Nat.reduceEqDiff, reduceIte, endF_ret, endF_normal])))
    have hfp : ∀ b ∈ frB (.fr g) p.isEmpty, w0.wd.heap.size ≤ b := fun b hb => by
      rw [frB_fr] at hb
      split at hb <;> simp at hb
      rw [hb]; exact hg
    have hat2 : atB (.agg [.int .i64 3, .int .i64 0, .str ⟨#[]⟩, .view .tight 0 [], .view (.fr g) 5 Ks]) = frB (.fr g) p.isEmpty := by
      rw [at_agg]
      simp only [atL_cons, atL_nil, at_int, at_str, at_view, atE_nil, frB_tight, hat, hem, List.nil_append, List.append_nil]
    refine ⟨.agg [.int .i64 3, .int .i64 0, .str ⟨#[]⟩, .view .tight 0 [], .view (.fr g) 5 Ks], by simp [ares, aresL, upd, rowsOf_cons, hl, hsub], pur_agg ?_, fun b hb => hfp b (by rw [hat2] at hb; exact hb), labA (lblS p g), ?_, fun b hb => by rw [at_lab, lblS_fp] at hb; rw [hat2]; exact hb, lblS p g, lblS_nd p g, ?_, rfl⟩
    · have h0 : Pur (.view .tight 0 []) := pur_view (by decide) (fun e he => by cases he)
      simp only [List.forall_mem_cons, List.not_mem_nil, false_implies, implies_true, and_true]
      exact ⟨pur_int, pur_int, pur_str, h0, pur_view (t := .fr g) (by simp) hpu⟩
    · unfold labA
      rw [labL_eq]
      exact Wk.agg (.cons (Wk.refl _) (.cons (Wk.refl _) (.cons (Wk.refl _) (.cons (Wk.nil (fun h => by cases h)) (.cons (Wk.viewT hwk) .nil)))))
    · rw [lblS_fp, frB_fr]; split <;> simp
theorem implChkL (l : Lb) (hv : validB l.nd = true) : AC Try.prog 72 [labA l, .bool true] 0 (fun r => r = .tup [labA l, .bool true]) := by
  have p1 := ValidNode_AC l.nd .loose
  rw [nodeT_loose, hv] at p1
  replace p1 := AC.arg (bs := [labA l]) p1 (.cons (Wk.agg (labL_wk l)) .nil)
  have hc := lab_clo l
  unfold labA at p1 hc ⊢
  rw [labL_eq] at p1 hc ⊢
  refine AC.of tab_ok mixed_ok Try.func72 (by rfl) (by kernel_rfl) ?_; rintro ⟨P, T, hT, hm, w0, S0, rd0, k0⟩ hP hTT; dsimp only at hP hTT; subst hP hTT; unfold initSt; rw [Try.ntmps72]
  (repeat (first | with_reducible refine AW.seq ?_ | ((first | refine arun_kn 1 rfl (fun C hC => ?_) | refine arunD_kn 1 rfl (fun C hC => ?_)); (repeat ((conv => whnf); simp)); refine hC _ ?_; clear hC C; simp only [List.drop, Nat.reduceAdd]) | (refine arun_skip ?_ ?_; (focus (simp [awant]; done))) | (refine arun_c0 (p1) ?_; rintro _ rfl) | (refine AW.regionK [] (fun K hK => ?_)) | (refine AW.regionDK [] (pcs [] []) (by kernel_rfl) (by kernel_rfl) (fun K hK => ?_)) | (refine AW.condT ?_ ?_; (focus (simp [aev]; done))) | (refine AW.condF ?_ ?_; (focus (simp [aev]; done))) | with_reducible refine AW.block ?_ | ((first | ((first | refine arun_nil ?_ | refine arunD_nil ?_); refine hK _ ?_; clear hK K) | refine AW.skip ?_ | refine AW.exit ?_ | refine AW.ret ?_); simp only [wE, if_true, if_false, Nat.reduceEqDiff, reduceIte, endF_ret, endF_normal])))
  exact ⟨.tup [labA l, .bool true], by unfold labA; rw [labL_eq]; simp [ares, aresL, upd, rowsOf_cons], tup2_pur (lab_pur l) pur_bool, by unfold labA; rw [labL_eq]⟩
end Go.Proofs.Ytgfnmhfdmmnaoaa.Eng
-- EV: fresh
namespace Go.Proofs.Ytgfnmhfdmmnaoaa.Eng
open Go Go.RowKit
attribute [local simp] big size_mk ASt.pay Option.map_map Function.comp_def awant aop acall ado aev ofVal ofVal0 ASt.put ASt.add ASt.turn ASt.kill abox aalloc astore aload aloadD astoreD idOf ASt.at cellsTo afieldAddr afield aindexAddr aindex alen abin aint acmp astr aun apick aextract anil aslice abound abuild afill abuildSlice asCells aps avCells over upd aappend asrc amax amin aconv mkSt slots rowsOf_cons rowsOf_nil usedOf_cons usedOf_nil ZK.av List.replicate ASt.back ASt.addL ASt.killL nodeA nodeT nodeTL_eq nodeL_eq strsE_get strsE_len intsE_get intsE_len strsE_at intsE_at tab2 tab3 tab4 tab5 tab6 tab7 tab8 tab9 tab10 tab11 tab12 tab13 tab14 tab15 tab16 tab17 tab18 tab19 tab21 tab22 tab23 tab24 tab25 tab26 tab27 tab28 tab29 tab30 tab39 tab40 tab41 tab42 tab43 tab47 tab48 tab55 tab56 tab57 tab60 tab61 tab62 tab73 tab74 tab75 tab85 tab92 tab115 tab116 tab143 tab144 tab145 tab154 tab155 tab170 tab175 tab182 tab197 tab198 tab203 tab204 tab205 tab207 tab208 tab209
set_option maxRecDepth 100000
set_option maxHeartbeats 16000000
theorem nat_bnd : ∀ l : List Nat, ∃ B, ∀ b ∈ l, b < B
  | [] => ⟨0, fun b hb => by cases hb⟩
  | x :: l => by
    obtain ⟨B, hB⟩ := nat_bnd l
    refine ⟨max B (x + 1), fun b hb => ?_⟩
    rcases List.mem_cons.1 hb with rfl | hb
    · omega
    · have := hB b hb; omega
theorem rLabX_out (n : Nd) {Av : Nat → Prop} {N : Nat} (hN : ∀ b, Av b → b < N) : ∀ L : List Nat, ∃ r, rLabX n r ∧ NoId r ∧ ∀ b ∈ atB r, b ∉ L ∧ ¬ Av b := fun L => by
  obtain ⟨B, hB⟩ := nat_bnd L
  obtain ⟨l, M, h1, h2, _, h4⟩ := lab_ex n (max N B)
  refine ⟨labA l, rLab_X ⟨l, h1, h2, rfl⟩, lab_in l, fun b hb => ?_⟩
  rw [at_lab] at hb
  have := (h4 b hb).1
  exact ⟨fun h => by have := hB b h; omega, fun h => by have := hN b h; omega⟩
def rFin (A : Nat → Prop) (m : Nd) (r : AV) : Prop := ∃ l : Lb, l.nd = m ∧ l.fp.Nodup ∧ (∀ b ∈ l.fp, ¬ A b) ∧ r = .tup [.agg [.int .i64 l.kind, .int .i64 l.num, .str l.text, .view (.fr l.nb) 1 (strsE l.names), .view (.fr l.kb) 5 (l.kids.map labL)], .bool true]
theorem rFin_ex (m : Nd) {A : Nat → Prop} {N : Nat} (hN : ∀ b, A b → b < N) : ∃ r, rFin A m r ∧ NoId r := by
  obtain ⟨l, M, h1, h2, _, h4⟩ := lab_ex m N
  refine ⟨.tup [labA l, .bool true], ⟨l, h1, h2, fun b hb h => by have := (h4 b hb).1; have := hN b h; omega, by unfold labA; rw [labL_eq]⟩, in_tup.2 ?_⟩
  simp only [List.forall_mem_cons, List.not_mem_nil, false_implies, implies_true, and_true]
  exact ⟨lab_in l, in_bool⟩
theorem at_cells (l : Lb) : atB (.agg [.int .i64 l.kind, .int .i64 l.num, .str l.text, .view (.fr l.nb) 1 (strsE l.names), .view (.fr l.kb) 5 (l.kids.map labL)]) = l.fp := by rw [← labL_eq]; exact at_lab l
def lblO (k : Nat) (l1 l2 l3 : Lb) (g h : Nat) : Lb := ⟨4, 0, ⟨#[]⟩, opNms, g, [l2, lblW (wd k), l1, l3], h⟩
theorem lblO_nd {k : Nat} {l1 l2 l3 : Lb} {g h : Nat} {o : Opr} (ho : o.1 = (k : Int)) (h1 : l1.nd = stepsN o.2.1) (h2 : l2.nd = stepsN o.2.2.1) (h3 : l3.nd = o.2.2.2) : (lblO k l1 l2 l3 g h).nd = opOf o := by
  rw [nd_eq]
  unfold lblO opOf opNd
  simp only [List.map_cons, List.map_nil, h1, h2, h3, lblW_nd, ho, Int.toNat_natCast]
theorem lblO_fp (k : Nat) (l1 l2 l3 : Lb) (g h : Nat) : (lblO k l1 l2 l3 g h).fp = g :: h :: (l2.fp ++ (l1.fp ++ l3.fp)) := by
  rw [fp_eq]
  simp [lblO, frB_fr, lblW_fp, opNms]
def lblT (k : Nat) (l1 l2 l3 : Lb) (g h : Nat) : AV := .agg [.int .i64 4, .int .i64 0, .str ⟨#[]⟩, .view (.fr g) 1 [[.str ⟨#[102, 114, 111, 109]⟩], [.str ⟨#[111, 112]⟩], [.str ⟨#[112, 97, 116, 104]⟩], [.str ⟨#[118, 97, 108, 117, 101]⟩]], .view (.fr h) 5 [[.int .i64 l2.kind, .int .i64 l2.num, .str l2.text, .view (.fr l2.nb) 1 (strsE l2.names), .view (.fr l2.kb) 5 (l2.kids.map labL)], [.int .i64 2, .int .i64 0, .str (wd k), .view .tight 0 [], .view .tight 0 []], [.int .i64 l1.kind, .int .i64 l1.num, .str l1.text, .view (.fr l1.nb) 1 (strsE l1.names), .view (.fr l1.kb) 5 (l1.kids.map labL)], [.int .i64 l3.kind, .int .i64 l3.num, .str l3.text, .view (.fr l3.nb) 1 (strsE l3.names), .view (.fr l3.kb) 5 (l3.kids.map labL)]]]
theorem lblO_wk (k : Nat) (l1 l2 l3 : Lb) (g h : Nat) : Wk (lblT k l1 l2 l3 g h) (labA (lblO k l1 l2 l3 g h)) := by
  unfold labA lblT
  rw [labL_eq (lblO k l1 l2 l3 g h), ← labL_eq l1, ← labL_eq l2, ← labL_eq l3]
  refine Wk.agg (.cons (Wk.refl _) (.cons (Wk.refl _) (.cons (Wk.refl _) (.cons (Wk.refl _) (.cons (Wk.viewT ?_) .nil)))))
  refine .cons (WkL.refl _) (.cons ?_ (.cons (WkL.refl _) (.cons (WkL.refl _) .nil)))
  show WkL _ (labL (lblW (wd k)))
  rw [labL_eq]
  exact .cons (Wk.refl _) (.cons (Wk.refl _) (.cons (Wk.refl _) (.cons (Wk.nil (fun h => by cases h)) (.cons (Wk.nil (fun h => by cases h)) .nil))))
theorem labc_pur (l : Lb) : ∀ c ∈ [AV.int .i64 l.kind, .int .i64 l.num, .str l.text, .view (.fr l.nb) 1 (strsE l.names), .view (.fr l.kb) 5 (l.kids.map labL)], Pur c := by rw [← labL_eq]; exact labL_pur l
theorem labc_in (l : Lb) {U : Nat → Bool} : ∀ c ∈ [AV.int .i64 l.kind, .int .i64 l.num, .str l.text, .view (.fr l.nb) 1 (strsE l.names), .view (.fr l.kb) 5 (l.kids.map labL)], AV.In U c := by rw [← labL_eq]; exact labL_in l
theorem labc_word (t : ByteArray) : ∀ c ∈ [AV.int .i64 2, .int .i64 0, .str t, .view .tight 0 [], .view .tight 0 []], Pur c ∧ NoId c := by
  have h0 : Pur (.view .tight 0 []) := pur_view (by decide) (fun e he => by cases he)
  simp only [List.forall_mem_cons, List.not_mem_nil, false_implies, implies_true, and_true]
  exact ⟨⟨pur_int, in_int⟩, ⟨pur_int, in_int⟩, ⟨pur_str, in_str⟩, ⟨h0, in_vnil⟩, h0, in_vnil⟩
theorem lblT_clo (k : Nat) (l1 l2 l3 : Lb) (g h : Nat) : Clo (lblT k l1 l2 l3 g h) := by
  unfold lblT
  refine (pur_agg ?_).clo
  simp only [List.forall_mem_cons, List.not_mem_nil, false_implies, implies_true, and_true]
  refine ⟨pur_int, pur_int, pur_str, pur_view (t := .fr g) (by simp) (strsE_pur opNms), pur_view (t := .fr h) (by simp) (fun e he => ?_)⟩
  simp only [List.mem_cons, List.not_mem_nil, or_false] at he
  rcases he with rfl | rfl | rfl | rfl
  · exact labc_pur l2
  · exact fun c hc => (labc_word _ c hc).1
  · exact labc_pur l1
  · exact labc_pur l3
theorem labc_at (l : Lb) : atL [AV.int .i64 l.kind, .int .i64 l.num, .str l.text, .view (.fr l.nb) 1 (strsE l.names), .view (.fr l.kb) 5 (l.kids.map labL)] = l.fp := by rw [← labL_eq]; rfl
theorem implOpToNode_ACF (o : Opr) : ACF Try.prog 22 [oprA o] 0 (rNB (o2nN o) (o2nB o)) := by
  have ez : nodeL Nd.zero = [.int .i64 0, .int .i64 0, .str ⟨#[]⟩, .view .loose 1 [], .view .loose 5 []] := by rw [nodeL_eq]; rfl
  have hat : atB (.tup [nodeA Nd.zero, .bool false]) = [] := by
    unfold nodeA
    rw [ez]
    simp [at_tup, at_agg, atL_cons, atL_nil, at_int, at_str, at_view, atE_nil, frB_loose, at_bool]
  cases hb : o2nB o
  · refine ACF.weak (((implOpToNode_AC o (fun h => ?_)).toF (fun r hr => ?_)).mono (fun r hr => ?_))
    · obtain ⟨k, hk, k1, k6, hp, hf, hvv⟩ := oprB_parts h
      exact (Shp.of hvv).sml
    · rw [hr, hb, o2n_no hb]; exact hat
    · rw [hr, hb, o2n_no hb]
      refine ⟨.tup [labA ⟨0, 0, ⟨#[]⟩, [], 0, [], 0⟩, .bool false], Wk.tup (.cons ?_ (.cons (Wk.refl _) .nil)), fun b hb => ?_, ⟨0, 0, ⟨#[]⟩, [], 0, [], 0⟩, by rw [nd_eq]; rfl, by rw [fp_eq]; simp [frB_fr], rfl⟩
      · unfold nodeA labA
        rw [ez, labL_eq]
        exact Wk.agg (.cons (Wk.refl _) (.cons (Wk.refl _) (.cons (Wk.refl _) (.cons (Wk.nil (fun h => by cases h)) (.cons (Wk.nil (fun h => by cases h)) .nil)))))
      · rw [at_tup2, fp_eq] at hb; simp [frB_fr] at hb
  have hvo : oprB o = true := by
    unfold o2nB at hb
    rw [Bool.and_eq_true] at hb
    exact hb.1
  have hvv2 : validB (opOf o) = true := by
    unfold o2nB at hb
    rw [Bool.and_eq_true] at hb
    exact hb.2
  refine ACF.weak ?_
  have pv := isOp_AC o
  have co := oprA_clo o
  rw [hvo] at pv
  obtain ⟨k, hk, k1, k6, hp, hf, hvv⟩ := oprB_parts hvo
  have hv : Sml o.2.2.2 := (Shp.of hvv).sml
  have l1 : o.2.1.length ≤ 5 := by unfold pathB at hp; simp at hp; exact hp.1
  have l2 : o.2.2.1.length ≤ 5 := by unfold pathB at hf; simp at hf; exact hf.1
  have pp := pathToNode_ACF o.2.1 (by omega)
  have pf := pathToNode_ACF o.2.2.1 (by omega)
  have pw := opWord_ACF k1 k6
  have pd := implCopyF_ACF o.2.2.2 hv
  have hcd := node_clo o.2.2.2
  have he := o2n_yes hb
  have hnd := fun (l1 l2 l3 : Lb) (g h : Nat) => lblO_nd (k := k) (l1 := l1) (l2 := l2) (l3 := l3) (g := g) (h := h) hk
  unfold nodeA at pd hcd
  rw [nodeL_eq] at pd hcd
  unfold oprA at pv co ⊢
  rw [hk] at pv co ⊢
  generalize opOf o = M at *
  generalize stepsN o.2.1 = S1 at *
  generalize stepsN o.2.2.1 = S2 at *
  refine ACF.of tab_ok mixed_ok Try.func22 (by rfl) (by kernel_rfl) ?_; rintro ⟨P, T, hT, hm, w0, S0, rd0, k0⟩ hP hTT hN; dsimp only at hP hTT hN; subst hP hTT; dsimp only; unfold initSt; rw [Try.ntmps22]
  (repeat (first | with_reducible refine AW.seq ?_ | ((first | refine arun_kn 1 rfl (fun C hC => ?_) | refine arunD_kn 1 rfl (fun C hC => ?_)); (repeat ((conv => whnf); simp)); refine hC _ ?_; clear hC C; simp only [List.drop, Nat.reduceAdd]) | (refine arun_skip ?_ ?_; (focus (simp [awant]; done))) | (refine arun_c0 (pv) ?_; rintro _ rfl) | (refine AW.regionK [] (fun K hK => ?_)) | (refine AW.condT ?_ ?_; (focus (simp [aev]; done))) | (refine AW.condF ?_ ?_; (focus (simp [aev]; done))) | with_reducible refine AW.block ?_ | ((first | ((first | refine arun_nil ?_ | refine arunD_nil ?_); refine hK _ ?_; clear hK K) | refine AW.skip ?_ | refine AW.exit ?_ | refine AW.ret ?_); simp only [wE, if_true, if_false, Nat.reduceEqDiff, reduceIte, endF_ret, endF_normal])))
  refine AW.bound (fun N hNb => ?_)
  refine AW.regionDK [] (pcs [(3, 0, rLabX S2), (6, 0, fun r => r = .str (wd k)), (10, 0, rLabX S1), (13, 0, rLabX o.2.2.2), (16, 0, rFin w0.A M)] [0, 2000, 3, 2003, 6, 2006, 10, 2010, 13, 2013, 14, 2014, 10008, 10011, 10014, 10018, 10021, 10022]) (by kernel_rfl) (by kernel_rfl) (fun K hK => ?_)
  refine arunD_fbuild 8 rfl (by simp [awant]) rfl rfl ⟨_, rfl, at_any⟩ (by simp; exact ⟨rfl, rfl⟩) (by simp) (by simp only [List.forall_mem_cons, List.not_mem_nil, false_implies, implies_true, and_true]; exact ⟨in_str, in_str, in_str, in_str⟩) (fun b hb => by simp [atE_cons, atE_nil, atL_cons, atL_nil, at_str] at hb) ⟨N, hNb⟩ (fun g0 hg0 => ?_)
  have F0 : ¬ w0.A g0 := (hg0 g0 (by simp)).1
  clear hg0
  (repeat (first | with_reducible refine AW.seq ?_ | ((first | refine arun_kn 1 rfl (fun C hC => ?_) | refine arunD_kn 1 rfl (fun C hC => ?_)); (repeat ((conv => whnf); simp)); refine hC _ ?_; clear hC C; simp only [List.drop, Nat.reduceAdd]) | (refine arun_skip ?_ ?_; (focus (simp [awant]; done))) | (refine AW.regionK [] (fun K hK => ?_)) | (refine AW.condT ?_ ?_; (focus (simp [aev]; done))) | (refine AW.condF ?_ ?_; (focus (simp [aev]; done))) | with_reducible refine AW.block ?_ | ((first | ((first | refine arun_nil ?_ | refine arunD_nil ?_); refine hK _ ?_; clear hK K) | refine AW.skip ?_ | refine AW.exit ?_ | refine AW.ret ?_); simp only [wE, if_true, if_false, Nat.reduceEqDiff, reduceIte, endF_ret, endF_normal])))
  refine arunD_fF 11 pf (rLabX_out S2 hNb) (fun r hr hf2 => ?_)
  obtain ⟨m2, e2, d2, rfl⟩ := hr
  rw [at_cells] at hf2
  have F2 : ∀ b ∈ m2.fp, ¬ w0.A b ∧ b ≠ g0 := fun b hb => ⟨(hf2 b hb).1, fun h => (hf2 b hb).2 8 _ rfl (by decide) rfl (by rw [h]; simp [at_view, frB_fr])⟩
  clear hf2
  (repeat (first | with_reducible refine AW.seq ?_ | ((first | refine arun_kn 1 rfl (fun C hC => ?_) | refine arunD_kn 1 rfl (fun C hC => ?_)); (repeat ((conv => whnf); simp)); refine hC _ ?_; clear hC C; simp only [List.drop, Nat.reduceAdd]) | (refine arun_skip ?_ ?_; (focus (simp [awant]; done))) | (refine AW.regionK [] (fun K hK => ?_)) | (refine AW.condT ?_ ?_; (focus (simp [aev]; done))) | (refine AW.condF ?_ ?_; (focus (simp [aev]; done))) | with_reducible refine AW.block ?_ | ((first | ((first | refine arun_nil ?_ | refine arunD_nil ?_); refine hK _ ?_; clear hK K) | refine AW.skip ?_ | refine AW.exit ?_ | refine AW.ret ?_); simp only [wE, if_true, if_false, Nat.reduceEqDiff, reduceIte, endF_ret, endF_normal])))
  refine arunD_fF 14 pw (fun L => ⟨_, rfl, in_str, fun b hb => by rw [at_str] at hb; cases hb⟩) (fun r hr _ => ?_)
  subst hr
  (repeat (first | with_reducible refine AW.seq ?_ | ((first | refine arun_kn 1 rfl (fun C hC => ?_) | refine arunD_kn 1 rfl (fun C hC => ?_)); (repeat ((conv => whnf); simp)); refine hC _ ?_; clear hC C; simp only [List.drop, Nat.reduceAdd]) | (refine arun_skip ?_ ?_; (focus (simp [awant]; done))) | (refine AW.regionK [] (fun K hK => ?_)) | (refine AW.condT ?_ ?_; (focus (simp [aev]; done))) | (refine AW.condF ?_ ?_; (focus (simp [aev]; done))) | with_reducible refine AW.block ?_ | ((first | ((first | refine arun_nil ?_ | refine arunD_nil ?_); refine hK _ ?_; clear hK K) | refine AW.skip ?_ | refine AW.exit ?_ | refine AW.ret ?_); simp only [wE, if_true, if_false, Nat.reduceEqDiff, reduceIte, endF_ret, endF_normal])))
  refine arunD_fF 18 pp (rLabX_out S1 hNb) (fun r hr hf1 => ?_)
  obtain ⟨m1, e1, d1, rfl⟩ := hr
  rw [at_cells] at hf1
  have F1 : ∀ b ∈ m1.fp, ¬ w0.A b ∧ b ≠ g0 ∧ b ∉ m2.fp := fun b hb => ⟨(hf1 b hb).1, fun h => (hf1 b hb).2 8 _ rfl (by decide) rfl (by rw [h]; simp [at_view, frB_fr]), fun h => (hf1 b hb).2 11 _ rfl (by decide) rfl (by rw [at_cells]; exact h)⟩
  clear hf1
  (repeat (first | with_reducible refine AW.seq ?_ | ((first | refine arun_kn 1 rfl (fun C hC => ?_) | refine arunD_kn 1 rfl (fun C hC => ?_)); (repeat ((conv => whnf); simp)); refine hC _ ?_; clear hC C; simp only [List.drop, Nat.reduceAdd]) | (refine arun_skip ?_ ?_; (focus (simp [awant]; done))) | (refine AW.regionK [] (fun K hK => ?_)) | (refine AW.condT ?_ ?_; (focus (simp [aev]; done))) | (refine AW.condF ?_ ?_; (focus (simp [aev]; done))) | with_reducible refine AW.block ?_ | ((first | ((first | refine arun_nil ?_ | refine arunD_nil ?_); refine hK _ ?_; clear hK K) | refine AW.skip ?_ | refine AW.exit ?_ | refine AW.ret ?_); simp only [wE, if_true, if_false, Nat.reduceEqDiff, reduceIte, endF_ret, endF_normal])))
  refine arunD_fF 21 pd (rLabX_out o.2.2.2 hNb) (fun r hr hf3 => ?_)
  obtain ⟨m3, e3, d3, rfl⟩ := hr
  rw [at_cells] at hf3
  have F3 : ∀ b ∈ m3.fp, ¬ w0.A b ∧ b ≠ g0 ∧ b ∉ m2.fp ∧ b ∉ m1.fp := fun b hb => ⟨(hf3 b hb).1, fun h => (hf3 b hb).2 8 _ rfl (by decide) rfl (by rw [h]; simp [at_view, frB_fr]), fun h => (hf3 b hb).2 11 _ rfl (by decide) rfl (by rw [at_cells]; exact h), fun h => (hf3 b hb).2 18 _ rfl (by decide) rfl (by rw [at_cells]; exact h)⟩
  clear hf3
  refine arunD_fbuild 22 rfl (by simp [awant]) rfl rfl ⟨_, rfl, at_any⟩ (by simp; exact ⟨rfl, rfl⟩) (by simp) (fun e he => by
    simp only [List.mem_cons, List.not_mem_nil, or_false] at he
    rcases he with rfl | rfl | rfl | rfl
    · exact labc_in m2
    · exact fun c hc => (labc_word _ c hc).2
    · exact labc_in m1
    · exact labc_in m3) (fun b hb => by
    have h0 : atL [AV.int .i64 2, .int .i64 0, .str (wd k), .view .tight 0 [], .view .tight 0 []] = [] := by simp [atL_cons, atL_nil, at_int, at_str, at_view, atE_nil, frB_tight]
    rw [atE_cons, atE_cons, atE_cons, atE_cons, atE_nil, labc_at, labc_at, labc_at, h0] at hb
    simp only [List.append_nil, List.nil_append, List.mem_append] at hb
    rcases hb with hb | hb | hb
    · exact ⟨11, by simp [Op.operands], rfl, by decide, by show b ∈ atB (AV.agg [AV.int .i64 m2.kind, .int .i64 m2.num, .str m2.text, .view (.fr m2.nb) 1 (strsE m2.names), .view (.fr m2.kb) 5 (m2.kids.map labL)]); rw [at_cells]; exact hb⟩
    · exact ⟨18, by simp [Op.operands], rfl, by decide, by show b ∈ atB (AV.agg [AV.int .i64 m1.kind, .int .i64 m1.num, .str m1.text, .view (.fr m1.nb) 1 (strsE m1.names), .view (.fr m1.kb) 5 (m1.kids.map labL)]); rw [at_cells]; exact hb⟩
    · exact ⟨21, by simp [Op.operands], rfl, by decide, by show b ∈ atB (AV.agg [AV.int .i64 m3.kind, .int .i64 m3.num, .str m3.text, .view (.fr m3.nb) 1 (strsE m3.names), .view (.fr m3.kb) 5 (m3.kids.map labL)]); rw [at_cells]; exact hb⟩) ⟨N, hNb⟩ (fun g1 hg1 => ?_)
  have hg := hg1 g1 (by simp)
  have F4 : ¬ w0.A g1 ∧ g1 ≠ g0 ∧ g1 ∉ m2.fp ∧ g1 ∉ m1.fp ∧ g1 ∉ m3.fp := ⟨hg.1, fun h => hg.2 8 _ rfl (by decide) rfl (by rw [h]; simp [at_view, frB_fr]), fun h => hg.2 11 _ rfl (by decide) rfl (by rw [at_cells]; exact h), fun h => hg.2 18 _ rfl (by decide) rfl (by rw [at_cells]; exact h), fun h => hg.2 21 _ rfl (by decide) rfl (by rw [at_cells]; exact h)⟩
  clear hg hg1
  (repeat (first | with_reducible refine AW.seq ?_ | ((first | refine arun_kn 1 rfl (fun C hC => ?_) | refine arunD_kn 1 rfl (fun C hC => ?_)); (repeat ((conv => whnf); simp)); refine hC _ ?_; clear hC C; simp only [List.drop, Nat.reduceAdd]) | (refine arun_skip ?_ ?_; (focus (simp [awant]; done))) | (refine AW.regionK [] (fun K hK => ?_)) | (refine AW.condT ?_ ?_; (focus (simp [aev]; done))) | (refine AW.condF ?_ ?_; (focus (simp [aev]; done))) | with_reducible refine AW.block ?_ | ((first | ((first | refine arun_nil ?_ | refine arunD_nil ?_); refine hK _ ?_; clear hK K) | refine AW.skip ?_ | refine AW.exit ?_ | refine AW.ret ?_); simp only [wE, if_true, if_false, Nat.reduceEqDiff, reduceIte, endF_ret, endF_normal])))
  have hM := hnd m1 m2 m3 g0 g1 e1 e2 e3
  have hcT := lblT_clo k m1 m2 m3 g0 g1
  have pc := (AC.arg (implChkL (lblO k m1 m2 m3 g0 g1) (by rw [hM]; exact hvv2)) (.cons (lblO_wk k m1 m2 m3 g0 g1) (.cons (Wk.refl (.bool true)) .nil))).mono (R := rFin w0.A M) (fun r h => ⟨lblO k m1 m2 m3 g0 g1, hM, by
      rw [lblO_fp]
      refine List.nodup_cons.2 ⟨fun hm => ?_, List.nodup_cons.2 ⟨fun hm => ?_, List.nodup_append.2 ⟨d2, List.nodup_append.2 ⟨d1, d3, fun x hx y hy e => (F3 y hy).2.2.2 (e ▸ hx)⟩, fun x hx y hy e => ?_⟩⟩⟩
      · rcases List.mem_cons.1 hm with h | h
        · exact F4.2.1 h.symm
        · rcases List.mem_append.1 h with h | h
          · exact (F2 _ h).2 rfl
          · rcases List.mem_append.1 h with h | h
            · exact (F1 _ h).2.1 rfl
            · exact (F3 _ h).2.1 rfl
      · rcases List.mem_append.1 hm with h | h
        · exact F4.2.2.1 h
        · rcases List.mem_append.1 h with h | h
          · exact F4.2.2.2.1 h
          · exact F4.2.2.2.2 h
      · rcases List.mem_append.1 hy with h | h
        · exact (F1 _ h).2.2 (e ▸ hx)
        · exact (F3 _ h).2.2.1 (e ▸ hx), fun b hb => by
      rw [lblO_fp] at hb
      rcases List.mem_cons.1 hb with rfl | hb
      · exact F0
      rcases List.mem_cons.1 hb with rfl | hb
      · exact F4.1
      rcases List.mem_append.1 hb with hb | hb
      · exact (F2 b hb).1
      rcases List.mem_append.1 hb with hb | hb
      · exact (F1 b hb).1
      · exact (F3 b hb).1, by rw [h]; unfold labA; rw [labL_eq]⟩)
  unfold lblT at pc hcT
  refine arunD_cE (0) pc (by exact rFin_ex M hNb) ?_
  rintro _ ⟨l, h1, h2, h3, rfl⟩
  intro _
  (repeat (first | with_reducible refine AW.seq ?_ | ((first | refine arun_kn 1 rfl (fun C hC => ?_) | refine arunD_kn 1 rfl (fun C hC => ?_)); (repeat ((conv => whnf); simp)); refine hC _ ?_; clear hC C; simp only [List.drop, Nat.reduceAdd]) | (refine arun_skip ?_ ?_; (focus (simp [awant]; done))) | (refine AW.regionK [] (fun K hK => ?_)) | (refine AW.condT ?_ ?_; (focus (simp [aev]; done))) | (refine AW.condF ?_ ?_; (focus (simp [aev]; done))) | with_reducible refine AW.block ?_ | ((first | ((first | refine arun_nil ?_ | refine arunD_nil ?_); refine hK _ ?_; clear hK K) | refine AW.skip ?_ | refine AW.exit ?_ | refine AW.ret ?_); simp only [wE, if_true, if_false, Nat.reduceEqDiff, reduceIte, endF_ret, endF_normal])))
  exact ⟨.tup [labA l, .bool true], by unfold labA; rw [labL_eq]; simp [ares, aresL, upd, rowsOf_cons], tup2_pur (lab_pur l) pur_bool, fun b hb => hN.ge (h3 b (by rw [at_tup2] at hb; exact hb)), _, Wk.refl _, fun _ h => h, by rw [he]; exact ⟨l, h1, h2, rfl⟩⟩
end Go.Proofs.Ytgfnmhfdmmnaoaa.Eng
