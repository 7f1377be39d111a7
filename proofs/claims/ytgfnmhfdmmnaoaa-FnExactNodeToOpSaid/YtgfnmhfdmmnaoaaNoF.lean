/-
  Texts of this claim, joined.
-/
import Derived.Test.YtgfnmhfdmmnaoaaNoE

set_option linter.unusedSimpArgs false
set_option linter.unusedVariables false
set_option linter.unnecessarySimpa false
set_option maxRecDepth 100000
set_option maxHeartbeats 16000000
namespace Go.Proofs.Ytgfnmhfdmmnaoaa.Eng
open Go Go.RowKit
structure Lb where
  kind : Int
  num : Int
  text : ByteArray
  names : List ByteArray
  nb : Nat
  kids : List Lb
  kb : Nat
theorem Lb.ind' (P : Lb → Prop) (h : ∀ n : Lb, (∀ k ∈ n.kids, P k) → P n) : ∀ n, P n := by
  intro n
  refine Lb.rec (motive_1 := P) (motive_2 := fun l => ∀ k ∈ l, P k) ?_ ?_ ?_ n
  · intro kind num text names nb kids kb ih
    exact h _ ih
  · intro k hk; cases hk
  · intro k ks h1 h2 x hx
    rcases List.mem_cons.1 hx with rfl | hx
    · exact h1
    · exact h2 _ hx
mutual
def Lb.nd : Lb → Nd
  | ⟨kind, num, text, names, _, kids, _⟩ => ⟨kind, num, text, names, Lb.nds kids⟩
def Lb.nds : List Lb → List Nd
  | [] => []
  | k :: ks => Lb.nd k :: Lb.nds ks
end
theorem nds_map : ∀ (ks : List Lb), Lb.nds ks = ks.map Lb.nd
  | [] => by unfold Lb.nds; rfl
  | k :: ks => by unfold Lb.nds; rw [nds_map ks]; rfl
theorem nd_eq (n : Lb) : n.nd = ⟨n.kind, n.num, n.text, n.names, n.kids.map Lb.nd⟩ := by cases n; unfold Lb.nd; rw [nds_map]
mutual
def labL : Lb → List AV
  | ⟨kind, num, text, names, nb, kids, kb⟩ => [.int .i64 kind, .int .i64 num, .str text, .view (.fr nb) 1 (strsE names), .view (.fr kb) 5 (labsL kids)]
def labsL : List Lb → List (List AV)
  | [] => []
  | k :: ks => labL k :: labsL ks
end
def labA (n : Lb) : AV := .agg (labL n)
theorem labsL_map : ∀ (ks : List Lb), labsL ks = ks.map labL
  | [] => by unfold labsL; rfl
  | k :: ks => by unfold labsL; rw [labsL_map ks]; rfl
theorem labL_eq (n : Lb) : labL n = [.int .i64 n.kind, .int .i64 n.num, .str n.text, .view (.fr n.nb) 1 (strsE n.names), .view (.fr n.kb) 5 (n.kids.map labL)] := by
  cases n; unfold labL; rw [labsL_map]
theorem labL_len (n : Lb) : (labL n).length = 5 := by rw [labL_eq]; rfl
theorem labL_pur : ∀ (n : Lb), ∀ c ∈ labL n, Pur c := Lb.ind' _ (fun n ih c hc => by
  rw [labL_eq] at hc
  simp only [List.mem_cons, List.not_mem_nil, or_false] at hc
  rcases hc with rfl | rfl | rfl | rfl | rfl
  · exact pur_int
  · exact pur_int
  · exact pur_str
  · exact pur_view (by simp) (strsE_pur _)
  · refine pur_view (by simp) (fun e he c hc => ?_)
    rw [List.mem_map] at he
    obtain ⟨k, hk, rfl⟩ := he
    exact ih k hk c hc)
theorem lab_pur (n : Lb) : Pur (labA n) := pur_agg (labL_pur n)
theorem labL_in {U : Nat → Bool} : ∀ (n : Lb), ∀ c ∈ labL n, AV.In U c := Lb.ind' _ (fun n ih c hc => by
  rw [labL_eq] at hc
  simp only [List.mem_cons, List.not_mem_nil, or_false] at hc
  rcases hc with rfl | rfl | rfl | rfl | rfl
  · exact in_int
  · exact in_int
  · exact in_str
  · exact in_view.2 (strsE_in _)
  · refine in_view.2 (fun e he c hc => ?_)
    rw [List.mem_map] at he
    obtain ⟨k, hk, rfl⟩ := he
    exact ih k hk c hc)
theorem lab_in {U : Nat → Bool} (n : Lb) : AV.In U (labA n) := in_agg.2 (labL_in n)
theorem labsE_in {U : Nat → Bool} (ks : List Lb) : ∀ e ∈ ks.map labL, ∀ c ∈ e, AV.In U c := fun e he c hc => by
  rw [List.mem_map] at he
  obtain ⟨k, hk, rfl⟩ := he
  exact labL_in k c hc
theorem labL_sub {id m : Nat} {c : AV} (n : Lb) : AV.subL id m c (labL n) = labL n := by rw [labL_eq]; simp [AV.subL, AV.sub]
theorem labsE_sub {id m : Nat} {c : AV} (ks : List Lb) : (ks.map labL).map (AV.subL id m c) = ks.map labL := by
  rw [List.map_map]; exact List.map_congr_left (fun k _ => labL_sub k)
def Lb.fp (n : Lb) : List Nat := atL (labL n)
theorem at_strsE : ∀ (xs : List ByteArray), atE (strsE xs) = []
  | [] => by unfold strsE; rw [List.map_nil, atE_nil]
  | x :: xs => by
    have := at_strsE xs
    unfold strsE at this ⊢
    rw [List.map_cons, atE_cons, this, atL_cons, at_str, atL_nil]; rfl
theorem atE_labs : ∀ (ks : List Lb), atE (ks.map labL) = ks.flatMap Lb.fp
  | [] => by rw [List.map_nil, atE_nil]; rfl
  | k :: ks => by rw [List.map_cons, atE_cons, atE_labs ks]; rfl
theorem fp_eq (n : Lb) : n.fp = frB (.fr n.nb) n.names.isEmpty ++ (frB (.fr n.kb) n.kids.isEmpty ++ n.kids.flatMap Lb.fp) := by
  have e1 : (strsE n.names).isEmpty = n.names.isEmpty := by unfold strsE; cases n.names <;> rfl
  have e2 : (n.kids.map labL).isEmpty = n.kids.isEmpty := by cases n.kids <;> rfl
  show atL (labL n) = _
  rw [labL_eq, atL_cons, atL_cons, atL_cons, atL_cons, atL_cons, atL_nil, at_int, at_int, at_str, at_view, at_view, at_strsE, atE_labs, e1, e2]
  simp
theorem at_lab (n : Lb) : atB (labA n) = n.fp := by unfold labA Lb.fp; rw [at_agg]
section
variable {w : World} {ρ : Cx}
theorem strsF_of_rep {g : Nat} {xs : List ByteArray} {a : Option Addr} {c : Nat} (h : Rep w ρ (.view (.fr g) 1 (strsE xs)) (.slice a xs.length c)) : StrsF w a c xs (frB (.fr g) xs.isEmpty) := by
  obtain ⟨a', c', h1, _, h3, h4, h5, h6⟩ := rep_view.1 h
  rw [strsE_len] at *
  cases h1
  have hsz : ∀ x ∈ xs, x.size ≤ big := by
    rcases h6 with h6 | ⟨b, o, ha, hb, he⟩
    · unfold strsE at h6
      rw [List.map_eq_nil_iff.1 h6]
      exact fun x hx => by cases hx
    · intro x hx
      obtain ⟨i, hi, rfl⟩ := List.getElem_of_mem hx
      obtain ⟨u, q1, _, q3⟩ := (he.get h5 (i := i) (e := [.str xs[i]]) (by rw [strsE_get, List.getElem?_eq_getElem hi]; rfl)).get (i := 0) rfl
      exact (rep_str.1 q3).2
  refine ⟨h3, h4, hsz, ?_⟩
  by_cases hne : xs = []
  · subst hne; exact .inl ⟨rfl, rfl⟩
  · rcases h6 with h6 | ⟨b, o, ha, hb, he⟩
    · unfold strsE at h6
      exact absurd (List.map_eq_nil_iff.1 h6) hne
    · obtain ⟨_, rfl, _⟩ := hb
      refine .inr ⟨b, o, hne, ha, ?_, fun i hi => ?_⟩
      · cases xs with
        | nil => exact absurd rfl hne
        | cons x xs => rfl
      · obtain ⟨u, q1, _, q3⟩ := (he.get h5 (i := i) (e := [.str xs[i]]) (by rw [strsE_get, List.getElem?_eq_getElem hi]; rfl)).get (i := 0) rfl
        rw [(rep_str.1 q3).1] at q1
        simpa using q1
theorem kidsF_of_rep {b : Nat} : ∀ {ks : List Lb} {o : Nat}, (∀ k ∈ ks, ∀ (ρ : Cx) na nc ka kc, k.text.size ≤ big → Rep w ρ (.view (.fr k.nb) 1 (strsE k.names)) (.slice na k.names.length nc) → Rep w ρ (.view (.fr k.kb) 5 (k.kids.map labL)) (.slice ka k.kids.length kc) → NodeF w k.nd na nc ka kc k.fp) →
    RepE w ρ b o (ks.map labL) → KidsF w b o (ks.map Lb.nd) (ks.flatMap Lb.fp)
  | [], _, _, _ => by unfold KidsF; rfl
  | k :: ks, o, ih, h => by
    rw [List.map_cons] at h
    unfold RepE at h
    obtain ⟨h1, h2⟩ := h
    rw [labL_len] at h2
    rw [labL_eq] at h1
    obtain ⟨v0, p0, _, q0⟩ := h1.get (i := 0) rfl
    obtain ⟨v1, p1, _, q1⟩ := h1.get (i := 1) rfl
    obtain ⟨v2, p2, _, q2⟩ := h1.get (i := 2) rfl
    obtain ⟨v3, p3, _, q3⟩ := h1.get (i := 3) rfl
    obtain ⟨v4, p4, _, q4⟩ := h1.get (i := 4) rfl
    rw [rep_int] at q0 q1
    obtain ⟨q2, q2'⟩ := rep_str.1 q2
    obtain ⟨na, nc, r3, _⟩ := rep_view.1 q3
    obtain ⟨ka, kc, r4, _⟩ := rep_view.1 q4
    rw [strsE_len] at r3
    rw [List.length_map] at r4
    subst q0 q1 q2 r3 r4
    rw [List.map_cons, List.flatMap_cons]
    unfold KidsF
    have e := nd_eq k
    refine ⟨k.fp, ks.flatMap Lb.fp, rfl, ⟨na, nc, ka, kc, ?_, ?_, ?_, ?_, ?_, ih k (by simp) ρ na nc ka kc q2' q3 q4⟩, kidsF_of_rep (fun x hx => ih x (by simp [hx])) h2⟩
    · rw [e]; exact p0
    · rw [e]; exact p1
    · rw [e]; exact p2
    · rw [e]; exact p3
    · rw [e]; dsimp only; rw [List.length_map]; exact p4
theorem nodeF_of_rep : ∀ (n : Lb) (ρ : Cx) na nc ka kc, n.text.size ≤ big → Rep w ρ (.view (.fr n.nb) 1 (strsE n.names)) (.slice na n.names.length nc) → Rep w ρ (.view (.fr n.kb) 5 (n.kids.map labL)) (.slice ka n.kids.length kc) → NodeF w n.nd na nc ka kc n.fp :=
  Lb.ind' _ (fun n ih ρ na nc ka kc h0 h1 h2 => by
    have s1 := strsF_of_rep h1
    obtain ⟨a', c', g1, _, g3, g4, g5, g6⟩ := rep_view.1 h2
    rw [List.length_map] at *
    cases g1
    rw [nd_eq, fp_eq]
    refine NodeF.mk h0 s1 ⟨by rw [List.length_map]; exact g3, by rw [List.length_map]; exact g4, ?_⟩
    by_cases hne : n.kids = []
    · left
      rw [hne]
      exact ⟨rfl, rfl⟩
    · right
      rcases g6 with g6 | ⟨b, o, ha, hb, he⟩
      · exact absurd (List.map_eq_nil_iff.1 g6) hne
      · obtain ⟨_, rfl, _⟩ := hb
        refine ⟨n.kb, o, n.kids.flatMap Lb.fp, fun h => hne (List.map_eq_nil_iff.1 h), ha, ?_, kidsF_of_rep ih he⟩
        cases hk : n.kids with
        | nil => exact absurd hk hne
        | cons x xs => rfl)
end
end Go.Proofs.Ytgfnmhfdmmnaoaa.Eng
-- EV: fresh
namespace Go.Proofs.Ytgfnmhfdmmnaoaa.Eng
open Go Go.RowKit
attribute [local simp] big size_mk ASt.pay Option.map_map Function.comp_def awant aop acall ado aev ofVal ofVal0 ASt.put ASt.add ASt.turn ASt.kill abox aalloc astore aload aloadD astoreD idOf ASt.at cellsTo afieldAddr afield aindexAddr aindex alen abin aint acmp astr aun apick aextract anil aslice abound abuild afill abuildSlice asCells aps avCells over upd aappend asrc amax amin aconv mkSt slots rowsOf_cons rowsOf_nil usedOf_cons usedOf_nil ZK.av List.replicate ASt.back ASt.addL ASt.killL nodeA nodeT nodeTL_eq nodeL_eq strsE_get strsE_len intsE_get intsE_len strsE_at intsE_at tab2 tab3 tab4 tab5 tab6 tab7 tab8 tab9 tab10 tab11 tab12 tab13 tab14 tab15 tab16 tab17 tab18 tab19 tab21 tab22 tab23 tab24 tab25 tab26 tab27 tab28 tab29 tab30 tab39 tab40 tab41 tab42 tab43 tab47 tab48 tab55 tab56 tab57 tab60 tab61 tab62 tab73 tab74 tab75 tab85 tab92 tab115 tab116 tab143 tab144 tab145 tab154 tab155 tab170 tab175 tab182 tab197 tab198 tab203 tab204 tab205 tab207 tab208 tab209
def labsR (ks : List Lb) : Row := ⟨false, 30, 5, ks.map labL⟩
def rLab (n : Nd) (r : AV) : Prop := ∃ l : Lb, l.nd = n ∧ l.fp.Nodup ∧ r = labA l
def rLabX (n : Nd) (r : AV) : Prop := ∃ l : Lb, l.nd = n ∧ l.fp.Nodup ∧ r = .agg [.int .i64 l.kind, .int .i64 l.num, .str l.text, .view (.fr l.nb) 1 (strsE l.names), .view (.fr l.kb) 5 (l.kids.map labL)]
theorem rLab_X {n : Nd} {r : AV} (h : rLab n r) : rLabX n r := by
  obtain ⟨l, h1, h2, rfl⟩ := h
  exact ⟨l, h1, h2, by unfold labA; rw [labL_eq]⟩
def partF (ls : List Lb) (m : Nat) : List (List AV) := ls.map labL ++ List.replicate (m - ls.length) zeroN
theorem partF_len (ls : List Lb) (m : Nat) (h : ls.length ≤ m) : (partF ls m).length = m := by unfold partF; simp; omega
theorem partF_get (ls : List Lb) (m : Nat) (h : ls.length < m) : (partF ls m)[ls.length]? = some [.int .i64 0, .int .i64 0, .str ⟨#[]⟩, .view .tight 0 [], .view .tight 0 []] := by
  unfold partF
  rw [List.getElem?_append_right (by simp), List.length_map, Nat.sub_self, List.getElem?_replicate, if_pos (by omega)]
  rfl
theorem partF_set (ls : List Lb) (m : Nat) (h : ls.length < m) (l : Lb) : (partF ls m).set ls.length (labL l) = partF (ls ++ [l]) m := by
  unfold partF
  rw [List.set_append_right _ _ (by simp), List.length_map, Nat.sub_self]
  have : m - ls.length = (m - (ls ++ [l]).length) + 1 := by rw [List.length_append, List.length_singleton]; omega
  rw [this, List.replicate_succ, List.set_cons_zero, List.map_append, List.append_assoc]
  rfl
theorem partF_in {U : Nat → Bool} (ls : List Lb) (m : Nat) : ∀ e ∈ partF ls m, ∀ c ∈ e, AV.In U c := by
  intro e he c hc
  unfold partF at he
  rcases List.mem_append.1 he with he | he
  · exact labsE_in ls e he c hc
  · rw [List.eq_of_mem_replicate he] at hc
    simp only [zeroN, List.mem_cons, List.not_mem_nil, or_false] at hc
    rcases hc with rfl | rfl | rfl | rfl | rfl
    · exact in_int
    · exact in_int
    · exact in_str
    · exact in_vnil
    · exact in_vnil
theorem at_zeroN : atL zeroN = [] := by
  unfold zeroN
  simp only [atL_cons, atL_nil, at_int, at_str, at_view, atE_nil, frB_tight, List.append_nil]
theorem at_partF (ls : List Lb) (m : Nat) : atE (partF ls m) = ls.flatMap Lb.fp := by
  unfold partF
  rw [atE_app, atE_labs]
  have : ∀ k, atE (List.replicate k zeroN) = [] := fun k => by
    induction k with
    | zero => rw [List.replicate_zero, atE_nil]
    | succ k ih => rw [List.replicate_succ, atE_cons, ih, at_zeroN]; rfl
  rw [this, List.append_nil]
theorem fp_nodup {l : Lb} (h : (l.kids.flatMap Lb.fp).Nodup) (f1 : ∀ b ∈ l.kids.flatMap Lb.fp, l.nb ≠ b) (f2 : ∀ b ∈ l.kids.flatMap Lb.fp, l.kb ≠ b) (f3 : l.names ≠ [] → l.kids ≠ [] → l.kb ≠ l.nb) : l.fp.Nodup := by
  rw [fp_eq, frB_fr, frB_fr]
  refine List.nodup_append.2 ⟨by split <;> simp, List.nodup_append.2 ⟨by split <;> simp, h, fun a ha b hb e => ?_⟩, fun a ha b hb e => ?_⟩
  · split at ha <;> simp at ha
    exact f2 b hb (by rw [← ha, e])
  · rcases List.mem_append.1 hb with hb | hb
    · split at ha <;> split at hb <;> simp at ha hb
      rename_i q1 q2
      exact f3 (fun h => by rw [h] at q1; simp at q1) (fun h => by rw [h] at q2; simp at q2) (by rw [← ha, ← hb, e])
    · split at ha <;> simp at ha
      exact f1 b hb (by rw [← ha, e])
theorem fp_ge {l : Lb} {B : Nat} (h : ∀ b ∈ l.kids.flatMap Lb.fp, B ≤ b) (g1 : B ≤ l.nb) (g2 : B ≤ l.kb) : ∀ b ∈ l.fp, B ≤ b := by
  intro b hb
  rw [fp_eq, frB_fr, frB_fr] at hb
  rcases List.mem_append.1 hb with hb | hb
  · split at hb <;> simp at hb
    rw [hb]; exact g1
  · rcases List.mem_append.1 hb with hb | hb
    · split at hb <;> simp at hb
      rw [hb]; exact g2
    · exact h b hb
theorem lab_ex : ∀ (n : Nd) (N : Nat), ∃ (l : Lb) (M : Nat), l.nd = n ∧ l.fp.Nodup ∧ N ≤ M ∧ ∀ b ∈ l.fp, N ≤ b ∧ b < M := Nd.ind' _ (fun n ih N => by
  have aux : ∀ (ks : List Nd), (∀ k ∈ ks, ∀ N, ∃ (l : Lb) (M : Nat), l.nd = k ∧ l.fp.Nodup ∧ N ≤ M ∧ ∀ b ∈ l.fp, N ≤ b ∧ b < M) → ∀ N, ∃ (ls : List Lb) (M : Nat), ls.map Lb.nd = ks ∧ (ls.flatMap Lb.fp).Nodup ∧ N ≤ M ∧ ∀ b ∈ ls.flatMap Lb.fp, N ≤ b ∧ b < M := by
    intro ks
    induction ks with
    | nil => exact fun _ N => ⟨[], N, rfl, by simp, Nat.le_refl _, by simp⟩
    | cons k ks ih2 =>
      intro h N
      obtain ⟨l, M, h1, h2, h3, h4⟩ := h k (by simp) N
      obtain ⟨ls, M', g1, g2, g3, g4⟩ := ih2 (fun x hx => h x (by simp [hx])) M
      refine ⟨l :: ls, M', by rw [List.map_cons, h1, g1], ?_, by omega, ?_⟩
      · rw [List.flatMap_cons]
        exact List.nodup_append.2 ⟨h2, g2, fun a ha b hb e => by have := (h4 a ha).2; have := (g4 b hb).1; omega⟩
      · intro b hb
        rw [List.flatMap_cons] at hb
        rcases List.mem_append.1 hb with hb | hb
        · have := h4 b hb; omega
        · have := g4 b hb; omega
  obtain ⟨ls, M, h1, h2, h3, h4⟩ := aux n.kids ih (N + 2)
  refine ⟨⟨n.kind, n.num, n.text, n.names, N, ls, N + 1⟩, M, by rw [nd_eq]; dsimp only; rw [h1]; cases n; rfl, ?_, by omega, ?_⟩
  · rw [fp_eq, frB_fr, frB_fr]
    dsimp only
    refine List.nodup_append.2 ⟨by split <;> simp, List.nodup_append.2 ⟨by split <;> simp, h2, fun a ha b hb e => ?_⟩, fun a ha b hb e => ?_⟩
    · have := (h4 b hb).1
      split at ha <;> simp at ha
      omega
    · rcases List.mem_append.1 hb with hb | hb
      · split at ha <;> split at hb <;> simp at ha hb
        omega
      · have := (h4 b hb).1
        split at ha <;> simp at ha
        omega
  · intro b hb
    rw [fp_eq, frB_fr, frB_fr] at hb
    dsimp only at hb
    rcases List.mem_append.1 hb with hb | hb
    · split at hb <;> simp at hb
      omega
    · rcases List.mem_append.1 hb with hb | hb
      · split at hb <;> simp at hb
        omega
      · have := h4 b hb; omega)
theorem rLabX_ex (n : Nd) {A : Nat → Prop} {N : Nat} (hN : ∀ b, A b → b < N) : ∃ r, (rLabX n r ∧ ∀ b ∈ atB r, ¬ A b) ∧ NoId r := by
  obtain ⟨l, M, h1, h2, _, h4⟩ := lab_ex n N
  have hr : rLab n (labA l) := ⟨l, h1, h2, rfl⟩
  exact ⟨labA l, ⟨rLab_X hr, fun b hb ha => by rw [at_lab] at hb; have := (h4 b hb).1; have := hN b ha; omega⟩, lab_in l⟩
theorem nodup_snoc {ls : List Lb} {l : Lb} (h : (ls.flatMap Lb.fp).Nodup) (k : l.fp.Nodup) (ha : ∀ b ∈ l.fp, ¬ b ∈ ls.flatMap Lb.fp) : ((ls ++ [l]).flatMap Lb.fp).Nodup := by
  rw [List.flatMap_append, List.flatMap_cons, List.flatMap_nil, List.append_nil]
  exact List.nodup_append.2 ⟨h, k, fun a h1 b h2 e => ha b h2 (e ▸ h1)⟩
theorem implCopyF_hold (n : Nd) (hs : Sml n) (ih : ∀ k ∈ n.kids, ACF Try.prog 75 [nodeA k] 0 (rLabX k)) : ACF Try.prog 75 [nodeA n] 0 (rLabX n) := by
  have hs1 := hs.names
  have hs2 := hs.kids
  unfold nodeA at ih ⊢
  rw [nodeL_eq]
  refine ACF.of tab_ok mixed_ok Try.func75 (by rfl) (by kernel_rfl) ?_; rintro ⟨P, T, hT, hm, w0, S0, rd0, k0⟩ hP hTT hN; dsimp only at hP hTT hN; subst hP hTT; dsimp only; unfold initSt; rw [Try.ntmps75]
  refine AW.seq ?_
  (refine AW.regionK [] (fun K hK => ?_); (repeat (refine arun_ks 4 rfl (fun C hC => ?_); (repeat ((conv => whnf); simp)); refine hC _ ?_; clear hC C; simp only [List.drop_succ_cons, List.drop_zero, List.drop_nil])); refine arun_nil ?_; refine hK _ ?_; clear hK K; simp only [thenA_normal, inBlockA_normal, endQ_normal, endR_normal])
  refine AW.seq ?_
  (refine AW.regionK [] (fun K hK => ?_); (repeat (refine arun_ks 4 rfl (fun C hC => ?_); (repeat ((conv => whnf); simp)); refine hC _ ?_; clear hC C; simp only [List.drop_succ_cons, List.drop_zero, List.drop_nil])); refine arun_nil ?_; refine hK _ ?_; clear hK K; simp only [thenA_normal, inBlockA_normal, endQ_normal, endR_normal])
  refine AW.seq ?_
  refine AW.cutN (fun (_ : Unit) => mkSt (slots 0 52 [(1, .ptr true 5 1 1 0 0), (2, .ptr true 5 1 2 0 0), (3, .ptr true 5 1 3 0 0)]) [(1, ⟨true, 30, 5, [[.int .i64 n.kind, .int .i64 n.num, .str n.text, .view .loose 1 (strsE n.names), .view .loose 5 (n.kids.map nodeL)]]⟩), (2, ⟨true, 30, 5, [zeroN]⟩), (3, ⟨true, 30, 5, [[.int .i64 n.kind, .int .i64 n.num, .str n.text, .own 20 n.names.length, .view .tight 0 []]]⟩), (20, namesR n.names)] [1, 2, 3, 20] (rd0.map fun _ => 0)) (fun _ => True) ?_ ?_
  · by_cases hn0 : 0 < n.names.length
    · (repeat (first | with_reducible refine AW.seq ?_ | ((first | refine arun_kn 4 rfl (fun C hC => ?_) | refine arunD_kn 4 rfl (fun C hC => ?_)); (repeat ((conv => whnf); simp [hn0])); refine hC _ ?_; clear hC C; simp only [List.drop, Nat.reduceAdd]) | ((first | refine arun_kn 1 rfl (fun C hC => ?_) | refine arunD_kn 1 rfl (fun C hC => ?_)); (repeat ((conv => whnf); simp [hn0])); refine hC _ ?_; clear hC C; simp only [List.drop, Nat.reduceAdd]) | (refine arun_skip ?_ ?_; (focus (simp [awant, hn0]; done))) | (refine AW.regionK [] (fun K hK => ?_)) | (refine AW.regionDK [] (pcs [] []) (by kernel_rfl) (by kernel_rfl) (fun K hK => ?_)) | (refine AW.condT ?_ ?_; (focus (simp [aev, hn0]; done))) | (refine AW.condF ?_ ?_; (focus (simp [aev, hn0]; done))) | with_reducible refine AW.block ?_ | ((first | ((first | refine arun_nil ?_ | refine arunD_nil ?_); refine hK _ ?_; clear hK K) | refine AW.skip ?_ | refine AW.exit ?_ | refine AW.ret ?_); simp only [thenA_exit, inBlockA_exit, if_true, if_false, Nat.reduceEqDiff, thenA_normal, inBlockA_normal, reduceIte, thenA_ret, inBlockA_ret, endQ_ret, endR_ret, endG_ret, endQ_normal, endR_normal, endG_normal, endF_ret, endF_normal])))
      refine arun_make 20 rfl (by simp [awant]) rfl tab23 tab9 (by decide) rfl (by dsimp only; omega) (by unfold maxLen; omega) (by simp [upd]) ?_
      (repeat (first | with_reducible refine AW.seq ?_ | ((first | refine arun_kn 4 rfl (fun C hC => ?_) | refine arunD_kn 4 rfl (fun C hC => ?_)); (repeat ((conv => whnf); simp [hn0])); refine hC _ ?_; clear hC C; simp only [List.drop, Nat.reduceAdd]) | ((first | refine arun_kn 1 rfl (fun C hC => ?_) | refine arunD_kn 1 rfl (fun C hC => ?_)); (repeat ((conv => whnf); simp [hn0])); refine hC _ ?_; clear hC C; simp only [List.drop, Nat.reduceAdd]) | (refine arun_skip ?_ ?_; (focus (simp [awant, hn0]; done))) | (refine AW.regionK [] (fun K hK => ?_)) | (refine AW.regionDK [] (pcs [] []) (by kernel_rfl) (by kernel_rfl) (fun K hK => ?_)) | (refine AW.condT ?_ ?_; (focus (simp [aev, hn0]; done))) | (refine AW.condF ?_ ?_; (focus (simp [aev, hn0]; done))) | with_reducible refine AW.block ?_ | ((first | ((first | refine arun_nil ?_ | refine arunD_nil ?_); refine hK _ ?_; clear hK K) | refine AW.skip ?_ | refine AW.exit ?_ | refine AW.ret ?_); simp only [thenA_exit, inBlockA_exit, if_true, if_false, Nat.reduceEqDiff, thenA_normal, inBlockA_normal, reduceIte, thenA_ret, inBlockA_ret, endQ_ret, endR_ret, endG_ret, endQ_normal, endR_normal, endG_normal, endF_ret, endF_normal])))
      refine arun_copyAll (r := ⟨false, 9, 1, List.replicate n.names.length [AV.str ⟨#[]⟩]⟩) rfl (by simp [awant]) rfl (by simp [upd]) rfl rfl List.length_replicate rfl (strsE_len _) tab23 tab9 rfl ?_
      (repeat (first | with_reducible refine AW.seq ?_ | ((first | refine arun_kn 4 rfl (fun C hC => ?_) | refine arunD_kn 4 rfl (fun C hC => ?_)); (repeat ((conv => whnf); simp [hn0])); refine hC _ ?_; clear hC C; simp only [List.drop, Nat.reduceAdd]) | ((first | refine arun_kn 1 rfl (fun C hC => ?_) | refine arunD_kn 1 rfl (fun C hC => ?_)); (repeat ((conv => whnf); simp [hn0])); refine hC _ ?_; clear hC C; simp only [List.drop, Nat.reduceAdd]) | (refine arun_skip ?_ ?_; (focus (simp [awant, hn0]; done))) | (refine AW.regionK [] (fun K hK => ?_)) | (refine AW.regionDK [] (pcs [] []) (by kernel_rfl) (by kernel_rfl) (fun K hK => ?_)) | (refine AW.condT ?_ ?_; (focus (simp [aev, hn0]; done))) | (refine AW.condF ?_ ?_; (focus (simp [aev, hn0]; done))) | with_reducible refine AW.block ?_ | ((first | ((first | refine arun_nil ?_ | refine arunD_nil ?_); refine hK _ ?_; clear hK K) | refine AW.skip ?_ | refine AW.exit ?_ | refine AW.ret ?_); simp only [thenA_exit, inBlockA_exit, if_true, if_false, Nat.reduceEqDiff, thenA_normal, inBlockA_normal, reduceIte, thenA_ret, inBlockA_ret, endQ_ret, endR_ret, endG_ret, endQ_normal, endR_normal, endG_normal, endF_ret, endF_normal])))
      exact ⟨(), trivial, (less_of (by simp [lessL, mkSt, slots, namesR, zeroN]) (by simp [upd, mkSt, rowsOf_cons, namesR, zeroN]) (by simp [upd, mkSt, usedOf_cons, namesR, zeroN]) (by first | exact rd_less (by omega) | simp [mkSt, namesR, zeroN]) (by simp [slots, in_any, in_int, in_bool, in_str, in_ptr, in_own, in_agg, in_vnil, in_rdr, usedOf_cons, usedOf_nil, strs_in, ints_in, nodes_in, in_tup, namesR, zeroN]) (by simp only [List.forall_mem_cons, List.not_mem_nil, false_implies, implies_true, and_true, true_and, namesR, zeroN]; (repeat (first | with_reducible exact trivial | with_reducible refine And.intro ?_ ?_ | with_reducible exact in_int | with_reducible exact in_str | with_reducible exact in_bool | with_reducible exact strs_in _ | with_reducible exact nodes_in _ | with_reducible exact items_in _ | with_reducible exact in_vnil | with_reducible exact in_any | exact hin _ | with_reducible refine take_in ?_ | with_reducible exact strsE_in _ | with_reducible exact nodesE_in _ | with_reducible exact nodeL_in _ | with_reducible exact itemsE_in _ | with_reducible exact itemL_in _ | with_reducible refine app_in ?_ ?_ | with_reducible refine sing_in ?_ | (focus (simp [in_any, in_int, in_bool, in_str, in_ptr, in_own, in_agg, in_vnil, in_rdr, usedOf_cons, usedOf_nil, strs_in, ints_in, nodes_in, namesR, zeroN]; done)))); done))⟩
    · have hl0 : n.names.length = 0 := by omega
      have he0 : n.names = [] := List.length_eq_zero_iff.1 hl0
      refine AW.adoptB 3 3 20 9 1 ⟨_, tab9, rfl⟩ (by simp [upd]; rfl) rfl rfl (by simp [upd]) ?_
      simp only [ASt.adoptB]
      (repeat (first | with_reducible refine AW.seq ?_ | ((first | refine arun_kn 4 rfl (fun C hC => ?_) | refine arunD_kn 4 rfl (fun C hC => ?_)); (repeat ((conv => whnf); simp [hl0])); refine hC _ ?_; clear hC C; simp only [List.drop, Nat.reduceAdd]) | ((first | refine arun_kn 1 rfl (fun C hC => ?_) | refine arunD_kn 1 rfl (fun C hC => ?_)); (repeat ((conv => whnf); simp [hl0])); refine hC _ ?_; clear hC C; simp only [List.drop, Nat.reduceAdd]) | (refine arun_skip ?_ ?_; (focus (simp [awant, hl0]; done))) | (refine AW.regionK [] (fun K hK => ?_)) | (refine AW.regionDK [] (pcs [] []) (by kernel_rfl) (by kernel_rfl) (fun K hK => ?_)) | (refine AW.condT ?_ ?_; (focus (simp [aev, hl0]; done))) | (refine AW.condF ?_ ?_; (focus (simp [aev, hl0]; done))) | with_reducible refine AW.block ?_ | ((first | ((first | refine arun_nil ?_ | refine arunD_nil ?_); refine hK _ ?_; clear hK K) | refine AW.skip ?_ | refine AW.exit ?_ | refine AW.ret ?_); simp only [thenA_exit, inBlockA_exit, if_true, if_false, Nat.reduceEqDiff, thenA_normal, inBlockA_normal, reduceIte, thenA_ret, inBlockA_ret, endQ_ret, endR_ret, endG_ret, endQ_normal, endR_normal, endG_normal, endF_ret, endF_normal])))
      exact ⟨(), trivial, (less_of (by simp [lessL, mkSt, slots, namesR, zeroN, he0, strsE]) (by simp [upd, mkSt, rowsOf_cons, namesR, zeroN, he0, strsE]) (by simp [upd, mkSt, usedOf_cons, namesR, zeroN, he0, strsE]) (by first | exact rd_less (by omega) | simp [mkSt, namesR, zeroN, he0, strsE]) (by simp [slots, in_any, in_int, in_bool, in_str, in_ptr, in_own, in_agg, in_vnil, in_rdr, usedOf_cons, usedOf_nil, strs_in, ints_in, nodes_in, in_tup, namesR, zeroN, he0, strsE]) (by simp only [List.forall_mem_cons, List.not_mem_nil, false_implies, implies_true, and_true, true_and, namesR, zeroN, he0, strsE]; (repeat (first | with_reducible exact trivial | with_reducible refine And.intro ?_ ?_ | with_reducible exact in_int | with_reducible exact in_str | with_reducible exact in_bool | with_reducible exact strs_in _ | with_reducible exact nodes_in _ | with_reducible exact items_in _ | with_reducible exact in_vnil | with_reducible exact in_any | exact hin _ | with_reducible refine take_in ?_ | with_reducible exact strsE_in _ | with_reducible exact nodesE_in _ | with_reducible exact nodeL_in _ | with_reducible exact itemsE_in _ | with_reducible exact itemL_in _ | with_reducible refine app_in ?_ ?_ | with_reducible refine sing_in ?_ | (focus (simp [in_any, in_int, in_bool, in_str, in_ptr, in_own, in_agg, in_vnil, in_rdr, usedOf_cons, usedOf_nil, strs_in, ints_in, nodes_in, namesR, zeroN, he0, strsE]; done)))); done))⟩
  rintro ⟨⟩ s' - hls
  refine AW.less _ hls ?_
  clear hls s'
  refine AW.seq ?_
  refine AW.cutN (fun (ks : List Lb) => mkSt (slots 0 52 [(2, .ptr true 5 1 2 0 0), (3, .ptr true 5 1 3 0 0)]) [(2, ⟨true, 30, 5, [zeroN]⟩), (3, ⟨true, 30, 5, [[.int .i64 n.kind, .int .i64 n.num, .str n.text, .own 20 n.names.length, .own 34 n.kids.length]]⟩), (20, namesR n.names), (34, labsR ks)] [2, 3, 20, 34] (rd0.map fun _ => 0)) (fun ks => ks.map Lb.nd = n.kids ∧ (ks.flatMap Lb.fp).Nodup ∧ ∀ b ∈ ks.flatMap Lb.fp, w0.wd.heap.size ≤ b) ?_ ?_
  · by_cases hn0 : 0 < n.kids.length
    · (repeat (first | with_reducible refine AW.seq ?_ | ((first | refine arun_kn 4 rfl (fun C hC => ?_) | refine arunD_kn 4 rfl (fun C hC => ?_)); (repeat ((conv => whnf); simp [hn0])); refine hC _ ?_; clear hC C; simp only [List.drop, Nat.reduceAdd]) | ((first | refine arun_kn 1 rfl (fun C hC => ?_) | refine arunD_kn 1 rfl (fun C hC => ?_)); (repeat ((conv => whnf); simp [hn0])); refine hC _ ?_; clear hC C; simp only [List.drop, Nat.reduceAdd]) | (refine arun_skip ?_ ?_; (focus (simp [awant, hn0]; done))) | (refine AW.regionK [] (fun K hK => ?_)) | (refine AW.regionDK [] (pcs [] []) (by kernel_rfl) (by kernel_rfl) (fun K hK => ?_)) | (refine AW.condT ?_ ?_; (focus (simp [aev, hn0]; done))) | (refine AW.condF ?_ ?_; (focus (simp [aev, hn0]; done))) | with_reducible refine AW.block ?_ | ((first | ((first | refine arun_nil ?_ | refine arunD_nil ?_); refine hK _ ?_; clear hK K) | refine AW.skip ?_ | refine AW.exit ?_ | refine AW.ret ?_); simp only [thenA_exit, inBlockA_exit, if_true, if_false, Nat.reduceEqDiff, thenA_normal, inBlockA_normal, reduceIte, thenA_ret, inBlockA_ret, endQ_ret, endR_ret, endG_ret, endQ_normal, endR_normal, endG_normal, endF_ret, endF_normal])))
      refine arun_make 34 rfl (by simp [awant]) rfl tab28 tab30 (by decide) rfl (by dsimp only; omega) (by unfold maxLen; omega) (by simp [upd]) ?_
      (repeat (first | with_reducible refine AW.seq ?_ | ((first | refine arun_kn 4 rfl (fun C hC => ?_) | refine arunD_kn 4 rfl (fun C hC => ?_)); (repeat ((conv => whnf); simp [hn0])); refine hC _ ?_; clear hC C; simp only [List.drop, Nat.reduceAdd]) | ((first | refine arun_kn 1 rfl (fun C hC => ?_) | refine arunD_kn 1 rfl (fun C hC => ?_)); (repeat ((conv => whnf); simp [hn0])); refine hC _ ?_; clear hC C; simp only [List.drop, Nat.reduceAdd]) | (refine arun_skip ?_ ?_; (focus (simp [awant, hn0]; done))) | (refine AW.regionK [] (fun K hK => ?_)) | (refine AW.regionDK [] (pcs [] []) (by kernel_rfl) (by kernel_rfl) (fun K hK => ?_)) | (refine AW.condT ?_ ?_; (focus (simp [aev, hn0]; done))) | (refine AW.condF ?_ ?_; (focus (simp [aev, hn0]; done))) | with_reducible refine AW.block ?_ | ((first | ((first | refine arun_nil ?_ | refine arunD_nil ?_); refine hK _ ?_; clear hK K) | refine AW.skip ?_ | refine AW.exit ?_ | refine AW.ret ?_); simp only [thenA_exit, inBlockA_exit, if_true, if_false, Nat.reduceEqDiff, thenA_normal, inBlockA_normal, reduceIte, thenA_ret, inBlockA_ret, endQ_ret, endR_ret, endG_ret, endQ_normal, endR_normal, endG_normal, endF_ret, endF_normal])))
      refine AW.loopS (fun (ls : List Lb) => mkSt (slots 0 52 [(1, .ptr true 5 1 1 0 0), (2, .ptr true 5 1 2 0 0), (3, .ptr true 5 1 3 0 0), (37, .view .loose 5 (n.kids.map nodeL)), (38, .int .i64 n.kids.length), (39, .int .i64 ls.length)]) [(1, ⟨true, 30, 5, [[.int .i64 n.kind, .int .i64 n.num, .str n.text, .view .loose 1 (strsE n.names), .view .loose 5 (n.kids.map nodeL)]]⟩), (2, ⟨true, 30, 5, [zeroN]⟩), (3, ⟨true, 30, 5, [[.int .i64 n.kind, .int .i64 n.num, .str n.text, .own 20 n.names.length, .own 34 n.kids.length]]⟩), (20, namesR n.names), (34, ⟨false, 30, 5, partF ls n.kids.length⟩)] [1, 2, 3, 20, 34] (rd0.map fun _ => 0)) (fun ls => n.kids.length - ls.length) (fun ls => ls.map Lb.nd = n.kids.take ls.length ∧ ls.length ≤ n.kids.length ∧ (ls.flatMap Lb.fp).Nodup ∧ ∀ b ∈ ls.flatMap Lb.fp, w0.wd.heap.size ≤ b) [] ?_ ⟨rfl, Nat.zero_le _, List.nodup_nil, fun b hb => by cases hb⟩ ?_
      · have hin : ∀ U : Nat → Bool, ∀ e ∈ partF [] n.kids.length, ∀ c ∈ e, AV.In U c := fun U => partF_in _ _
        have e0 : partF [] n.kids.length = List.replicate n.kids.length zeroN := rfl
        rw [e0] at hin ⊢
        exact (less_of (by simp [lessL, mkSt, slots, namesR, zeroN]) (by simp [upd, mkSt, rowsOf_cons, namesR, zeroN]) (by simp [upd, mkSt, usedOf_cons, namesR, zeroN]) (by first | exact rd_less (by omega) | simp [mkSt, namesR, zeroN]) (by simp [slots, in_any, in_int, in_bool, in_str, in_ptr, in_own, in_agg, in_vnil, in_rdr, usedOf_cons, usedOf_nil, strs_in, ints_in, nodes_in, in_tup, namesR, zeroN]) (by simp only [List.forall_mem_cons, List.not_mem_nil, false_implies, implies_true, and_true, true_and, namesR, zeroN]; (repeat (first | with_reducible exact trivial | with_reducible refine And.intro ?_ ?_ | with_reducible exact in_int | with_reducible exact in_str | with_reducible exact in_bool | with_reducible exact strs_in _ | with_reducible exact nodes_in _ | with_reducible exact items_in _ | with_reducible exact in_vnil | with_reducible exact in_any | exact hin _ | with_reducible refine take_in ?_ | with_reducible exact strsE_in _ | with_reducible exact nodesE_in _ | with_reducible exact nodeL_in _ | with_reducible exact itemsE_in _ | with_reducible exact itemL_in _ | with_reducible refine app_in ?_ ?_ | with_reducible refine sing_in ?_ | (focus (simp [in_any, in_int, in_bool, in_str, in_ptr, in_own, in_agg, in_vnil, in_rdr, usedOf_cons, usedOf_nil, strs_in, ints_in, nodes_in, namesR, zeroN]; done)))); done))
      · rintro ls ⟨hnd, hi, hnp, hge⟩
        have hpl := partF_len ls n.kids.length hi
        by_cases hlt : ls.length < n.kids.length
        · have hw : IntKind.i64.wrap ((ls.length : Int) + 1) = ((ls.length + 1 : Nat) : Int) := by rw [i64_nat (by omega) (by omega)]; simp
          have hg := partF_get ls n.kids.length hlt
          have hgd : ∀ h, (partF ls n.kids.length)[ls.length]'h = [.int .i64 0, .int .i64 0, .str ⟨#[]⟩, .view .tight 0 [], .view .tight 0 []] := fun h => by
            rw [List.getElem?_eq_getElem h] at hg; exact Option.some.inj hg
          have hik := ih n.kids[ls.length] (List.getElem_mem hlt)
          have hck := node_clo n.kids[ls.length]
          unfold nodeA at hck
          rw [nodeL_eq n.kids[ls.length]] at hik hck
          have x1 : (n.kids.map nodeL)[ls.length]? = some [.int .i64 n.kids[ls.length].kind, .int .i64 n.kids[ls.length].num, .str n.kids[ls.length].text, .view .loose 1 (strsE n.kids[ls.length].names), .view .loose 5 (n.kids[ls.length].kids.map nodeL)] := by rw [List.getElem?_map, List.getElem?_eq_getElem hlt, ← nodeL_eq]; rfl
          refine AW.noteR 34 (r := ⟨false, 30, 5, partF ls n.kids.length⟩) (by simp [mkSt, rowsOf_cons]) ?_
          have hN' := hN.note (atE (partF ls n.kids.length))
          refine AW.bound (fun N hNb => ?_)
          (repeat (first | with_reducible refine AW.seq ?_ | ((first | refine arun_kn 4 rfl (fun C hC => ?_) | refine arunD_kn 4 rfl (fun C hC => ?_)); (repeat ((conv => whnf); simp [hlt, hw, hpl, hg, hgd, x1])); refine hC _ ?_; clear hC C; simp only [List.drop, Nat.reduceAdd]) | ((first | refine arun_kn 1 rfl (fun C hC => ?_) | refine arunD_kn 1 rfl (fun C hC => ?_)); (repeat ((conv => whnf); simp [hlt, hw, hpl, hg, hgd, x1])); refine hC _ ?_; clear hC C; simp only [List.drop, Nat.reduceAdd]) | (refine arun_skip ?_ ?_; (focus (simp [awant, hlt, hw, hpl, hg, hgd, x1]; done))) | (refine AW.regionK [] (fun K hK => ?_)) | (refine AW.condT ?_ ?_; (focus (simp [aev, hlt, hw, hpl, hg, hgd, x1]; done))) | (refine AW.condF ?_ ?_; (focus (simp [aev, hlt, hw, hpl, hg, hgd, x1]; done))) | with_reducible refine AW.block ?_ | ((first | ((first | refine arun_nil ?_ | refine arunD_nil ?_); refine hK _ ?_; clear hK K) | refine AW.skip ?_ | refine AW.exit ?_ | refine AW.ret ?_); simp only [thenA_exit, inBlockA_exit, if_true, if_false, Nat.reduceEqDiff, thenA_normal, inBlockA_normal, reduceIte, thenA_ret, inBlockA_ret, endQ_ret, endR_ret, endG_ret, endQ_normal, endR_normal, endG_normal, endF_ret, endF_normal])))
          refine AW.regionDK [] (pcs [(4, 0, fun r => rLabX n.kids[ls.length] r ∧ ∀ b ∈ atB r, ¬ (w0.note (atE (partF ls n.kids.length))).A b)] []) (by kernel_rfl) (by kernel_rfl) (fun K hK => ?_)
          (repeat (first | with_reducible refine AW.seq ?_ | ((first | refine arun_kn 4 rfl (fun C hC => ?_) | refine arunD_kn 4 rfl (fun C hC => ?_)); (repeat ((conv => whnf); simp [hlt, hw, hpl, hg, hgd, x1])); refine hC _ ?_; clear hC C; simp only [List.drop, Nat.reduceAdd]) | ((first | refine arun_kn 1 rfl (fun C hC => ?_) | refine arunD_kn 1 rfl (fun C hC => ?_)); (repeat ((conv => whnf); simp [hlt, hw, hpl, hg, hgd, x1])); refine hC _ ?_; clear hC C; simp only [List.drop, Nat.reduceAdd]) | (refine arun_skip ?_ ?_; (focus (simp [awant, hlt, hw, hpl, hg, hgd, x1]; done))) | (refine arun_cF (0) (hik) ?_; (rintro _ ⟨l, hl, hlp, rfl⟩ hA)) | (refine arunD_cF (0) (hik) (by exact rLabX_ex _ hNb) ?_; (rintro _ ⟨l, hl, hlp, rfl⟩ hA); intro _) | (refine AW.regionK [] (fun K hK => ?_)) | (refine AW.regionDK [] (pcs [] []) (by kernel_rfl) (by kernel_rfl) (fun K hK => ?_)) | (refine AW.condT ?_ ?_; (focus (simp [aev, hlt, hw, hpl, hg, hgd, x1]; done))) | (refine AW.condF ?_ ?_; (focus (simp [aev, hlt, hw, hpl, hg, hgd, x1]; done))) | with_reducible refine AW.block ?_ | ((first | ((first | refine arun_nil ?_ | refine arunD_nil ?_); refine hK _ ?_; clear hK K) | refine AW.skip ?_ | refine AW.exit ?_ | refine AW.ret ?_); simp only [thenA_exit, inBlockA_exit, if_true, if_false, Nat.reduceEqDiff, thenA_normal, inBlockA_normal, reduceIte, thenA_ret, inBlockA_ret, endQ_ret, endR_ret, endG_ret, endQ_normal, endR_normal, endG_normal, endF_ret, endF_normal])))
          have hA' : ∀ b ∈ l.fp, ¬ (w0.A b ∨ b ∈ atE (partF ls n.kids.length)) := fun b hb => hA b (by rw [at_agg, ← labL_eq]; exact hb)
          have hset := partF_set ls n.kids.length hlt l
          rw [labL_eq] at hset
          have hin : ∀ U : Nat → Bool, ∀ e ∈ partF (ls ++ [l]) n.kids.length, ∀ c ∈ e, AV.In U c := fun U => partF_in _ _
          have hll : (ls ++ [l]).length = ls.length + 1 := by rw [List.length_append]; rfl
          refine ⟨ls ++ [l], by rw [hll]; omega, ⟨?_, by rw [hll]; omega, nodup_snoc hnp hlp (fun b hb hm => hA' b hb (.inr (by rw [at_partF]; exact hm))), fun b hb => ?_⟩, ?_⟩
          · rw [hll, List.take_add_one, List.getElem?_eq_getElem hlt, List.map_append, hnd, List.map_cons, List.map_nil, hl]; rfl
          · rw [List.flatMap_append, List.flatMap_cons, List.flatMap_nil, List.append_nil] at hb
            rcases List.mem_append.1 hb with hb | hb
            · exact hge b hb
            · rcases Nat.lt_or_ge b w0.wd.heap.size with h | h
              · exact absurd (.inl (hN.A b h)) (hA' b hb)
              · exact h
          · rw [hll]
            exact (less_of (by simp [lessL, mkSt, slots, namesR, zeroN, hset]) (by simp [upd, mkSt, rowsOf_cons, namesR, zeroN, hset]) (by simp [upd, mkSt, usedOf_cons, namesR, zeroN, hset]) (by first | exact rd_less (by omega) | simp [mkSt, namesR, zeroN, hset]) (by simp [slots, in_any, in_int, in_bool, in_str, in_ptr, in_own, in_agg, in_vnil, in_rdr, usedOf_cons, usedOf_nil, strs_in, ints_in, nodes_in, in_tup, namesR, zeroN, hset]) (by simp only [List.forall_mem_cons, List.not_mem_nil, false_implies, implies_true, and_true, true_and, namesR, zeroN, hset]; (repeat (first | with_reducible exact trivial | with_reducible refine And.intro ?_ ?_ | with_reducible exact in_int | with_reducible exact in_str | with_reducible exact in_bool | with_reducible exact strs_in _ | with_reducible exact nodes_in _ | with_reducible exact items_in _ | with_reducible exact in_vnil | with_reducible exact in_any | exact hin _ | with_reducible refine take_in ?_ | with_reducible exact strsE_in _ | with_reducible exact nodesE_in _ | with_reducible exact nodeL_in _ | with_reducible exact itemsE_in _ | with_reducible exact itemL_in _ | with_reducible refine app_in ?_ ?_ | with_reducible refine sing_in ?_ | (focus (simp [in_any, in_int, in_bool, in_str, in_ptr, in_own, in_agg, in_vnil, in_rdr, usedOf_cons, usedOf_nil, strs_in, ints_in, nodes_in, namesR, zeroN, hset]; done)))); done))
        · have hl : ls.length = n.kids.length := by omega
          have hpa : partF ls n.kids.length = ls.map labL := by unfold partF; rw [hl, Nat.sub_self]; simp
          rw [hpa, hl]
          (repeat (first | with_reducible refine AW.seq ?_ | ((first | refine arun_kn 4 rfl (fun C hC => ?_) | refine arunD_kn 4 rfl (fun C hC => ?_)); (repeat ((conv => whnf); simp)); refine hC _ ?_; clear hC C; simp only [List.drop, Nat.reduceAdd]) | ((first | refine arun_kn 1 rfl (fun C hC => ?_) | refine arunD_kn 1 rfl (fun C hC => ?_)); (repeat ((conv => whnf); simp)); refine hC _ ?_; clear hC C; simp only [List.drop, Nat.reduceAdd]) | (refine arun_skip ?_ ?_; (focus (simp [awant]; done))) | (refine AW.regionK [] (fun K hK => ?_)) | (refine AW.regionDK [] (pcs [] []) (by kernel_rfl) (by kernel_rfl) (fun K hK => ?_)) | (refine AW.condT ?_ ?_; (focus (simp [aev]; done))) | (refine AW.condF ?_ ?_; (focus (simp [aev]; done))) | with_reducible refine AW.block ?_ | ((first | ((first | refine arun_nil ?_ | refine arunD_nil ?_); refine hK _ ?_; clear hK K) | refine AW.skip ?_ | refine AW.exit ?_ | refine AW.ret ?_); simp only [thenA_exit, inBlockA_exit, if_true, if_false, Nat.reduceEqDiff, thenA_normal, inBlockA_normal, reduceIte, thenA_ret, inBlockA_ret, endQ_ret, endR_ret, endG_ret, endQ_normal, endR_normal, endG_normal, endF_ret, endF_normal])))
          refine ⟨ls, ⟨by rw [hnd, hl, List.take_of_length_le (Nat.le_refl _)], hnp, hge⟩, ?_⟩
          have hin : ∀ U : Nat → Bool, ∀ e ∈ ls.map labL, ∀ c ∈ e, AV.In U c := fun U => labsE_in _
          exact (less_of (by simp [lessL, mkSt, slots, namesR, labsR, zeroN]) (by simp [upd, mkSt, rowsOf_cons, namesR, labsR, zeroN]) (by simp [upd, mkSt, usedOf_cons, namesR, labsR, zeroN]) (by first | exact rd_less (by omega) | simp [mkSt, namesR, labsR, zeroN]) (by simp [slots, in_any, in_int, in_bool, in_str, in_ptr, in_own, in_agg, in_vnil, in_rdr, usedOf_cons, usedOf_nil, strs_in, ints_in, nodes_in, in_tup, namesR, labsR, zeroN]) (by simp only [List.forall_mem_cons, List.not_mem_nil, false_implies, implies_true, and_true, true_and, namesR, labsR, zeroN]; (repeat (first | with_reducible exact trivial | with_reducible refine And.intro ?_ ?_ | with_reducible exact in_int | with_reducible exact in_str | with_reducible exact in_bool | with_reducible exact strs_in _ | with_reducible exact nodes_in _ | with_reducible exact items_in _ | with_reducible exact in_vnil | with_reducible exact in_any | exact hin _ | with_reducible refine take_in ?_ | with_reducible exact strsE_in _ | with_reducible exact nodesE_in _ | with_reducible exact nodeL_in _ | with_reducible exact itemsE_in _ | with_reducible exact itemL_in _ | with_reducible refine app_in ?_ ?_ | with_reducible refine sing_in ?_ | (focus (simp [in_any, in_int, in_bool, in_str, in_ptr, in_own, in_agg, in_vnil, in_rdr, usedOf_cons, usedOf_nil, strs_in, ints_in, nodes_in, namesR, labsR, zeroN]; done)))); done))
    · have hl0 : n.kids.length = 0 := by omega
      have he0 : n.kids = [] := List.length_eq_zero_iff.1 hl0
      refine AW.adoptB 3 4 34 30 5 ⟨_, tab30, rfl⟩ (by simp [mkSt, rowsOf_cons]; rfl) rfl rfl (by simp [mkSt, usedOf_cons, usedOf_nil]) ?_
      simp only [ASt.adoptB]
      (repeat (first | with_reducible refine AW.seq ?_ | ((first | refine arun_kn 4 rfl (fun C hC => ?_) | refine arunD_kn 4 rfl (fun C hC => ?_)); (repeat ((conv => whnf); simp [hl0])); refine hC _ ?_; clear hC C; simp only [List.drop, Nat.reduceAdd]) | ((first | refine arun_kn 1 rfl (fun C hC => ?_) | refine arunD_kn 1 rfl (fun C hC => ?_)); (repeat ((conv => whnf); simp [hl0])); refine hC _ ?_; clear hC C; simp only [List.drop, Nat.reduceAdd]) | (refine arun_skip ?_ ?_; (focus (simp [awant, hl0]; done))) | (refine AW.regionK [] (fun K hK => ?_)) | (refine AW.regionDK [] (pcs [] []) (by kernel_rfl) (by kernel_rfl) (fun K hK => ?_)) | (refine AW.condT ?_ ?_; (focus (simp [aev, hl0]; done))) | (refine AW.condF ?_ ?_; (focus (simp [aev, hl0]; done))) | with_reducible refine AW.block ?_ | ((first | ((first | refine arun_nil ?_ | refine arunD_nil ?_); refine hK _ ?_; clear hK K) | refine AW.skip ?_ | refine AW.exit ?_ | refine AW.ret ?_); simp only [thenA_exit, inBlockA_exit, if_true, if_false, Nat.reduceEqDiff, thenA_normal, inBlockA_normal, reduceIte, thenA_ret, inBlockA_ret, endQ_ret, endR_ret, endG_ret, endQ_normal, endR_normal, endG_normal, endF_ret, endF_normal])))
      refine ⟨[], ⟨by rw [he0]; rfl, List.nodup_nil, fun b hb => by cases hb⟩, ?_⟩
      exact (less_of (by simp [lessL, mkSt, slots, namesR, labsR, zeroN, he0]) (by simp [upd, mkSt, rowsOf_cons, namesR, labsR, zeroN, he0]) (by simp [upd, mkSt, usedOf_cons, namesR, labsR, zeroN, he0]) (by first | exact rd_less (by omega) | simp [mkSt, namesR, labsR, zeroN, he0]) (by simp [slots, in_any, in_int, in_bool, in_str, in_ptr, in_own, in_agg, in_vnil, in_rdr, usedOf_cons, usedOf_nil, strs_in, ints_in, nodes_in, in_tup, namesR, labsR, zeroN, he0]) (by simp only [List.forall_mem_cons, List.not_mem_nil, false_implies, implies_true, and_true, true_and, namesR, labsR, zeroN, he0]; (repeat (first | with_reducible exact trivial | with_reducible refine And.intro ?_ ?_ | with_reducible exact in_int | with_reducible exact in_str | with_reducible exact in_bool | with_reducible exact strs_in _ | with_reducible exact nodes_in _ | with_reducible exact items_in _ | with_reducible exact in_vnil | with_reducible exact in_any | exact hin _ | with_reducible refine take_in ?_ | with_reducible exact strsE_in _ | with_reducible exact nodesE_in _ | with_reducible exact nodeL_in _ | with_reducible exact itemsE_in _ | with_reducible exact itemL_in _ | with_reducible refine app_in ?_ ?_ | with_reducible refine sing_in ?_ | (focus (simp [in_any, in_int, in_bool, in_str, in_ptr, in_own, in_agg, in_vnil, in_rdr, usedOf_cons, usedOf_nil, strs_in, ints_in, nodes_in, namesR, labsR, zeroN, he0]; done)))); done))
  rintro ks s' ⟨hk1, hk2, hk3⟩ hls
  refine AW.less _ hls ?_
  clear hls s'
  have hlk : ks.length = n.kids.length := by rw [← hk1, List.length_map]
  refine AW.holdF 20 hN (fun g1 hg1 ht1 hr1 => ?_)
  have f1 := hr1 34 (labsR ks) (by simp [mkSt, rowsOf_cons])
  refine AW.holdF 34 hN (fun g2 hg2 ht2 hr2 => ?_)
  have f2 := hr2 34 (labsR ks) (by simp [mkSt, ASt.holdF, rowsOf_cons, upd, namesR, labsR, Row.sub, labsE_sub]; exact fun a _ => labL_sub a)
  have f3 := hr2 3 ⟨true, 30, 5, [[.int .i64 n.kind, .int .i64 n.num, .str n.text, .view (.fr g1) 1 (strsE n.names), .own 34 n.kids.length]]⟩ (by simp [mkSt, ASt.holdF, rowsOf_cons, upd, namesR, AV.subL, AV.sub, Row.sub, strsE_len])
  clear ht1 hr1 ht2 hr2
  (repeat (first | with_reducible refine AW.seq ?_ | ((first | refine arun_kn 4 rfl (fun C hC => ?_) | refine arunD_kn 4 rfl (fun C hC => ?_)); (repeat ((conv => whnf); simp [zeroN, ASt.holdF, namesR, labsR, AV.subL, AV.sub, Row.sub, rowsOf_cons, upd, labsE_sub, strsE_len, hlk])); refine hC _ ?_; clear hC C; simp only [List.drop, Nat.reduceAdd]) | ((first | refine arun_kn 1 rfl (fun C hC => ?_) | refine arunD_kn 1 rfl (fun C hC => ?_)); (repeat ((conv => whnf); simp [zeroN, ASt.holdF, namesR, labsR, AV.subL, AV.sub, Row.sub, rowsOf_cons, upd, labsE_sub, strsE_len, hlk])); refine hC _ ?_; clear hC C; simp only [List.drop, Nat.reduceAdd]) | (refine arun_skip ?_ ?_; (focus (simp [awant, zeroN, ASt.holdF, namesR, labsR, AV.subL, AV.sub, Row.sub, rowsOf_cons, upd, labsE_sub, strsE_len, hlk]; done))) | (refine AW.regionK [] (fun K hK => ?_)) | (refine AW.regionDK [] (pcs [] []) (by kernel_rfl) (by kernel_rfl) (fun K hK => ?_)) | (refine AW.condT ?_ ?_; (focus (simp [aev, zeroN, ASt.holdF, namesR, labsR, AV.subL, AV.sub, Row.sub, rowsOf_cons, upd, labsE_sub, strsE_len, hlk]; done))) | (refine AW.condF ?_ ?_; (focus (simp [aev, zeroN, ASt.holdF, namesR, labsR, AV.subL, AV.sub, Row.sub, rowsOf_cons, upd, labsE_sub, strsE_len, hlk]; done))) | with_reducible refine AW.block ?_ | ((first | ((first | refine arun_nil ?_ | refine arunD_nil ?_); refine hK _ ?_; clear hK K) | refine AW.skip ?_ | refine AW.exit ?_ | refine AW.ret ?_); simp only [thenA_exit, inBlockA_exit, if_true, if_false, Nat.reduceEqDiff, thenA_normal, inBlockA_normal, reduceIte, thenA_ret, inBlockA_ret, endQ_ret, endR_ret, endG_ret, endQ_normal, endR_normal, endG_normal, endF_ret, endF_normal])))
  have e2 : atE (labsR ks).es = ks.flatMap Lb.fp := atE_labs ks
  rw [e2] at f1 f2
  refine ⟨labA ⟨n.kind, n.num, n.text, n.names, g1, ks, g2⟩, by unfold labA; rw [labL_eq]; simp [ares, aresL, upd, rowsOf_cons, labL_sub], lab_pur _, fun b hb => ?_, rLab_X ⟨_, ?_, fp_nodup hk2 f1 f2 (fun h1 _ => f3 g1 ?_), rfl⟩⟩
  · rw [at_lab] at hb
    exact fp_ge (l := ⟨n.kind, n.num, n.text, n.names, g1, ks, g2⟩) hk3 hg1 hg2 b hb
  · rw [nd_eq]; dsimp only; rw [hk1]; cases n; rfl
  · dsimp only at h1
    have : (strsE n.names).isEmpty = false := by unfold strsE; cases hh : n.names with | nil => exact absurd hh h1 | cons _ _ => rfl
    simp [atE_cons, atE_nil, atL_cons, atL_nil, at_int, at_str, at_own, at_view, frB_fr, this]
theorem implCopyF_ACF : ∀ n, Sml n → ACF Try.prog 75 [nodeA n] 0 (rLabX n) :=
  sml_ind fun n hs ih => implCopyF_hold n hs ih
end Go.Proofs.Ytgfnmhfdmmnaoaa.Eng
-- EV: fresh
namespace Go.Proofs.Ytgfnmhfdmmnaoaa
open Go.RowKit
theorem openV_node {w : World} {S : Nat → Prop} {x : Nd} {v : Value} (h : RV nodeRep packA w S x v) : ∃ na nc ka kc, v = nodeV x na nc ka kc := by
  obtain ⟨na, nc, ka, kc, hv, _⟩ := node_open h
  exact ⟨na, nc, ka, kc, hv⟩
theorem cntT_zero : cntT Nd.zero = 0 := by unfold cntT Nd.zero; simp [cntL]
namespace Eng
theorem ACF.weak {P : Program} {f : FuncId} {args : List AV} {c : Nat} {Q : AV → Prop} (h : ACF P f args c (fun r => ∃ r', Wk r r' ∧ (∀ b ∈ atB r', b ∈ atB r) ∧ Q r')) : ACF P f args c Q :=
  ⟨h.1, fun w L S rb k vs h0 h1 h2 h3 => (h.2 w L S rb k vs h0 h1 h2 h3).mono fun e w' ⟨v, r, S', k1, k2, k3, k4, k5, k6, ⟨r', q1, q2, q3⟩, k8⟩ => ⟨v, r', S', k1, k2, k3, k4, k5, q1 _ _ _ k6, q3, fun b hb => k8 b (q2 b hb)⟩⟩
theorem arg_node {w : World} {n : Nd} {v : Value} (h : RV nodeRep packA w Go.Proofs.Ytgfnmhfdmmnaoaa.any n v) : Rep w (pureC nil (fun k => k < w.heap.size) none) (nodeA n) v := rep_of_node (node_open h.under)
theorem args1 {w : World} {ρ : Cx} {a : AV} {v : Value} (h : Rep w ρ a v) : RepL w ρ [a] [v] := by unfold RepL; exact ⟨_, _, rfl, h, by unfold RepL; rfl⟩
end Eng
end Go.Proofs.Ytgfnmhfdmmnaoaa
namespace Go.Proofs.Ytgfnmhfdmmnaoaa.Eng
open Go Go.RowKit
attribute [local simp] big size_mk ASt.pay Option.map_map Function.comp_def awant aop acall ado aev ofVal ofVal0 ASt.put ASt.add ASt.turn ASt.kill abox aalloc astore aload aloadD astoreD idOf ASt.at cellsTo afieldAddr afield aindexAddr aindex alen abin aint acmp astr aun apick aextract anil aslice abound abuild afill abuildSlice asCells aps avCells over upd aappend asrc amax amin aconv mkSt slots rowsOf_cons rowsOf_nil usedOf_cons usedOf_nil ZK.av List.replicate ASt.back ASt.addL ASt.killL nodeA nodeT nodeTL_eq nodeL_eq strsE_get strsE_len intsE_get intsE_len strsE_at intsE_at tab2 tab3 tab4 tab5 tab6 tab7 tab8 tab9 tab10 tab11 tab12 tab13 tab14 tab15 tab16 tab17 tab18 tab19 tab21 tab22 tab23 tab24 tab25 tab26 tab27 tab28 tab29 tab30 tab39 tab40 tab41 tab42 tab43 tab47 tab48 tab55 tab56 tab57 tab60 tab61 tab62 tab73 tab74 tab75 tab85 tab92 tab115 tab116 tab143 tab144 tab145 tab154 tab155 tab170 tab175 tab182 tab197 tab198 tab203 tab204 tab205 tab207 tab208 tab209
set_option maxRecDepth 100000
set_option maxHeartbeats 8000000
theorem inRange_AC (a b c : Int) : AC Try.prog 131 [.int .i64 a, .int .i64 b, .int .i64 c] 0 (fun r => r = .bool (inR a b c)) := by
  refine AC.ofGrow (enters_of Try.func131 (by kernel_rfl) (by kernel_rfl)) (fun w L S rb vs h => ?_)
  unfold RepL at h
  obtain ⟨v0, vs0, rfl, h0, h⟩ := h
  unfold RepL at h
  obtain ⟨v1, vs1, rfl, h1, h⟩ := h
  unfold RepL at h
  obtain ⟨v2, vs2, rfl, h2, h⟩ := h
  unfold RepL at h
  subst h
  rw [rep_int] at h0 h1 h2
  subst h0 h1 h2
  refine (inRange_ok a b c w).mono ?_
  rintro e w' ⟨rfl, rfl⟩
  exact ⟨_, _, rfl, Ext.refl _ _, rep_bool.2 rfl, rfl⟩
end Go.Proofs.Ytgfnmhfdmmnaoaa.Eng
namespace Go.Proofs.Ytgfnmhfdmmnaoaa
open Go.RowKit
end Go.Proofs.Ytgfnmhfdmmnaoaa
namespace Go.Proofs.Ytgfnmhfdmmnaoaa
open Go.RowKit
theorem sgnI_swap (a b : Int) : sgnI b a = - sgnI a b := by
  unfold sgnI
  by_cases h1 : a < b
  · rw [if_neg (by omega), if_pos h1, if_pos h1]; rfl
  · by_cases h2 : b < a
    · rw [if_pos h2, if_neg h1, if_pos h2]
    · rw [if_neg h2, if_neg h1, if_neg h1, if_neg h2]; rfl
theorem sgnT_swap (a b : ByteArray) : sgnT b a = - sgnT a b := by
  rcases bl_cases a b with ⟨h1, h2, _, _, h3⟩ | ⟨h1, h2, _, _, h3⟩ | h
  · simp [sgnT, lt, h1, h2]
  · simp [sgnT, lt, h1, h2]
  · subst h; simp [sgnT_refl]
def th (x y : Int) : Int := if x ≠ 0 then x else y
theorem th_neg (x y : Int) : th (-x) (-y) = - th x y := by unfold th; by_cases h : x = 0 <;> simp [h]
theorem th_zero {x y : Int} : th x y = 0 ↔ x = 0 ∧ y = 0 := by unfold th; by_cases h : x = 0 <;> simp [h]
theorem cmpN_th (a b : Nd) : cmpN a b = th (sgnI a.kind b.kind) (th (sgnI a.num b.num) (th (sgnT a.text b.text) (cmpKs (decide (a.kind = 4)) a.names b.names a.kids b.kids))) := by
  rw [cmpN_eq]; rfl
theorem cmpKs_th (m : Bool) (ns ms : List ByteArray) (k j : Nd) (ks js : List Nd) : cmpKs m ns ms (k :: ks) (j :: js) = th (if m = true then sgnT (ns.headD ⟨#[]⟩) (ms.headD ⟨#[]⟩) else 0) (th (cmpN k j) (cmpKs m ns.tail ms.tail ks js)) := by
  rw [cmpKs]
  unfold th
  cases m <;> simp
theorem cmpKs_nil (m : Bool) (ns ms : List ByteArray) (js : List Nd) : cmpKs m ns ms [] js = sgnI 0 js.length := by rw [cmpKs]
theorem cmpKs_nil' (m : Bool) (ns ms : List ByteArray) (ks : List Nd) : cmpKs m ns ms ks [] = sgnI ks.length 0 := by
  cases ks with
  | nil => rw [cmpKs]; rfl
  | cons k ks => rw [cmpKs]; simp
theorem cmpKs_swap (m : Bool) : ∀ (ks : List Nd), (∀ k ∈ ks, ∀ j, cmpN j k = - cmpN k j) → ∀ (js : List Nd) (ns ms : List ByteArray), cmpKs m ms ns js ks = - cmpKs m ns ms ks js
  | [], _, js, ns, ms => by rw [cmpKs_nil, cmpKs_nil', sgnI_swap]
  | k :: ks, ih, [], ns, ms => by rw [cmpKs_nil, cmpKs_nil', sgnI_swap]
  | k :: ks, ih, j :: js, ns, ms => by
    rw [cmpKs_th, cmpKs_th, ih k (by simp) j, cmpKs_swap m ks (fun k hk => ih k (by simp [hk])) js ns.tail ms.tail, th_neg]
    have : (if m = true then sgnT (ms.headD ⟨#[]⟩) (ns.headD ⟨#[]⟩) else 0) = - (if m = true then sgnT (ns.headD ⟨#[]⟩) (ms.headD ⟨#[]⟩) else 0) := by
      split
      · exact sgnT_swap _ _
      · rfl
    rw [this, th_neg]
theorem cmpN_swap : ∀ a b : Nd, cmpN b a = - cmpN a b := Nd.ind' _ (fun a ih b => by
  rw [cmpN_th b a, cmpN_th a b, sgnI_swap a.kind b.kind]
  by_cases hk : a.kind = b.kind
  · rw [sgnI_swap a.num b.num, sgnT_swap a.text b.text, hk, cmpKs_swap _ a.kids ih, th_neg, th_neg, th_neg]
  · have hz : sgnI a.kind b.kind ≠ 0 := fun h => hk (sgnI_zero.1 h)
    have hz' : - sgnI a.kind b.kind ≠ 0 := by omega
    unfold th
    rw [if_pos hz, if_pos hz'])
theorem cmpN_refl (a : Nd) : cmpN a a = 0 := by have := cmpN_swap a a; omega
theorem cmpKs_zero (m : Bool) : ∀ (ks : List Nd), (∀ k ∈ ks, ∀ j, Good k → Good j → cmpN k j = 0 → k = j) → ∀ (js : List Nd) (ns ms : List ByteArray), (∀ k ∈ ks, Good k) → (∀ j ∈ js, Good j) → cmpKs m ns ms ks js = 0 → ks = js ∧ (m = true → ns.length = ks.length → ms.length = js.length → ns = ms)
  | [], _, js, ns, ms, _, _, h => by
    rw [cmpKs_nil, sgnI_zero] at h
    have : js = [] := List.length_eq_zero_iff.1 (by omega)
    subst this
    exact ⟨rfl, fun _ h1 h2 => by rw [List.length_eq_zero_iff.1 h1, List.length_eq_zero_iff.1 h2]⟩
  | k :: ks, ih, [], ns, ms, _, _, h => by
    rw [cmpKs_nil', sgnI_zero] at h
    simp at h; omega
  | k :: ks, ih, j :: js, ns, ms, h1, h2, h => by
    rw [cmpKs_th, th_zero, th_zero] at h
    obtain ⟨h3, h4, h5⟩ := h
    obtain ⟨q1, q2⟩ := cmpKs_zero m ks (fun k hk => ih k (by simp [hk])) js ns.tail ms.tail (fun k hk => h1 k (by simp [hk])) (fun j hj => h2 j (by simp [hj])) h5
    have q0 := ih k (by simp) j (h1 k (by simp)) (h2 j (by simp)) h4
    subst q0 q1
    refine ⟨rfl, fun hm h6 h7 => ?_⟩
    rw [if_pos hm] at h3
    cases ns with
    | nil => simp at h6
    | cons n ns =>
      cases ms with
      | nil => simp at h7
      | cons q ms =>
        simp only [List.headD_cons, sgnT_zero] at h3
        have := q2 hm (by simpa using h6) (by simpa using h7)
        simp only [List.tail_cons] at this
        rw [h3, this]
theorem Good.names {n : Nd} (h : Good n) (h4 : n.kind ≠ 4) : n.names = [] := by
  have hp := h.parts
  unfold partsB at hp
  simp only [Bool.and_eq_true, Bool.or_eq_true, decide_eq_true_eq] at hp
  rcases hp.1.2 with h | h
  · exact absurd h h4
  · exact List.length_eq_zero_iff.1 (by simpa using h)
theorem Good.mapN {n : Nd} (h : Good n) (h4 : n.kind = 4) : n.names.length = n.kids.length := by
  have hp := h.parts
  unfold partsB at hp
  simp only [Bool.and_eq_true] at hp
  have hp := hp.2
  rw [h4] at hp
  simp at hp
  exact hp.2.symm
theorem cmpN_zero : ∀ a b : Nd, Good a → Good b → cmpN a b = 0 → a = b := Nd.ind' _ (fun a ih b ha hb h => by
  rw [cmpN_th, th_zero, th_zero, th_zero] at h
  obtain ⟨h1, h2, h3, h4⟩ := h
  rw [sgnI_zero] at h1 h2
  rw [sgnT_zero] at h3
  obtain ⟨h5, h6⟩ := cmpKs_zero _ a.kids ih b.kids a.names b.names (fun k hk => ha.kid hk) (fun k hk => hb.kid hk) h4
  have h7 : a.names = b.names := by
    by_cases hk : a.kind = 4
    · exact h6 (by simpa using hk) (ha.mapN hk) (hb.mapN (by rw [← h1]; exact hk))
    · rw [ha.names hk, hb.names (by rw [← h1]; exact hk)]
  cases a; cases b
  simp only at h1 h2 h3 h5 h7
  subst h1 h2 h3 h5 h7
  rfl)
end Go.Proofs.Ytgfnmhfdmmnaoaa
namespace Go.Proofs.Ytgfnmhfdmmnaoaa
open Go.RowKit
abbrev Opr := Int × List ByteArray × List ByteArray × Nd
def oprRep : Rep Opr := pairRep intRep (pairRep strsRep (pairRep strsRep (nodeRep)))
def oprL (x : Opr) (a1 : Option Addr) (c1 : Nat) (a2 : Option Addr) (c2 : Nat) (na3 : Option Addr) (nc3 : Nat) (ka3 : Option Addr) (kc3 : Nat) : List Value := [.int .i64 x.1, .slice a1 x.2.1.length c1, .slice a2 x.2.2.1.length c2, .int .i64 x.2.2.2.kind, .int .i64 x.2.2.2.num, .string x.2.2.2.text, .slice na3 x.2.2.2.names.length nc3, .slice ka3 x.2.2.2.kids.length kc3]
theorem oprRep_open {w : World} {S : Nat → Prop} {x : Opr} {cs : List Value} (h : oprRep.R w S x cs) : ∃ (a1 : Option Addr) (c1 : Nat) (a2 : Option Addr) (c2 : Nat) (na3 : Option Addr) (nc3 : Nat) (ka3 : Option Addr) (kc3 : Nat), cs = oprL x a1 c1 a2 c2 na3 nc3 ka3 kc3 ∧ StrsR w S a1 c1 x.2.1 ∧ StrsR w S a2 c2 x.2.2.1 ∧ NodeC w S x.2.2.2 na3 nc3 ka3 kc3 := by
  obtain ⟨_, _, rfl, rfl, ⟨_, _, rfl, ⟨a1, c1, rfl, h1⟩, ⟨_, _, rfl, ⟨a2, c2, rfl, h2⟩, ⟨na3, nc3, ka3, kc3, rfl, h3⟩⟩⟩⟩ := h
  exact ⟨a1, c1, a2, c2, na3, nc3, ka3, kc3, rfl, h1, h2, h3⟩
theorem eqOpr_same (x : Opr) (cs ds : List Value) (w : World) (hx : oprRep.R w any x cs) (hy : oprRep.R w any x ds) :
    Calls Try.prog 24 #[.agg cs.toArray, .agg ds.toArray] w fun e w' => e = .returned (.bool true) ∧ Grow w w' := by
  obtain ⟨a1, c1, a2, c2, na3, nc3, ka3, kc3, rfl, h1, h2, h3⟩ := oprRep_open hx
  obtain ⟨a1', c1', a2', c2', na3', nc3', ka3', kc3', rfl, h1', h2', h3'⟩ := oprRep_open hy
  have H1 := Lib.hid h1
  have H1' := Lib.hid h1'
  have H2 := Lib.hid h2
  have H2' := Lib.hid h2'
  have H3 := Lib.hid h3
  have H3' := Lib.hid h3'
  have e0 : (x.1 != x.1) = false := by simp
  have E1 : Hid (eqS x.2.1 x.2.1 = true) := Lib.hid (by simp [eqS])
  have E2 : Hid (eqS x.2.2.1 x.2.2.1 = true) := Lib.hid (by simp [eqS])
  have E3 : Hid (eqN x.2.2.2 x.2.2.2 = true) := Lib.hid (eqN_refl _)
  clear hx hy h1 h1' h2 h2' h3 h3'
  unfold oprL
  go_enter Try.func24, Try.ntmps24
  go_wp2_with fail
  refine (eqStringS_ok _ _ _ _ x.2.1 x.2.1 _ (H1.out.grow (by repeat (first | with_reducible exact Ext.refl _ _ | with_reducible refine Ext.trans ?_ (by assumption) | with_reducible refine Ext.drew ?_ | with_reducible refine Ext.drewN ?_ _ | with_reducible refine Ext.alloc ?_ _ | with_reducible refine Ext.setNew ?_ (by simp; done) _ | with_reducible refine Ext.setNew ?_ (by simp; omega) _))) (H1'.out.grow (by repeat (first | with_reducible exact Ext.refl _ _ | with_reducible refine Ext.trans ?_ (by assumption) | with_reducible refine Ext.drew ?_ | with_reducible refine Ext.drewN ?_ _ | with_reducible refine Ext.alloc ?_ _ | with_reducible refine Ext.setNew ?_ (by simp; done) _ | with_reducible refine Ext.setNew ?_ (by simp; omega) _)))).mono ?_
  rintro e w3 ⟨rfl, hg3⟩
  simp only [E1.out]
  have hcc3 := bcell hg3
  go_wp2_with fail
  refine (eqStringS_ok _ _ _ _ x.2.2.1 x.2.2.1 _ (H2.out.grow (by repeat (first | with_reducible exact Ext.refl _ _ | with_reducible refine Ext.trans ?_ (by assumption) | with_reducible refine Ext.drew ?_ | with_reducible refine Ext.drewN ?_ _ | with_reducible refine Ext.alloc ?_ _ | with_reducible refine Ext.setNew ?_ (by simp; done) _ | with_reducible refine Ext.setNew ?_ (by simp; omega) _))) (H2'.out.grow (by repeat (first | with_reducible exact Ext.refl _ _ | with_reducible refine Ext.trans ?_ (by assumption) | with_reducible refine Ext.drew ?_ | with_reducible refine Ext.drewN ?_ _ | with_reducible refine Ext.alloc ?_ _ | with_reducible refine Ext.setNew ?_ (by simp; done) _ | with_reducible refine Ext.setNew ?_ (by simp; omega) _)))).mono ?_
  rintro e w4 ⟨rfl, hg4⟩
  simp only [E2.out]
  have hcc4 := bcell (hg3.trans hg4)
  go_wp2_with fail
  refine (eqNode_ok x.2.2.2 x.2.2.2 _ _ _ ⟨_, _, _, _, rfl, H3.out.grow' (by repeat (first | with_reducible exact Ext.refl _ _ | with_reducible refine Ext.trans ?_ (by assumption) | with_reducible refine Ext.drew ?_ | with_reducible refine Ext.drewN ?_ _ | with_reducible refine Ext.alloc ?_ _ | with_reducible refine Ext.setNew ?_ (by simp; done) _ | with_reducible refine Ext.setNew ?_ (by simp; omega) _))⟩ ⟨_, _, _, _, rfl, H3'.out.grow' (by repeat (first | with_reducible exact Ext.refl _ _ | with_reducible refine Ext.trans ?_ (by assumption) | with_reducible refine Ext.drew ?_ | with_reducible refine Ext.drewN ?_ _ | with_reducible refine Ext.alloc ?_ _ | with_reducible refine Ext.setNew ?_ (by simp; done) _ | with_reducible refine Ext.setNew ?_ (by simp; omega) _))⟩).mono ?_
  rintro e w5 ⟨rfl, hg5⟩
  simp only [E3.out]
  have hcc5 := bcell ((hg3.trans hg4).trans hg5)
  go_wp2_with fail
  go_ret
  exact ⟨by simp, (by repeat (first | with_reducible exact Ext.refl _ _ | with_reducible refine Ext.trans ?_ (by assumption) | with_reducible refine Ext.drew ?_ | with_reducible refine Ext.drewN ?_ _ | with_reducible refine Ext.alloc ?_ _ | with_reducible refine Ext.setNew ?_ (by simp; done) _ | with_reducible refine Ext.setNew ?_ (by simp; omega) _))⟩
end Go.Proofs.Ytgfnmhfdmmnaoaa
namespace Go.Proofs.Ytgfnmhfdmmnaoaa
open Go.RowKit
def wd : Nat → ByteArray
  | 1 => ⟨#[97, 100, 100]⟩
  | 2 => ⟨#[114, 101, 109, 111, 118, 101]⟩
  | 3 => ⟨#[114, 101, 112, 108, 97, 99, 101]⟩
  | 4 => ⟨#[109, 111, 118, 101]⟩
  | 5 => ⟨#[99, 111, 112, 121]⟩
  | 6 => ⟨#[116, 101, 115, 116]⟩
  | _ => ⟨#[]⟩
def kdT (t : ByteArray) : Nat → Nat
  | 0 => 0
  | i + 1 => if 1 ≤ i ∧ t = wd i then i else kdT t i
def kdN (t : ByteArray) : Nat := kdT t 7
theorem wd_inj {i j : Nat} (hi : 1 ≤ i) (hi' : i ≤ 6) (hj : 1 ≤ j) (hj' : j ≤ 6) (h : wd i = wd j) : i = j := by
  have key : ∀ a b : Fin 7, 1 ≤ a.1 → 1 ≤ b.1 → wd a.1 = wd b.1 → a = b := by decide +kernel
  have := key ⟨i, by omega⟩ ⟨j, by omega⟩ hi hj h
  exact congrArg Fin.val this
theorem kdT_le (t : ByteArray) : ∀ i, kdT t i ≤ i - 1
  | 0 => Nat.le_refl _
  | i + 1 => by
    unfold kdT
    have := kdT_le t i
    split <;> omega
theorem kdT_wd (t : ByteArray) : ∀ i, 1 ≤ kdT t i → t = wd (kdT t i)
  | 0, h => by simp [kdT] at h
  | i + 1, h => by
    unfold kdT at h ⊢
    split
    · rename_i h1; exact h1.2
    · rename_i h1; rw [if_neg h1] at h; exact kdT_wd t i h
theorem kdT_none {t : ByteArray} : ∀ {i : Nat}, (∀ j, 1 ≤ j → j < i → t ≠ wd j) → kdT t i = 0
  | 0, _ => rfl
  | i + 1, h => by
    unfold kdT
    rw [if_neg (fun h1 => h i h1.1 (by omega) h1.2)]
    exact kdT_none (fun j h1 h2 => h j h1 (by omega))
theorem kdT_of {t : ByteArray} {k : Nat} (h1 : 1 ≤ k) (h6 : k ≤ 6) (h : t = wd k) : ∀ {i : Nat}, k < i → i ≤ 7 → kdT t i = k
  | 0, h0, _ => by omega
  | i + 1, h0, h7 => by
    unfold kdT
    by_cases e : 1 ≤ i ∧ t = wd i
    · rw [if_pos e]
      exact wd_inj e.1 (by omega) h1 h6 (e.2.symm.trans h)
    · rw [if_neg e]
      have : k ≠ i := fun hk => e ⟨by omega, hk ▸ h⟩
      exact kdT_of h1 h6 h (by omega) (by omega)
theorem kdN_le (t : ByteArray) : kdN t ≤ 6 := kdT_le t 7
def wordN (s : ByteArray) : Nd := ⟨2, 0, s, [], []⟩
def stepsN (p : List ByteArray) : Nd := ⟨3, 0, ⟨#[]⟩, [], p.map wordN⟩
def opNms : List ByteArray := [⟨#[102, 114, 111, 109]⟩, ⟨#[111, 112]⟩, ⟨#[112, 97, 116, 104]⟩, ⟨#[118, 97, 108, 117, 101]⟩]
def opNd (k : Nat) (p f : List ByteArray) (v : Nd) : Nd := ⟨4, 0, ⟨#[]⟩, opNms, [stepsN f, wordN (wd k), stepsN p, v]⟩
def txtsN (n : Nd) : List ByteArray := n.kids.map (·.text)
def lstB (n : Nd) : Bool := decide (n.kind = 3) && n.kids.all (fun k => decide (k.kind = 2))
theorem stepsN_lst (p : List ByteArray) : lstB (stepsN p) = true := by
  unfold lstB stepsN
  simp [wordN]
theorem byte_nil {s : ByteArray} (h : s.toList.isEmpty = true) : s = ⟨#[]⟩ := by
  have h1 : s.toList = [] := by simpa using h
  rw [ByteArray.toList_eq] at h1
  apply ByteArray.ext
  exact Array.toList_eq_nil_iff.1 h1
theorem word_eq {k : Nd} (h : Good k) (h2 : k.kind = 2) : k = wordN k.text := by
  have hp := h.parts
  unfold partsB at hp
  rw [h2] at hp
  simp at hp
  have hn := h.other (by omega)
  obtain ⟨kind, num, text, names, kids⟩ := k
  simp only at *
  subst h2 hn
  unfold wordN
  simp only [Nd.mk.injEq, true_and]
  simp_all
theorem list_eq {n : Nd} (h : Good n) (hl : lstB n = true) : n = stepsN (txtsN n) := by
  unfold lstB at hl
  rw [Bool.and_eq_true, decide_eq_true_eq, List.all_eq_true] at hl
  obtain ⟨h3, hk⟩ := hl
  have hp := h.parts
  unfold partsB at hp
  rw [h3] at hp
  simp at hp
  have hn := h.other (by omega)
  have hk2 : n.kids = (txtsN n).map wordN := by
    unfold txtsN
    rw [List.map_map]
    refine ((List.map_congr_left (fun x hx => ?_)).trans (List.map_id _)).symm
    exact (word_eq (h.kid hx) (by simpa using hk x hx)).symm
  have ht : n.text = ⟨#[]⟩ := byte_nil (by simpa using hp.1.1.2)
  have h0 : n.num = 0 := hp.1.1.1
  obtain ⟨kind, num, text, names, kids⟩ := n
  simp only at *
  subst h3 h0 ht hn
  unfold stepsN
  rw [← hk2]
theorem shapeB_up : ∀ (n : Nd) (d e : Nat), d ≤ e → shapeB n d = true → shapeB n e = true := Nd.ind' _ (fun n ih d e hde h => by
  rw [shapeB_eq, Bool.and_eq_true, Bool.and_eq_true] at h ⊢
  obtain ⟨⟨h1, h2⟩, h3⟩ := h
  rw [shapeL_all, List.all_eq_true] at h3 ⊢
  exact ⟨⟨by simp at h1 ⊢; omega, h2⟩, fun k hk => ih k hk (d - 1) (e - 1) (by omega) (h3 k hk)⟩)
theorem validB_kid {n k : Nd} (h : validB n = true) (hk : k ∈ n.kids) : validB k = true := by
  unfold validB at h ⊢
  rw [Bool.and_eq_true, decide_eq_true_eq] at h ⊢
  obtain ⟨h1, h2⟩ := h
  rw [shapeB_eq, Bool.and_eq_true, shapeL_all, List.all_eq_true] at h1
  refine ⟨shapeB_up k 4 5 (by omega) (h1.2 k hk), ?_⟩
  have hc := n.count_eq
  have : k.count ≤ countL n.kids := by
    have aux : ∀ l : List Nd, k ∈ l → k.count ≤ countL l := fun l => by
      induction l with
      | nil => intro h; cases h
      | cons y l ih =>
        intro h
        rw [countL]
        rcases List.mem_cons.1 h with rfl | h
        · omega
        · have := ih h; omega
    exact aux _ hk
  omega
theorem good_word {s : ByteArray} (h : plainT s = true) : ∀ d, 1 ≤ d → shapeB (wordN s) d = true := fun d hd => by
  rw [shapeB_eq]
  simp [wordN, partsB, shapeL, h]
  omega
theorem good_steps {p : List ByteArray} (h : pathB p = true) : ∀ d, 2 ≤ d → shapeB (stepsN p) d = true := fun d hd => by
  unfold pathB at h
  rw [Bool.and_eq_true, decide_eq_true_eq, List.all_eq_true] at h
  have hp : partsB (stepsN p) = true := by
    unfold stepsN partsB
    simp
    omega
  rw [shapeB_eq, shapeL_all, hp, Bool.and_true, Bool.and_eq_true, decide_eq_true_eq, List.all_eq_true]
  refine ⟨by omega, fun k hk => ?_⟩
  unfold stepsN at hk
  obtain ⟨s, hs, rfl⟩ := List.mem_map.1 hk
  exact good_word (h.2 s hs) _ (by omega)
theorem wd_plain {k : Nat} (h1 : 1 ≤ k) (h6 : k ≤ 6) : plainT (wd k) = true := by
  have key : ∀ a : Fin 7, 1 ≤ a.1 → plainT (wd a.1) = true := by decide +kernel
  exact key ⟨k, by omega⟩ h1
theorem opNms_ok : areNamesB opNms = true := by decide +kernel
theorem good_op {k : Nat} {p f : List ByteArray} {v : Nd} (h1 : 1 ≤ k) (h6 : k ≤ 6) (hp : pathB p = true) (hf : pathB f = true) {d : Nat} (hd : 2 ≤ d) (hv : shapeB v d = true) : shapeB (opNd k p f v) (d + 1) = true := by
  have hpt : partsB (opNd k p f v) = true := by
    unfold opNd partsB
    simp [opNms_ok]
    rfl
  rw [shapeB_eq, hpt]
  simp only [opNd, shapeL, Nat.add_sub_cancel, good_steps hp d hd, good_steps hf d hd, good_word (wd_plain h1 h6) d (by omega), hv, Bool.and_self, Bool.and_true, decide_eq_true_eq]
  omega
def oprB (o : Opr) : Bool := inR o.1 1 6 && pathB o.2.1 && pathB o.2.2.1 && validB o.2.2.2
def zeroO : Opr := (0, [], [], Nd.zero)
def partO (n : Nd) : Opr := ((kdN ((n.kids.getD 1 Nd.zero).text) : Nat), txtsN (n.kids.getD 2 Nd.zero), txtsN (n.kids.getD 0 Nd.zero), n.kids.getD 3 Nd.zero)
def opOf (o : Opr) : Nd := opNd o.1.toNat o.2.1 o.2.2.1 o.2.2.2
def n2oB (n : Nd) : Bool := validB n && decide (n.kind = 4) && decide (n.kids.length = 4) && oprB (partO n) && (cmpN (opOf (partO n)) n == 0)
def n2oN (n : Nd) : Opr := if n2oB n then partO n else zeroO
def n2oI (n : Nd) : Bool := validB n && decide (n.kind = 4) && decide (n.names = opNms) && lstB (n.kids.getD 0 Nd.zero) && pathB (txtsN (n.kids.getD 0 Nd.zero)) && decide ((n.kids.getD 1 Nd.zero).kind = 2) && decide (1 ≤ kdN ((n.kids.getD 1 Nd.zero).text)) && lstB (n.kids.getD 2 Nd.zero) && pathB (txtsN (n.kids.getD 2 Nd.zero))
theorem four {l : List Nd} (h : l.length = 4) : l = [l.getD 0 Nd.zero, l.getD 1 Nd.zero, l.getD 2 Nd.zero, l.getD 3 Nd.zero] := by
  match l, h with
  | [a, b, c, d], _ => rfl
theorem n2o_same (n : Nd) : n2oI n = n2oB n := by
  cases hv : validB n
  · simp [n2oI, n2oB, hv]
  have hg : Good n := validB_good hv
  by_cases h4 : n.kind = 4
  rotate_left
  · simp [n2oI, n2oB, h4]
  have hm := hg.map h4
  apply Bool.eq_iff_iff.2
  constructor
  · intro h
    simp only [n2oI, Bool.and_eq_true, decide_eq_true_eq] at h
    obtain ⟨⟨⟨⟨⟨⟨⟨⟨_, _⟩, hn⟩, f1⟩, f2⟩, w1⟩, w2⟩, p1⟩, p2⟩ := h
    have hl : n.kids.length = 4 := by rw [hm.2, hn]; rfl
    have hk := four hl
    have mem : ∀ i, i < 4 → n.kids.getD i Nd.zero ∈ n.kids := fun i hi => by
      rw [List.getD_eq_getElem?_getD, List.getElem?_eq_getElem (by omega)]
      exact List.getElem_mem _
    have e0 := list_eq (hg.kid (mem 0 (by omega))) f1
    have e1 := word_eq (hg.kid (mem 1 (by omega))) w1
    have e2 := list_eq (hg.kid (mem 2 (by omega))) p1
    have hw := kdT_wd _ 7 w2
    have k6 := kdN_le ((n.kids.getD 1 Nd.zero).text)
    have ho : opOf (partO n) = n := by
      have hkk : n.kids = [stepsN (txtsN (n.kids.getD 0 Nd.zero)), wordN (wd (kdN ((n.kids.getD 1 Nd.zero).text))), stepsN (txtsN (n.kids.getD 2 Nd.zero)), n.kids.getD 3 Nd.zero] := by
        rw [← e0, ← e2]
        unfold kdN
        rw [← hw, ← e1]
        exact hk
      have hp := hg.parts
      unfold partsB at hp
      rw [h4] at hp
      simp at hp
      have ht : n.text = ⟨#[]⟩ := byte_nil (by simpa using hp.1.2)
      have h0 : n.num = 0 := hp.1.1
      unfold opOf partO opNd
      simp only [Int.toNat_natCast]
      rw [← hkk, ← hn, ← ht, ← h0]
      rw [show (⟨4, n.num, n.text, n.names, n.kids⟩ : Nd) = ⟨n.kind, n.num, n.text, n.names, n.kids⟩ by rw [h4]]
      exact (fun m : Nd => show (⟨m.kind, m.num, m.text, m.names, m.kids⟩ : Nd) = m by cases m; rfl) n
    have hob : oprB (partO n) = true := by
      unfold oprB partO
      simp only [p2, f2, Bool.and_true, Bool.and_eq_true]
      refine ⟨?_, validB_kid hv (mem 3 (by omega))⟩
      unfold inR
      simp [-List.getD_eq_getElem?_getD]
      omega
    simp only [n2oB, hv, h4, hl, hob, ho, cmpN_refl]
    rfl
  · intro h
    simp only [n2oB, Bool.and_eq_true, decide_eq_true_eq, beq_iff_eq] at h
    obtain ⟨⟨⟨⟨_, _⟩, hl⟩, hob⟩, hc⟩ := h
    have hob' := hob
    unfold oprB at hob'
    simp only [Bool.and_eq_true] at hob'
    obtain ⟨⟨⟨k1, p1⟩, f1⟩, v1⟩ := hob'
    have k1' : 1 ≤ kdN ((n.kids.getD 1 Nd.zero).text) ∧ kdN ((n.kids.getD 1 Nd.zero).text) ≤ 6 := by
      unfold inR partO at k1
      simp [-List.getD_eq_getElem?_getD] at k1
      omega
    have hgo : Good (opOf (partO n)) := by
      obtain ⟨d, hd⟩ := validB_good v1
      refine ⟨(d + 2) + 1, good_op ?_ ?_ p1 f1 (by omega) (shapeB_up _ d _ (by omega) hd)⟩
      · simp [-List.getD_eq_getElem?_getD, partO]; exact k1'.1
      · simp [-List.getD_eq_getElem?_getD, partO]; exact k1'.2
    have e := cmpN_zero _ _ hgo hg hc
    have hn : n.names = opNms := by rw [← e]; rfl
    have hk : n.kids = [stepsN (partO n).2.2.1, wordN (wd (partO n).1.toNat), stepsN (partO n).2.1, (partO n).2.2.2] := by
      conv => lhs; rw [← e]
      rfl
    have g0 : n.kids.getD 0 Nd.zero = stepsN (partO n).2.2.1 := by rw [hk]; rfl
    have g1 : n.kids.getD 1 Nd.zero = wordN (wd (partO n).1.toNat) := by rw [hk]; rfl
    have g2 : n.kids.getD 2 Nd.zero = stepsN (partO n).2.1 := by rw [hk]; rfl
    have q0 : lstB (n.kids.getD 0 Nd.zero) = true := by rw [g0]; exact stepsN_lst _
    have q1 : (n.kids.getD 1 Nd.zero).kind = 2 := by rw [g1]; rfl
    have q2 : lstB (n.kids.getD 2 Nd.zero) = true := by rw [g2]; exact stepsN_lst _
    have r0 : pathB (txtsN (n.kids.getD 0 Nd.zero)) = true := f1
    have r2 : pathB (txtsN (n.kids.getD 2 Nd.zero)) = true := p1
    simp [-List.getD_eq_getElem?_getD, n2oI, hv, h4, hn, q0, q1, q2, r0, r2, k1'.1]
end Go.Proofs.Ytgfnmhfdmmnaoaa
-- EV: skip
namespace Go.Proofs.Ytgfnmhfdmmnaoaa.Eng
open Go Go.RowKit
attribute [local simp] big size_mk ASt.pay Option.map_map Function.comp_def awant aop acall ado aev ofVal ofVal0 ASt.put ASt.add ASt.turn ASt.kill abox aalloc astore aload aloadD astoreD idOf ASt.at cellsTo afieldAddr afield aindexAddr aindex alen abin aint acmp astr aun apick aextract anil aslice abound abuild afill abuildSlice asCells aps avCells over upd aappend asrc amax amin aconv mkSt slots rowsOf_cons rowsOf_nil usedOf_cons usedOf_nil ZK.av List.replicate ASt.back ASt.addL ASt.killL nodeA nodeT nodeTL_eq nodeL_eq strsE_get strsE_len intsE_get intsE_len strsE_at intsE_at tab2 tab3 tab4 tab5 tab6 tab7 tab8 tab9 tab10 tab11 tab12 tab13 tab14 tab15 tab16 tab17 tab18 tab19 tab21 tab22 tab23 tab24 tab25 tab26 tab27 tab28 tab29 tab30 tab39 tab40 tab41 tab42 tab43 tab47 tab48 tab55 tab56 tab57 tab60 tab61 tab62 tab73 tab74 tab75 tab85 tab92 tab115 tab116 tab143 tab144 tab145 tab154 tab155 tab170 tab175 tab182 tab197 tab198 tab203 tab204 tab205 tab207 tab208 tab209
def oprA (o : Opr) : AV := .agg [.int .i64 o.1, .view .loose 1 (strsE o.2.1), .view .loose 1 (strsE o.2.2.1), .int .i64 o.2.2.2.kind, .int .i64 o.2.2.2.num, .str o.2.2.2.text, .view .loose 1 (strsE o.2.2.2.names), .view .loose 5 (o.2.2.2.kids.map nodeL)]
theorem oprA_pur (o : Opr) : Pur (oprA o) := pur_agg (by
  simp only [List.forall_mem_cons, List.not_mem_nil, false_implies, implies_true, and_true]
  exact ⟨pur_int, strs_pur _ (by decide), strs_pur _ (by decide), pur_int, pur_int, pur_str, strs_pur _ (by decide), pur_view (by decide) (nodesE_pur _)⟩)
theorem oprA_clo (o : Opr) : Clo (oprA o) := (oprA_pur o).clo
theorem oprA_in {U : Nat → Bool} (o : Opr) : AV.In U (oprA o) := in_agg.2 (by
  simp only [List.forall_mem_cons, List.not_mem_nil, false_implies, implies_true, and_true]
  exact ⟨in_int, strs_in _, strs_in _, in_int, in_int, in_str, strs_in _, in_view.2 (nodesE_in _)⟩)
def mets : List ByteArray := [⟨#[]⟩, wd 1, wd 2, wd 3, wd 4, wd 5, wd 6]
set_option maxRecDepth 100000
set_option maxHeartbeats 8000000
theorem word_AC (s : ByteArray) : AC Try.prog 140 [.str s] 0 (fun r => r = nodeA (wordN s)) := by
  refine AC.weak ?_
  refine AC.of tab_ok mixed_ok Try.func140 (by rfl) (by kernel_rfl) ?_; rintro ⟨P, T, hT, hm, w0, S0, rd0, k0⟩ hP hTT; dsimp only at hP hTT; subst hP hTT; unfold initSt; rw [Try.ntmps140]
  (repeat (first | with_reducible refine AW.seq ?_ | ((first | refine arun_kn 4 rfl (fun C hC => ?_) | refine arunD_kn 4 rfl (fun C hC => ?_)); (repeat ((conv => whnf); simp)); refine hC _ ?_; clear hC C; simp only [List.drop, Nat.reduceAdd]) | ((first | refine arun_kn 1 rfl (fun C hC => ?_) | refine arunD_kn 1 rfl (fun C hC => ?_)); (repeat ((conv => whnf); simp)); refine hC _ ?_; clear hC C; simp only [List.drop, Nat.reduceAdd]) | (refine arun_skip ?_ ?_; (focus (simp [awant]; done))) | (refine arunD_skip ?_ ?_; (focus (simp [awant]; done))) | (refine AW.regionK [] (fun K hK => ?_)) | (refine AW.regionDK [] (pcs [] []) (by kernel_rfl) (by kernel_rfl) (fun K hK => ?_)) | (refine AW.condT ?_ ?_; (focus (simp [aev]; done))) | (refine AW.condF ?_ ?_; (focus (simp [aev]; done))) | with_reducible refine AW.block ?_ | ((first | ((first | refine arun_nil ?_ | refine arunD_nil ?_); refine hK _ ?_; clear hK K) | refine AW.skip ?_ | refine AW.exit ?_ | refine AW.ret ?_); simp only [thenA_exit, inBlockA_exit, if_true, if_false, Nat.reduceEqDiff, thenA_normal, inBlockA_normal, reduceIte, thenA_ret, inBlockA_ret, endQ_ret, endR_ret, endG_ret, endQ_normal, endR_normal, endG_normal])))
  refine ⟨.agg [.int .i64 2, .int .i64 0, .str s, .view .tight 0 [], .view .tight 0 []], by simp [ares, aresL, upd, rowsOf_cons], ?_, nodeA (wordN s), ?_, rfl⟩
  · refine pur_agg ?_
    simp only [List.forall_mem_cons, List.not_mem_nil, false_implies, implies_true, and_true]
    exact ⟨pur_int, pur_int, pur_str, pur_view (by decide) (fun e he => by cases he), pur_view (by decide) (fun e he => by cases he)⟩
  · unfold nodeA wordN
    rw [nodeL_eq]
    exact Wk.agg (.cons (Wk.refl _) (.cons (Wk.refl _) (.cons (Wk.refl _) (.cons (Wk.nil (fun h => by cases h)) (.cons (Wk.nil (fun h => by cases h)) .nil)))))
theorem methods_AC : AC Try.prog 93 [] 0 (fun r => r = .view .loose 1 (strsE mets)) := by
  refine AC.weak ?_
  refine AC.of tab_ok mixed_ok Try.func93 (by rfl) (by kernel_rfl) ?_; rintro ⟨P, T, hT, hm, w0, S0, rd0, k0⟩ hP hTT; dsimp only at hP hTT; subst hP hTT; unfold initSt; rw [Try.ntmps93]
  (repeat (first | with_reducible refine AW.seq ?_ | ((first | refine arun_kn 4 rfl (fun C hC => ?_) | refine arunD_kn 4 rfl (fun C hC => ?_)); (repeat ((conv => whnf); simp)); refine hC _ ?_; clear hC C; simp only [List.drop, Nat.reduceAdd]) | ((first | refine arun_kn 1 rfl (fun C hC => ?_) | refine arunD_kn 1 rfl (fun C hC => ?_)); (repeat ((conv => whnf); simp)); refine hC _ ?_; clear hC C; simp only [List.drop, Nat.reduceAdd]) | (refine arun_skip ?_ ?_; (focus (simp [awant]; done))) | (refine arunD_skip ?_ ?_; (focus (simp [awant]; done))) | (refine AW.regionK [] (fun K hK => ?_)) | (refine AW.regionDK [] (pcs [] []) (by kernel_rfl) (by kernel_rfl) (fun K hK => ?_)) | (refine AW.condT ?_ ?_; (focus (simp [aev]; done))) | (refine AW.condF ?_ ?_; (focus (simp [aev]; done))) | with_reducible refine AW.block ?_ | ((first | ((first | refine arun_nil ?_ | refine arunD_nil ?_); refine hK _ ?_; clear hK K) | refine AW.skip ?_ | refine AW.exit ?_ | refine AW.ret ?_); simp only [thenA_exit, inBlockA_exit, if_true, if_false, Nat.reduceEqDiff, thenA_normal, inBlockA_normal, reduceIte, thenA_ret, inBlockA_ret, endQ_ret, endR_ret, endG_ret, endQ_normal, endR_normal, endG_normal])))
  exact ⟨.view .tight 1 (strsE mets), by simp [ares, aresL, strsE, mets, wd], strs_pur _ (by decide), _, Wk.loose (by decide), rfl⟩
def stepsO (p : List ByteArray) (id : Nat) : AV := .agg [.int .i64 3, .int .i64 0, .str ⟨#[]⟩, .view .tight 1 [], .own id p.length]
def stepsR (p : List ByteArray) : Row := ⟨false, 30, 5, (p.map wordN).map nodeL⟩
theorem stepsO_sub (p : List ByteArray) : AV.sub 0 (stepsR p).es.length (.view .loose (stepsR p).sz (stepsR p).es) (stepsO p 0) = .agg [.int .i64 3, .int .i64 0, .str ⟨#[]⟩, .view .tight 1 [], .view .loose 5 ((p.map wordN).map nodeL)] := by
  simp [stepsO, stepsR, AV.sub, AV.subL]
theorem steps_step (p : List ByteArray) (hp : p.length ≤ 6) : ACR Try.prog 139 [.view .loose 1 (strsE p)] 0 (fun _ => False) (fun f R => f = stepsO p ∧ R = stepsR p) := by
  refine ACR.of tab_ok mixed_ok Try.func139 (by rfl) (by kernel_rfl) ?_; rintro ⟨P, T, hT, hm, w0, S0, rd0, k0⟩ hP hTT; dsimp only at hP hTT; subst hP hTT; unfold initSt; rw [Try.ntmps139]
  (repeat (first | with_reducible refine AW.seq ?_ | ((first | refine arun_kn 4 rfl (fun C hC => ?_) | refine arunD_kn 4 rfl (fun C hC => ?_)); (repeat ((conv => whnf); simp)); refine hC _ ?_; clear hC C; simp only [List.drop, Nat.reduceAdd]) | ((first | refine arun_kn 1 rfl (fun C hC => ?_) | refine arunD_kn 1 rfl (fun C hC => ?_)); (repeat ((conv => whnf); simp)); refine hC _ ?_; clear hC C; simp only [List.drop, Nat.reduceAdd]) | (refine arun_skip ?_ ?_; (focus (simp [awant]; done))) | (refine arunD_skip ?_ ?_; (focus (simp [awant]; done))) | (refine AW.regionK [] (fun K hK => ?_)) | (refine AW.regionDK [] (pcs [] []) (by kernel_rfl) (by kernel_rfl) (fun K hK => ?_)) | (refine AW.condT ?_ ?_; (focus (simp [aev]; done))) | (refine AW.condF ?_ ?_; (focus (simp [aev]; done))) | with_reducible refine AW.block ?_ | ((first | ((first | refine arun_nil ?_ | refine arunD_nil ?_); refine hK _ ?_; clear hK K) | refine AW.skip ?_ | refine AW.exit ?_ | refine AW.ret ?_); simp only [thenA_exit, inBlockA_exit, if_true, if_false, Nat.reduceEqDiff, thenA_normal, inBlockA_normal, reduceIte, thenA_ret, inBlockA_ret, endQ_ret, endR_ret, endG_ret, endQ_normal, endR_normal, endG_normal])))
  refine AW.adopt 3 3 30 5 ⟨_, tab30, rfl⟩ rfl rfl ?_
  simp only [ASt.adopt, ASt.add, List.set_cons_zero, List.set_cons_succ]
  refine AW.loopS (fun (i : Nat) => mkSt (slots 0 23 [(0, .view .loose 1 (strsE p)), (2, .ptr true 5 1 2 0 0), (3, .own 3 i), (4, .int .i64 i)]) [(2, ⟨true, 30, 5, [[.int .i64 0, .int .i64 0, .str ⟨#[]⟩, .view .tight 0 [], .view .tight 0 []]]⟩), (3, ⟨false, 30, 5, ((p.take i).map wordN).map nodeL⟩)] [2, 3] (rd0.map fun _ => 0)) (fun i => p.length - i) (fun i => i ≤ p.length) 0 ?_ (Nat.zero_le _) ?_
  · exact (less_of (by simp [lessL, mkSt, slots, ASt.adopt, ASt.add]) (by simp [upd, mkSt, rowsOf_cons, ASt.adopt, ASt.add]) (by simp [upd, mkSt, usedOf_cons, ASt.adopt, ASt.add]) (by first | exact rd_less (by omega) | simp [mkSt, ASt.adopt, ASt.add]) (by simp [slots, in_any, in_int, in_bool, in_str, in_ptr, in_own, in_agg, in_vnil, in_rdr, usedOf_cons, usedOf_nil, strs_in, ints_in, nodes_in, in_tup, ASt.adopt, ASt.add]) (by simp only [List.forall_mem_cons, List.not_mem_nil, false_implies, implies_true, and_true, true_and, ASt.adopt, ASt.add]; (repeat (first | with_reducible exact trivial | with_reducible refine And.intro ?_ ?_ | with_reducible exact in_int | with_reducible exact in_str | with_reducible exact in_bool | with_reducible exact strs_in _ | with_reducible exact nodes_in _ | with_reducible exact items_in _ | with_reducible exact in_vnil | with_reducible exact in_any | exact hin _ | with_reducible refine take_in ?_ | with_reducible exact strsE_in _ | with_reducible exact nodesE_in _ | with_reducible exact nodeL_in _ | with_reducible exact itemsE_in _ | with_reducible exact itemL_in _ | with_reducible refine app_in ?_ ?_ | with_reducible refine sing_in ?_ | (focus (simp [in_any, in_int, in_bool, in_str, in_ptr, in_own, in_agg, in_vnil, in_rdr, usedOf_cons, usedOf_nil, strs_in, ints_in, nodes_in, ASt.adopt, ASt.add]; done)))); done))
  intro i hi
  have hl : (((p.take i).map wordN).map nodeL).length = i := by simp; omega
  by_cases hlt : i < p.length
  · have hw : IntKind.i64.wrap ((i : Int) + 1) = (i : Int) + 1 := i64_nat (by omega) (by omega)
    have hb1 : (i + 1) * 80 ≤ 140737488355328 := by omega
    have hb2 : i + 1 ≤ 140737488355328 := by omega
    have htk : p.take (i + 1) = p.take i ++ [p[i]] := take_snoc' _ _ hlt
    have pw := word_AC p[i]
    unfold nodeA at pw
    rw [nodeL_eq] at pw
    obtain ⟨Ks, hK⟩ : ∃ Ks, Ks = ((p.take i).map wordN).map nodeL := ⟨_, rfl⟩
    rw [← hK] at hl ⊢
    (repeat (first | with_reducible refine AW.seq ?_ | ((first | refine arun_kn 4 rfl (fun C hC => ?_) | refine arunD_kn 4 rfl (fun C hC => ?_)); (repeat ((conv => whnf); simp [hlt, hw, hl, hb1, hb2, strsE_len])); refine hC _ ?_; clear hC C; simp only [List.drop, Nat.reduceAdd]) | ((first | refine arun_kn 1 rfl (fun C hC => ?_) | refine arunD_kn 1 rfl (fun C hC => ?_)); (repeat ((conv => whnf); simp [hlt, hw, hl, hb1, hb2, strsE_len])); refine hC _ ?_; clear hC C; simp only [List.drop, Nat.reduceAdd]) | (refine arun_skip ?_ ?_; (focus (simp [awant, hlt, hw, hl, hb1, hb2, strsE_len]; done))) | (refine arun_c0 (pw) ?_; rintro _ rfl) | (refine arunD_skip ?_ ?_; (focus (simp [awant, hlt, hw, hl, hb1, hb2, strsE_len]; done))) | (refine AW.regionK [] (fun K hK => ?_)) | (refine AW.regionDK [] (pcs [] []) (by kernel_rfl) (by kernel_rfl) (fun K hK => ?_)) | (refine AW.condT ?_ ?_; (focus (simp [aev, hlt, hw, hl, hb1, hb2, strsE_len]; done))) | (refine AW.condF ?_ ?_; (focus (simp [aev, hlt, hw, hl, hb1, hb2, strsE_len]; done))) | with_reducible refine AW.block ?_ | ((first | ((first | refine arun_nil ?_ | refine arunD_nil ?_); refine hK _ ?_; clear hK K) | refine AW.skip ?_ | refine AW.exit ?_ | refine AW.ret ?_); simp only [thenA_exit, inBlockA_exit, if_true, if_false, Nat.reduceEqDiff, thenA_normal, inBlockA_normal, reduceIte, thenA_ret, inBlockA_ret, endQ_ret, endR_ret, endG_ret, endQ_normal, endR_normal, endG_normal])))
    refine ⟨i + 1, by omega, by omega, ?_⟩
    have hin : ∀ U : Nat → Bool, ∀ e ∈ ((p.take (i + 1)).map wordN).map nodeL, ∀ c ∈ e, AV.In U c := fun U e he => nodesE_in _ e he
    rw [htk, List.map_append, List.map_append, ← hK] at hin ⊢
    have e1 : List.map nodeL (List.map wordN [p[i]]) = [nodeL (wordN p[i])] := rfl
    rw [e1, nodeL_eq] at hin ⊢
    exact less_a
  · obtain rfl : i = p.length := by omega
    rw [List.take_length] at hl ⊢
    obtain ⟨Ks, hK⟩ : ∃ Ks, Ks = (p.map wordN).map nodeL := ⟨_, rfl⟩
    rw [← hK] at hl ⊢
    (repeat (first | with_reducible refine AW.seq ?_ | ((first | refine arun_kn 4 rfl (fun C hC => ?_) | refine arunD_kn 4 rfl (fun C hC => ?_)); (repeat ((conv => whnf); simp [hlt, strsE_len])); refine hC _ ?_; clear hC C; simp only [List.drop, Nat.reduceAdd]) | ((first | refine arun_kn 1 rfl (fun C hC => ?_) | refine arunD_kn 1 rfl (fun C hC => ?_)); (repeat ((conv => whnf); simp [hlt, strsE_len])); refine hC _ ?_; clear hC C; simp only [List.drop, Nat.reduceAdd]) | (refine arun_skip ?_ ?_; (focus (simp [awant, hlt, strsE_len]; done))) | (refine arunD_skip ?_ ?_; (focus (simp [awant, hlt, strsE_len]; done))) | (refine AW.regionK [] (fun K hK => ?_)) | (refine AW.regionDK [] (pcs [] []) (by kernel_rfl) (by kernel_rfl) (fun K hK => ?_)) | (refine AW.condT ?_ ?_; (focus (simp [aev, hlt, strsE_len]; done))) | (refine AW.condF ?_ ?_; (focus (simp [aev, hlt, strsE_len]; done))) | with_reducible refine AW.block ?_ | ((first | ((first | refine arun_nil ?_ | refine arunD_nil ?_); refine hK _ ?_; clear hK K) | refine AW.skip ?_ | refine AW.exit ?_ | refine AW.ret ?_); simp only [thenA_exit, inBlockA_exit, if_true, if_false, Nat.reduceEqDiff, thenA_normal, inBlockA_normal, reduceIte, thenA_ret, inBlockA_ret, endQ_ret, endR_ret, endG_ret, endQ_normal, endR_normal, endG_normal])))
    refine ⟨stepsO p 3, ?_, .inr ⟨stepsO p, 3, stepsR p, rfl, ?_, ?_, nodesE_pur _, rfl, rfl⟩⟩
    · simp [ares, aresL, upd, rowsOf_cons, stepsO]
    · simp only [stepsR, ← hK]; simp [upd, rowsOf_cons]
    · exact Res1.agg [fun _ => .int .i64 3, fun _ => .int .i64 0, fun _ => .str ⟨#[]⟩, fun _ => .view .tight 1 [], fun id => .own id p.length] (by
          simp only [List.forall_mem_cons, List.not_mem_nil, false_implies, implies_true, and_true]
          exact ⟨Res1.pur _ pur_int, Res1.pur _ pur_int, Res1.pur _ pur_str, Res1.pur _ (strs_pur [] (by decide)), Res1.own _ _⟩)
theorem steps_AC (p : List ByteArray) (hp : p.length ≤ 6) : AC Try.prog 139 [.view .loose 1 (strsE p)] 0 (fun r => r = nodeA (stepsN p)) := by
  refine AC.weak ((AC.ofR (steps_step p hp) ?_).mono ?_)
  · rintro r R ⟨rfl, rfl⟩
    rw [stepsO_sub]
    refine in_agg.2 ?_
    simp only [List.forall_mem_cons, List.not_mem_nil, false_implies, implies_true, and_true]
    exact ⟨in_int, in_int, in_str, strs_in [], in_view.2 (nodesE_in _)⟩
  · rintro r (h | ⟨f, R, ⟨rfl, rfl⟩, rfl⟩)
    · exact h.elim
    · rw [stepsO_sub]
      refine ⟨nodeA (stepsN p), ?_, rfl⟩
      unfold nodeA stepsN
      rw [nodeL_eq]
      exact Wk.agg (.cons (Wk.refl _) (.cons (Wk.refl _) (.cons (Wk.refl _) (.cons (Wk.nil (fun h => by cases h)) (.cons (Wk.refl _) .nil)))))
end Go.Proofs.Ytgfnmhfdmmnaoaa.Eng
-- EV: skip
namespace Go.Proofs.Ytgfnmhfdmmnaoaa.Eng
open Go Go.RowKit
attribute [local simp] big size_mk ASt.pay Option.map_map Function.comp_def awant aop acall ado aev ofVal ofVal0 ASt.put ASt.add ASt.turn ASt.kill abox aalloc astore aload aloadD astoreD idOf ASt.at cellsTo afieldAddr afield aindexAddr aindex alen abin aint acmp astr aun apick aextract anil aslice abound abuild afill abuildSlice asCells aps avCells over upd aappend asrc amax amin aconv mkSt slots rowsOf_cons rowsOf_nil usedOf_cons usedOf_nil ZK.av List.replicate ASt.back ASt.addL ASt.killL nodeA nodeT nodeTL_eq nodeL_eq strsE_get strsE_len intsE_get intsE_len strsE_at intsE_at tab2 tab3 tab4 tab5 tab6 tab7 tab8 tab9 tab10 tab11 tab12 tab13 tab14 tab15 tab16 tab17 tab18 tab19 tab21 tab22 tab23 tab24 tab25 tab26 tab27 tab28 tab29 tab30 tab39 tab40 tab41 tab42 tab43 tab47 tab48 tab55 tab56 tab57 tab60 tab61 tab62 tab73 tab74 tab75 tab85 tab92 tab115 tab116 tab143 tab144 tab145 tab154 tab155 tab170 tab175 tab182 tab197 tab198 tab203 tab204 tab205 tab207 tab208 tab209
set_option maxRecDepth 100000
set_option maxHeartbeats 8000000
def txtR (p : List ByteArray) : Row := ⟨false, 9, 1, strsE p⟩
theorem txtR_sub (p : List ByteArray) : AV.sub 0 (txtR p).es.length (.view .loose (txtR p).sz (txtR p).es) (.own 0 p.length) = .view .loose 1 (strsE p) := by
  simp [AV.sub, txtR, strsE_len]
theorem txtsN_len (n : Nd) : (txtsN n).length = n.kids.length := by unfold txtsN; rw [List.length_map]
theorem pathOf_step (n : Nd) (hp : n.kids.length ≤ 6) : ACR Try.prog 94 [nodeA n] 0 (fun _ => False) (fun f R => f = (fun id => .own id (txtsN n).length) ∧ R = txtR (txtsN n)) := by
  unfold nodeA
  rw [nodeL_eq]
  refine ACR.of tab_ok mixed_ok Try.func94 (by rfl) (by kernel_rfl) ?_; rintro ⟨P, T, hT, hm, w0, S0, rd0, k0⟩ hP hTT; dsimp only at hP hTT; subst hP hTT; unfold initSt; rw [Try.ntmps94]
  (repeat (first | with_reducible refine AW.seq ?_ | ((first | refine arun_kn 4 rfl (fun C hC => ?_) | refine arunD_kn 4 rfl (fun C hC => ?_)); (repeat ((conv => whnf); simp)); refine hC _ ?_; clear hC C; simp only [List.drop, Nat.reduceAdd]) | ((first | refine arun_kn 1 rfl (fun C hC => ?_) | refine arunD_kn 1 rfl (fun C hC => ?_)); (repeat ((conv => whnf); simp)); refine hC _ ?_; clear hC C; simp only [List.drop, Nat.reduceAdd]) | (refine arun_skip ?_ ?_; (focus (simp [awant]; done))) | (refine arunD_skip ?_ ?_; (focus (simp [awant]; done))) | (refine AW.regionK [] (fun K hK => ?_)) | (refine AW.regionDK [] (pcs [] []) (by kernel_rfl) (by kernel_rfl) (fun K hK => ?_)) | (refine AW.condT ?_ ?_; (focus (simp [aev]; done))) | (refine AW.condF ?_ ?_; (focus (simp [aev]; done))) | with_reducible refine AW.block ?_ | ((first | ((first | refine arun_nil ?_ | refine arunD_nil ?_); refine hK _ ?_; clear hK K) | refine AW.skip ?_ | refine AW.exit ?_ | refine AW.ret ?_); simp only [thenA_exit, inBlockA_exit, if_true, if_false, Nat.reduceEqDiff, thenA_normal, inBlockA_normal, reduceIte, thenA_ret, inBlockA_ret, endQ_ret, endR_ret, endG_ret, endQ_normal, endR_normal, endG_normal])))
  refine AW.adopt 3 3 9 1 ⟨_, tab9, rfl⟩ rfl rfl ?_
  simp only [ASt.adopt, ASt.add, List.set_cons_zero, List.set_cons_succ]
  refine AW.loopS (fun (i : Nat) => mkSt (slots 0 23 [(1, .ptr true 5 1 1 0 0), (3, .own 3 i), (4, .int .i64 i)]) [(1, ⟨true, 30, 5, [nodeL n]⟩), (3, ⟨false, 9, 1, strsE ((txtsN n).take i)⟩)] [1, 3] (rd0.map fun _ => 0)) (fun i => n.kids.length - i) (fun i => i ≤ n.kids.length) 0 ?_ (Nat.zero_le _) ?_
  · rw [nodeL_eq]
    have hs0 : strsE [] = [] := rfl
    exact (less_of (by simp [lessL, mkSt, slots, ASt.adopt, ASt.add, hs0]) (by simp [upd, mkSt, rowsOf_cons, ASt.adopt, ASt.add, hs0]) (by simp [upd, mkSt, usedOf_cons, ASt.adopt, ASt.add, hs0]) (by first | exact rd_less (by omega) | simp [mkSt, ASt.adopt, ASt.add, hs0]) (by simp [slots, in_any, in_int, in_bool, in_str, in_ptr, in_own, in_agg, in_vnil, in_rdr, usedOf_cons, usedOf_nil, strs_in, ints_in, nodes_in, in_tup, ASt.adopt, ASt.add, hs0]) (by simp only [List.forall_mem_cons, List.not_mem_nil, false_implies, implies_true, and_true, true_and, ASt.adopt, ASt.add, hs0]; (repeat (first | with_reducible exact trivial | with_reducible refine And.intro ?_ ?_ | with_reducible exact in_int | with_reducible exact in_str | with_reducible exact in_bool | with_reducible exact strs_in _ | with_reducible exact nodes_in _ | with_reducible exact items_in _ | with_reducible exact in_vnil | with_reducible exact in_any | exact hin _ | with_reducible refine take_in ?_ | with_reducible exact strsE_in _ | with_reducible exact nodesE_in _ | with_reducible exact nodeL_in _ | with_reducible exact itemsE_in _ | with_reducible exact itemL_in _ | with_reducible refine app_in ?_ ?_ | with_reducible refine sing_in ?_ | (focus (simp [in_any, in_int, in_bool, in_str, in_ptr, in_own, in_agg, in_vnil, in_rdr, usedOf_cons, usedOf_nil, strs_in, ints_in, nodes_in, ASt.adopt, ASt.add, hs0]; done)))); done))
  intro i hi
  rw [nodeL_eq]
  have hl : (strsE ((txtsN n).take i)).length = i := by rw [strsE_len, List.length_take, txtsN_len]; omega
  by_cases hlt : i < n.kids.length
  · have hw : IntKind.i64.wrap ((i : Int) + 1) = (i : Int) + 1 := i64_nat (by omega) (by omega)
    have hlt' : (i : Int) < (n.kids.length : Int) := by omega
    have hb1 : (i + 1) * 16 ≤ 140737488355328 := by omega
    have hb2 : i + 1 ≤ 140737488355328 := by omega
    have x1 : (n.kids.map nodeL)[i]? = some [.int .i64 n.kids[i].kind, .int .i64 n.kids[i].num, .str n.kids[i].text, .view .loose 1 (strsE n.kids[i].names), .view .loose 5 (n.kids[i].kids.map nodeL)] := by rw [List.getElem?_map, List.getElem?_eq_getElem hlt, ← nodeL_eq]; rfl
    have htk : strsE ((txtsN n).take (i + 1)) = strsE ((txtsN n).take i) ++ [[.str n.kids[i].text]] := by
      rw [take_snoc' _ _ (by rw [txtsN_len]; exact hlt)]
      unfold strsE txtsN
      rw [List.map_append, List.getElem_map]; rfl
    have hin := fun (U : Nat → Bool) => strsE_in (U := U) ((txtsN n).take (i + 1))
    rw [htk] at hin
    generalize strsE ((txtsN n).take i) = Ks at *
    (repeat (first | with_reducible refine AW.seq ?_ | ((first | refine arun_kn 4 rfl (fun C hC => ?_) | refine arunD_kn 4 rfl (fun C hC => ?_)); (repeat ((conv => whnf); simp [hlt, hlt', x1, hw, hl, hb1, hb2])); refine hC _ ?_; clear hC C; simp only [List.drop, Nat.reduceAdd]) | ((first | refine arun_kn 1 rfl (fun C hC => ?_) | refine arunD_kn 1 rfl (fun C hC => ?_)); (repeat ((conv => whnf); simp [hlt, hlt', x1, hw, hl, hb1, hb2])); refine hC _ ?_; clear hC C; simp only [List.drop, Nat.reduceAdd]) | (refine arun_skip ?_ ?_; (focus (simp [awant, hlt, hlt', x1, hw, hl, hb1, hb2]; done))) | (refine arunD_skip ?_ ?_; (focus (simp [awant, hlt, hlt', x1, hw, hl, hb1, hb2]; done))) | (refine AW.regionK [] (fun K hK => ?_)) | (refine AW.regionDK [] (pcs [] []) (by kernel_rfl) (by kernel_rfl) (fun K hK => ?_)) | (refine AW.condT ?_ ?_; (focus (simp [aev, hlt, hlt', x1, hw, hl, hb1, hb2]; done))) | (refine AW.condF ?_ ?_; (focus (simp [aev, hlt, hlt', x1, hw, hl, hb1, hb2]; done))) | with_reducible refine AW.block ?_ | ((first | ((first | refine arun_nil ?_ | refine arunD_nil ?_); refine hK _ ?_; clear hK K) | refine AW.skip ?_ | refine AW.exit ?_ | refine AW.ret ?_); simp only [thenA_exit, inBlockA_exit, if_true, if_false, Nat.reduceEqDiff, thenA_normal, inBlockA_normal, reduceIte, thenA_ret, inBlockA_ret, endQ_ret, endR_ret, endG_ret, endQ_normal, endR_normal, endG_normal])))
    refine ⟨i + 1, by omega, by omega, ?_⟩
    rw [htk]
    exact less_a
  · obtain rfl : i = n.kids.length := by omega
    rw [← txtsN_len, List.take_length] at hl ⊢
    (repeat (first | with_reducible refine AW.seq ?_ | ((first | refine arun_kn 4 rfl (fun C hC => ?_) | refine arunD_kn 4 rfl (fun C hC => ?_)); (repeat ((conv => whnf); simp [hlt, txtsN_len])); refine hC _ ?_; clear hC C; simp only [List.drop, Nat.reduceAdd]) | ((first | refine arun_kn 1 rfl (fun C hC => ?_) | refine arunD_kn 1 rfl (fun C hC => ?_)); (repeat ((conv => whnf); simp [hlt, txtsN_len])); refine hC _ ?_; clear hC C; simp only [List.drop, Nat.reduceAdd]) | (refine arun_skip ?_ ?_; (focus (simp [awant, hlt, txtsN_len]; done))) | (refine arunD_skip ?_ ?_; (focus (simp [awant, hlt, txtsN_len]; done))) | (refine AW.regionK [] (fun K hK => ?_)) | (refine AW.regionDK [] (pcs [] []) (by kernel_rfl) (by kernel_rfl) (fun K hK => ?_)) | (refine AW.condT ?_ ?_; (focus (simp [aev, hlt, txtsN_len]; done))) | (refine AW.condF ?_ ?_; (focus (simp [aev, hlt, txtsN_len]; done))) | with_reducible refine AW.block ?_ | ((first | ((first | refine arun_nil ?_ | refine arunD_nil ?_); refine hK _ ?_; clear hK K) | refine AW.skip ?_ | refine AW.exit ?_ | refine AW.ret ?_); simp only [thenA_exit, inBlockA_exit, if_true, if_false, Nat.reduceEqDiff, thenA_normal, inBlockA_normal, reduceIte, thenA_ret, inBlockA_ret, endQ_ret, endR_ret, endG_ret, endQ_normal, endR_normal, endG_normal])))
    exact ⟨.own 3 (txtsN n).length, by simp [ares, aresL, txtsN_len], .inr ⟨fun id => .own id (txtsN n).length, 3, txtR (txtsN n), rfl, by simp [upd, rowsOf_cons, txtR], Res1.own _ _, strsE_pur _, rfl, rfl⟩⟩
theorem pathOf_AC (n : Nd) (hp : n.kids.length ≤ 6) : AC Try.prog 94 [nodeA n] 0 (fun r => r = .view .loose 1 (strsE (txtsN n))) := by
  refine (AC.ofR (pathOf_step n hp) ?_).mono ?_
  · rintro r R ⟨rfl, rfl⟩
    rw [txtR_sub]; exact strs_in _
  · rintro r (h | ⟨f, R, ⟨rfl, rfl⟩, rfl⟩)
    · exact h.elim
    · exact txtR_sub _
theorem validOp_AC (o : Opr) : AC Try.prog 67 [oprA o] 0 (fun r => r = .bool (oprB o)) := by
  have p1 := inRange_AC o.1 1 6
  have p2 := validPath_AC o.2.1 .loose
  have p3 := validPath_AC o.2.2.1 .loose
  have p4 := validNode_AC o.2.2.2 .loose
  have hc := node_clo o.2.2.2
  have e0 : oprB o = (inR o.1 1 6 && pathB o.2.1 && pathB o.2.2.1 && validB o.2.2.2) := rfl
  unfold oprA
  rw [nodeT_loose] at p4
  unfold nodeA at p4 hc
  rw [nodeL_eq] at p4 hc
  cases h1 : inR o.1 1 6
  · rw [h1] at p1 e0
    have e : oprB o = false := by rw [e0]; rfl
    refine AC.of tab_ok mixed_ok Try.func67 (by rfl) (by kernel_rfl) ?_; rintro ⟨P, T, hT, hm, w0, S0, rd0, k0⟩ hP hTT; dsimp only at hP hTT; subst hP hTT; unfold initSt; rw [Try.ntmps67]
    (repeat (first | with_reducible refine AW.seq ?_ | ((first | refine arun_kn 4 rfl (fun C hC => ?_) | refine arunD_kn 4 rfl (fun C hC => ?_)); (repeat ((conv => whnf); simp)); refine hC _ ?_; clear hC C; simp only [List.drop, Nat.reduceAdd]) | ((first | refine arun_kn 1 rfl (fun C hC => ?_) | refine arunD_kn 1 rfl (fun C hC => ?_)); (repeat ((conv => whnf); simp)); refine hC _ ?_; clear hC C; simp only [List.drop, Nat.reduceAdd]) | (refine arun_skip ?_ ?_; (focus (simp [awant]; done))) | (refine arun_c0 (p1) ?_; rintro _ rfl) | (refine arun_c0 (p2) ?_; rintro _ rfl) | (refine arun_c0 (p3) ?_; rintro _ rfl) | (refine arun_c0 (p4) ?_; rintro _ rfl) | (refine arunD_skip ?_ ?_; (focus (simp [awant]; done))) | (refine AW.regionK [] (fun K hK => ?_)) | (refine AW.regionDK [] (pcs [] []) (by kernel_rfl) (by kernel_rfl) (fun K hK => ?_)) | (refine AW.condT ?_ ?_; (focus (simp [aev]; done))) | (refine AW.condF ?_ ?_; (focus (simp [aev]; done))) | with_reducible refine AW.block ?_ | ((first | ((first | refine arun_nil ?_ | refine arunD_nil ?_); refine hK _ ?_; clear hK K) | refine AW.skip ?_ | refine AW.exit ?_ | refine AW.ret ?_); simp only [thenA_exit, inBlockA_exit, if_true, if_false, Nat.reduceEqDiff, thenA_normal, inBlockA_normal, reduceIte, thenA_ret, inBlockA_ret, endQ_ret, endR_ret, endG_ret, endQ_normal, endR_normal, endG_normal])))
    exact ⟨.bool false, by simp [ares, aresL], pur_bool, by rw [e]⟩
  cases h2 : pathB o.2.1
  · rw [h1, h2] at e0; rw [h1] at p1; rw [h2] at p2
    have e : oprB o = false := by rw [e0]; rfl
    refine AC.of tab_ok mixed_ok Try.func67 (by rfl) (by kernel_rfl) ?_; rintro ⟨P, T, hT, hm, w0, S0, rd0, k0⟩ hP hTT; dsimp only at hP hTT; subst hP hTT; unfold initSt; rw [Try.ntmps67]
    (repeat (first | with_reducible refine AW.seq ?_ | ((first | refine arun_kn 4 rfl (fun C hC => ?_) | refine arunD_kn 4 rfl (fun C hC => ?_)); (repeat ((conv => whnf); simp)); refine hC _ ?_; clear hC C; simp only [List.drop, Nat.reduceAdd]) | ((first | refine arun_kn 1 rfl (fun C hC => ?_) | refine arunD_kn 1 rfl (fun C hC => ?_)); (repeat ((conv => whnf); simp)); refine hC _ ?_; clear hC C; simp only [List.drop, Nat.reduceAdd]) | (refine arun_skip ?_ ?_; (focus (simp [awant]; done))) | (refine arun_c0 (p1) ?_; rintro _ rfl) | (refine arun_c0 (p2) ?_; rintro _ rfl) | (refine arun_c0 (p3) ?_; rintro _ rfl) | (refine arun_c0 (p4) ?_; rintro _ rfl) | (refine arunD_skip ?_ ?_; (focus (simp [awant]; done))) | (refine AW.regionK [] (fun K hK => ?_)) | (refine AW.regionDK [] (pcs [] []) (by kernel_rfl) (by kernel_rfl) (fun K hK => ?_)) | (refine AW.condT ?_ ?_; (focus (simp [aev]; done))) | (refine AW.condF ?_ ?_; (focus (simp [aev]; done))) | with_reducible refine AW.block ?_ | ((first | ((first | refine arun_nil ?_ | refine arunD_nil ?_); refine hK _ ?_; clear hK K) | refine AW.skip ?_ | refine AW.exit ?_ | refine AW.ret ?_); simp only [thenA_exit, inBlockA_exit, if_true, if_false, Nat.reduceEqDiff, thenA_normal, inBlockA_normal, reduceIte, thenA_ret, inBlockA_ret, endQ_ret, endR_ret, endG_ret, endQ_normal, endR_normal, endG_normal])))
    exact ⟨.bool false, by simp [ares, aresL], pur_bool, by rw [e]⟩
  cases h3 : pathB o.2.2.1
  · rw [h1, h2, h3] at e0; rw [h1] at p1; rw [h2] at p2; rw [h3] at p3
    have e : oprB o = false := by rw [e0]; rfl
    refine AC.of tab_ok mixed_ok Try.func67 (by rfl) (by kernel_rfl) ?_; rintro ⟨P, T, hT, hm, w0, S0, rd0, k0⟩ hP hTT; dsimp only at hP hTT; subst hP hTT; unfold initSt; rw [Try.ntmps67]
    (repeat (first | with_reducible refine AW.seq ?_ | ((first | refine arun_kn 4 rfl (fun C hC => ?_) | refine arunD_kn 4 rfl (fun C hC => ?_)); (repeat ((conv => whnf); simp)); refine hC _ ?_; clear hC C; simp only [List.drop, Nat.reduceAdd]) | ((first | refine arun_kn 1 rfl (fun C hC => ?_) | refine arunD_kn 1 rfl (fun C hC => ?_)); (repeat ((conv => whnf); simp)); refine hC _ ?_; clear hC C; simp only [List.drop, Nat.reduceAdd]) | (refine arun_skip ?_ ?_; (focus (simp [awant]; done))) | (refine arun_c0 (p1) ?_; rintro _ rfl) | (refine arun_c0 (p2) ?_; rintro _ rfl) | (refine arun_c0 (p3) ?_; rintro _ rfl) | (refine arun_c0 (p4) ?_; rintro _ rfl) | (refine arunD_skip ?_ ?_; (focus (simp [awant]; done))) | (refine AW.regionK [] (fun K hK => ?_)) | (refine AW.regionDK [] (pcs [] []) (by kernel_rfl) (by kernel_rfl) (fun K hK => ?_)) | (refine AW.condT ?_ ?_; (focus (simp [aev]; done))) | (refine AW.condF ?_ ?_; (focus (simp [aev]; done))) | with_reducible refine AW.block ?_ | ((first | ((first | refine arun_nil ?_ | refine arunD_nil ?_); refine hK _ ?_; clear hK K) | refine AW.skip ?_ | refine AW.exit ?_ | refine AW.ret ?_); simp only [thenA_exit, inBlockA_exit, if_true, if_false, Nat.reduceEqDiff, thenA_normal, inBlockA_normal, reduceIte, thenA_ret, inBlockA_ret, endQ_ret, endR_ret, endG_ret, endQ_normal, endR_normal, endG_normal])))
    exact ⟨.bool false, by simp [ares, aresL], pur_bool, by rw [e]⟩
  rw [h1, h2, h3] at e0; rw [h1] at p1; rw [h2] at p2; rw [h3] at p3
  have e : oprB o = validB o.2.2.2 := by rw [e0]; rfl
  generalize validB o.2.2.2 = bb at *
  refine AC.of tab_ok mixed_ok Try.func67 (by rfl) (by kernel_rfl) ?_; rintro ⟨P, T, hT, hm, w0, S0, rd0, k0⟩ hP hTT; dsimp only at hP hTT; subst hP hTT; unfold initSt; rw [Try.ntmps67]
  (repeat (first | with_reducible refine AW.seq ?_ | ((first | refine arun_kn 4 rfl (fun C hC => ?_) | refine arunD_kn 4 rfl (fun C hC => ?_)); (repeat ((conv => whnf); simp)); refine hC _ ?_; clear hC C; simp only [List.drop, Nat.reduceAdd]) | ((first | refine arun_kn 1 rfl (fun C hC => ?_) | refine arunD_kn 1 rfl (fun C hC => ?_)); (repeat ((conv => whnf); simp)); refine hC _ ?_; clear hC C; simp only [List.drop, Nat.reduceAdd]) | (refine arun_skip ?_ ?_; (focus (simp [awant]; done))) | (refine arun_c0 (p1) ?_; rintro _ rfl) | (refine arun_c0 (p2) ?_; rintro _ rfl) | (refine arun_c0 (p3) ?_; rintro _ rfl) | (refine arun_c0 (p4) ?_; rintro _ rfl) | (refine arunD_skip ?_ ?_; (focus (simp [awant]; done))) | (refine AW.regionK [] (fun K hK => ?_)) | (refine AW.regionDK [] (pcs [] []) (by kernel_rfl) (by kernel_rfl) (fun K hK => ?_)) | (refine AW.condT ?_ ?_; (focus (simp [aev]; done))) | (refine AW.condF ?_ ?_; (focus (simp [aev]; done))) | with_reducible refine AW.block ?_ | ((first | ((first | refine arun_nil ?_ | refine arunD_nil ?_); refine hK _ ?_; clear hK K) | refine AW.skip ?_ | refine AW.exit ?_ | refine AW.ret ?_); simp only [thenA_exit, inBlockA_exit, if_true, if_false, Nat.reduceEqDiff, thenA_normal, inBlockA_normal, reduceIte, thenA_ret, inBlockA_ret, endQ_ret, endR_ret, endG_ret, endQ_normal, endR_normal, endG_normal])))
  exact ⟨.bool bb, by simp [ares, aresL], pur_bool, by rw [e]⟩
end Go.Proofs.Ytgfnmhfdmmnaoaa.Eng
namespace Go.Proofs.Ytgfnmhfdmmnaoaa
open Go.RowKit
end Go.Proofs.Ytgfnmhfdmmnaoaa
-- EV: fresh
namespace Go.Proofs.Ytgfnmhfdmmnaoaa.Eng
open Go Go.RowKit
attribute [local simp] big size_mk ASt.pay Option.map_map Function.comp_def awant aop acall ado aev ofVal ofVal0 ASt.put ASt.add ASt.turn ASt.kill abox aalloc astore aload aloadD astoreD idOf ASt.at cellsTo afieldAddr afield aindexAddr aindex alen abin aint acmp astr aun apick aextract anil aslice abound abuild afill abuildSlice asCells aps avCells over upd aappend asrc amax amin aconv mkSt slots rowsOf_cons rowsOf_nil usedOf_cons usedOf_nil ZK.av List.replicate ASt.back ASt.addL ASt.killL nodeA nodeT nodeTL_eq nodeL_eq strsE_get strsE_len intsE_get intsE_len strsE_at intsE_at tab2 tab3 tab4 tab5 tab6 tab7 tab8 tab9 tab10 tab11 tab12 tab13 tab14 tab15 tab16 tab17 tab18 tab19 tab21 tab22 tab23 tab24 tab25 tab26 tab27 tab28 tab29 tab30 tab39 tab40 tab41 tab42 tab43 tab47 tab48 tab55 tab56 tab57 tab60 tab61 tab62 tab73 tab74 tab75 tab85 tab92 tab115 tab116 tab143 tab144 tab145 tab154 tab155 tab170 tab175 tab182 tab197 tab198 tab203 tab204 tab205 tab207 tab208 tab209
section
variable {P : Program} {T : Tab} {md : List Nat} {Av : Nat → Prop} {pc : Pc} {ops : Array Oper} {K : ASt → Prop} {o : Oper} {l : List Oper} {s : ASt}
end
end Go.Proofs.Ytgfnmhfdmmnaoaa.Eng
namespace Go.Proofs.Ytgfnmhfdmmnaoaa.Eng
open Go Go.RowKit
def fcall : Op → Option (Tmp × List Operand)
  | .call { callee := .value (.tmp t), args, argTypes := _ } => some (t, args.toList)
  | _ => none
section
variable {P : Program} {w0 : W0} {S0 : Nat → Prop} {rd0 : Option Nat} {k0 : Nat} {w : World} {a : Act} {s : ASt} {ρ : Cx}
theorem exec_fn {o : Oper} {f : FuncId} {t : Tmp} {xs : List Operand} {us : List Value} (ha : fcall o.op = some (t, xs)) (hv : a.eval (.tmp t) = .func (.func f) #[] us.toArray) (he : Enters P f) : (execOp a.eval o).run P w = .ok (.enter f (xs.map a.eval ++ us).toArray) w := by
  unfold fcall at ha
  split at ha
  · rename_i t' args tys ho
    cases ha
    unfold execOp
    simp only [ho, resolve, hv, Deferred.ofValue, Sem.run_bind, Sem.run_pure, Result.andThen_ok, invoke]
    have q : (#[] ++ Array.map a.eval args ++ us.toArray) = (args.toList.map a.eval ++ us).toArray := by apply Array.ext'; simp
    rw [← q]
    exact he _ _
  · cases ha
theorem clo_fn {f : FuncId} {cs : List AV} (hp : ∀ c ∈ cs, Clo c) : Clo (.fn f cs) := fun _ _ _ h => by
  obtain ⟨vs, h1, h3⟩ := rep_fn.1 h
  exact rep_fn.2 ⟨vs, h1, RepL.of_get h3.length (fun i c v h1 h2 => by
    obtain ⟨u, hu, hr⟩ := h3.get h1
    rw [h2] at hu; cases hu
    exact hp c (List.mem_of_getElem? h1) _ _ _ hr)⟩
end
section
variable {P : Program} {T : Tab} {hT : Tab.Ok P T} {hm : P.follows .mixedOrders = true} {w0 : W0} {S0 : Nat → Prop} {rd0 : Option Nat} {k0 : Nat} {Q : Exit → ASt → Prop} {s : ASt} {code : Code}
end
section
variable {P : Program} {T : Tab} {k0 : Nat} {md : List Nat} {Av : Nat → Prop} {ops : Array Oper} {K : ASt → Prop} {o : Oper} {l : List Oper} {s : ASt}
theorem arun_callFn {f : FuncId} {t : Tmp} {xs : List Operand} {cs args : List AV} {c : Nat} {Post : AV → Prop} (hf : fcall o.op = some (t, xs)) (ht : s.tmps[t]? = some (.fn f cs)) (hw : awant ops o s = some true) (hx : xs.map (aev s) ++ cs = args) (hac : ACF P f args c Post) (hclo : cloL args) (hcan : s.can c)
    (h : ∀ r, Post r → (∀ b ∈ atB r, ¬ Av b) → ARun P T k0 Av md ops K l ((s.pay c).put o.dst r)) : ARun P T k0 Av md ops K (o :: l) s :=
  ARun.opA hw fun w0 S0 rd0 w a ρ hT hA hS next Q hn => by
    subst hx
    have hall : ∀ x ∈ xs.map (aev s) ++ cs, Clo x := by
      have aux : ∀ l : List AV, cloL l → ∀ x ∈ l, Clo x := fun l => by
        induction l with
        | nil => intro _ x hx; cases hx
        | cons y l ih =>
          intro hc x hx
          rcases List.mem_cons.1 hx with rfl | hx
          · exact hc.1
          · exact ih hc.2 x hx
      exact aux _ hclo
    have ev := aev_rep hS (.tmp t)
    have e1 : aev s (.tmp t) = .fn f cs := by simp only [aev, ht]; rfl
    rw [e1] at ev
    obtain ⟨us, hv, hus⟩ := rep_fn.1 ev
    refine callE_ok (vs := xs.map a.eval ++ us) hS (fun he => exec_fn hf hv he) hA hac.toV ?_ hcan (fun r v w' ρ' hp _ hs => hn _ _ _ _ hs (h r hp.1 hp.2))
    refine RepL.of_get (by simp [hus.length]) (fun i c v h1 h2 => (hall c (List.mem_of_getElem? h1) _ _ _ ?_).le (le_lent w ρ))
    have hall2 : RepL w ρ (xs.map (aev s) ++ cs) (xs.map a.eval ++ us) := RepL.append (RepL.of_get (by simp) (fun i c v h1 h2 => by
      rw [List.getElem?_map] at h1 h2
      cases hx : xs[i]? with
      | none => rw [hx] at h1; cases h1
      | some x => rw [hx] at h1 h2; cases h1; cases h2; exact aev_rep hS x)) hus
    obtain ⟨u, hu, hr⟩ := hall2.get h1
    rw [h2] at hu; cases hu
    exact hr
end
end Go.Proofs.Ytgfnmhfdmmnaoaa.Eng
-- EV: fresh
namespace Go.Proofs.Ytgfnmhfdmmnaoaa.Eng
open Go Go.RowKit
attribute [local simp] big size_mk ASt.pay Option.map_map Function.comp_def awant aop acall ado aev ofVal ofVal0 ASt.put ASt.add ASt.turn ASt.kill abox aalloc astore aload aloadD astoreD idOf ASt.at cellsTo afieldAddr afield aindexAddr aindex alen abin aint acmp astr aun apick aextract anil aslice abound abuild afill abuildSlice asCells aps avCells over upd aappend asrc amax amin aconv mkSt slots rowsOf_cons rowsOf_nil usedOf_cons usedOf_nil ZK.av List.replicate ASt.back ASt.addL ASt.killL nodeA nodeT nodeTL_eq nodeL_eq strsE_get strsE_len intsE_get intsE_len strsE_at intsE_at tab2 tab3 tab4 tab5 tab6 tab7 tab8 tab9 tab10 tab11 tab12 tab13 tab14 tab15 tab16 tab17 tab18 tab19 tab21 tab22 tab23 tab24 tab25 tab26 tab27 tab28 tab29 tab30 tab39 tab40 tab41 tab42 tab43 tab47 tab48 tab55 tab56 tab57 tab60 tab61 tab62 tab73 tab74 tab75 tab85 tab92 tab115 tab116 tab143 tab144 tab145 tab154 tab155 tab170 tab175 tab182 tab197 tab198 tab203 tab204 tab205 tab207 tab208 tab209
set_option maxRecDepth 100000
set_option maxHeartbeats 8000000
theorem opWord_ACF {k : Nat} (h1 : 1 ≤ k) (h6 : k ≤ 6) : ACF Try.prog 74 [.int .i64 (k : Int)] 0 (fun r => r = .str (wd k)) := by
  have : k = 1 ∨ k = 2 ∨ k = 3 ∨ k = 4 ∨ k = 5 ∨ k = 6 := by omega
  rcases this with rfl | rfl | rfl | rfl | rfl | rfl
  ·
    refine ACF.of tab_ok mixed_ok Try.func74 (by rfl) (by kernel_rfl) ?_; rintro ⟨P, T, hT, hm, w0, S0, rd0, k0⟩ hP hTT hN; dsimp only at hP hTT hN; subst hP hTT; dsimp only; unfold initSt; rw [Try.ntmps74]
    (repeat (first | with_reducible refine AW.seq ?_ | ((first | refine arun_kn 4 rfl (fun C hC => ?_) | refine arunD_kn 4 rfl (fun C hC => ?_)); (repeat ((conv => whnf); simp)); refine hC _ ?_; clear hC C; simp only [List.drop, Nat.reduceAdd]) | ((first | refine arun_kn 1 rfl (fun C hC => ?_) | refine arunD_kn 1 rfl (fun C hC => ?_)); (repeat ((conv => whnf); simp)); refine hC _ ?_; clear hC C; simp only [List.drop, Nat.reduceAdd]) | (refine arun_skip ?_ ?_; (focus (simp [awant]; done))) | (refine AW.regionK [] (fun K hK => ?_)) | (refine AW.regionDK [] (pcs [] []) (by kernel_rfl) (by kernel_rfl) (fun K hK => ?_)) | (refine AW.condT ?_ ?_; (focus (simp [aev]; done))) | (refine AW.condF ?_ ?_; (focus (simp [aev]; done))) | with_reducible refine AW.block ?_ | ((first | ((first | refine arun_nil ?_ | refine arunD_nil ?_); refine hK _ ?_; clear hK K) | refine AW.skip ?_ | refine AW.exit ?_ | refine AW.ret ?_); simp only [thenA_exit, inBlockA_exit, if_true, if_false, Nat.reduceEqDiff, thenA_normal, inBlockA_normal, reduceIte, thenA_ret, inBlockA_ret, endQ_ret, endR_ret, endG_ret, endQ_normal, endR_normal, endG_normal, endF_ret, endF_normal])))
    exact ⟨.str (wd 1), by simp [ares, aresL, wd], pur_str, fun b hb => by simp [at_str] at hb, rfl⟩
  ·
    refine ACF.of tab_ok mixed_ok Try.func74 (by rfl) (by kernel_rfl) ?_; rintro ⟨P, T, hT, hm, w0, S0, rd0, k0⟩ hP hTT hN; dsimp only at hP hTT hN; subst hP hTT; dsimp only; unfold initSt; rw [Try.ntmps74]
    (repeat (first | with_reducible refine AW.seq ?_ | ((first | refine arun_kn 4 rfl (fun C hC => ?_) | refine arunD_kn 4 rfl (fun C hC => ?_)); (repeat ((conv => whnf); simp)); refine hC _ ?_; clear hC C; simp only [List.drop, Nat.reduceAdd]) | ((first | refine arun_kn 1 rfl (fun C hC => ?_) | refine arunD_kn 1 rfl (fun C hC => ?_)); (repeat ((conv => whnf); simp)); refine hC _ ?_; clear hC C; simp only [List.drop, Nat.reduceAdd]) | (refine arun_skip ?_ ?_; (focus (simp [awant]; done))) | (refine AW.regionK [] (fun K hK => ?_)) | (refine AW.regionDK [] (pcs [] []) (by kernel_rfl) (by kernel_rfl) (fun K hK => ?_)) | (refine AW.condT ?_ ?_; (focus (simp [aev]; done))) | (refine AW.condF ?_ ?_; (focus (simp [aev]; done))) | with_reducible refine AW.block ?_ | ((first | ((first | refine arun_nil ?_ | refine arunD_nil ?_); refine hK _ ?_; clear hK K) | refine AW.skip ?_ | refine AW.exit ?_ | refine AW.ret ?_); simp only [thenA_exit, inBlockA_exit, if_true, if_false, Nat.reduceEqDiff, thenA_normal, inBlockA_normal, reduceIte, thenA_ret, inBlockA_ret, endQ_ret, endR_ret, endG_ret, endQ_normal, endR_normal, endG_normal, endF_ret, endF_normal])))
    exact ⟨.str (wd 2), by simp [ares, aresL, wd], pur_str, fun b hb => by simp [at_str] at hb, rfl⟩
  ·
    refine ACF.of tab_ok mixed_ok Try.func74 (by rfl) (by kernel_rfl) ?_; rintro ⟨P, T, hT, hm, w0, S0, rd0, k0⟩ hP hTT hN; dsimp only at hP hTT hN; subst hP hTT; dsimp only; unfold initSt; rw [Try.ntmps74]
    (repeat (first | with_reducible refine AW.seq ?_ | ((first | refine arun_kn 4 rfl (fun C hC => ?_) | refine arunD_kn 4 rfl (fun C hC => ?_)); (repeat ((conv => whnf); simp)); refine hC _ ?_; clear hC C; simp only [List.drop, Nat.reduceAdd]) | ((first | refine arun_kn 1 rfl (fun C hC => ?_) | refine arunD_kn 1 rfl (fun C hC => ?_)); (repeat ((conv => whnf); simp)); refine hC _ ?_; clear hC C; simp only [List.drop, Nat.reduceAdd]) | (refine arun_skip ?_ ?_; (focus (simp [awant]; done))) | (refine AW.regionK [] (fun K hK => ?_)) | (refine AW.regionDK [] (pcs [] []) (by kernel_rfl) (by kernel_rfl) (fun K hK => ?_)) | (refine AW.condT ?_ ?_; (focus (simp [aev]; done))) | (refine AW.condF ?_ ?_; (focus (simp [aev]; done))) | with_reducible refine AW.block ?_ | ((first | ((first | refine arun_nil ?_ | refine arunD_nil ?_); refine hK _ ?_; clear hK K) | refine AW.skip ?_ | refine AW.exit ?_ | refine AW.ret ?_); simp only [thenA_exit, inBlockA_exit, if_true, if_false, Nat.reduceEqDiff, thenA_normal, inBlockA_normal, reduceIte, thenA_ret, inBlockA_ret, endQ_ret, endR_ret, endG_ret, endQ_normal, endR_normal, endG_normal, endF_ret, endF_normal])))
    exact ⟨.str (wd 3), by simp [ares, aresL, wd], pur_str, fun b hb => by simp [at_str] at hb, rfl⟩
  ·
    refine ACF.of tab_ok mixed_ok Try.func74 (by rfl) (by kernel_rfl) ?_; rintro ⟨P, T, hT, hm, w0, S0, rd0, k0⟩ hP hTT hN; dsimp only at hP hTT hN; subst hP hTT; dsimp only; unfold initSt; rw [Try.ntmps74]
    (repeat (first | with_reducible refine AW.seq ?_ | ((first | refine arun_kn 4 rfl (fun C hC => ?_) | refine arunD_kn 4 rfl (fun C hC => ?_)); (repeat ((conv => whnf); simp)); refine hC _ ?_; clear hC C; simp only [List.drop, Nat.reduceAdd]) | ((first | refine arun_kn 1 rfl (fun C hC => ?_) | refine arunD_kn 1 rfl (fun C hC => ?_)); (repeat ((conv => whnf); simp)); refine hC _ ?_; clear hC C; simp only [List.drop, Nat.reduceAdd]) | (refine arun_skip ?_ ?_; (focus (simp [awant]; done))) | (refine AW.regionK [] (fun K hK => ?_)) | (refine AW.regionDK [] (pcs [] []) (by kernel_rfl) (by kernel_rfl) (fun K hK => ?_)) | (refine AW.condT ?_ ?_; (focus (simp [aev]; done))) | (refine AW.condF ?_ ?_; (focus (simp [aev]; done))) | with_reducible refine AW.block ?_ | ((first | ((first | refine arun_nil ?_ | refine arunD_nil ?_); refine hK _ ?_; clear hK K) | refine AW.skip ?_ | refine AW.exit ?_ | refine AW.ret ?_); simp only [thenA_exit, inBlockA_exit, if_true, if_false, Nat.reduceEqDiff, thenA_normal, inBlockA_normal, reduceIte, thenA_ret, inBlockA_ret, endQ_ret, endR_ret, endG_ret, endQ_normal, endR_normal, endG_normal, endF_ret, endF_normal])))
    exact ⟨.str (wd 4), by simp [ares, aresL, wd], pur_str, fun b hb => by simp [at_str] at hb, rfl⟩
  ·
    refine ACF.of tab_ok mixed_ok Try.func74 (by rfl) (by kernel_rfl) ?_; rintro ⟨P, T, hT, hm, w0, S0, rd0, k0⟩ hP hTT hN; dsimp only at hP hTT hN; subst hP hTT; dsimp only; unfold initSt; rw [Try.ntmps74]
    (repeat (first | with_reducible refine AW.seq ?_ | ((first | refine arun_kn 4 rfl (fun C hC => ?_) | refine arunD_kn 4 rfl (fun C hC => ?_)); (repeat ((conv => whnf); simp)); refine hC _ ?_; clear hC C; simp only [List.drop, Nat.reduceAdd]) | ((first | refine arun_kn 1 rfl (fun C hC => ?_) | refine arunD_kn 1 rfl (fun C hC => ?_)); (repeat ((conv => whnf); simp)); refine hC _ ?_; clear hC C; simp only [List.drop, Nat.reduceAdd]) | (refine arun_skip ?_ ?_; (focus (simp [awant]; done))) | (refine AW.regionK [] (fun K hK => ?_)) | (refine AW.regionDK [] (pcs [] []) (by kernel_rfl) (by kernel_rfl) (fun K hK => ?_)) | (refine AW.condT ?_ ?_; (focus (simp [aev]; done))) | (refine AW.condF ?_ ?_; (focus (simp [aev]; done))) | with_reducible refine AW.block ?_ | ((first | ((first | refine arun_nil ?_ | refine arunD_nil ?_); refine hK _ ?_; clear hK K) | refine AW.skip ?_ | refine AW.exit ?_ | refine AW.ret ?_); simp only [thenA_exit, inBlockA_exit, if_true, if_false, Nat.reduceEqDiff, thenA_normal, inBlockA_normal, reduceIte, thenA_ret, inBlockA_ret, endQ_ret, endR_ret, endG_ret, endQ_normal, endR_normal, endG_normal, endF_ret, endF_normal])))
    exact ⟨.str (wd 5), by simp [ares, aresL, wd], pur_str, fun b hb => by simp [at_str] at hb, rfl⟩
  ·
    refine ACF.of tab_ok mixed_ok Try.func74 (by rfl) (by kernel_rfl) ?_; rintro ⟨P, T, hT, hm, w0, S0, rd0, k0⟩ hP hTT hN; dsimp only at hP hTT hN; subst hP hTT; dsimp only; unfold initSt; rw [Try.ntmps74]
    (repeat (first | with_reducible refine AW.seq ?_ | ((first | refine arun_kn 4 rfl (fun C hC => ?_) | refine arunD_kn 4 rfl (fun C hC => ?_)); (repeat ((conv => whnf); simp)); refine hC _ ?_; clear hC C; simp only [List.drop, Nat.reduceAdd]) | ((first | refine arun_kn 1 rfl (fun C hC => ?_) | refine arunD_kn 1 rfl (fun C hC => ?_)); (repeat ((conv => whnf); simp)); refine hC _ ?_; clear hC C; simp only [List.drop, Nat.reduceAdd]) | (refine arun_skip ?_ ?_; (focus (simp [awant]; done))) | (refine AW.regionK [] (fun K hK => ?_)) | (refine AW.regionDK [] (pcs [] []) (by kernel_rfl) (by kernel_rfl) (fun K hK => ?_)) | (refine AW.condT ?_ ?_; (focus (simp [aev]; done))) | (refine AW.condF ?_ ?_; (focus (simp [aev]; done))) | with_reducible refine AW.block ?_ | ((first | ((first | refine arun_nil ?_ | refine arunD_nil ?_); refine hK _ ?_; clear hK K) | refine AW.skip ?_ | refine AW.exit ?_ | refine AW.ret ?_); simp only [thenA_exit, inBlockA_exit, if_true, if_false, Nat.reduceEqDiff, thenA_normal, inBlockA_normal, reduceIte, thenA_ret, inBlockA_ret, endQ_ret, endR_ret, endG_ret, endQ_normal, endR_normal, endG_normal, endF_ret, endF_normal])))
    exact ⟨.str (wd 6), by simp [ares, aresL, wd], pur_str, fun b hb => by simp [at_str] at hb, rfl⟩
theorem numberOf_AC (t : ByteArray) : AC Try.prog 99 [.str t, .int .i64 1, .int .i64 6, .fn 74 []] 0 (fun r => r = .tup [.int .i64 (kdN t : Nat), .bool (decide (1 ≤ kdN t))]) := by
  refine AC.of tab_ok mixed_ok Try.func99 (by rfl) (by kernel_rfl) ?_; rintro ⟨P, T, hT, hm, w0, S0, rd0, k0⟩ hP hTT; dsimp only at hP hTT; subst hP hTT; unfold initSt; rw [Try.ntmps99]
  (repeat (first | with_reducible refine AW.seq ?_ | ((first | refine arun_kn 4 rfl (fun C hC => ?_) | refine arunD_kn 4 rfl (fun C hC => ?_)); (repeat ((conv => whnf); simp)); refine hC _ ?_; clear hC C; simp only [List.drop, Nat.reduceAdd]) | ((first | refine arun_kn 1 rfl (fun C hC => ?_) | refine arunD_kn 1 rfl (fun C hC => ?_)); (repeat ((conv => whnf); simp)); refine hC _ ?_; clear hC C; simp only [List.drop, Nat.reduceAdd]) | (refine arun_skip ?_ ?_; (focus (simp [awant]; done))) | (refine AW.regionK [] (fun K hK => ?_)) | (refine AW.regionDK [] (pcs [] []) (by kernel_rfl) (by kernel_rfl) (fun K hK => ?_)) | (refine AW.condT ?_ ?_; (focus (simp [aev]; done))) | (refine AW.condF ?_ ?_; (focus (simp [aev]; done))) | with_reducible refine AW.block ?_ | ((first | ((first | refine arun_nil ?_ | refine arunD_nil ?_); refine hK _ ?_; clear hK K) | refine AW.skip ?_ | refine AW.exit ?_ | refine AW.ret ?_); simp only [thenA_exit, inBlockA_exit, if_true, if_false, Nat.reduceEqDiff, thenA_normal, inBlockA_normal, reduceIte, thenA_ret, inBlockA_ret, endQ_ret, endR_ret, endG_ret, endQ_normal, endR_normal, endG_normal, endF_ret, endF_normal])))
  refine AW.loopS (fun (i : Nat) => mkSt (slots 0 23 [(0, .str t), (2, .int .i64 6), (3, .fn 74 []), (10, .int .i64 i)]) [] [] (rd0.map fun _ => 0)) (fun i => 7 - i) (fun i => 1 ≤ i ∧ i ≤ 7 ∧ ∀ j, 1 ≤ j → j < i → t ≠ wd j) 1 ?_ ⟨Nat.le_refl _, by omega, fun j h1 h2 => by omega⟩ ?_
  · exact (less_of (by simp [lessL, mkSt, slots, in_fn]) (by simp [upd, mkSt, rowsOf_cons, in_fn]) (by simp [upd, mkSt, usedOf_cons, in_fn]) (by first | exact rd_less (by omega) | simp [mkSt, in_fn]) (by simp [slots, in_any, in_int, in_bool, in_str, in_ptr, in_own, in_agg, in_vnil, in_rdr, usedOf_cons, usedOf_nil, strs_in, ints_in, nodes_in, in_tup, in_fn]) (by simp only [List.forall_mem_cons, List.not_mem_nil, false_implies, implies_true, and_true, true_and, in_fn]; (repeat (first | with_reducible exact trivial | with_reducible refine And.intro ?_ ?_ | with_reducible exact in_int | with_reducible exact in_str | with_reducible exact in_bool | with_reducible exact strs_in _ | with_reducible exact nodes_in _ | with_reducible exact items_in _ | with_reducible exact in_vnil | with_reducible exact in_any | exact hin _ | with_reducible refine take_in ?_ | with_reducible exact strsE_in _ | with_reducible exact nodesE_in _ | with_reducible exact nodeL_in _ | with_reducible exact itemsE_in _ | with_reducible exact itemL_in _ | with_reducible refine app_in ?_ ?_ | with_reducible refine sing_in ?_ | (focus (simp [in_any, in_int, in_bool, in_str, in_ptr, in_own, in_agg, in_vnil, in_rdr, usedOf_cons, usedOf_nil, strs_in, ints_in, nodes_in, in_fn]; done)))); done))
  rintro i ⟨hi1, hi7, hno⟩
  by_cases hlt : i ≤ 6
  rotate_left
  · obtain rfl : i = 7 := by omega
    have hk : kdN t = 0 := kdT_none hno
    (repeat (first | with_reducible refine AW.seq ?_ | ((first | refine arun_kn 4 rfl (fun C hC => ?_) | refine arunD_kn 4 rfl (fun C hC => ?_)); (repeat ((conv => whnf); simp)); refine hC _ ?_; clear hC C; simp only [List.drop, Nat.reduceAdd]) | ((first | refine arun_kn 1 rfl (fun C hC => ?_) | refine arunD_kn 1 rfl (fun C hC => ?_)); (repeat ((conv => whnf); simp)); refine hC _ ?_; clear hC C; simp only [List.drop, Nat.reduceAdd]) | (refine arun_skip ?_ ?_; (focus (simp [awant]; done))) | (refine AW.regionK [] (fun K hK => ?_)) | (refine AW.regionDK [] (pcs [] []) (by kernel_rfl) (by kernel_rfl) (fun K hK => ?_)) | (refine AW.condT ?_ ?_; (focus (simp [aev]; done))) | (refine AW.condF ?_ ?_; (focus (simp [aev]; done))) | with_reducible refine AW.block ?_ | ((first | ((first | refine arun_nil ?_ | refine arunD_nil ?_); refine hK _ ?_; clear hK K) | refine AW.skip ?_ | refine AW.exit ?_ | refine AW.ret ?_); simp only [thenA_exit, inBlockA_exit, if_true, if_false, Nat.reduceEqDiff, thenA_normal, inBlockA_normal, reduceIte, thenA_ret, inBlockA_ret, endQ_ret, endR_ret, endG_ret, endQ_normal, endR_normal, endG_normal, endF_ret, endF_normal])))
    exact ⟨.tup [.int .i64 0, .bool false], by simp [ares, aresL], tup2_pur pur_int pur_bool, by rw [hk]; rfl⟩
  have hlt' : ((i : Int) ≤ 6) = True := by simp; omega
  have hw : IntKind.i64.wrap ((i : Int) + 1) = (i : Int) + 1 := i64_nat (by omega) (by omega)
  (repeat (first | with_reducible refine AW.seq ?_ | ((first | refine arun_kn 4 rfl (fun C hC => ?_) | refine arunD_kn 4 rfl (fun C hC => ?_)); (repeat ((conv => whnf); simp [hlt'])); refine hC _ ?_; clear hC C; simp only [List.drop, Nat.reduceAdd]) | ((first | refine arun_kn 1 rfl (fun C hC => ?_) | refine arunD_kn 1 rfl (fun C hC => ?_)); (repeat ((conv => whnf); simp [hlt'])); refine hC _ ?_; clear hC C; simp only [List.drop, Nat.reduceAdd]) | (refine arun_skip ?_ ?_; (focus (simp [awant, hlt']; done))) | (refine AW.regionK [] (fun K hK => ?_)) | (refine AW.regionDK [] (pcs [] []) (by kernel_rfl) (by kernel_rfl) (fun K hK => ?_)) | (refine AW.condT ?_ ?_; (focus (simp [aev, hlt']; done))) | (refine AW.condF ?_ ?_; (focus (simp [aev, hlt']; done))) | with_reducible refine AW.block ?_ | ((first | ((first | refine arun_nil ?_ | refine arunD_nil ?_); refine hK _ ?_; clear hK K) | refine AW.skip ?_ | refine AW.exit ?_ | refine AW.ret ?_); simp only [thenA_exit, inBlockA_exit, if_true, if_false, Nat.reduceEqDiff, thenA_normal, inBlockA_normal, reduceIte, thenA_ret, inBlockA_ret, endQ_ret, endR_ret, endG_ret, endQ_normal, endR_normal, endG_normal, endF_ret, endF_normal])))
  refine arun_callFn rfl (by rfl) (by simp [awant]) (by simp [aev]) (opWord_ACF hi1 hlt) ⟨clo_int, trivial⟩ (can_of (Nat.le_refl _)) ?_
  rintro _ rfl hA
  by_cases he : t = wd i
  · have e1 : eqs (wd i) t = true := eqs_iff.2 he.symm
    have hk : kdN t = i := kdT_of hi1 hlt he (by omega) (Nat.le_refl _)
    (repeat (first | with_reducible refine AW.seq ?_ | ((first | refine arun_kn 4 rfl (fun C hC => ?_) | refine arunD_kn 4 rfl (fun C hC => ?_)); (repeat ((conv => whnf); simp [e1])); refine hC _ ?_; clear hC C; simp only [List.drop, Nat.reduceAdd]) | ((first | refine arun_kn 1 rfl (fun C hC => ?_) | refine arunD_kn 1 rfl (fun C hC => ?_)); (repeat ((conv => whnf); simp [e1])); refine hC _ ?_; clear hC C; simp only [List.drop, Nat.reduceAdd]) | (refine arun_skip ?_ ?_; (focus (simp [awant, e1]; done))) | (refine AW.regionK [] (fun K hK => ?_)) | (refine AW.regionDK [] (pcs [] []) (by kernel_rfl) (by kernel_rfl) (fun K hK => ?_)) | (refine AW.condT ?_ ?_; (focus (simp [aev, e1]; done))) | (refine AW.condF ?_ ?_; (focus (simp [aev, e1]; done))) | with_reducible refine AW.block ?_ | ((first | ((first | refine arun_nil ?_ | refine arunD_nil ?_); refine hK _ ?_; clear hK K) | refine AW.skip ?_ | refine AW.exit ?_ | refine AW.ret ?_); simp only [thenA_exit, inBlockA_exit, if_true, if_false, Nat.reduceEqDiff, thenA_normal, inBlockA_normal, reduceIte, thenA_ret, inBlockA_ret, endQ_ret, endR_ret, endG_ret, endQ_normal, endR_normal, endG_normal, endF_ret, endF_normal])))
    exact ⟨.tup [.int .i64 i, .bool true], by simp [ares, aresL], tup2_pur pur_int pur_bool, by rw [hk]; simp; omega⟩
  · have e1 : eqs (wd i) t = false := eqs_false.2 (fun h => he h.symm)
    (repeat (first | with_reducible refine AW.seq ?_ | ((first | refine arun_kn 4 rfl (fun C hC => ?_) | refine arunD_kn 4 rfl (fun C hC => ?_)); (repeat ((conv => whnf); simp [e1, hw])); refine hC _ ?_; clear hC C; simp only [List.drop, Nat.reduceAdd]) | ((first | refine arun_kn 1 rfl (fun C hC => ?_) | refine arunD_kn 1 rfl (fun C hC => ?_)); (repeat ((conv => whnf); simp [e1, hw])); refine hC _ ?_; clear hC C; simp only [List.drop, Nat.reduceAdd]) | (refine arun_skip ?_ ?_; (focus (simp [awant, e1, hw]; done))) | (refine AW.regionK [] (fun K hK => ?_)) | (refine AW.regionDK [] (pcs [] []) (by kernel_rfl) (by kernel_rfl) (fun K hK => ?_)) | (refine AW.condT ?_ ?_; (focus (simp [aev, e1, hw]; done))) | (refine AW.condF ?_ ?_; (focus (simp [aev, e1, hw]; done))) | with_reducible refine AW.block ?_ | ((first | ((first | refine arun_nil ?_ | refine arunD_nil ?_); refine hK _ ?_; clear hK K) | refine AW.skip ?_ | refine AW.exit ?_ | refine AW.ret ?_); simp only [thenA_exit, inBlockA_exit, if_true, if_false, Nat.reduceEqDiff, thenA_normal, inBlockA_normal, reduceIte, thenA_ret, inBlockA_ret, endQ_ret, endR_ret, endG_ret, endQ_normal, endR_normal, endG_normal, endF_ret, endF_normal])))
    refine ⟨i + 1, by omega, ⟨by omega, by omega, fun j h1 h2 => ?_⟩, ?_⟩
    · rcases Nat.lt_or_ge j i with h | h
      · exact hno j h1 h
      · obtain rfl : j = i := by omega
        exact he
    · exact (less_of (by simp [lessL, mkSt, slots, in_fn]) (by simp [upd, mkSt, rowsOf_cons, in_fn]) (by simp [upd, mkSt, usedOf_cons, in_fn]) (by first | exact rd_less (by omega) | simp [mkSt, in_fn]) (by simp [slots, in_any, in_int, in_bool, in_str, in_ptr, in_own, in_agg, in_vnil, in_rdr, usedOf_cons, usedOf_nil, strs_in, ints_in, nodes_in, in_tup, in_fn]) (by simp only [List.forall_mem_cons, List.not_mem_nil, false_implies, implies_true, and_true, true_and, in_fn]; (repeat (first | with_reducible exact trivial | with_reducible refine And.intro ?_ ?_ | with_reducible exact in_int | with_reducible exact in_str | with_reducible exact in_bool | with_reducible exact strs_in _ | with_reducible exact nodes_in _ | with_reducible exact items_in _ | with_reducible exact in_vnil | with_reducible exact in_any | exact hin _ | with_reducible refine take_in ?_ | with_reducible exact strsE_in _ | with_reducible exact nodesE_in _ | with_reducible exact nodeL_in _ | with_reducible exact itemsE_in _ | with_reducible exact itemL_in _ | with_reducible refine app_in ?_ ?_ | with_reducible refine sing_in ?_ | (focus (simp [in_any, in_int, in_bool, in_str, in_ptr, in_own, in_agg, in_vnil, in_rdr, usedOf_cons, usedOf_nil, strs_in, ints_in, nodes_in, in_fn]; done)))); done))
theorem equalS_AC (t t' : VC) (xs ys : List ByteArray) (hx : xs.length ≤ 1000) : AC Try.prog 97 [.view t 1 (strsE xs), .view t' 1 (strsE ys)] 0 (fun r => r = .bool (decide (xs = ys))) := by
  refine AC.of tab_ok mixed_ok Try.func97 (by rfl) (by kernel_rfl) ?_; rintro ⟨P, T, hT, hm, w0, S0, rd0, k0⟩ hP hTT; dsimp only at hP hTT; subst hP hTT; unfold initSt; rw [Try.ntmps97]
  by_cases hl : xs.length = ys.length
  rotate_left
  · have e : (decide (xs = ys)) = false := by simp; intro h; exact hl (by rw [h])
    have e1 : ((xs.length : Int) != (ys.length : Int)) = true := by simp; omega
    (repeat (first | with_reducible refine AW.seq ?_ | ((first | refine arun_kn 4 rfl (fun C hC => ?_) | refine arunD_kn 4 rfl (fun C hC => ?_)); (repeat ((conv => whnf); simp [e1, strsE_len])); refine hC _ ?_; clear hC C; simp only [List.drop, Nat.reduceAdd]) | ((first | refine arun_kn 1 rfl (fun C hC => ?_) | refine arunD_kn 1 rfl (fun C hC => ?_)); (repeat ((conv => whnf); simp [e1, strsE_len])); refine hC _ ?_; clear hC C; simp only [List.drop, Nat.reduceAdd]) | (refine arun_skip ?_ ?_; (focus (simp [awant, e1, strsE_len]; done))) | (refine AW.regionK [] (fun K hK => ?_)) | (refine AW.regionDK [] (pcs [] []) (by kernel_rfl) (by kernel_rfl) (fun K hK => ?_)) | (refine AW.condT ?_ ?_; (focus (simp [aev, e1, strsE_len]; done))) | (refine AW.condF ?_ ?_; (focus (simp [aev, e1, strsE_len]; done))) | with_reducible refine AW.block ?_ | ((first | ((first | refine arun_nil ?_ | refine arunD_nil ?_); refine hK _ ?_; clear hK K) | refine AW.skip ?_ | refine AW.exit ?_ | refine AW.ret ?_); simp only [thenA_exit, inBlockA_exit, if_true, if_false, Nat.reduceEqDiff, thenA_normal, inBlockA_normal, reduceIte, thenA_ret, inBlockA_ret, endQ_ret, endR_ret, endG_ret, endQ_normal, endR_normal, endG_normal, endF_ret, endF_normal])))
    exact ⟨.bool false, by simp [ares, aresL], pur_bool, by rw [e]⟩
  have e1 : ((xs.length : Int) != (ys.length : Int)) = false := by simp; omega
  (repeat (first | with_reducible refine AW.seq ?_ | ((first | refine arun_kn 4 rfl (fun C hC => ?_) | refine arunD_kn 4 rfl (fun C hC => ?_)); (repeat ((conv => whnf); simp [e1, strsE_len])); refine hC _ ?_; clear hC C; simp only [List.drop, Nat.reduceAdd]) | ((first | refine arun_kn 1 rfl (fun C hC => ?_) | refine arunD_kn 1 rfl (fun C hC => ?_)); (repeat ((conv => whnf); simp [e1, strsE_len])); refine hC _ ?_; clear hC C; simp only [List.drop, Nat.reduceAdd]) | (refine arun_skip ?_ ?_; (focus (simp [awant, e1, strsE_len]; done))) | (refine AW.regionK [] (fun K hK => ?_)) | (refine AW.regionDK [] (pcs [] []) (by kernel_rfl) (by kernel_rfl) (fun K hK => ?_)) | (refine AW.condT ?_ ?_; (focus (simp [aev, e1, strsE_len]; done))) | (refine AW.condF ?_ ?_; (focus (simp [aev, e1, strsE_len]; done))) | with_reducible refine AW.block ?_ | ((first | ((first | refine arun_nil ?_ | refine arunD_nil ?_); refine hK _ ?_; clear hK K) | refine AW.skip ?_ | refine AW.exit ?_ | refine AW.ret ?_); simp only [thenA_exit, inBlockA_exit, if_true, if_false, Nat.reduceEqDiff, thenA_normal, inBlockA_normal, reduceIte, thenA_ret, inBlockA_ret, endQ_ret, endR_ret, endG_ret, endQ_normal, endR_normal, endG_normal, endF_ret, endF_normal])))
  refine AW.loopS (fun (i : Nat) => mkSt (slots 0 26 [(0, .view t 1 (strsE xs)), (1, .view t' 1 (strsE ys)), (12, .int .i64 xs.length), (13, .int .i64 i)]) [] [] (rd0.map fun _ => 0)) (fun i => xs.length - i) (fun i => i ≤ xs.length ∧ decide (xs = ys) = decide (xs.drop i = ys.drop i)) 0 ?_ ⟨Nat.zero_le _, rfl⟩ ?_
  · exact less_a
  rintro i ⟨hi, hd⟩
  by_cases hlt : i < xs.length
  · have hly : i < ys.length := by omega
    have hw : IntKind.i64.wrap ((i : Int) + 1) = (i : Int) + 1 := i64_nat (by omega) (by omega)
    rw [drop_cons _ _ hlt, drop_cons _ _ hly] at hd
    by_cases he : xs[i] = ys[i]
    · have e2 : eqs xs[i] ys[i] = true := eqs_iff.2 he
      (repeat (first | with_reducible refine AW.seq ?_ | ((first | refine arun_kn 4 rfl (fun C hC => ?_) | refine arunD_kn 4 rfl (fun C hC => ?_)); (repeat ((conv => whnf); simp [hlt, hly, e2, hw, strsE_len])); refine hC _ ?_; clear hC C; simp only [List.drop, Nat.reduceAdd]) | ((first | refine arun_kn 1 rfl (fun C hC => ?_) | refine arunD_kn 1 rfl (fun C hC => ?_)); (repeat ((conv => whnf); simp [hlt, hly, e2, hw, strsE_len])); refine hC _ ?_; clear hC C; simp only [List.drop, Nat.reduceAdd]) | (refine arun_skip ?_ ?_; (focus (simp [awant, hlt, hly, e2, hw, strsE_len]; done))) | (refine AW.regionK [] (fun K hK => ?_)) | (refine AW.regionDK [] (pcs [] []) (by kernel_rfl) (by kernel_rfl) (fun K hK => ?_)) | (refine AW.condT ?_ ?_; (focus (simp [aev, hlt, hly, e2, hw, strsE_len]; done))) | (refine AW.condF ?_ ?_; (focus (simp [aev, hlt, hly, e2, hw, strsE_len]; done))) | with_reducible refine AW.block ?_ | ((first | ((first | refine arun_nil ?_ | refine arunD_nil ?_); refine hK _ ?_; clear hK K) | refine AW.skip ?_ | refine AW.exit ?_ | refine AW.ret ?_); simp only [thenA_exit, inBlockA_exit, if_true, if_false, Nat.reduceEqDiff, thenA_normal, inBlockA_normal, reduceIte, thenA_ret, inBlockA_ret, endQ_ret, endR_ret, endG_ret, endQ_normal, endR_normal, endG_normal, endF_ret, endF_normal])))
      refine ⟨i + 1, by omega, ⟨by omega, by rw [hd, he]; exact decide_eq_decide.2 ⟨fun h => (List.cons.inj h).2, fun h => by rw [h]⟩⟩, ?_⟩
      exact less_a
    · have e2 : eqs xs[i] ys[i] = false := eqs_false.2 he
      (repeat (first | with_reducible refine AW.seq ?_ | ((first | refine arun_kn 4 rfl (fun C hC => ?_) | refine arunD_kn 4 rfl (fun C hC => ?_)); (repeat ((conv => whnf); simp [hlt, hly, e2, hw, strsE_len])); refine hC _ ?_; clear hC C; simp only [List.drop, Nat.reduceAdd]) | ((first | refine arun_kn 1 rfl (fun C hC => ?_) | refine arunD_kn 1 rfl (fun C hC => ?_)); (repeat ((conv => whnf); simp [hlt, hly, e2, hw, strsE_len])); refine hC _ ?_; clear hC C; simp only [List.drop, Nat.reduceAdd]) | (refine arun_skip ?_ ?_; (focus (simp [awant, hlt, hly, e2, hw, strsE_len]; done))) | (refine AW.regionK [] (fun K hK => ?_)) | (refine AW.regionDK [] (pcs [] []) (by kernel_rfl) (by kernel_rfl) (fun K hK => ?_)) | (refine AW.condT ?_ ?_; (focus (simp [aev, hlt, hly, e2, hw, strsE_len]; done))) | (refine AW.condF ?_ ?_; (focus (simp [aev, hlt, hly, e2, hw, strsE_len]; done))) | with_reducible refine AW.block ?_ | ((first | ((first | refine arun_nil ?_ | refine arunD_nil ?_); refine hK _ ?_; clear hK K) | refine AW.skip ?_ | refine AW.exit ?_ | refine AW.ret ?_); simp only [thenA_exit, inBlockA_exit, if_true, if_false, Nat.reduceEqDiff, thenA_normal, inBlockA_normal, reduceIte, thenA_ret, inBlockA_ret, endQ_ret, endR_ret, endG_ret, endQ_normal, endR_normal, endG_normal, endF_ret, endF_normal])))
      exact ⟨.bool false, by simp [ares, aresL], pur_bool, by rw [hd, decide_eq_false (fun h => he (List.cons.inj h).1)]⟩
  · have e : (decide (xs = ys)) = true := by rw [hd, List.drop_eq_nil_of_le (by omega), List.drop_eq_nil_of_le (by omega)]; rfl
    (repeat (first | with_reducible refine AW.seq ?_ | ((first | refine arun_kn 4 rfl (fun C hC => ?_) | refine arunD_kn 4 rfl (fun C hC => ?_)); (repeat ((conv => whnf); simp [hlt, strsE_len])); refine hC _ ?_; clear hC C; simp only [List.drop, Nat.reduceAdd]) | ((first | refine arun_kn 1 rfl (fun C hC => ?_) | refine arunD_kn 1 rfl (fun C hC => ?_)); (repeat ((conv => whnf); simp [hlt, strsE_len])); refine hC _ ?_; clear hC C; simp only [List.drop, Nat.reduceAdd]) | (refine arun_skip ?_ ?_; (focus (simp [awant, hlt, strsE_len]; done))) | (refine AW.regionK [] (fun K hK => ?_)) | (refine AW.regionDK [] (pcs [] []) (by kernel_rfl) (by kernel_rfl) (fun K hK => ?_)) | (refine AW.condT ?_ ?_; (focus (simp [aev, hlt, strsE_len]; done))) | (refine AW.condF ?_ ?_; (focus (simp [aev, hlt, strsE_len]; done))) | with_reducible refine AW.block ?_ | ((first | ((first | refine arun_nil ?_ | refine arunD_nil ?_); refine hK _ ?_; clear hK K) | refine AW.skip ?_ | refine AW.exit ?_ | refine AW.ret ?_); simp only [thenA_exit, inBlockA_exit, if_true, if_false, Nat.reduceEqDiff, thenA_normal, inBlockA_normal, reduceIte, thenA_ret, inBlockA_ret, endQ_ret, endR_ret, endG_ret, endQ_normal, endR_normal, endG_normal, endF_ret, endF_normal])))
    exact ⟨.bool true, by simp [ares, aresL], pur_bool, by rw [e]⟩
def rStB (n : Nd) (r : AV) : Prop := ∃ (g : Nat) (p : List ByteArray), (lstB n = true → p = txtsN n) ∧ r = .tup [.view (.fr g) 1 (strsE p), .bool (lstB n && pathB (txtsN n))]
theorem rStB_no {n : Nd} (h : lstB n = false) : rStB n (.tup [.view (.fr 0) 1 [], .bool false]) := ⟨0, [], (fun e => by rw [h] at e; cases e), by rw [h]; rfl⟩
theorem nodeToPath_ACF (n : Nd) (hn : Good n) : ACF Try.prog 98 [nodeA n] 0 (rStB n) := by
  refine ACF.weak ?_
  have hk6 := hn.kids6
  unfold nodeA
  rw [nodeL_eq]
  by_cases h3 : n.kind = 3
  rotate_left
  · have hb : lstB n = false := by unfold lstB; simp [h3]
    have e3 : (n.kind != 3) = true := by simpa using h3
    refine ACF.of tab_ok mixed_ok Try.func98 (by rfl) (by kernel_rfl) ?_; rintro ⟨P, T, hT, hm, w0, S0, rd0, k0⟩ hP hTT hN; dsimp only at hP hTT hN; subst hP hTT; dsimp only; unfold initSt; rw [Try.ntmps98]
    (repeat (first | with_reducible refine AW.seq ?_ | ((first | refine arun_kn 4 rfl (fun C hC => ?_) | refine arunD_kn 4 rfl (fun C hC => ?_)); (repeat ((conv => whnf); simp [e3])); refine hC _ ?_; clear hC C; simp only [List.drop, Nat.reduceAdd]) | ((first | refine arun_kn 1 rfl (fun C hC => ?_) | refine arunD_kn 1 rfl (fun C hC => ?_)); (repeat ((conv => whnf); simp [e3])); refine hC _ ?_; clear hC C; simp only [List.drop, Nat.reduceAdd]) | (refine arun_skip ?_ ?_; (focus (simp [awant, e3]; done))) | (refine AW.regionK [] (fun K hK => ?_)) | (refine AW.regionDK [] (pcs [] []) (by kernel_rfl) (by kernel_rfl) (fun K hK => ?_)) | (refine AW.condT ?_ ?_; (focus (simp [aev, e3]; done))) | (refine AW.condF ?_ ?_; (focus (simp [aev, e3]; done))) | with_reducible refine AW.block ?_ | ((first | ((first | refine arun_nil ?_ | refine arunD_nil ?_); refine hK _ ?_; clear hK K) | refine AW.skip ?_ | refine AW.exit ?_ | refine AW.ret ?_); simp only [thenA_exit, inBlockA_exit, if_true, if_false, Nat.reduceEqDiff, thenA_normal, inBlockA_normal, reduceIte, thenA_ret, inBlockA_ret, endQ_ret, endR_ret, endG_ret, endQ_normal, endR_normal, endG_normal, endF_ret, endF_normal])))
    exact ⟨.tup [.view .tight 0 [], .bool false], by simp [ares, aresL], tup2_pur (pur_view (by decide) (fun e he => by cases he)) pur_bool, fun b hb => by simp [at_tup, atL_cons, atL_nil, at_view, atE_nil, frB_tight, at_bool] at hb, .tup [.view (.fr 0) 1 [], .bool false], Wk.tup (.cons (Wk.nil (fun h => by cases h)) (.cons (Wk.refl _) .nil)), fun b hb => by simp [at_tup, atL_cons, atL_nil, at_view, atE_nil, frB_fr, at_bool] at hb, rStB_no hb⟩
  have e3 : (n.kind != 3) = false := by simp [h3]
  refine ACF.of tab_ok mixed_ok Try.func98 (by rfl) (by kernel_rfl) ?_; rintro ⟨P, T, hT, hm, w0, S0, rd0, k0⟩ hP hTT hN; dsimp only at hP hTT hN; subst hP hTT; dsimp only; unfold initSt; rw [Try.ntmps98]
  (repeat (first | with_reducible refine AW.seq ?_ | ((first | refine arun_kn 4 rfl (fun C hC => ?_) | refine arunD_kn 4 rfl (fun C hC => ?_)); (repeat ((conv => whnf); simp [e3])); refine hC _ ?_; clear hC C; simp only [List.drop, Nat.reduceAdd]) | ((first | refine arun_kn 1 rfl (fun C hC => ?_) | refine arunD_kn 1 rfl (fun C hC => ?_)); (repeat ((conv => whnf); simp [e3])); refine hC _ ?_; clear hC C; simp only [List.drop, Nat.reduceAdd]) | (refine arun_skip ?_ ?_; (focus (simp [awant, e3]; done))) | (refine AW.regionK [] (fun K hK => ?_)) | (refine AW.regionDK [] (pcs [] []) (by kernel_rfl) (by kernel_rfl) (fun K hK => ?_)) | (refine AW.condT ?_ ?_; (focus (simp [aev, e3]; done))) | (refine AW.condF ?_ ?_; (focus (simp [aev, e3]; done))) | with_reducible refine AW.block ?_ | ((first | ((first | refine arun_nil ?_ | refine arunD_nil ?_); refine hK _ ?_; clear hK K) | refine AW.skip ?_ | refine AW.exit ?_ | refine AW.ret ?_); simp only [thenA_exit, inBlockA_exit, if_true, if_false, Nat.reduceEqDiff, thenA_normal, inBlockA_normal, reduceIte, thenA_ret, inBlockA_ret, endQ_ret, endR_ret, endG_ret, endQ_normal, endR_normal, endG_normal, endF_ret, endF_normal])))
  refine AW.adopt 4 50 9 1 ⟨_, tab9, rfl⟩ rfl rfl ?_
  simp only [ASt.adopt, ASt.add, List.set_cons_zero, List.set_cons_succ]
  refine AW.loopS (fun (i : Nat) => mkSt (slots 0 29 [(1, .ptr true 5 1 1 0 0), (4, .own 50 i), (11, .view .loose 5 (n.kids.map nodeL)), (12, .int .i64 n.kids.length), (13, .int .i64 i)]) [(1, ⟨true, 30, 5, [nodeL n]⟩), (50, ⟨false, 9, 1, strsE ((txtsN n).take i)⟩)] [1, 50] (rd0.map fun _ => 0)) (fun i => n.kids.length - i) (fun i => i ≤ n.kids.length ∧ ∀ j (h : j < n.kids.length), j < i → n.kids[j].kind = 2) 0 ?_ ⟨Nat.zero_le _, fun j _ h => by omega⟩ ?_
  · have hs0 : strsE [] = [] := rfl
    rw [nodeL_eq]
    exact (less_of (by simp [lessL, mkSt, slots, ASt.adopt, ASt.add, hs0]) (by simp [upd, mkSt, rowsOf_cons, ASt.adopt, ASt.add, hs0]) (by simp [upd, mkSt, usedOf_cons, ASt.adopt, ASt.add, hs0]) (by first | exact rd_less (by omega) | simp [mkSt, ASt.adopt, ASt.add, hs0]) (by simp [slots, in_any, in_int, in_bool, in_str, in_ptr, in_own, in_agg, in_vnil, in_rdr, usedOf_cons, usedOf_nil, strs_in, ints_in, nodes_in, in_tup, ASt.adopt, ASt.add, hs0]) (by simp only [List.forall_mem_cons, List.not_mem_nil, false_implies, implies_true, and_true, true_and, ASt.adopt, ASt.add, hs0]; (repeat (first | with_reducible exact trivial | with_reducible refine And.intro ?_ ?_ | with_reducible exact in_int | with_reducible exact in_str | with_reducible exact in_bool | with_reducible exact strs_in _ | with_reducible exact nodes_in _ | with_reducible exact items_in _ | with_reducible exact in_vnil | with_reducible exact in_any | exact hin _ | with_reducible refine take_in ?_ | with_reducible exact strsE_in _ | with_reducible exact nodesE_in _ | with_reducible exact nodeL_in _ | with_reducible exact itemsE_in _ | with_reducible exact itemL_in _ | with_reducible refine app_in ?_ ?_ | with_reducible refine sing_in ?_ | (focus (simp [in_any, in_int, in_bool, in_str, in_ptr, in_own, in_agg, in_vnil, in_rdr, usedOf_cons, usedOf_nil, strs_in, ints_in, nodes_in, ASt.adopt, ASt.add, hs0]; done)))); done))
  rintro i ⟨hi, hall⟩
  rw [nodeL_eq]
  have hl : (strsE ((txtsN n).take i)).length = i := by rw [strsE_len, List.length_take, txtsN_len]; omega
  by_cases hlt : i < n.kids.length
  · have hw : IntKind.i64.wrap ((i : Int) + 1) = (i : Int) + 1 := i64_nat (by omega) (by omega)
    have hlt' : (i : Int) < (n.kids.length : Int) := by omega
    have hb1 : (i + 1) * 16 ≤ 140737488355328 := by omega
    have hb2 : i + 1 ≤ 140737488355328 := by omega
    have x1 : (n.kids.map nodeL)[i]? = some [.int .i64 n.kids[i].kind, .int .i64 n.kids[i].num, .str n.kids[i].text, .view .loose 1 (strsE n.kids[i].names), .view .loose 5 (n.kids[i].kids.map nodeL)] := by rw [List.getElem?_map, List.getElem?_eq_getElem hlt, ← nodeL_eq]; rfl
    have htk : strsE ((txtsN n).take (i + 1)) = strsE ((txtsN n).take i) ++ [[.str n.kids[i].text]] := by
      rw [take_snoc' _ _ (by rw [txtsN_len]; exact hlt)]
      unfold strsE txtsN
      rw [List.map_append, List.getElem_map]; rfl
    have hin := fun (U : Nat → Bool) => strsE_in (U := U) ((txtsN n).take (i + 1))
    rw [htk] at hin
    by_cases h2 : n.kids[i].kind = 2
    · have e2 : (n.kids[i].kind != 2) = false := by simp [h2]
      generalize strsE ((txtsN n).take i) = Ks at *
      (repeat (first | with_reducible refine AW.seq ?_ | ((first | refine arun_kn 4 rfl (fun C hC => ?_) | refine arunD_kn 4 rfl (fun C hC => ?_)); (repeat ((conv => whnf); simp [hlt, hlt', x1, e2, hw, hl, hb1, hb2])); refine hC _ ?_; clear hC C; simp only [List.drop, Nat.reduceAdd]) | ((first | refine arun_kn 1 rfl (fun C hC => ?_) | refine arunD_kn 1 rfl (fun C hC => ?_)); (repeat ((conv => whnf); simp [hlt, hlt', x1, e2, hw, hl, hb1, hb2])); refine hC _ ?_; clear hC C; simp only [List.drop, Nat.reduceAdd]) | (refine arun_skip ?_ ?_; (focus (simp [awant, hlt, hlt', x1, e2, hw, hl, hb1, hb2]; done))) | (refine AW.regionK [] (fun K hK => ?_)) | (refine AW.regionDK [] (pcs [] []) (by kernel_rfl) (by kernel_rfl) (fun K hK => ?_)) | (refine AW.condT ?_ ?_; (focus (simp [aev, hlt, hlt', x1, e2, hw, hl, hb1, hb2]; done))) | (refine AW.condF ?_ ?_; (focus (simp [aev, hlt, hlt', x1, e2, hw, hl, hb1, hb2]; done))) | with_reducible refine AW.block ?_ | ((first | ((first | refine arun_nil ?_ | refine arunD_nil ?_); refine hK _ ?_; clear hK K) | refine AW.skip ?_ | refine AW.exit ?_ | refine AW.ret ?_); simp only [thenA_exit, inBlockA_exit, if_true, if_false, Nat.reduceEqDiff, thenA_normal, inBlockA_normal, reduceIte, thenA_ret, inBlockA_ret, endQ_ret, endR_ret, endG_ret, endQ_normal, endR_normal, endG_normal, endF_ret, endF_normal])))
      refine ⟨i + 1, by omega, ⟨by omega, fun j h hj => ?_⟩, ?_⟩
      · rcases Nat.lt_or_ge j i with h' | h'
        · exact hall j h h'
        · obtain rfl : j = i := by omega
          exact h2
      · rw [htk]
        exact less_a
    · have hb : lstB n = false := by
        unfold lstB
        have : n.kids.all (fun k => decide (k.kind = 2)) = false := by
          rw [List.all_eq_false]
          exact ⟨n.kids[i], List.getElem_mem hlt, by simp [h2]⟩
        rw [this, Bool.and_false]
      have e2 : (n.kids[i].kind != 2) = true := by simpa using h2
      (repeat (first | with_reducible refine AW.seq ?_ | ((first | refine arun_kn 4 rfl (fun C hC => ?_) | refine arunD_kn 4 rfl (fun C hC => ?_)); (repeat ((conv => whnf); simp [hlt, hlt', x1, e2, hl])); refine hC _ ?_; clear hC C; simp only [List.drop, Nat.reduceAdd]) | ((first | refine arun_kn 1 rfl (fun C hC => ?_) | refine arunD_kn 1 rfl (fun C hC => ?_)); (repeat ((conv => whnf); simp [hlt, hlt', x1, e2, hl])); refine hC _ ?_; clear hC C; simp only [List.drop, Nat.reduceAdd]) | (refine arun_skip ?_ ?_; (focus (simp [awant, hlt, hlt', x1, e2, hl]; done))) | (refine AW.regionK [] (fun K hK => ?_)) | (refine AW.regionDK [] (pcs [] []) (by kernel_rfl) (by kernel_rfl) (fun K hK => ?_)) | (refine AW.condT ?_ ?_; (focus (simp [aev, hlt, hlt', x1, e2, hl]; done))) | (refine AW.condF ?_ ?_; (focus (simp [aev, hlt, hlt', x1, e2, hl]; done))) | with_reducible refine AW.block ?_ | ((first | ((first | refine arun_nil ?_ | refine arunD_nil ?_); refine hK _ ?_; clear hK K) | refine AW.skip ?_ | refine AW.exit ?_ | refine AW.ret ?_); simp only [thenA_exit, inBlockA_exit, if_true, if_false, Nat.reduceEqDiff, thenA_normal, inBlockA_normal, reduceIte, thenA_ret, inBlockA_ret, endQ_ret, endR_ret, endG_ret, endQ_normal, endR_normal, endG_normal, endF_ret, endF_normal])))
      exact ⟨.tup [.view .tight 0 [], .bool false], by simp [ares, aresL], tup2_pur (pur_view (by decide) (fun e he => by cases he)) pur_bool, fun b hb => by simp [at_tup, atL_cons, atL_nil, at_view, atE_nil, frB_tight, at_bool] at hb, .tup [.view (.fr 0) 1 [], .bool false], Wk.tup (.cons (Wk.nil (fun h => by cases h)) (.cons (Wk.refl _) .nil)), fun b hb => by simp [at_tup, atL_cons, atL_nil, at_view, atE_nil, frB_fr, at_bool] at hb, rStB_no hb⟩
  obtain rfl : i = n.kids.length := by omega
  have hb : lstB n = true := by
    unfold lstB
    rw [Bool.and_eq_true, decide_eq_true_eq, List.all_eq_true]
    refine ⟨h3, fun k hk => ?_⟩
    obtain ⟨j, hj, rfl⟩ := List.getElem_of_mem hk
    simpa using hall j hj hj
  have htk2 : (txtsN n).take n.kids.length = txtsN n := List.take_of_length_le (by rw [txtsN_len]; exact Nat.le_refl _)
  rw [htk2] at hl ⊢
  refine AW.holdF 50 hN (fun g hg ht hr => ?_)
  clear ht hr
  have pp := isPath_AC (txtsN n) (.fr g)
  (repeat (first | with_reducible refine AW.seq ?_ | ((first | refine arun_kn 4 rfl (fun C hC => ?_) | refine arunD_kn 4 rfl (fun C hC => ?_)); (repeat ((conv => whnf); simp [hlt, txtsN_len, ASt.holdF, AV.subL, AV.sub, Row.sub, rowsOf_cons, upd, strsE_len, strsE_sub])); refine hC _ ?_; clear hC C; simp only [List.drop, Nat.reduceAdd]) | ((first | refine arun_kn 1 rfl (fun C hC => ?_) | refine arunD_kn 1 rfl (fun C hC => ?_)); (repeat ((conv => whnf); simp [hlt, txtsN_len, ASt.holdF, AV.subL, AV.sub, Row.sub, rowsOf_cons, upd, strsE_len, strsE_sub])); refine hC _ ?_; clear hC C; simp only [List.drop, Nat.reduceAdd]) | (refine arun_skip ?_ ?_; (focus (simp [awant, hlt, txtsN_len, ASt.holdF, AV.subL, AV.sub, Row.sub, rowsOf_cons, upd, strsE_len, strsE_sub]; done))) | (refine arun_c0 (pp) ?_; rintro _ rfl) | (refine AW.regionK [] (fun K hK => ?_)) | (refine AW.regionDK [] (pcs [] []) (by kernel_rfl) (by kernel_rfl) (fun K hK => ?_)) | (refine AW.condT ?_ ?_; (focus (simp [aev, hlt, txtsN_len, ASt.holdF, AV.subL, AV.sub, Row.sub, rowsOf_cons, upd, strsE_len, strsE_sub]; done))) | (refine AW.condF ?_ ?_; (focus (simp [aev, hlt, txtsN_len, ASt.holdF, AV.subL, AV.sub, Row.sub, rowsOf_cons, upd, strsE_len, strsE_sub]; done))) | with_reducible refine AW.block ?_ | ((first | ((first | refine arun_nil ?_ | refine arunD_nil ?_); refine hK _ ?_; clear hK K) | refine AW.skip ?_ | refine AW.exit ?_ | refine AW.ret ?_); simp only [thenA_exit, inBlockA_exit, if_true, if_false, Nat.reduceEqDiff, thenA_normal, inBlockA_normal, reduceIte, thenA_ret, inBlockA_ret, endQ_ret, endR_ret, endG_ret, endQ_normal, endR_normal, endG_normal, endF_ret, endF_normal])))
  refine ⟨.tup [.view (.fr g) 1 (strsE (txtsN n)), .bool (pathB (txtsN n))], by simp [ares, aresL, upd, rowsOf_cons, strsE_sub], tup2_pur (pur_view (by simp) (strsE_pur _)) pur_bool, fun b hb' => ?_, _, Wk.refl _, fun _ h => h, g, txtsN n, fun _ => rfl, by rw [hb]; rfl⟩
  rw [at_tup, atL_cons, atL_cons, atL_nil, at_bool, at_view, at_strsE, frB_fr] at hb'
  simp only [List.append_nil] at hb'
  split at hb' <;> simp at hb'
  rw [hb']; exact hg
end Go.Proofs.Ytgfnmhfdmmnaoaa.Eng
-- EV: skip
namespace Go.Proofs.Ytgfnmhfdmmnaoaa.Eng
open Go Go.RowKit
attribute [local simp] big size_mk ASt.pay Option.map_map Function.comp_def awant aop acall ado aev ofVal ofVal0 ASt.put ASt.add ASt.turn ASt.kill abox aalloc astore aload aloadD astoreD idOf ASt.at cellsTo afieldAddr afield aindexAddr aindex alen abin aint acmp astr aun apick aextract anil aslice abound abuild afill abuildSlice asCells aps avCells over upd aappend asrc amax amin aconv mkSt slots rowsOf_cons rowsOf_nil usedOf_cons usedOf_nil ZK.av List.replicate ASt.back ASt.addL ASt.killL nodeA nodeT nodeTL_eq nodeL_eq strsE_get strsE_len intsE_get intsE_len strsE_at intsE_at tab2 tab3 tab4 tab5 tab6 tab7 tab8 tab9 tab10 tab11 tab12 tab13 tab14 tab15 tab16 tab17 tab18 tab19 tab21 tab22 tab23 tab24 tab25 tab26 tab27 tab28 tab29 tab30 tab39 tab40 tab41 tab42 tab43 tab47 tab48 tab55 tab56 tab57 tab60 tab61 tab62 tab73 tab74 tab75 tab85 tab92 tab115 tab116 tab143 tab144 tab145 tab154 tab155 tab170 tab175 tab182 tab197 tab198 tab203 tab204 tab205 tab207 tab208 tab209
set_option maxRecDepth 100000
set_option maxHeartbeats 16000000
theorem mets_at {k : Nat} (h1 : 1 ≤ k) (h6 : k ≤ 6) (h : k < mets.length) : mets[k] = wd k := by
  have : k = 1 ∨ k = 2 ∨ k = 3 ∨ k = 4 ∨ k = 5 ∨ k = 6 := by omega
  rcases this with rfl | rfl | rfl | rfl | rfl | rfl <;> rfl
theorem opNode_AC (o : Opr) (k : Nat) (hk : o.1 = (k : Int)) (h1 : 1 ≤ k) (h6 : k ≤ 6) (hp : o.2.1.length ≤ 5) (hf : o.2.2.1.length ≤ 5) (hv : Sml o.2.2.2) : AC Try.prog 69 [oprA o] 0 (fun r => r = nodeA (opOf o)) := by
  refine AC.weak ?_
  have p1 := steps_AC o.2.1 (by omega)
  have p2 := steps_AC o.2.2.1 (by omega)
  have p3 := methods_AC
  have p4 := word_AC (wd k)
  have p5 := copyNode_AC o.2.2.2 hv .loose
  have hc := node_clo o.2.2.2
  have m4 := fun h => mets_at h1 h6 h
  have m2 : mets.length = 7 := rfl
  have m3 : (strsE mets).length = 7 := rfl
  have hk7 : k < 7 := by omega
  have hk7' : (k : Int) < 7 := by omega
  rw [nodeT_loose] at p5
  have hi1 : NoId (nodeA (stepsN o.2.1)) := node_in _
  have hi2 : NoId (nodeA (stepsN o.2.2.1)) := node_in _
  have hi3 : NoId (nodeA (wordN (wd k))) := node_in _
  have hi4 : NoId (nodeA o.2.2.2) := node_in _
  unfold oprA
  unfold nodeA at p1 p2 p4 p5 hc hi1 hi2 hi3 hi4
  rw [nodeL_eq] at p1 p2 p4 p5 hc hi1 hi2 hi3 hi4
  rw [hk]
  refine AC.of tab_ok mixed_ok Try.func69 (by rfl) (by kernel_rfl) ?_; rintro ⟨P, T, hT, hm, w0, S0, rd0, k0⟩ hP hTT; dsimp only at hP hTT; subst hP hTT; unfold initSt; rw [Try.ntmps69]
  (repeat (first | with_reducible refine AW.seq ?_ | ((first | refine arun_kn 4 rfl (fun C hC => ?_) | refine arunD_kn 4 rfl (fun C hC => ?_)); (repeat ((conv => whnf); simp)); refine hC _ ?_; clear hC C; simp only [List.drop, Nat.reduceAdd]) | ((first | refine arun_kn 1 rfl (fun C hC => ?_) | refine arunD_kn 1 rfl (fun C hC => ?_)); (repeat ((conv => whnf); simp)); refine hC _ ?_; clear hC C; simp only [List.drop, Nat.reduceAdd]) | (refine arun_skip ?_ ?_; (focus (simp [awant]; done))) | (refine arunD_skip ?_ ?_; (focus (simp [awant]; done))) | (refine AW.regionK [] (fun K hK => ?_)) | (refine AW.condT ?_ ?_; (focus (simp [aev]; done))) | (refine AW.condF ?_ ?_; (focus (simp [aev]; done))) | with_reducible refine AW.block ?_ | ((first | ((first | refine arun_nil ?_ | refine arunD_nil ?_); refine hK _ ?_; clear hK K) | refine AW.skip ?_ | refine AW.exit ?_ | refine AW.ret ?_); simp only [thenA_exit, inBlockA_exit, if_true, if_false, Nat.reduceEqDiff, thenA_normal, inBlockA_normal, reduceIte, thenA_ret, inBlockA_ret, endQ_ret, endR_ret, endG_ret, endQ_normal, endR_normal, endG_normal])))
  refine AW.regionDK [] (pcs [(3, 0, fun r => r = .agg [.int .i64 (stepsN o.2.2.1).kind, .int .i64 (stepsN o.2.2.1).num, .str (stepsN o.2.2.1).text, .view .loose 1 (strsE (stepsN o.2.2.1).names), .view .loose 5 ((stepsN o.2.2.1).kids.map nodeL)]), (4, 0, fun r => r = .view .loose 1 (strsE mets)), (9, 0, fun r => r = .agg [.int .i64 (wordN (wd k)).kind, .int .i64 (wordN (wd k)).num, .str (wordN (wd k)).text, .view .loose 1 (strsE (wordN (wd k)).names), .view .loose 5 ((wordN (wd k)).kids.map nodeL)]), (12, 0, fun r => r = .agg [.int .i64 (stepsN o.2.1).kind, .int .i64 (stepsN o.2.1).num, .str (stepsN o.2.1).text, .view .loose 1 (strsE (stepsN o.2.1).names), .view .loose 5 ((stepsN o.2.1).kids.map nodeL)]), (15, 0, fun r => r = .agg [.int .i64 o.2.2.2.kind, .int .i64 o.2.2.2.num, .str o.2.2.2.text, .view .loose 1 (strsE o.2.2.2.names), .view .loose 5 (o.2.2.2.kids.map nodeL)])] []) (by kernel_rfl) (by kernel_rfl) (fun K hK => ?_)
  (repeat (first | with_reducible refine AW.seq ?_ | ((first | refine arun_kn 4 rfl (fun C hC => ?_) | refine arunD_kn 4 rfl (fun C hC => ?_)); (repeat ((conv => whnf); simp [m4, m2, m3, hk7, hk7', strsE_len])); refine hC _ ?_; clear hC C; simp only [List.drop, Nat.reduceAdd]) | ((first | refine arun_kn 1 rfl (fun C hC => ?_) | refine arunD_kn 1 rfl (fun C hC => ?_)); (repeat ((conv => whnf); simp [m4, m2, m3, hk7, hk7', strsE_len])); refine hC _ ?_; clear hC C; simp only [List.drop, Nat.reduceAdd]) | (refine arun_skip ?_ ?_; (focus (simp [awant, m4, m2, m3, hk7, hk7', strsE_len]; done))) | (refine arun_c0 (p1) ?_; rintro _ rfl) | (refine arun_c0 (p2) ?_; rintro _ rfl) | (refine arun_c0 (p3) ?_; rintro _ rfl) | (refine arun_c0 (p4) ?_; rintro _ rfl) | (refine arun_c0 (p5) ?_; rintro _ rfl) | (refine arunD_skip ?_ ?_; (focus (simp [awant, m4, m2, m3, hk7, hk7', strsE_len]; done))) | (refine arunD_cE (0) (p1) (by exact ⟨_, rfl, hi1⟩) ?_; rintro _ rfl; intro _) | (refine arunD_cE (0) (p2) (by exact ⟨_, rfl, hi2⟩) ?_; rintro _ rfl; intro _) | (refine arunD_cE (0) (p3) (by exact ⟨_, rfl, strs_in _⟩) ?_; rintro _ rfl; intro _) | (refine arunD_cE (0) (p4) (by exact ⟨_, rfl, hi3⟩) ?_; rintro _ rfl; intro _) | (refine arunD_cE (0) (p5) (by exact ⟨_, rfl, hi4⟩) ?_; rintro _ rfl; intro _) | (refine AW.regionK [] (fun K hK => ?_)) | (refine AW.regionDK [] (pcs [] []) (by kernel_rfl) (by kernel_rfl) (fun K hK => ?_)) | (refine AW.condT ?_ ?_; (focus (simp [aev, m4, m2, m3, hk7, hk7', strsE_len]; done))) | (refine AW.condF ?_ ?_; (focus (simp [aev, m4, m2, m3, hk7, hk7', strsE_len]; done))) | with_reducible refine AW.block ?_ | ((first | ((first | refine arun_nil ?_ | refine arunD_nil ?_); refine hK _ ?_; clear hK K) | refine AW.skip ?_ | refine AW.exit ?_ | refine AW.ret ?_); simp only [thenA_exit, inBlockA_exit, if_true, if_false, Nat.reduceEqDiff, thenA_normal, inBlockA_normal, reduceIte, thenA_ret, inBlockA_ret, endQ_ret, endR_ret, endG_ret, endQ_normal, endR_normal, endG_normal])))
  have eo : opOf o = opNd k o.2.1 o.2.2.1 o.2.2.2 := by unfold opOf; rw [hk]; rfl
  refine ⟨.agg [.int .i64 4, .int .i64 0, .str ⟨#[]⟩, .view .tight 1 (strsE opNms), .view .tight 5 ([stepsN o.2.2.1, wordN (wd k), stepsN o.2.1, o.2.2.2].map nodeL)], ?_, ?_, nodeA (opOf o), ?_, rfl⟩
  · simp [ares, aresL, upd, rowsOf_cons, strsE, opNms, nodeL_eq]
  · refine pur_agg ?_
    simp only [List.forall_mem_cons, List.not_mem_nil, false_implies, implies_true, and_true]
    exact ⟨pur_int, pur_int, pur_str, strs_pur _ (by decide), pur_view (by decide) (nodesE_pur _)⟩
  · rw [eo]
    unfold nodeA opNd
    rw [nodeL_eq]
    exact Wk.agg (.cons (Wk.refl _) (.cons (Wk.refl _) (.cons (Wk.refl _) (.cons (Wk.loose (by decide)) (.cons (Wk.loose (by decide)) .nil)))))
end Go.Proofs.Ytgfnmhfdmmnaoaa.Eng
-- EV: skip
namespace Go.Proofs.Ytgfnmhfdmmnaoaa.Eng
open Go Go.RowKit
attribute [local simp] big size_mk ASt.pay Option.map_map Function.comp_def awant aop acall ado aev ofVal ofVal0 ASt.put ASt.add ASt.turn ASt.kill abox aalloc astore aload aloadD astoreD idOf ASt.at cellsTo afieldAddr afield aindexAddr aindex alen abin aint acmp astr aun apick aextract anil aslice abound abuild afill abuildSlice asCells aps avCells over upd aappend asrc amax amin aconv mkSt slots rowsOf_cons rowsOf_nil usedOf_cons usedOf_nil ZK.av List.replicate ASt.back ASt.addL ASt.killL nodeA nodeT nodeTL_eq nodeL_eq strsE_get strsE_len intsE_get intsE_len strsE_at intsE_at tab2 tab3 tab4 tab5 tab6 tab7 tab8 tab9 tab10 tab11 tab12 tab13 tab14 tab15 tab16 tab17 tab18 tab19 tab21 tab22 tab23 tab24 tab25 tab26 tab27 tab28 tab29 tab30 tab39 tab40 tab41 tab42 tab43 tab47 tab48 tab55 tab56 tab57 tab60 tab61 tab62 tab73 tab74 tab75 tab85 tab92 tab115 tab116 tab143 tab144 tab145 tab154 tab155 tab170 tab175 tab182 tab197 tab198 tab203 tab204 tab205 tab207 tab208 tab209
set_option maxRecDepth 100000
set_option maxHeartbeats 16000000
def zeroOA : AV := .agg [.int .i64 0, .view .tight 0 [], .view .tight 0 [], .int .i64 0, .int .i64 0, .str ⟨#[]⟩, .view .tight 0 [], .view .tight 0 []]
theorem zeroOA_pur : Pur zeroOA := pur_agg (by
  simp only [List.forall_mem_cons, List.not_mem_nil, false_implies, implies_true, and_true]
  have := pur_view (t := .tight) (sz := 0) (es := []) (by decide) (fun e he => by cases he)
  exact ⟨pur_int, this, this, pur_int, pur_int, pur_str, this, this⟩)
theorem zeroOA_wk : Wk zeroOA (oprA zeroO) := by
  unfold zeroOA oprA zeroO
  exact Wk.agg (.cons (Wk.refl _) (.cons (Wk.nil (fun h => by cases h)) (.cons (Wk.nil (fun h => by cases h)) (.cons (Wk.refl _) (.cons (Wk.refl _) (.cons (Wk.refl _) (.cons (Wk.nil (fun h => by cases h)) (.cons (Wk.nil (fun h => by cases h)) .nil))))))))
theorem kdT_one (t : ByteArray) : kdT t 1 = 0 := by simp [kdT]
theorem n2o_no {n : Nd} (h : n2oB n = false) : n2oN n = zeroO := by unfold n2oN; rw [h]; rfl
theorem n2o_yes {n : Nd} (h : n2oB n = true) : n2oN n = partO n := by unfold n2oN; rw [h]; rfl
theorem specNodeToOp_AC (n : Nd) : AC Try.prog 37 [nodeA n] 0 (fun r => r = .tup [oprA (n2oN n), .bool (n2oB n)]) := by
  refine AC.weak ?_
  have p1 := validNode_AC n .loose
  rw [nodeT_loose] at p1
  have hcl := node_clo n
  cases hv : validB n
  · have hb : n2oB n = false := by unfold n2oB; rw [hv]; rfl
    rw [hv] at p1
    unfold nodeA at *
    rw [nodeL_eq n] at *
    refine AC.of tab_ok mixed_ok Try.func37 (by rfl) (by kernel_rfl) ?_; rintro ⟨P, T, hT, hm, w0, S0, rd0, k0⟩ hP hTT; dsimp only at hP hTT; subst hP hTT; unfold initSt; rw [Try.ntmps37]
    (repeat (first | with_reducible refine AW.seq ?_ | ((first | refine arun_kn 4 rfl (fun C hC => ?_) | refine arunD_kn 4 rfl (fun C hC => ?_)); (repeat ((conv => whnf); simp)); refine hC _ ?_; clear hC C; simp only [List.drop, Nat.reduceAdd]) | ((first | refine arun_kn 1 rfl (fun C hC => ?_) | refine arunD_kn 1 rfl (fun C hC => ?_)); (repeat ((conv => whnf); simp)); refine hC _ ?_; clear hC C; simp only [List.drop, Nat.reduceAdd]) | (refine arun_skip ?_ ?_; (focus (simp [awant]; done))) | (refine arun_c0 (p1) ?_; rintro _ rfl) | (refine arunD_skip ?_ ?_; (focus (simp [awant]; done))) | (refine AW.regionK [] (fun K hK => ?_)) | (refine AW.regionDK [] (pcs [] []) (by kernel_rfl) (by kernel_rfl) (fun K hK => ?_)) | (refine AW.condT ?_ ?_; (focus (simp [aev]; done))) | (refine AW.condF ?_ ?_; (focus (simp [aev]; done))) | with_reducible refine AW.block ?_ | ((first | ((first | refine arun_nil ?_ | refine arunD_nil ?_); refine hK _ ?_; clear hK K) | refine AW.skip ?_ | refine AW.exit ?_ | refine AW.ret ?_); simp only [thenA_exit, inBlockA_exit, if_true, if_false, Nat.reduceEqDiff, thenA_normal, inBlockA_normal, reduceIte, thenA_ret, inBlockA_ret, endQ_ret, endR_ret, endG_ret, endQ_normal, endR_normal, endG_normal])))
    exact ⟨.tup [zeroOA, .bool false], by simp [ares, aresL, upd, rowsOf_cons, zeroOA], tup2_pur zeroOA_pur pur_bool, .tup [oprA zeroO, .bool false], Wk.tup (.cons zeroOA_wk (.cons (Wk.refl _) .nil)), by rw [hb, n2o_no hb]⟩
  rw [hv] at p1
  by_cases h4 : n.kind = 4
  rotate_left
  · have hb : n2oB n = false := by unfold n2oB; simp [h4]
    have e4 : (n.kind != 4) = true := by simpa using h4
    unfold nodeA at *
    rw [nodeL_eq n] at *
    refine AC.of tab_ok mixed_ok Try.func37 (by rfl) (by kernel_rfl) ?_; rintro ⟨P, T, hT, hm, w0, S0, rd0, k0⟩ hP hTT; dsimp only at hP hTT; subst hP hTT; unfold initSt; rw [Try.ntmps37]
    (repeat (first | with_reducible refine AW.seq ?_ | ((first | refine arun_kn 4 rfl (fun C hC => ?_) | refine arunD_kn 4 rfl (fun C hC => ?_)); (repeat ((conv => whnf); simp [e4])); refine hC _ ?_; clear hC C; simp only [List.drop, Nat.reduceAdd]) | ((first | refine arun_kn 1 rfl (fun C hC => ?_) | refine arunD_kn 1 rfl (fun C hC => ?_)); (repeat ((conv => whnf); simp [e4])); refine hC _ ?_; clear hC C; simp only [List.drop, Nat.reduceAdd]) | (refine arun_skip ?_ ?_; (focus (simp [awant, e4]; done))) | (refine arun_c0 (p1) ?_; rintro _ rfl) | (refine arunD_skip ?_ ?_; (focus (simp [awant, e4]; done))) | (refine AW.regionK [] (fun K hK => ?_)) | (refine AW.regionDK [] (pcs [] []) (by kernel_rfl) (by kernel_rfl) (fun K hK => ?_)) | (refine AW.condT ?_ ?_; (focus (simp [aev, e4]; done))) | (refine AW.condF ?_ ?_; (focus (simp [aev, e4]; done))) | with_reducible refine AW.block ?_ | ((first | ((first | refine arun_nil ?_ | refine arunD_nil ?_); refine hK _ ?_; clear hK K) | refine AW.skip ?_ | refine AW.exit ?_ | refine AW.ret ?_); simp only [thenA_exit, inBlockA_exit, if_true, if_false, Nat.reduceEqDiff, thenA_normal, inBlockA_normal, reduceIte, thenA_ret, inBlockA_ret, endQ_ret, endR_ret, endG_ret, endQ_normal, endR_normal, endG_normal])))
    exact ⟨.tup [zeroOA, .bool false], by simp [ares, aresL, upd, rowsOf_cons, zeroOA], tup2_pur zeroOA_pur pur_bool, .tup [oprA zeroO, .bool false], Wk.tup (.cons zeroOA_wk (.cons (Wk.refl _) .nil)), by rw [hb, n2o_no hb]⟩
  have e4 : (n.kind != 4) = false := by simp [h4]
  by_cases hl : n.kids.length = 4
  rotate_left
  · have hb : n2oB n = false := by unfold n2oB; simp [hl]
    have el : ((n.kids.length : Int) != 4) = true := by simp; omega
    unfold nodeA at *
    rw [nodeL_eq n] at *
    refine AC.of tab_ok mixed_ok Try.func37 (by rfl) (by kernel_rfl) ?_; rintro ⟨P, T, hT, hm, w0, S0, rd0, k0⟩ hP hTT; dsimp only at hP hTT; subst hP hTT; unfold initSt; rw [Try.ntmps37]
    (repeat (first | with_reducible refine AW.seq ?_ | ((first | refine arun_kn 4 rfl (fun C hC => ?_) | refine arunD_kn 4 rfl (fun C hC => ?_)); (repeat ((conv => whnf); simp [e4, el])); refine hC _ ?_; clear hC C; simp only [List.drop, Nat.reduceAdd]) | ((first | refine arun_kn 1 rfl (fun C hC => ?_) | refine arunD_kn 1 rfl (fun C hC => ?_)); (repeat ((conv => whnf); simp [e4, el])); refine hC _ ?_; clear hC C; simp only [List.drop, Nat.reduceAdd]) | (refine arun_skip ?_ ?_; (focus (simp [awant, e4, el]; done))) | (refine arun_c0 (p1) ?_; rintro _ rfl) | (refine arunD_skip ?_ ?_; (focus (simp [awant, e4, el]; done))) | (refine AW.regionK [] (fun K hK => ?_)) | (refine AW.regionDK [] (pcs [] []) (by kernel_rfl) (by kernel_rfl) (fun K hK => ?_)) | (refine AW.condT ?_ ?_; (focus (simp [aev, e4, el]; done))) | (refine AW.condF ?_ ?_; (focus (simp [aev, e4, el]; done))) | with_reducible refine AW.block ?_ | ((first | ((first | refine arun_nil ?_ | refine arunD_nil ?_); refine hK _ ?_; clear hK K) | refine AW.skip ?_ | refine AW.exit ?_ | refine AW.ret ?_); simp only [thenA_exit, inBlockA_exit, if_true, if_false, Nat.reduceEqDiff, thenA_normal, inBlockA_normal, reduceIte, thenA_ret, inBlockA_ret, endQ_ret, endR_ret, endG_ret, endQ_normal, endR_normal, endG_normal])))
    exact ⟨.tup [zeroOA, .bool false], by simp [ares, aresL, upd, rowsOf_cons, zeroOA], tup2_pur zeroOA_pur pur_bool, .tup [oprA zeroO, .bool false], Wk.tup (.cons zeroOA_wk (.cons (Wk.refl _) .nil)), by rw [hb, n2o_no hb]⟩
  have hg : Good n := Good.ofV hv
  obtain ⟨a, b, c, d, hk⟩ : ∃ a b c d, n.kids = [a, b, c, d] := ⟨_, _, _, _, four hl⟩
  obtain ⟨o, ho⟩ : ∃ o : Opr, o = (((kdN b.text : Nat) : Int), txtsN c, txtsN a, d) := ⟨_, rfl⟩
  have hpo : partO n = o := by unfold partO; rw [hk, ho]; rfl
  have hbo : n2oB n = (oprB o && (cmpN (opOf o) n == 0)) := by
    unfold n2oB; rw [hv, hpo, hl, h4]; rfl
  have ga := hg.kid (show a ∈ n.kids by rw [hk]; simp)
  have gc := hg.kid (show c ∈ n.kids by rw [hk]; simp)
  have gd : validB d = true := validB_kid hv (by rw [hk]; simp)
  have pm := methods_AC
  have pa := pathOf_AC a ga.kids6
  have pc := pathOf_AC c gc.kids6
  have sd : Sml d := by
    obtain ⟨e, he⟩ := Good.ofV gd
    exact shape_sml d e he
  have pd := copyNode_AC d sd .loose
  rw [nodeT_loose] at pd
  have ca := node_clo a
  have cc := node_clo c
  have cd := node_clo d
  have id := node_in (U := fun _ => false) d
  have m3 : (strsE mets).length = 7 := rfl
  have m2 : mets.length = 7 := rfl
  have en : nodeL n = [.int .i64 4, .int .i64 n.num, .str n.text, .view .loose 1 (strsE n.names), .view .loose 5 [[.int .i64 a.kind, .int .i64 a.num, .str a.text, .view .loose 1 (strsE a.names), .view .loose 5 (a.kids.map nodeL)], [.int .i64 b.kind, .int .i64 b.num, .str b.text, .view .loose 1 (strsE b.names), .view .loose 5 (b.kids.map nodeL)], [.int .i64 c.kind, .int .i64 c.num, .str c.text, .view .loose 1 (strsE c.names), .view .loose 5 (c.kids.map nodeL)], [.int .i64 d.kind, .int .i64 d.num, .str d.text, .view .loose 1 (strsE d.names), .view .loose 5 (d.kids.map nodeL)]]] := by
    rw [nodeL_eq, hk, h4, ← nodeL_eq a, ← nodeL_eq b, ← nodeL_eq c, ← nodeL_eq d]; rfl
  have hik : ∀ U : Nat → Bool, AV.In U (.view .loose 5 ([a, b, c, d].map nodeL)) := fun U => in_view.2 (nodesE_in _)
  simp only [List.map_cons, List.map_nil, nodeL_eq] at hik
  unfold nodeA at p1 pa pc pd ca cc cd hcl id ⊢
  rw [nodeL_eq] at pa pc pd ca cc cd id
  rw [en] at p1 hcl ⊢
  refine AC.of tab_ok mixed_ok Try.func37 (by rfl) (by kernel_rfl) ?_; rintro ⟨P, T, hT, hm, w0, S0, rd0, k0⟩ hP hTT; dsimp only at hP hTT; subst hP hTT; unfold initSt; rw [Try.ntmps37]
  (repeat (first | with_reducible refine AW.seq ?_ | ((first | refine arun_kn 4 rfl (fun C hC => ?_) | refine arunD_kn 4 rfl (fun C hC => ?_)); (repeat ((conv => whnf); simp)); refine hC _ ?_; clear hC C; simp only [List.drop, Nat.reduceAdd]) | ((first | refine arun_kn 1 rfl (fun C hC => ?_) | refine arunD_kn 1 rfl (fun C hC => ?_)); (repeat ((conv => whnf); simp)); refine hC _ ?_; clear hC C; simp only [List.drop, Nat.reduceAdd]) | (refine arun_skip ?_ ?_; (focus (simp [awant]; done))) | (refine arun_c0 (p1) ?_; rintro _ rfl) | (refine arun_c0 (pm) ?_; rintro _ rfl) | (refine arunD_skip ?_ ?_; (focus (simp [awant]; done))) | (refine AW.regionK [] (fun K hK => ?_)) | (refine AW.regionDK [] (pcs [] []) (by kernel_rfl) (by kernel_rfl) (fun K hK => ?_)) | (refine AW.condT ?_ ?_; (focus (simp [aev]; done))) | (refine AW.condF ?_ ?_; (focus (simp [aev]; done))) | with_reducible refine AW.block ?_ | ((first | ((first | refine arun_nil ?_ | refine arunD_nil ?_); refine hK _ ?_; clear hK K) | refine AW.skip ?_ | refine AW.exit ?_ | refine AW.ret ?_); simp only [thenA_exit, inBlockA_exit, if_true, if_false, Nat.reduceEqDiff, thenA_normal, inBlockA_normal, reduceIte, thenA_ret, inBlockA_ret, endQ_ret, endR_ret, endG_ret, endQ_normal, endR_normal, endG_normal])))
  refine AW.loopS (fun (i : Nat) => mkSt (slots 0 70 [(1, .ptr true 5 1 1 0 0), (2, .ptr true 8 1 2 0 0), (4, .view .loose 1 (strsE mets)), (5, .int .i64 (kdT b.text i)), (6, .int .i64 i)]) [(1, ⟨true, 30, 5, [nodeL n]⟩), (2, ⟨true, 48, 8, [[.int .i64 0, .view .tight 0 [], .view .tight 0 [], .int .i64 0, .int .i64 0, .str ⟨#[]⟩, .view .tight 0 [], .view .tight 0 []]]⟩)] [1, 2] (rd0.map fun _ => 0)) (fun i => 7 - i) (fun i => 1 ≤ i ∧ i ≤ 7) 1 ?_ ⟨Nat.le_refl _, by omega⟩ ?_
  · rw [en, kdT_one]
    exact (less_of (by simp [lessL, mkSt, slots, hik]) (by simp [upd, mkSt, rowsOf_cons, hik]) (by simp [upd, mkSt, usedOf_cons, hik]) (by first | exact rd_less (by omega) | simp [mkSt, hik]) (by simp [slots, in_any, in_int, in_bool, in_str, in_ptr, in_own, in_agg, in_vnil, in_rdr, usedOf_cons, usedOf_nil, strs_in, ints_in, nodes_in, in_tup, hik]) (by simp only [List.forall_mem_cons, List.not_mem_nil, false_implies, implies_true, and_true, true_and, hik]; (repeat (first | with_reducible exact trivial | with_reducible refine And.intro ?_ ?_ | with_reducible exact in_int | with_reducible exact in_str | with_reducible exact in_bool | with_reducible exact strs_in _ | with_reducible exact nodes_in _ | with_reducible exact items_in _ | with_reducible exact in_vnil | with_reducible exact in_any | exact hin _ | with_reducible refine take_in ?_ | with_reducible exact strsE_in _ | with_reducible exact nodesE_in _ | with_reducible exact nodeL_in _ | with_reducible exact itemsE_in _ | with_reducible exact itemL_in _ | with_reducible refine app_in ?_ ?_ | with_reducible refine sing_in ?_ | (focus (simp [in_any, in_int, in_bool, in_str, in_ptr, in_own, in_agg, in_vnil, in_rdr, usedOf_cons, usedOf_nil, strs_in, ints_in, nodes_in, hik]; done)))); done))
  rintro i ⟨hi1, hi7⟩
  rw [en]
  by_cases hlt : i < 7
  · have hlt' : (i : Int) < 7 := by omega
    have hw : IntKind.i64.wrap ((i : Int) + 1) = (i : Int) + 1 := i64_nat (by omega) (by omega)
    have m4 := fun h => mets_at hi1 (by omega) (k := i) h
    by_cases he : b.text = wd i
    · have e1 : eqs b.text (wd i) = true := eqs_iff.2 he
      have ek : kdT b.text (i + 1) = i := by conv => lhs; unfold kdT
                                             rw [if_pos ⟨hi1, he⟩]
      (repeat (first | with_reducible refine AW.seq ?_ | ((first | refine arun_kn 4 rfl (fun C hC => ?_) | refine arunD_kn 4 rfl (fun C hC => ?_)); (repeat ((conv => whnf); simp [hlt, hlt', m3, m2, m4, e1, hw])); refine hC _ ?_; clear hC C; simp only [List.drop, Nat.reduceAdd]) | ((first | refine arun_kn 1 rfl (fun C hC => ?_) | refine arunD_kn 1 rfl (fun C hC => ?_)); (repeat ((conv => whnf); simp [hlt, hlt', m3, m2, m4, e1, hw])); refine hC _ ?_; clear hC C; simp only [List.drop, Nat.reduceAdd]) | (refine arun_skip ?_ ?_; (focus (simp [awant, hlt, hlt', m3, m2, m4, e1, hw]; done))) | (refine arunD_skip ?_ ?_; (focus (simp [awant, hlt, hlt', m3, m2, m4, e1, hw]; done))) | (refine AW.regionK [] (fun K hK => ?_)) | (refine AW.regionDK [] (pcs [] []) (by kernel_rfl) (by kernel_rfl) (fun K hK => ?_)) | (refine AW.condT ?_ ?_; (focus (simp [aev, hlt, hlt', m3, m2, m4, e1, hw]; done))) | (refine AW.condF ?_ ?_; (focus (simp [aev, hlt, hlt', m3, m2, m4, e1, hw]; done))) | with_reducible refine AW.block ?_ | ((first | ((first | refine arun_nil ?_ | refine arunD_nil ?_); refine hK _ ?_; clear hK K) | refine AW.skip ?_ | refine AW.exit ?_ | refine AW.ret ?_); simp only [thenA_exit, inBlockA_exit, if_true, if_false, Nat.reduceEqDiff, thenA_normal, inBlockA_normal, reduceIte, thenA_ret, inBlockA_ret, endQ_ret, endR_ret, endG_ret, endQ_normal, endR_normal, endG_normal])))
      refine ⟨i + 1, by omega, ⟨by omega, by omega⟩, ?_⟩
      rw [ek]
      exact (less_of (by simp [lessL, mkSt, slots, hik]) (by simp [upd, mkSt, rowsOf_cons, hik]) (by simp [upd, mkSt, usedOf_cons, hik]) (by first | exact rd_less (by omega) | simp [mkSt, hik]) (by simp [slots, in_any, in_int, in_bool, in_str, in_ptr, in_own, in_agg, in_vnil, in_rdr, usedOf_cons, usedOf_nil, strs_in, ints_in, nodes_in, in_tup, hik]) (by simp only [List.forall_mem_cons, List.not_mem_nil, false_implies, implies_true, and_true, true_and, hik]; (repeat (first | with_reducible exact trivial | with_reducible refine And.intro ?_ ?_ | with_reducible exact in_int | with_reducible exact in_str | with_reducible exact in_bool | with_reducible exact strs_in _ | with_reducible exact nodes_in _ | with_reducible exact items_in _ | with_reducible exact in_vnil | with_reducible exact in_any | exact hin _ | with_reducible refine take_in ?_ | with_reducible exact strsE_in _ | with_reducible exact nodesE_in _ | with_reducible exact nodeL_in _ | with_reducible exact itemsE_in _ | with_reducible exact itemL_in _ | with_reducible refine app_in ?_ ?_ | with_reducible refine sing_in ?_ | (focus (simp [in_any, in_int, in_bool, in_str, in_ptr, in_own, in_agg, in_vnil, in_rdr, usedOf_cons, usedOf_nil, strs_in, ints_in, nodes_in, hik]; done)))); done))
    · have e1 : eqs b.text (wd i) = false := eqs_false.2 he
      have ek : kdT b.text (i + 1) = kdT b.text i := by conv => lhs; unfold kdT
                                                        rw [if_neg (fun h => he h.2)]
      (repeat (first | with_reducible refine AW.seq ?_ | ((first | refine arun_kn 4 rfl (fun C hC => ?_) | refine arunD_kn 4 rfl (fun C hC => ?_)); (repeat ((conv => whnf); simp [hlt, hlt', m3, m2, m4, e1, hw])); refine hC _ ?_; clear hC C; simp only [List.drop, Nat.reduceAdd]) | ((first | refine arun_kn 1 rfl (fun C hC => ?_) | refine arunD_kn 1 rfl (fun C hC => ?_)); (repeat ((conv => whnf); simp [hlt, hlt', m3, m2, m4, e1, hw])); refine hC _ ?_; clear hC C; simp only [List.drop, Nat.reduceAdd]) | (refine arun_skip ?_ ?_; (focus (simp [awant, hlt, hlt', m3, m2, m4, e1, hw]; done))) | (refine arunD_skip ?_ ?_; (focus (simp [awant, hlt, hlt', m3, m2, m4, e1, hw]; done))) | (refine AW.regionK [] (fun K hK => ?_)) | (refine AW.regionDK [] (pcs [] []) (by kernel_rfl) (by kernel_rfl) (fun K hK => ?_)) | (refine AW.condT ?_ ?_; (focus (simp [aev, hlt, hlt', m3, m2, m4, e1, hw]; done))) | (refine AW.condF ?_ ?_; (focus (simp [aev, hlt, hlt', m3, m2, m4, e1, hw]; done))) | with_reducible refine AW.block ?_ | ((first | ((first | refine arun_nil ?_ | refine arunD_nil ?_); refine hK _ ?_; clear hK K) | refine AW.skip ?_ | refine AW.exit ?_ | refine AW.ret ?_); simp only [thenA_exit, inBlockA_exit, if_true, if_false, Nat.reduceEqDiff, thenA_normal, inBlockA_normal, reduceIte, thenA_ret, inBlockA_ret, endQ_ret, endR_ret, endG_ret, endQ_normal, endR_normal, endG_normal])))
      refine ⟨i + 1, by omega, ⟨by omega, by omega⟩, ?_⟩
      rw [ek]
      exact (less_of (by simp [lessL, mkSt, slots, hik]) (by simp [upd, mkSt, rowsOf_cons, hik]) (by simp [upd, mkSt, usedOf_cons, hik]) (by first | exact rd_less (by omega) | simp [mkSt, hik]) (by simp [slots, in_any, in_int, in_bool, in_str, in_ptr, in_own, in_agg, in_vnil, in_rdr, usedOf_cons, usedOf_nil, strs_in, ints_in, nodes_in, in_tup, hik]) (by simp only [List.forall_mem_cons, List.not_mem_nil, false_implies, implies_true, and_true, true_and, hik]; (repeat (first | with_reducible exact trivial | with_reducible refine And.intro ?_ ?_ | with_reducible exact in_int | with_reducible exact in_str | with_reducible exact in_bool | with_reducible exact strs_in _ | with_reducible exact nodes_in _ | with_reducible exact items_in _ | with_reducible exact in_vnil | with_reducible exact in_any | exact hin _ | with_reducible refine take_in ?_ | with_reducible exact strsE_in _ | with_reducible exact nodesE_in _ | with_reducible exact nodeL_in _ | with_reducible exact itemsE_in _ | with_reducible exact itemL_in _ | with_reducible refine app_in ?_ ?_ | with_reducible refine sing_in ?_ | (focus (simp [in_any, in_int, in_bool, in_str, in_ptr, in_own, in_agg, in_vnil, in_rdr, usedOf_cons, usedOf_nil, strs_in, ints_in, nodes_in, hik]; done)))); done))
  obtain rfl : i = 7 := by omega
  have pv := validOp_AC o
  obtain ⟨k, hkd⟩ : ∃ k, k = kdT b.text 7 := ⟨_, rfl⟩
  rw [← hkd]
  have hok : o.1 = (k : Int) := by rw [ho, hkd]; rfl
  have eo : oprA o = .agg [.int .i64 (k : Int), .view .loose 1 (strsE (txtsN c)), .view .loose 1 (strsE (txtsN a)), .int .i64 d.kind, .int .i64 d.num, .str d.text, .view .loose 1 (strsE d.names), .view .loose 5 (d.kids.map nodeL)] := by
    unfold oprA; rw [hok, ho]
  have co := oprA_clo o
  have io := fun U => oprA_in (U := U) o
  rw [eo] at pv co io
  cases hvo : oprB o
  · have hb : n2oB n = false := by rw [hbo, hvo]; rfl
    rw [hvo] at pv
    (repeat (first | with_reducible refine AW.seq ?_ | ((first | refine arun_kn 4 rfl (fun C hC => ?_) | refine arunD_kn 4 rfl (fun C hC => ?_)); (repeat ((conv => whnf); simp [m3, m2])); refine hC _ ?_; clear hC C; simp only [List.drop, Nat.reduceAdd]) | ((first | refine arun_kn 1 rfl (fun C hC => ?_) | refine arunD_kn 1 rfl (fun C hC => ?_)); (repeat ((conv => whnf); simp [m3, m2])); refine hC _ ?_; clear hC C; simp only [List.drop, Nat.reduceAdd]) | (refine arun_skip ?_ ?_; (focus (simp [awant, m3, m2]; done))) | (refine arunD_skip ?_ ?_; (focus (simp [awant, m3, m2]; done))) | (refine AW.regionK [] (fun K hK => ?_)) | (refine AW.condT ?_ ?_; (focus (simp [aev, m3, m2]; done))) | (refine AW.condF ?_ ?_; (focus (simp [aev, m3, m2]; done))) | with_reducible refine AW.block ?_ | ((first | ((first | refine arun_nil ?_ | refine arunD_nil ?_); refine hK _ ?_; clear hK K) | refine AW.skip ?_ | refine AW.exit ?_ | refine AW.ret ?_); simp only [thenA_exit, inBlockA_exit, if_true, if_false, Nat.reduceEqDiff, thenA_normal, inBlockA_normal, reduceIte, thenA_ret, inBlockA_ret, endQ_ret, endR_ret, endG_ret, endQ_normal, endR_normal, endG_normal])))
    refine AW.regionDK [] (pcs [(5, 0, fun r => r = .view .loose 1 (strsE (txtsN c))), (10, 0, fun r => r = .view .loose 1 (strsE (txtsN a))), (15, 0, fun r => r = .agg [.int .i64 d.kind, .int .i64 d.num, .str d.text, .view .loose 1 (strsE d.names), .view .loose 5 (d.kids.map nodeL)])] []) (by kernel_rfl) (by kernel_rfl) (fun K hK => ?_)
    (repeat (first | with_reducible refine AW.seq ?_ | ((first | refine arun_kn 4 rfl (fun C hC => ?_) | refine arunD_kn 4 rfl (fun C hC => ?_)); (repeat ((conv => whnf); simp [m3, m2])); refine hC _ ?_; clear hC C; simp only [List.drop, Nat.reduceAdd]) | ((first | refine arun_kn 1 rfl (fun C hC => ?_) | refine arunD_kn 1 rfl (fun C hC => ?_)); (repeat ((conv => whnf); simp [m3, m2])); refine hC _ ?_; clear hC C; simp only [List.drop, Nat.reduceAdd]) | (refine arun_skip ?_ ?_; (focus (simp [awant, m3, m2]; done))) | (refine arun_c0 (pc) ?_; rintro _ rfl) | (refine arun_c0 (pa) ?_; rintro _ rfl) | (refine arun_c0 (pd) ?_; rintro _ rfl) | (refine arunD_skip ?_ ?_; (focus (simp [awant, m3, m2]; done))) | (refine arunD_cE (0) (pc) (by exact ⟨_, rfl, strs_in _⟩) ?_; rintro _ rfl; intro _) | (refine arunD_cE (0) (pa) (by exact ⟨_, rfl, strs_in _⟩) ?_; rintro _ rfl; intro _) | (refine arunD_cE (0) (pd) (by exact ⟨_, rfl, id⟩) ?_; rintro _ rfl; intro _) | (refine AW.regionK [] (fun K hK => ?_)) | (refine AW.condT ?_ ?_; (focus (simp [aev, m3, m2]; done))) | (refine AW.condF ?_ ?_; (focus (simp [aev, m3, m2]; done))) | with_reducible refine AW.block ?_ | ((first | ((first | refine arun_nil ?_ | refine arunD_nil ?_); refine hK _ ?_; clear hK K) | refine AW.skip ?_ | refine AW.exit ?_ | refine AW.ret ?_); simp only [thenA_exit, inBlockA_exit, if_true, if_false, Nat.reduceEqDiff, thenA_normal, inBlockA_normal, reduceIte, thenA_ret, inBlockA_ret, endQ_ret, endR_ret, endG_ret, endQ_normal, endR_normal, endG_normal])))
    refine AW.regionDK [] (pcs [(1, 0, fun r => r = .bool false)] []) (by kernel_rfl) (by kernel_rfl) (fun K hK => ?_)
    (repeat (first | with_reducible refine AW.seq ?_ | ((first | refine arun_kn 4 rfl (fun C hC => ?_) | refine arunD_kn 4 rfl (fun C hC => ?_)); (repeat ((conv => whnf); simp)); refine hC _ ?_; clear hC C; simp only [List.drop, Nat.reduceAdd]) | ((first | refine arun_kn 1 rfl (fun C hC => ?_) | refine arunD_kn 1 rfl (fun C hC => ?_)); (repeat ((conv => whnf); simp)); refine hC _ ?_; clear hC C; simp only [List.drop, Nat.reduceAdd]) | (refine arun_skip ?_ ?_; (focus (simp [awant]; done))) | (refine arun_c0 (pv) ?_; rintro _ rfl) | (refine arunD_skip ?_ ?_; (focus (simp [awant]; done))) | (refine arunD_cE (0) (pv) (by exact ⟨_, rfl, in_bool⟩) ?_; rintro _ rfl; intro _) | (refine AW.regionK [] (fun K hK => ?_)) | (refine AW.condT ?_ ?_; (focus (simp [aev]; done))) | (refine AW.condF ?_ ?_; (focus (simp [aev]; done))) | with_reducible refine AW.block ?_ | ((first | ((first | refine arun_nil ?_ | refine arunD_nil ?_); refine hK _ ?_; clear hK K) | refine AW.skip ?_ | refine AW.exit ?_ | refine AW.ret ?_); simp only [thenA_exit, inBlockA_exit, if_true, if_false, Nat.reduceEqDiff, thenA_normal, inBlockA_normal, reduceIte, thenA_ret, inBlockA_ret, endQ_ret, endR_ret, endG_ret, endQ_normal, endR_normal, endG_normal])))
    exact ⟨.tup [zeroOA, .bool false], by simp [ares, aresL, upd, rowsOf_cons, zeroOA], tup2_pur zeroOA_pur pur_bool, .tup [oprA zeroO, .bool false], Wk.tup (.cons zeroOA_wk (.cons (Wk.refl _) .nil)), by rw [hb, n2o_no hb]⟩
  rw [hvo] at pv hbo
  have hvo' := hvo
  unfold oprB at hvo'
  simp only [Bool.and_eq_true] at hvo'
  obtain ⟨⟨⟨k1, q1⟩, q2⟩, q3⟩ := hvo'
  have k16 : 1 ≤ k ∧ k ≤ 6 := by
    unfold inR at k1
    rw [hok] at k1
    simp at k1
    omega
  have l1 : o.2.1.length ≤ 5 := by unfold pathB at q1; simp at q1; exact q1.1
  have l2 : o.2.2.1.length ≤ 5 := by unfold pathB at q2; simp at q2; exact q2.1
  have so : Sml o.2.2.2 := by rw [ho]; exact sd
  have po := opNode_AC o k hok k16.1 k16.2 l1 l2 so
  have go : Good (opOf o) := by
    obtain ⟨e, he⟩ := Good.ofV q3
    refine ⟨(e + 2) + 1, good_op ?_ ?_ q1 q2 (by omega) (shapeB_up _ e _ (by omega) he)⟩ <;> rw [hok] <;> simp <;> omega
  have ps := specSame_AC (opOf o) n go hg
  rw [eo] at po
  generalize opOf o = M at *
  have iM := node_in (U := fun _ => false) M
  have cM := node_clo M
  unfold nodeA at po ps iM cM
  rw [nodeL_eq M] at po ps iM cM
  rw [en] at ps
  cases hc : (cmpN M n == 0)
  · have hb : n2oB n = false := by rw [hbo, hc]; rfl
    rw [hc] at ps
    (repeat (first | with_reducible refine AW.seq ?_ | ((first | refine arun_kn 4 rfl (fun C hC => ?_) | refine arunD_kn 4 rfl (fun C hC => ?_)); (repeat ((conv => whnf); simp [m3, m2])); refine hC _ ?_; clear hC C; simp only [List.drop, Nat.reduceAdd]) | ((first | refine arun_kn 1 rfl (fun C hC => ?_) | refine arunD_kn 1 rfl (fun C hC => ?_)); (repeat ((conv => whnf); simp [m3, m2])); refine hC _ ?_; clear hC C; simp only [List.drop, Nat.reduceAdd]) | (refine arun_skip ?_ ?_; (focus (simp [awant, m3, m2]; done))) | (refine arunD_skip ?_ ?_; (focus (simp [awant, m3, m2]; done))) | (refine AW.regionK [] (fun K hK => ?_)) | (refine AW.condT ?_ ?_; (focus (simp [aev, m3, m2]; done))) | (refine AW.condF ?_ ?_; (focus (simp [aev, m3, m2]; done))) | with_reducible refine AW.block ?_ | ((first | ((first | refine arun_nil ?_ | refine arunD_nil ?_); refine hK _ ?_; clear hK K) | refine AW.skip ?_ | refine AW.exit ?_ | refine AW.ret ?_); simp only [thenA_exit, inBlockA_exit, if_true, if_false, Nat.reduceEqDiff, thenA_normal, inBlockA_normal, reduceIte, thenA_ret, inBlockA_ret, endQ_ret, endR_ret, endG_ret, endQ_normal, endR_normal, endG_normal])))
    refine AW.regionDK [] (pcs [(5, 0, fun r => r = .view .loose 1 (strsE (txtsN c))), (10, 0, fun r => r = .view .loose 1 (strsE (txtsN a))), (15, 0, fun r => r = .agg [.int .i64 d.kind, .int .i64 d.num, .str d.text, .view .loose 1 (strsE d.names), .view .loose 5 (d.kids.map nodeL)])] []) (by kernel_rfl) (by kernel_rfl) (fun K hK => ?_)
    (repeat (first | with_reducible refine AW.seq ?_ | ((first | refine arun_kn 4 rfl (fun C hC => ?_) | refine arunD_kn 4 rfl (fun C hC => ?_)); (repeat ((conv => whnf); simp [m3, m2])); refine hC _ ?_; clear hC C; simp only [List.drop, Nat.reduceAdd]) | ((first | refine arun_kn 1 rfl (fun C hC => ?_) | refine arunD_kn 1 rfl (fun C hC => ?_)); (repeat ((conv => whnf); simp [m3, m2])); refine hC _ ?_; clear hC C; simp only [List.drop, Nat.reduceAdd]) | (refine arun_skip ?_ ?_; (focus (simp [awant, m3, m2]; done))) | (refine arun_c0 (pc) ?_; rintro _ rfl) | (refine arun_c0 (pa) ?_; rintro _ rfl) | (refine arun_c0 (pd) ?_; rintro _ rfl) | (refine arunD_skip ?_ ?_; (focus (simp [awant, m3, m2]; done))) | (refine arunD_cE (0) (pc) (by exact ⟨_, rfl, strs_in _⟩) ?_; rintro _ rfl; intro _) | (refine arunD_cE (0) (pa) (by exact ⟨_, rfl, strs_in _⟩) ?_; rintro _ rfl; intro _) | (refine arunD_cE (0) (pd) (by exact ⟨_, rfl, id⟩) ?_; rintro _ rfl; intro _) | (refine AW.regionK [] (fun K hK => ?_)) | (refine AW.condT ?_ ?_; (focus (simp [aev, m3, m2]; done))) | (refine AW.condF ?_ ?_; (focus (simp [aev, m3, m2]; done))) | with_reducible refine AW.block ?_ | ((first | ((first | refine arun_nil ?_ | refine arunD_nil ?_); refine hK _ ?_; clear hK K) | refine AW.skip ?_ | refine AW.exit ?_ | refine AW.ret ?_); simp only [thenA_exit, inBlockA_exit, if_true, if_false, Nat.reduceEqDiff, thenA_normal, inBlockA_normal, reduceIte, thenA_ret, inBlockA_ret, endQ_ret, endR_ret, endG_ret, endQ_normal, endR_normal, endG_normal])))
    refine AW.regionDK [] (pcs [(1, 0, fun r => r = .bool true), (5, 0, fun r => r = .agg [.int .i64 M.kind, .int .i64 M.num, .str M.text, .view .loose 1 (strsE M.names), .view .loose 5 (M.kids.map nodeL)]), (7, 0, fun r => r = .bool false)] []) (by kernel_rfl) (by kernel_rfl) (fun K hK => ?_)
    (repeat (first | with_reducible refine AW.seq ?_ | ((first | refine arun_kn 4 rfl (fun C hC => ?_) | refine arunD_kn 4 rfl (fun C hC => ?_)); (repeat ((conv => whnf); simp)); refine hC _ ?_; clear hC C; simp only [List.drop, Nat.reduceAdd]) | ((first | refine arun_kn 1 rfl (fun C hC => ?_) | refine arunD_kn 1 rfl (fun C hC => ?_)); (repeat ((conv => whnf); simp)); refine hC _ ?_; clear hC C; simp only [List.drop, Nat.reduceAdd]) | (refine arun_skip ?_ ?_; (focus (simp [awant]; done))) | (refine arun_c0 (pv) ?_; rintro _ rfl) | (refine arun_c0 (po) ?_; rintro _ rfl) | (refine arun_c0 (ps) ?_; rintro _ rfl) | (refine arunD_skip ?_ ?_; (focus (simp [awant]; done))) | (refine arunD_cE (0) (pv) (by exact ⟨_, rfl, in_bool⟩) ?_; rintro _ rfl; intro _) | (refine arunD_cE (0) (po) (by exact ⟨_, rfl, iM⟩) ?_; rintro _ rfl; intro _) | (refine arunD_cE (0) (ps) (by exact ⟨_, rfl, in_bool⟩) ?_; rintro _ rfl; intro _) | (refine AW.regionK [] (fun K hK => ?_)) | (refine AW.condT ?_ ?_; (focus (simp [aev]; done))) | (refine AW.condF ?_ ?_; (focus (simp [aev]; done))) | with_reducible refine AW.block ?_ | ((first | ((first | refine arun_nil ?_ | refine arunD_nil ?_); refine hK _ ?_; clear hK K) | refine AW.skip ?_ | refine AW.exit ?_ | refine AW.ret ?_); simp only [thenA_exit, inBlockA_exit, if_true, if_false, Nat.reduceEqDiff, thenA_normal, inBlockA_normal, reduceIte, thenA_ret, inBlockA_ret, endQ_ret, endR_ret, endG_ret, endQ_normal, endR_normal, endG_normal])))
    exact ⟨.tup [zeroOA, .bool false], by simp [ares, aresL, upd, rowsOf_cons, zeroOA], tup2_pur zeroOA_pur pur_bool, .tup [oprA zeroO, .bool false], Wk.tup (.cons zeroOA_wk (.cons (Wk.refl _) .nil)), by rw [hb, n2o_no hb]⟩
  · have hb : n2oB n = true := by rw [hbo, hc]; rfl
    rw [hc] at ps
    (repeat (first | with_reducible refine AW.seq ?_ | ((first | refine arun_kn 4 rfl (fun C hC => ?_) | refine arunD_kn 4 rfl (fun C hC => ?_)); (repeat ((conv => whnf); simp [m3, m2])); refine hC _ ?_; clear hC C; simp only [List.drop, Nat.reduceAdd]) | ((first | refine arun_kn 1 rfl (fun C hC => ?_) | refine arunD_kn 1 rfl (fun C hC => ?_)); (repeat ((conv => whnf); simp [m3, m2])); refine hC _ ?_; clear hC C; simp only [List.drop, Nat.reduceAdd]) | (refine arun_skip ?_ ?_; (focus (simp [awant, m3, m2]; done))) | (refine arunD_skip ?_ ?_; (focus (simp [awant, m3, m2]; done))) | (refine AW.regionK [] (fun K hK => ?_)) | (refine AW.condT ?_ ?_; (focus (simp [aev, m3, m2]; done))) | (refine AW.condF ?_ ?_; (focus (simp [aev, m3, m2]; done))) | with_reducible refine AW.block ?_ | ((first | ((first | refine arun_nil ?_ | refine arunD_nil ?_); refine hK _ ?_; clear hK K) | refine AW.skip ?_ | refine AW.exit ?_ | refine AW.ret ?_); simp only [thenA_exit, inBlockA_exit, if_true, if_false, Nat.reduceEqDiff, thenA_normal, inBlockA_normal, reduceIte, thenA_ret, inBlockA_ret, endQ_ret, endR_ret, endG_ret, endQ_normal, endR_normal, endG_normal])))
    refine AW.regionDK [] (pcs [(5, 0, fun r => r = .view .loose 1 (strsE (txtsN c))), (10, 0, fun r => r = .view .loose 1 (strsE (txtsN a))), (15, 0, fun r => r = .agg [.int .i64 d.kind, .int .i64 d.num, .str d.text, .view .loose 1 (strsE d.names), .view .loose 5 (d.kids.map nodeL)])] []) (by kernel_rfl) (by kernel_rfl) (fun K hK => ?_)
    (repeat (first | with_reducible refine AW.seq ?_ | ((first | refine arun_kn 4 rfl (fun C hC => ?_) | refine arunD_kn 4 rfl (fun C hC => ?_)); (repeat ((conv => whnf); simp [m3, m2])); refine hC _ ?_; clear hC C; simp only [List.drop, Nat.reduceAdd]) | ((first | refine arun_kn 1 rfl (fun C hC => ?_) | refine arunD_kn 1 rfl (fun C hC => ?_)); (repeat ((conv => whnf); simp [m3, m2])); refine hC _ ?_; clear hC C; simp only [List.drop, Nat.reduceAdd]) | (refine arun_skip ?_ ?_; (focus (simp [awant, m3, m2]; done))) | (refine arun_c0 (pc) ?_; rintro _ rfl) | (refine arun_c0 (pa) ?_; rintro _ rfl) | (refine arun_c0 (pd) ?_; rintro _ rfl) | (refine arunD_skip ?_ ?_; (focus (simp [awant, m3, m2]; done))) | (refine arunD_cE (0) (pc) (by exact ⟨_, rfl, strs_in _⟩) ?_; rintro _ rfl; intro _) | (refine arunD_cE (0) (pa) (by exact ⟨_, rfl, strs_in _⟩) ?_; rintro _ rfl; intro _) | (refine arunD_cE (0) (pd) (by exact ⟨_, rfl, id⟩) ?_; rintro _ rfl; intro _) | (refine AW.regionK [] (fun K hK => ?_)) | (refine AW.condT ?_ ?_; (focus (simp [aev, m3, m2]; done))) | (refine AW.condF ?_ ?_; (focus (simp [aev, m3, m2]; done))) | with_reducible refine AW.block ?_ | ((first | ((first | refine arun_nil ?_ | refine arunD_nil ?_); refine hK _ ?_; clear hK K) | refine AW.skip ?_ | refine AW.exit ?_ | refine AW.ret ?_); simp only [thenA_exit, inBlockA_exit, if_true, if_false, Nat.reduceEqDiff, thenA_normal, inBlockA_normal, reduceIte, thenA_ret, inBlockA_ret, endQ_ret, endR_ret, endG_ret, endQ_normal, endR_normal, endG_normal])))
    refine AW.regionDK [] (pcs [(1, 0, fun r => r = .bool true), (5, 0, fun r => r = .agg [.int .i64 M.kind, .int .i64 M.num, .str M.text, .view .loose 1 (strsE M.names), .view .loose 5 (M.kids.map nodeL)]), (7, 0, fun r => r = .bool true)] []) (by kernel_rfl) (by kernel_rfl) (fun K hK => ?_)
    (repeat (first | with_reducible refine AW.seq ?_ | ((first | refine arun_kn 4 rfl (fun C hC => ?_) | refine arunD_kn 4 rfl (fun C hC => ?_)); (repeat ((conv => whnf); simp)); refine hC _ ?_; clear hC C; simp only [List.drop, Nat.reduceAdd]) | ((first | refine arun_kn 1 rfl (fun C hC => ?_) | refine arunD_kn 1 rfl (fun C hC => ?_)); (repeat ((conv => whnf); simp)); refine hC _ ?_; clear hC C; simp only [List.drop, Nat.reduceAdd]) | (refine arun_skip ?_ ?_; (focus (simp [awant]; done))) | (refine arun_c0 (pv) ?_; rintro _ rfl) | (refine arun_c0 (po) ?_; rintro _ rfl) | (refine arun_c0 (ps) ?_; rintro _ rfl) | (refine arunD_skip ?_ ?_; (focus (simp [awant]; done))) | (refine arunD_cE (0) (pv) (by exact ⟨_, rfl, in_bool⟩) ?_; rintro _ rfl; intro _) | (refine arunD_cE (0) (po) (by exact ⟨_, rfl, iM⟩) ?_; rintro _ rfl; intro _) | (refine arunD_cE (0) (ps) (by exact ⟨_, rfl, in_bool⟩) ?_; rintro _ rfl; intro _) | (refine AW.regionK [] (fun K hK => ?_)) | (refine AW.condT ?_ ?_; (focus (simp [aev]; done))) | (refine AW.condF ?_ ?_; (focus (simp [aev]; done))) | with_reducible refine AW.block ?_ | ((first | ((first | refine arun_nil ?_ | refine arunD_nil ?_); refine hK _ ?_; clear hK K) | refine AW.skip ?_ | refine AW.exit ?_ | refine AW.ret ?_); simp only [thenA_exit, inBlockA_exit, if_true, if_false, Nat.reduceEqDiff, thenA_normal, inBlockA_normal, reduceIte, thenA_ret, inBlockA_ret, endQ_ret, endR_ret, endG_ret, endQ_normal, endR_normal, endG_normal])))
    refine ⟨.tup [oprA o, .bool true], by rw [eo]; simp [ares, aresL, upd, rowsOf_cons], tup2_pur (oprA_pur o) pur_bool, _, Wk.refl _, by rw [hb, n2o_yes hb, hpo]⟩
end Go.Proofs.Ytgfnmhfdmmnaoaa.Eng
