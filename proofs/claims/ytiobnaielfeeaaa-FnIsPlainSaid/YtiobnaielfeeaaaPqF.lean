/-
  Texts of this claim, joined.
-/
import Derived.ProofKit
import Derived.Deep.Slices
import Derived.Deep.Fields
import Derived.Laws.CopyRow
import Derived.Laws.CopyOwn
import Derived.Laws.IdiomCopy
import Derived.Laws.AppendOwn
import Derived.Lib.AppendZerosOnto
import Derived.Lib.Overlaps
import Derived.Deep.RegionLaw
import Derived.Shelf.RegionOpenPlain
import Derived.Laws.MakeOwn
import Derived.Test.YtiobnaielfeeaaaPqE

set_option linter.unusedSimpArgs false
set_option linter.unusedVariables false
set_option linter.unnecessarySimpa false
set_option maxRecDepth 100000
set_option maxHeartbeats 16000000
namespace Go.Proofs.Ytiobnaielfeeaaa.Eng
open Go Go.RowKit
attribute [local simp] big size_mk ASt.pay Option.map_map Function.comp_def awant aop acall ado aev ofVal ofVal0 ASt.put ASt.add ASt.turn ASt.kill abox aalloc astore aload ASt.at cellsTo afieldAddr afield aindexAddr aindex alen abin aint acmp astr aun apick aextract anil aslice abound abuild afill abuildSlice asCells aps avCells over upd aappend asrc amax amin aconv mkSt slots rowsOf_cons rowsOf_nil usedOf_cons usedOf_nil ZK.av List.replicate ASt.back ASt.addL ASt.killL nodeA nodeT nodeTL_eq nodeL_eq strsE_get strsE_len intsE_get intsE_len strsE_at intsE_at tab2 tab3 tab4 tab5 tab6 tab7 tab8 tab9 tab10 tab11 tab12 tab13 tab14 tab15 tab16 tab17 tab18 tab19 tab21 tab22 tab23 tab24 tab25 tab26 tab27 tab28 tab29 tab30 tab48 tab51 tab52 tab59 tab77 tab78 tab79 tab91 tab95 tab96 tab97 tab109 tab116 tab132 tab133 tab138 tab139 tab144 tab145 tab146 tab148 tab149 tab150
inductive WkE : List (List AV) → List (List AV) → Prop
  | nil : WkE [] []
  | cons {c d : List AV} {cs ds : List (List AV)} (h : WkL c d) (t : WkE cs ds) : WkE (c :: cs) (d :: ds)
theorem WkL.length {cs ds : List AV} (h : WkL cs ds) : ds.length = cs.length := by
  induction h with
  | nil => rfl
  | cons _ _ ih => simp [ih]
theorem WkE.length {cs ds : List (List AV)} (h : WkE cs ds) : ds.length = cs.length := by
  induction h with
  | nil => rfl
  | cons _ _ ih => simp [ih]
theorem WkE.sz {cs ds : List (List AV)} {n : Nat} (h : WkE cs ds) (hs : ∀ e ∈ cs, e.length = n) : ∀ e ∈ ds, e.length = n := by
  induction h with
  | nil => intro e he; cases he
  | cons h _ ih =>
    intro e he
    rcases List.mem_cons.1 he with rfl | he
    · rw [h.length]; exact hs _ (by simp)
    · exact ih (fun e he => hs e (by simp [he])) e he
theorem WkL.cells {cs ds : List AV} (h : WkL cs ds) : ∀ {w : World} {ρ : Cx} {b o : Nat}, RepC w ρ b o cs → RepC w ρ b o ds := by
  induction h with
  | nil => exact fun h => h
  | cons h _ ih =>
    intro w ρ b o hr
    unfold RepC at hr ⊢
    obtain ⟨⟨v, h1, h2, h3⟩, h4⟩ := hr
    exact ⟨⟨v, h1, h2, h _ _ _ h3⟩, ih h4⟩
theorem WkE.rows {cs ds : List (List AV)} (h : WkE cs ds) : ∀ {w : World} {ρ : Cx} {b o : Nat}, RepE w ρ b o cs → RepE w ρ b o ds := by
  induction h with
  | nil => exact fun h => h
  | cons h _ ih =>
    intro w ρ b o hr
    unfold RepE at hr ⊢
    exact ⟨h.cells hr.1, by rw [h.length]; exact ih hr.2⟩
theorem Wk.view {t : VC} {sz : Nat} {es ds : List (List AV)} (h : t ≠ .lent) (he : WkE es ds) : Wk (.view t sz es) (.view .loose sz ds) := fun _ ρ _ hr => by
  obtain ⟨a, c, h1, h2, h3, h4, h5, h6⟩ := rep_view.1 hr
  refine rep_view.2 ⟨a, c, by rw [he.length]; exact h1, (fun e => by cases e), by rw [he.length]; exact h3, by rw [he.length]; exact h4, he.sz h5, ?_⟩
  rcases h6 with rfl | ⟨b, o, k1, k2, k3⟩
  · cases he; exact .inl rfl
  · exact .inr ⟨b, o, k1, by cases t <;> first | exact absurd rfl h | exact k2, he.rows k3⟩
def one1 (cs : List AV) : List AV := [.int .i64 3, .int .i64 0, .str ⟨#[]⟩, .view .tight 0 [], .view .tight 5 [cs]]
def list1 (k : Nd) : Nd := ⟨3, 0, ⟨#[]⟩, [], [k]⟩
theorem one1_wk {cs : List AV} {k : Nd} (h : WkL cs (nodeL k)) : WkL (one1 cs) (nodeL (list1 k)) := by
  rw [nodeL_eq]
  exact .cons (Wk.refl _) (.cons (Wk.refl _) (.cons (Wk.refl _) (.cons (Wk.nil (fun h => by cases h)) (.cons (Wk.view (by decide) (.cons h .nil)) .nil))))
theorem one1_pur {cs : List AV} (h : ∀ c ∈ cs, Pur c) : ∀ c ∈ one1 cs, Pur c := by
  intro c hc
  simp only [one1, List.mem_cons, List.not_mem_nil, or_false] at hc
  rcases hc with rfl | rfl | rfl | rfl | rfl
  · exact pur_int
  · exact pur_int
  · exact pur_str
  · exact pur_view (by decide) (fun e he => by cases he)
  · exact pur_view (by decide) (fun e he c hc => by rw [List.mem_singleton.1 he] at hc; exact h c hc)
theorem list1_sml {k : Nd} (h : Sml k) : Sml (list1 k) := .mk _ (by simp [list1]) (by simp [list1]) (fun x hx => by simp [list1] at hx; subst hx; exact h)
theorem parts_len {n : Nd} (h : partsB n = true) : n.names.length ≤ 6 ∧ n.kids.length ≤ 6 := by
  unfold partsB at h
  simp only [Bool.and_eq_true, Bool.or_eq_true, decide_eq_true_eq] at h
  obtain ⟨⟨⟨h1, h2⟩, h3⟩, h4⟩ := h
  by_cases k4 : n.kind = 4
  · rw [if_neg (by omega), if_neg (by omega), if_neg (by omega), if_neg (by omega), if_pos k4] at h4
    unfold areNamesB at h4
    simp only [Bool.and_eq_true, decide_eq_true_eq] at h4
    omega
  · have : n.names.length = 0 := by rcases h3 with h3 | h3; exact absurd h3 k4; exact h3
    refine ⟨by omega, ?_⟩
    rw [if_neg k4] at h4
    split at h4
    · simp at h4; rw [h4]; simp
    split at h4
    · simp only [Bool.and_eq_true, decide_eq_true_eq] at h4; omega
    split at h4
    · simp only [Bool.and_eq_true, decide_eq_true_eq] at h4; omega
    split at h4
    · simp only [decide_eq_true_eq] at h4; omega
    · cases h4
theorem valid_parts {n : Nd} (h : validB n = true) : partsB n = true := by
  unfold validB at h
  rw [shapeB_eq] at h
  simp only [Bool.and_eq_true] at h
  exact h.1.1.2
theorem valid_names {n : Nd} (h : validB n = true) : n.names.length ≤ 6 := (parts_len (valid_parts h)).1
theorem r1_end (m : Nd) (id : Nat) (hs : Sml m) {rows : Nat → Option Row} (hr : rows id = some (namesRow m)) {Q : Prop} : Q ∨ ∃ f id0 R, nodeN m id = f id0 ∧ rows id0 = some R ∧ Res1 id0 f ∧ (∀ e ∈ R.es, ∀ c ∈ e, Pur c) ∧ R1 Sml f R :=
  .inr ⟨nodeN m, id, namesRow m, rfl, hr, nodeN_res m id, strsE_pur _, m, hs, rfl, rfl⟩
theorem nil_wk {cs : List AV} {k : Nd} (h : WkL cs (nodeL k)) : Wk (.agg [.int .i64 3, .int .i64 0, .str ⟨#[]⟩, .view .tight 0 [], .view .tight 5 [cs]]) (nodeT .tight (list1 k)) := by
  unfold nodeT
  rw [nodeTL_eq]
  exact Wk.agg (.cons (Wk.refl _) (.cons (Wk.refl _) (.cons (Wk.refl _) (.cons (Wk.nil (fun _ => rfl)) (.cons (Wk.view (by decide) (.cons h .nil)) .nil)))))
theorem one4_wk (n : Nd) : Wk (.agg (one1 (one1 (one1 (one1 (nodeL n)))))) (nodeT .tight (list1 (list1 (list1 (list1 n))))) := nil_wk (one1_wk (one1_wk (one1_wk (WkL.refl _))))
theorem kids_wk (ks : List Nd) : Wk (.agg [.int .i64 3, .int .i64 0, .str ⟨#[]⟩, .view .tight 0 [], .view .loose 5 (ks.map nodeL)]) (nodeT .tight ⟨3, 0, ⟨#[]⟩, [], ks⟩) := by
  unfold nodeT
  rw [nodeTL_eq]
  exact Wk.agg (.cons (Wk.refl _) (.cons (Wk.refl _) (.cons (Wk.refl _) (.cons (Wk.nil (fun _ => rfl)) (.cons (Wk.refl _) .nil)))))
theorem anyNode_AC : AC Try.prog 51 [.rdr] (nC 3 + 30 + 4 * nC 2) rNodeA := by
  have hS := someNode_ACR
  generalize hA : nC 3 = A at *
  generalize hB : nC 2 = B at *
  refine AC.ofR01 (p := Sml) (ACR.weak ?_)
  refine ACR.of tab_ok mixed_ok Try.func51 (by rfl) (by kernel_rfl) ?_; rintro ⟨P, T, hT, hm, w0, S0, rd0, k0⟩ hP hTT; dsimp only at hP hTT; subst hP hTT; unfold initSt; rw [Try.ntmps51]
  (repeat (first | with_reducible refine AW.seq ?_ | ((first | refine arun_kn 4 rfl (fun C hC => ?_) | refine arunD_kn 4 rfl (fun C hC => ?_)); (repeat ((conv => whnf); simp)); refine hC _ ?_; clear hC C; simp only [List.drop, Nat.reduceAdd]) | ((first | refine arun_kn 1 rfl (fun C hC => ?_) | refine arunD_kn 1 rfl (fun C hC => ?_)); (repeat ((conv => whnf); simp)); refine hC _ ?_; clear hC C; simp only [List.drop, Nat.reduceAdd]) | (refine arun_skip ?_ ?_; (focus (simp [awant]; done))) | (refine arun_cR ((A+10+4*B)) 100 (hS) ?_; (rintro _ _ ⟨n, ⟨hn, hv⟩, rfl, rfl⟩; unfold nodeN namesRow)) | (refine arun_c (1) (pick_AC 40 (by omega) (by omega)) ?_; (rintro _ ⟨v, rfl, -⟩)) | (refine AW.regionK [] (fun K hK => ?_)) | (refine AW.regionDK [] (pcs [] []) (by kernel_rfl) (by kernel_rfl) (fun K hK => ?_)) | (refine AW.condT ?_ ?_; (focus (simp [aev]; done))) | (refine AW.condF ?_ ?_; (focus (simp [aev]; done))) | with_reducible refine AW.block ?_ | ((first | ((first | refine arun_nil ?_ | refine arunD_nil ?_); refine hK _ ?_; clear hK K) | refine AW.skip ?_ | refine AW.exit ?_ | refine AW.ret ?_); simp only [thenA_exit, inBlockA_exit, if_true, if_false, Nat.reduceEqDiff, thenA_normal, inBlockA_normal, reduceIte, thenA_ret, inBlockA_ret, endQ_ret, endR_ret, endG_ret, endQ_normal, endR_normal, endG_normal])))
  have h6 : v = 0 ∨ v = 1 ∨ v = 2 ∨ v = 3 ∨ v = 4 ∨ v = 5 ∨ ((v == 0) = false ∧ (v == 1) = false ∧ (v == 2) = false ∧ (v == 3) = false ∧ (v == 4) = false ∧ (v == 5) = false) := by
    by_cases h0 : v = 0; · simp [h0]
    by_cases h1 : v = 1; · simp [h1]
    by_cases h2 : v = 2; · simp [h2]
    by_cases h3 : v = 3; · simp [h3]
    by_cases h4 : v = 4; · simp [h4]
    by_cases h5 : v = 5; · simp [h5]
    simp [h0, h1, h2, h3, h4, h5]
  rcases h6 with rfl | rfl | rfl | rfl | rfl | rfl | ⟨e0, e1, e2, e3, e4, e5⟩
  · (repeat (first | with_reducible refine AW.seq ?_ | ((first | refine arun_kn 4 rfl (fun C hC => ?_) | refine arunD_kn 4 rfl (fun C hC => ?_)); (repeat ((conv => whnf); simp)); refine hC _ ?_; clear hC C; simp only [List.drop, Nat.reduceAdd]) | ((first | refine arun_kn 1 rfl (fun C hC => ?_) | refine arunD_kn 1 rfl (fun C hC => ?_)); (repeat ((conv => whnf); simp)); refine hC _ ?_; clear hC C; simp only [List.drop, Nat.reduceAdd]) | (refine arun_skip ?_ ?_; (focus (simp [awant]; done))) | (refine arun_cU (1) rfl (one_ACU _ _ (by rfl) (by simp) (by simp)) ?_; (rintro _ ⟨y, -, rfl⟩)) | (refine AW.regionK [] (fun K hK => ?_)) | (refine AW.regionDK [] (pcs [] []) (by kernel_rfl) (by kernel_rfl) (fun K hK => ?_)) | (refine AW.condT ?_ ?_; (focus (simp [aev]; done))) | (refine AW.condF ?_ ?_; (focus (simp [aev]; done))) | with_reducible refine AW.block ?_ | ((first | ((first | refine arun_nil ?_ | refine arunD_nil ?_); refine hK _ ?_; clear hK K) | refine AW.skip ?_ | refine AW.exit ?_ | refine AW.ret ?_); simp only [thenA_exit, inBlockA_exit, if_true, if_false, Nat.reduceEqDiff, thenA_normal, inBlockA_normal, reduceIte, thenA_ret, inBlockA_ret, endQ_ret, endR_ret, endG_ret, endQ_normal, endR_normal, endG_normal])))
    exact ⟨nodeN ⟨y, n.num, n.text, n.names, n.kids⟩ 100, by simp [nodeN, ares, aresL, upd, rowsOf_cons], r1_end ⟨y, n.num, n.text, n.names, n.kids⟩ 100 (.mk _ hn.names hn.kids (fun k hk => hn.kid hk)) (by simp [upd, namesRow])⟩
  · (repeat (first | with_reducible refine AW.seq ?_ | ((first | refine arun_kn 4 rfl (fun C hC => ?_) | refine arunD_kn 4 rfl (fun C hC => ?_)); (repeat ((conv => whnf); simp)); refine hC _ ?_; clear hC C; simp only [List.drop, Nat.reduceAdd]) | ((first | refine arun_kn 1 rfl (fun C hC => ?_) | refine arunD_kn 1 rfl (fun C hC => ?_)); (repeat ((conv => whnf); simp)); refine hC _ ?_; clear hC C; simp only [List.drop, Nat.reduceAdd]) | (refine arun_skip ?_ ?_; (focus (simp [awant]; done))) | (refine arun_cU (1) rfl (one_ACU _ _ (by rfl) (by simp) (by simp)) ?_; (rintro _ ⟨y, -, rfl⟩)) | (refine AW.regionK [] (fun K hK => ?_)) | (refine AW.regionDK [] (pcs [] []) (by kernel_rfl) (by kernel_rfl) (fun K hK => ?_)) | (refine AW.condT ?_ ?_; (focus (simp [aev]; done))) | (refine AW.condF ?_ ?_; (focus (simp [aev]; done))) | with_reducible refine AW.block ?_ | ((first | ((first | refine arun_nil ?_ | refine arunD_nil ?_); refine hK _ ?_; clear hK K) | refine AW.skip ?_ | refine AW.exit ?_ | refine AW.ret ?_); simp only [thenA_exit, inBlockA_exit, if_true, if_false, Nat.reduceEqDiff, thenA_normal, inBlockA_normal, reduceIte, thenA_ret, inBlockA_ret, endQ_ret, endR_ret, endG_ret, endQ_normal, endR_normal, endG_normal])))
    exact ⟨nodeN ⟨n.kind, y, n.text, n.names, n.kids⟩ 100, by simp [nodeN, ares, aresL, upd, rowsOf_cons], r1_end ⟨n.kind, y, n.text, n.names, n.kids⟩ 100 (.mk _ hn.names hn.kids (fun k hk => hn.kid hk)) (by simp [upd, namesRow])⟩
  · (repeat (first | with_reducible refine AW.seq ?_ | ((first | refine arun_kn 4 rfl (fun C hC => ?_) | refine arunD_kn 4 rfl (fun C hC => ?_)); (repeat ((conv => whnf); simp)); refine hC _ ?_; clear hC C; simp only [List.drop, Nat.reduceAdd]) | ((first | refine arun_kn 1 rfl (fun C hC => ?_) | refine arunD_kn 1 rfl (fun C hC => ?_)); (repeat ((conv => whnf); simp)); refine hC _ ?_; clear hC C; simp only [List.drop, Nat.reduceAdd]) | (refine arun_skip ?_ ?_; (focus (simp [awant]; done))) | (refine AW.regionK [] (fun K hK => ?_)) | (refine AW.regionDK [] (pcs [] []) (by kernel_rfl) (by kernel_rfl) (fun K hK => ?_)) | (refine AW.condT ?_ ?_; (focus (simp [aev]; done))) | (refine AW.condF ?_ ?_; (focus (simp [aev]; done))) | with_reducible refine AW.block ?_ | ((first | ((first | refine arun_nil ?_ | refine arunD_nil ?_); refine hK _ ?_; clear hK K) | refine AW.skip ?_ | refine AW.exit ?_ | refine AW.ret ?_); simp only [thenA_exit, inBlockA_exit, if_true, if_false, Nat.reduceEqDiff, thenA_normal, inBlockA_normal, reduceIte, thenA_ret, inBlockA_ret, endQ_ret, endR_ret, endG_ret, endQ_normal, endR_normal, endG_normal])))
    exact ⟨nodeN ⟨n.kind, n.num, ⟨#[97, 98, 99, 100, 101, 102, 103, 104, 105, 106, 107, 108, 109]⟩, n.names, n.kids⟩ 100, by simp [nodeN, ares, aresL, upd, rowsOf_cons], r1_end ⟨n.kind, n.num, _, n.names, n.kids⟩ 100 (.mk _ hn.names hn.kids (fun k hk => hn.kid hk)) (by simp [upd, namesRow])⟩
  · have hb1 : (n.names.length + 1) * 16 ≤ 140737488355328 := by have := hn.names; omega
    have hb2 : n.names.length + 1 ≤ 140737488355328 := by have := hn.names; omega
    (repeat (first | with_reducible refine AW.seq ?_ | ((first | refine arun_kn 4 rfl (fun C hC => ?_) | refine arunD_kn 4 rfl (fun C hC => ?_)); (repeat ((conv => whnf); simp [strsE_len, hb1, hb2])); refine hC _ ?_; clear hC C; simp only [List.drop, Nat.reduceAdd]) | ((first | refine arun_kn 1 rfl (fun C hC => ?_) | refine arunD_kn 1 rfl (fun C hC => ?_)); (repeat ((conv => whnf); simp [strsE_len, hb1, hb2])); refine hC _ ?_; clear hC C; simp only [List.drop, Nat.reduceAdd]) | (refine arun_skip ?_ ?_; (focus (simp [awant, strsE_len, hb1, hb2]; done))) | (refine AW.regionK [] (fun K hK => ?_)) | (refine AW.regionDK [] (pcs [] []) (by kernel_rfl) (by kernel_rfl) (fun K hK => ?_)) | (refine AW.condT ?_ ?_; (focus (simp [aev, strsE_len, hb1, hb2]; done))) | (refine AW.condF ?_ ?_; (focus (simp [aev, strsE_len, hb1, hb2]; done))) | with_reducible refine AW.block ?_ | ((first | ((first | refine arun_nil ?_ | refine arunD_nil ?_); refine hK _ ?_; clear hK K) | refine AW.skip ?_ | refine AW.exit ?_ | refine AW.ret ?_); simp only [thenA_exit, inBlockA_exit, if_true, if_false, Nat.reduceEqDiff, thenA_normal, inBlockA_normal, reduceIte, thenA_ret, inBlockA_ret, endQ_ret, endR_ret, endG_ret, endQ_normal, endR_normal, endG_normal])))
    have e1 : strsE n.names ++ [[.str ⟨#[]⟩]] = strsE (n.names ++ [⟨#[]⟩]) := by simp [strsE]
    exact ⟨nodeN ⟨n.kind, n.num, n.text, n.names ++ [⟨#[]⟩], n.kids⟩ 100, by simp [nodeN, ares, aresL, upd, rowsOf_cons], r1_end ⟨n.kind, n.num, n.text, n.names ++ [⟨#[]⟩], n.kids⟩ 100 (.mk _ (by have := valid_names hv; simp; omega) hn.kids (fun k hk => hn.kid hk)) (by simp [upd, namesRow, ← e1])⟩
  · refine AW.hold 100 ?_
    (repeat (first | with_reducible refine AW.seq ?_ | ((first | refine arun_kn 4 rfl (fun C hC => ?_) | refine arunD_kn 4 rfl (fun C hC => ?_)); (repeat ((conv => whnf); simp [ASt.hold, upd, AV.subL, AV.sub])); refine hC _ ?_; clear hC C; simp only [List.drop, Nat.reduceAdd]) | ((first | refine arun_kn 1 rfl (fun C hC => ?_) | refine arunD_kn 1 rfl (fun C hC => ?_)); (repeat ((conv => whnf); simp [ASt.hold, upd, AV.subL, AV.sub])); refine hC _ ?_; clear hC C; simp only [List.drop, Nat.reduceAdd]) | (refine arun_skip ?_ ?_; (focus (simp [awant, ASt.hold, upd, AV.subL, AV.sub]; done))) | (refine AW.regionK [] (fun K hK => ?_)) | (refine AW.regionDK [] (pcs [] []) (by kernel_rfl) (by kernel_rfl) (fun K hK => ?_)) | (refine AW.condT ?_ ?_; (focus (simp [aev, ASt.hold, upd, AV.subL, AV.sub]; done))) | (refine AW.condF ?_ ?_; (focus (simp [aev, ASt.hold, upd, AV.subL, AV.sub]; done))) | with_reducible refine AW.block ?_ | ((first | ((first | refine arun_nil ?_ | refine arunD_nil ?_); refine hK _ ?_; clear hK K) | refine AW.skip ?_ | refine AW.exit ?_ | refine AW.ret ?_); simp only [thenA_exit, inBlockA_exit, if_true, if_false, Nat.reduceEqDiff, thenA_normal, inBlockA_normal, reduceIte, thenA_ret, inBlockA_ret, endQ_ret, endR_ret, endG_ret, endQ_normal, endR_normal, endG_normal])))
    exact ⟨.agg (one1 (one1 (one1 (one1 (nodeL n))))), by simp [one1, nodeL_eq, ares, aresL, upd, rowsOf_cons, AV.subL, AV.sub, Row.sub], .inl ⟨pur_agg (one1_pur (one1_pur (one1_pur (one1_pur (nodeL_pur n))))), _, one4_wk n, _, list1_sml (list1_sml (list1_sml (list1_sml hn))), rfl, rfl⟩⟩
  · refine AW.hold 100 ?_
    (repeat (first | with_reducible refine AW.seq ?_ | ((first | refine arun_kn 4 rfl (fun C hC => ?_) | refine arunD_kn 4 rfl (fun C hC => ?_)); (repeat ((conv => whnf); simp [ASt.hold, upd, AV.subL, AV.sub])); refine hC _ ?_; clear hC C; simp only [List.drop, Nat.reduceAdd]) | ((first | refine arun_kn 1 rfl (fun C hC => ?_) | refine arunD_kn 1 rfl (fun C hC => ?_)); (repeat ((conv => whnf); simp [ASt.hold, upd, AV.subL, AV.sub])); refine hC _ ?_; clear hC C; simp only [List.drop, Nat.reduceAdd]) | (refine arun_skip ?_ ?_; (focus (simp [awant, ASt.hold, upd, AV.subL, AV.sub]; done))) | (refine AW.regionK [] (fun K hK => ?_)) | (refine AW.regionDK [] (pcs [] []) (by kernel_rfl) (by kernel_rfl) (fun K hK => ?_)) | (refine AW.condT ?_ ?_; (focus (simp [aev, ASt.hold, upd, AV.subL, AV.sub]; done))) | (refine AW.condF ?_ ?_; (focus (simp [aev, ASt.hold, upd, AV.subL, AV.sub]; done))) | with_reducible refine AW.block ?_ | ((first | ((first | refine arun_nil ?_ | refine arunD_nil ?_); refine hK _ ?_; clear hK K) | refine AW.skip ?_ | refine AW.exit ?_ | refine AW.ret ?_); simp only [thenA_exit, inBlockA_exit, if_true, if_false, Nat.reduceEqDiff, thenA_normal, inBlockA_normal, reduceIte, thenA_ret, inBlockA_ret, endQ_ret, endR_ret, endG_ret, endQ_normal, endR_normal, endG_normal])))
    refine AW.adopt 4 4 30 5 ⟨_, tab30, rfl⟩ rfl (by simp [upd]) ?_
    simp only [ASt.adopt, ASt.add]
    refine AW.loopS (fun (x : List Nd × Nat) => mkSt (slots 0 61 [(0, .rdr), (2, .ptr true 5 1 2 0 0), (3, .ptr true 5 1 3 0 0), (4, .own 4 x.1.length), (5, .int .i64 x.1.length)]) [(2, ⟨true, 30, 5, [[.int .i64 0, .int .i64 0, .str ⟨#[]⟩, .view .tight 0 [], .view .tight 0 []]]⟩), (3, ⟨true, 30, 5, [nodeL n]⟩), (4, ⟨false, 30, 5, x.1.map nodeL⟩)] [2, 3, 4] (rd0.map fun _ => x.2)) (fun x => 7 - x.1.length) (fun x => x.1.length ≤ 7 ∧ 10 ≤ x.1.length + x.2 ∧ ∀ k ∈ x.1, Sml k) ([], 19) ?_ ⟨by simp, by simp, fun k hk => by cases hk⟩ ?_
    · rw [nodeL_eq]
      dsimp only [List.map_nil, List.length_nil]
      have hq : A + 30 + 4 * B - (A + 10 + 4 * B) - 1 = 19 := by omega
      exact (less_of (by simp [lessL, mkSt, slots, AV.subL, AV.sub, Row.sub, hq]) (by simp [upd, mkSt, rowsOf_cons, AV.subL, AV.sub, Row.sub, hq]) (by simp [upd, mkSt, usedOf_cons, AV.subL, AV.sub, Row.sub, hq]) (by first | exact rd_less (by omega) | simp [mkSt, AV.subL, AV.sub, Row.sub, hq]) (by simp [slots, in_any, in_int, in_bool, in_str, in_ptr, in_own, in_agg, in_vnil, in_rdr, usedOf_cons, usedOf_nil, strs_in, ints_in, nodes_in, in_tup, AV.subL, AV.sub, Row.sub, hq]) (by simp only [List.forall_mem_cons, List.not_mem_nil, false_implies, implies_true, and_true, true_and, AV.subL, AV.sub, Row.sub, hq]; (repeat (first | with_reducible exact trivial | with_reducible refine And.intro ?_ ?_ | with_reducible exact in_int | with_reducible exact in_str | with_reducible exact in_bool | with_reducible exact strs_in _ | with_reducible exact nodes_in _ | with_reducible exact items_in _ | with_reducible exact in_vnil | with_reducible exact in_any | exact hin _ | with_reducible refine take_in ?_ | with_reducible exact strsE_in _ | with_reducible exact nodesE_in _ | with_reducible exact nodeL_in _ | with_reducible exact itemsE_in _ | with_reducible exact itemL_in _ | with_reducible refine app_in ?_ ?_ | with_reducible refine sing_in ?_ | (focus (simp [in_any, in_int, in_bool, in_str, in_ptr, in_own, in_agg, in_vnil, in_rdr, usedOf_cons, usedOf_nil, strs_in, ints_in, nodes_in, AV.subL, AV.sub, Row.sub, hq]; done)))); done))
    · rintro ⟨ks, b⟩ ⟨hi, hb, hs⟩
      dsimp only at hi hb hs ⊢
      rw [nodeL_eq]
      (repeat (first | with_reducible refine AW.seq ?_ | ((first | refine arun_kn 4 rfl (fun C hC => ?_) | refine arunD_kn 4 rfl (fun C hC => ?_)); (repeat ((conv => whnf); simp)); refine hC _ ?_; clear hC C; simp only [List.drop, Nat.reduceAdd]) | ((first | refine arun_kn 1 rfl (fun C hC => ?_) | refine arunD_kn 1 rfl (fun C hC => ?_)); (repeat ((conv => whnf); simp)); refine hC _ ?_; clear hC C; simp only [List.drop, Nat.reduceAdd]) | (refine arun_skip ?_ ?_; (focus (simp [awant]; done))) | (refine arun_c (1) (pick_AC 2 (by omega) (by omega)) ?_; (rintro _ ⟨v, rfl, hv⟩; obtain ⟨v0, v1⟩ := hv.1 (by omega))) | (refine AW.regionK [] (fun K hK => ?_)) | (refine AW.regionDK [] (pcs [] []) (by kernel_rfl) (by kernel_rfl) (fun K hK => ?_)) | (refine AW.condT ?_ ?_; (focus (simp [aev]; done))) | (refine AW.condF ?_ ?_; (focus (simp [aev]; done))) | with_reducible refine AW.block ?_ | ((first | ((first | refine arun_nil ?_ | refine arunD_nil ?_); refine hK _ ?_; clear hK K) | refine AW.skip ?_ | refine AW.exit ?_ | refine AW.ret ?_); simp only [thenA_exit, inBlockA_exit, if_true, if_false, Nat.reduceEqDiff, thenA_normal, inBlockA_normal, reduceIte, thenA_ret, inBlockA_ret, endQ_ret, endR_ret, endG_ret, endQ_normal, endR_normal, endG_normal])))
      have hw : IntKind.i64.wrap (6 + v) = 6 + v := i64_nat (by omega) (by omega)
      have hl : (ks.map nodeL).length = ks.length := List.length_map _
      rcases Int.lt_or_le (ks.length : Int) (6 + v) with h | h
      · have hw2 : IntKind.i64.wrap ((ks.length : Int) + 1) = (ks.length : Int) + 1 := i64_nat (by omega) (by omega)
        have hb1 : (ks.length + 1) * 80 ≤ 140737488355328 := by omega
        have hb2 : ks.length + 1 ≤ 140737488355328 := by omega
        (repeat (first | with_reducible refine AW.seq ?_ | ((first | refine arun_kn 4 rfl (fun C hC => ?_) | refine arunD_kn 4 rfl (fun C hC => ?_)); (repeat ((conv => whnf); simp [hw, h, hw2, hl, hb1, hb2])); refine hC _ ?_; clear hC C; simp only [List.drop, Nat.reduceAdd]) | ((first | refine arun_kn 1 rfl (fun C hC => ?_) | refine arunD_kn 1 rfl (fun C hC => ?_)); (repeat ((conv => whnf); simp [hw, h, hw2, hl, hb1, hb2])); refine hC _ ?_; clear hC C; simp only [List.drop, Nat.reduceAdd]) | (refine arun_skip ?_ ?_; (focus (simp [awant, hw, h, hw2, hl, hb1, hb2]; done))) | (refine arun_c0 (copyNode_AC n hn .loose) ?_; rintro _ rfl) | (refine AW.regionK [] (fun K hK => ?_)) | (refine AW.regionDK [] (pcs [] []) (by kernel_rfl) (by kernel_rfl) (fun K hK => ?_)) | (refine AW.condT ?_ ?_; (focus (simp [aev, hw, h, hw2, hl, hb1, hb2]; done))) | (refine AW.condF ?_ ?_; (focus (simp [aev, hw, h, hw2, hl, hb1, hb2]; done))) | with_reducible refine AW.block ?_ | ((first | ((first | refine arun_nil ?_ | refine arunD_nil ?_); refine hK _ ?_; clear hK K) | refine AW.skip ?_ | refine AW.exit ?_ | refine AW.ret ?_); simp only [thenA_exit, inBlockA_exit, if_true, if_false, Nat.reduceEqDiff, thenA_normal, inBlockA_normal, reduceIte, thenA_ret, inBlockA_ret, endQ_ret, endR_ret, endG_ret, endQ_normal, endR_normal, endG_normal])))
        refine ⟨(ks ++ [n], b - 1), by simp only [List.length_append, List.length_cons, List.length_nil]; omega, ⟨by simp only [List.length_append, List.length_cons, List.length_nil]; omega, by simp only [List.length_append, List.length_cons, List.length_nil]; omega, ?_⟩, ?_⟩
        · intro x hx
          rcases List.mem_append.1 hx with hx | hx
          · exact hs x hx
          · rw [List.mem_singleton.1 hx]; exact hn
        · dsimp only
          rw [List.map_append]
          exact (less_of (by simp [lessL, mkSt, slots, nodeL_eq]) (by simp [upd, mkSt, rowsOf_cons, nodeL_eq]) (by simp [upd, mkSt, usedOf_cons, nodeL_eq]) (by first | exact rd_less (by omega) | simp [mkSt, nodeL_eq]) (by simp [slots, in_any, in_int, in_bool, in_str, in_ptr, in_own, in_agg, in_vnil, in_rdr, usedOf_cons, usedOf_nil, strs_in, ints_in, nodes_in, in_tup, nodeL_eq]) (by simp only [List.forall_mem_cons, List.not_mem_nil, false_implies, implies_true, and_true, true_and, nodeL_eq]; (repeat (first | with_reducible exact trivial | with_reducible refine And.intro ?_ ?_ | with_reducible exact in_int | with_reducible exact in_str | with_reducible exact in_bool | with_reducible exact strs_in _ | with_reducible exact nodes_in _ | with_reducible exact items_in _ | with_reducible exact in_vnil | with_reducible exact in_any | exact hin _ | with_reducible refine take_in ?_ | with_reducible exact strsE_in _ | with_reducible exact nodesE_in _ | with_reducible exact nodeL_in _ | with_reducible exact itemsE_in _ | with_reducible exact itemL_in _ | with_reducible refine app_in ?_ ?_ | with_reducible refine sing_in ?_ | (focus (simp [in_any, in_int, in_bool, in_str, in_ptr, in_own, in_agg, in_vnil, in_rdr, usedOf_cons, usedOf_nil, strs_in, ints_in, nodes_in, nodeL_eq]; done)))); done))
      · refine AW.hold 4 ?_
        have h' : ¬ ((ks.length : Int) < 6 + v) := by omega
        (repeat (first | with_reducible refine AW.seq ?_ | ((first | refine arun_kn 4 rfl (fun C hC => ?_) | refine arunD_kn 4 rfl (fun C hC => ?_)); (repeat ((conv => whnf); simp [hw, h', ASt.hold, AV.subL, AV.sub, rowsOf_cons])); refine hC _ ?_; clear hC C; simp only [List.drop, Nat.reduceAdd]) | ((first | refine arun_kn 1 rfl (fun C hC => ?_) | refine arunD_kn 1 rfl (fun C hC => ?_)); (repeat ((conv => whnf); simp [hw, h', ASt.hold, AV.subL, AV.sub, rowsOf_cons])); refine hC _ ?_; clear hC C; simp only [List.drop, Nat.reduceAdd]) | (refine arun_skip ?_ ?_; (focus (simp [awant, hw, h', ASt.hold, AV.subL, AV.sub, rowsOf_cons]; done))) | (refine AW.regionK [] (fun K hK => ?_)) | (refine AW.regionDK [] (pcs [] []) (by kernel_rfl) (by kernel_rfl) (fun K hK => ?_)) | (refine AW.condT ?_ ?_; (focus (simp [aev, hw, h', ASt.hold, AV.subL, AV.sub, rowsOf_cons]; done))) | (refine AW.condF ?_ ?_; (focus (simp [aev, hw, h', ASt.hold, AV.subL, AV.sub, rowsOf_cons]; done))) | with_reducible refine AW.block ?_ | ((first | ((first | refine arun_nil ?_ | refine arunD_nil ?_); refine hK _ ?_; clear hK K) | refine AW.skip ?_ | refine AW.exit ?_ | refine AW.ret ?_); simp only [thenA_exit, inBlockA_exit, if_true, if_false, Nat.reduceEqDiff, thenA_normal, inBlockA_normal, reduceIte, thenA_ret, inBlockA_ret, endQ_ret, endR_ret, endG_ret, endQ_normal, endR_normal, endG_normal])))
        exact ⟨.agg [.int .i64 3, .int .i64 0, .str ⟨#[]⟩, .view .tight 0 [], .view .loose 5 (ks.map nodeL)], by simp [ares, aresL, upd, rowsOf_cons, AV.subL, AV.sub, Row.sub], .inl ⟨pur_agg (by
          simp only [List.forall_mem_cons, List.not_mem_nil, false_implies, implies_true, and_true]
          exact ⟨pur_int, pur_int, pur_str, pur_view (by decide) (fun e he => by cases he), nodes_pur _ (by decide)⟩), _, kids_wk ks, _, .mk ⟨3, 0, ⟨#[]⟩, [], ks⟩ (by simp) (by dsimp only; omega) hs, rfl, rfl⟩⟩
  · (repeat (first | with_reducible refine AW.seq ?_ | ((first | refine arun_kn 4 rfl (fun C hC => ?_) | refine arunD_kn 4 rfl (fun C hC => ?_)); (repeat ((conv => whnf); simp [e0, e1, e2, e3, e4, e5])); refine hC _ ?_; clear hC C; simp only [List.drop, Nat.reduceAdd]) | ((first | refine arun_kn 1 rfl (fun C hC => ?_) | refine arunD_kn 1 rfl (fun C hC => ?_)); (repeat ((conv => whnf); simp [e0, e1, e2, e3, e4, e5])); refine hC _ ?_; clear hC C; simp only [List.drop, Nat.reduceAdd]) | (refine arun_skip ?_ ?_; (focus (simp [awant, e0, e1, e2, e3, e4, e5]; done))) | (refine AW.regionK [] (fun K hK => ?_)) | (refine AW.regionDK [] (pcs [] []) (by kernel_rfl) (by kernel_rfl) (fun K hK => ?_)) | (refine AW.condT ?_ ?_; (focus (simp [aev, e0, e1, e2, e3, e4, e5]; done))) | (refine AW.condF ?_ ?_; (focus (simp [aev, e0, e1, e2, e3, e4, e5]; done))) | with_reducible refine AW.block ?_ | ((first | ((first | refine arun_nil ?_ | refine arunD_nil ?_); refine hK _ ?_; clear hK K) | refine AW.skip ?_ | refine AW.exit ?_ | refine AW.ret ?_); simp only [thenA_exit, inBlockA_exit, if_true, if_false, Nat.reduceEqDiff, thenA_normal, inBlockA_normal, reduceIte, thenA_ret, inBlockA_ret, endQ_ret, endR_ret, endG_ret, endQ_normal, endR_normal, endG_normal])))
    exact ⟨nodeN n 100, by simp [nodeN, ares, aresL, upd, rowsOf_cons], r1_end n 100 hn (by simp [upd, namesRow])⟩
theorem repL2_inv {w : World} {ρ : Cx} {a b : AV} {vs : List Value} (h : RepL w ρ [a, b] vs) : ∃ v0 v1, vs = [v0, v1] ∧ Rep w ρ a v0 ∧ Rep w ρ b v1 := by
  unfold RepL at h; obtain ⟨v0, vs, rfl, h0, h⟩ := h
  unfold RepL at h; obtain ⟨v1, vs, rfl, h1, h⟩ := h
  unfold RepL at h; subst h
  exact ⟨_, _, rfl, h0, h1⟩
theorem repL1_inv {w : World} {ρ : Cx} {a : AV} {vs : List Value} (h : RepL w ρ [a] vs) : ∃ v0, vs = [v0] ∧ Rep w ρ a v0 := by
  unfold RepL at h; obtain ⟨v0, vs, rfl, h0, h⟩ := h
  unfold RepL at h; subst h
  exact ⟨_, rfl, h0⟩
theorem repL2 {w : World} {ρ : Cx} {a b : AV} {v0 v1 : Value} (h0 : Rep w ρ a v0) (h1 : Rep w ρ b v1) : RepL w ρ [a, b] [v0, v1] := by
  unfold RepL; refine ⟨_, _, rfl, h0, ?_⟩
  unfold RepL; refine ⟨_, _, rfl, h1, ?_⟩
  unfold RepL; rfl
theorem ValidNode_AC (n : Nd) (t : VC) : AC Try.prog 17 [nodeT t n] 0 (fun r => r = .bool (validB n)) := by
  refine AC.ofGrow (enters_of Try.func17 (by kernel_rfl) (by kernel_rfl)) (fun w L S rb vs h => ?_)
  obtain ⟨v, rfl, h1⟩ := repL1_inv h
  refine (ValidNode_ok n v w (node_of_rep h1)).mono ?_
  rintro e w' ⟨rfl, hg⟩
  exact ⟨_, _, rfl, hg, rep_bool.2 rfl, rfl⟩
theorem shapeL_mem : ∀ {l : List Nd} {d : Nat}, shapeL l d = true → ∀ k ∈ l, shapeB k d = true
  | [], _, _, k, hk => by cases hk
  | x :: l, d, h, k, hk => by
    simp only [shapeL, Bool.and_eq_true] at h
    rcases List.mem_cons.1 hk with rfl | hk
    · exact h.1
    · exact shapeL_mem h.2 k hk
theorem shape_sml : ∀ n, ∀ d, shapeB n d = true → Sml n := Nd.ind' _ (fun n ih d h => by
  rw [shapeB_eq] at h
  simp only [Bool.and_eq_true] at h
  have hp := parts_len h.1.2
  exact .mk n (by omega) (by omega) (fun k hk => ih k hk (d - 1) (shapeL_mem h.2 k hk)))
theorem eqs_iff {a b : ByteArray} : eqs a b = true ↔ a = b := by
  rw [eqs_def, beq_iff_eq]
  exact ⟨toList_inj, fun h => by rw [h]⟩
theorem eqs_false {a b : ByteArray} : eqs a b = false ↔ a ≠ b := by rw [← Bool.not_eq_true, eqs_iff]
theorem tup2_pur {a b : AV} (h : Pur a) (k : Pur b) : Pur (.tup [a, b]) := pur_tup (by
  simp only [List.forall_mem_cons, List.not_mem_nil, false_implies, implies_true, and_true]
  exact ⟨h, k⟩)
def ByteL (zs : List Int) : Prop := ∀ z ∈ zs, 0 ≤ z ∧ z ≤ 255
theorem bytes_clo {t : VC} (zs : List Int) : Clo (.view t 1 (bytesE zs)) := clo_view (by
  intro e he c hc
  obtain ⟨z, _, rfl⟩ := List.mem_map.1 he
  rw [List.mem_singleton.1 hc]; exact clo_int)
theorem bytesE_len (zs : List Int) : (bytesE zs).length = zs.length := by unfold bytesE; rw [List.length_map]
def eqT : List ByteArray → List ByteArray → Bool
  | [], [] => true
  | x :: xs, y :: ys => eqs x y && eqT xs ys
  | _, _ => false
theorem eqT_len : ∀ {xs ys : List ByteArray}, eqT xs ys = true → xs.length = ys.length
  | [], [], _ => rfl
  | x :: xs, y :: ys, h => by unfold eqT at h; rw [Bool.and_eq_true] at h; simp [eqT_len h.2]
  | [], _ :: _, h => by cases h
  | _ :: _, [], h => by cases h
theorem eqT_of_ne {xs ys : List ByteArray} (h : xs.length ≠ ys.length) : eqT xs ys = false := by
  cases hb : eqT xs ys
  · rfl
  · exact absurd (eqT_len hb) h
theorem equalTexts_AC (t t' : VC) (xs ys : List ByteArray) (hb : xs.length ≤ 1000000) : AC Try.prog 34 [.view t 1 (strsE xs), .view t' 1 (strsE ys)] 0 (fun r => r = .bool (eqT xs ys)) := by
  refine AC.of tab_ok mixed_ok Try.func34 (by rfl) (by kernel_rfl) ?_; rintro ⟨P, T, hT, hm, w0, S0, rd0, k0⟩ hP hTT; dsimp only at hP hTT; subst hP hTT; unfold initSt; rw [Try.ntmps34]
  by_cases hlen : xs.length = ys.length
  · have hlen' : ((xs.length : Int) != (ys.length : Int)) = false := by rw [hlen]; simp
    (repeat (first | with_reducible refine AW.seq ?_ | ((first | refine arun_kn 4 rfl (fun C hC => ?_) | refine arunD_kn 4 rfl (fun C hC => ?_)); (repeat ((conv => whnf); simp [strsE_len, hlen'])); refine hC _ ?_; clear hC C; simp only [List.drop, Nat.reduceAdd]) | ((first | refine arun_kn 1 rfl (fun C hC => ?_) | refine arunD_kn 1 rfl (fun C hC => ?_)); (repeat ((conv => whnf); simp [strsE_len, hlen'])); refine hC _ ?_; clear hC C; simp only [List.drop, Nat.reduceAdd]) | (refine arun_skip ?_ ?_; (focus (simp [awant, strsE_len, hlen']; done))) | (refine AW.regionK [] (fun K hK => ?_)) | (refine AW.regionDK [] (pcs [] []) (by kernel_rfl) (by kernel_rfl) (fun K hK => ?_)) | (refine AW.condT ?_ ?_; (focus (simp [aev, strsE_len, hlen']; done))) | (refine AW.condF ?_ ?_; (focus (simp [aev, strsE_len, hlen']; done))) | with_reducible refine AW.block ?_ | ((first | ((first | refine arun_nil ?_ | refine arunD_nil ?_); refine hK _ ?_; clear hK K) | refine AW.skip ?_ | refine AW.exit ?_ | refine AW.ret ?_); simp only [thenA_exit, inBlockA_exit, if_true, if_false, Nat.reduceEqDiff, thenA_normal, inBlockA_normal, reduceIte, thenA_ret, inBlockA_ret, endQ_ret, endR_ret, endG_ret, endQ_normal, endR_normal, endG_normal])))
    refine AW.loopS (fun (i : Nat) => mkSt (slots 0 26 [(0, .view t 1 (strsE xs)), (1, .view t' 1 (strsE ys)), (5, .int .i64 i)]) [] [] (rd0.map fun _ => 0)) (fun i => xs.length - i) (fun i => i ≤ xs.length ∧ eqT xs ys = eqT (xs.drop i) (ys.drop i)) 0 ?_ ⟨Nat.zero_le _, rfl⟩ ?_
    · exact less_a
    · rintro i ⟨hi, hf⟩
      by_cases hlt : i < xs.length
      · have hlt2 : i < ys.length := by omega
        have hw : IntKind.i64.wrap ((i : Int) + 1) = (i : Int) + 1 := i64_nat (by omega) (by omega)
        rw [List.drop_eq_getElem_cons hlt, List.drop_eq_getElem_cons hlt2, eqT] at hf
        cases h2 : eqs xs[i] ys[i] <;> rw [h2] at hf
        · (repeat (first | with_reducible refine AW.seq ?_ | ((first | refine arun_kn 4 rfl (fun C hC => ?_) | refine arunD_kn 4 rfl (fun C hC => ?_)); (repeat ((conv => whnf); simp [hlt, hlt2, hw, h2, strsE_len])); refine hC _ ?_; clear hC C; simp only [List.drop, Nat.reduceAdd]) | ((first | refine arun_kn 1 rfl (fun C hC => ?_) | refine arunD_kn 1 rfl (fun C hC => ?_)); (repeat ((conv => whnf); simp [hlt, hlt2, hw, h2, strsE_len])); refine hC _ ?_; clear hC C; simp only [List.drop, Nat.reduceAdd]) | (refine arun_skip ?_ ?_; (focus (simp [awant, hlt, hlt2, hw, h2, strsE_len]; done))) | (refine AW.regionK [] (fun K hK => ?_)) | (refine AW.regionDK [] (pcs [] []) (by kernel_rfl) (by kernel_rfl) (fun K hK => ?_)) | (refine AW.condT ?_ ?_; (focus (simp [aev, hlt, hlt2, hw, h2, strsE_len]; done))) | (refine AW.condF ?_ ?_; (focus (simp [aev, hlt, hlt2, hw, h2, strsE_len]; done))) | with_reducible refine AW.block ?_ | ((first | ((first | refine arun_nil ?_ | refine arunD_nil ?_); refine hK _ ?_; clear hK K) | refine AW.skip ?_ | refine AW.exit ?_ | refine AW.ret ?_); simp only [thenA_exit, inBlockA_exit, if_true, if_false, Nat.reduceEqDiff, thenA_normal, inBlockA_normal, reduceIte, thenA_ret, inBlockA_ret, endQ_ret, endR_ret, endG_ret, endQ_normal, endR_normal, endG_normal])))
          exact ⟨.bool false, by simp [ares, aresL], pur_bool, by rw [hf]; rfl⟩
        · (repeat (first | with_reducible refine AW.seq ?_ | ((first | refine arun_kn 4 rfl (fun C hC => ?_) | refine arunD_kn 4 rfl (fun C hC => ?_)); (repeat ((conv => whnf); simp [hlt, hlt2, hw, h2, strsE_len])); refine hC _ ?_; clear hC C; simp only [List.drop, Nat.reduceAdd]) | ((first | refine arun_kn 1 rfl (fun C hC => ?_) | refine arunD_kn 1 rfl (fun C hC => ?_)); (repeat ((conv => whnf); simp [hlt, hlt2, hw, h2, strsE_len])); refine hC _ ?_; clear hC C; simp only [List.drop, Nat.reduceAdd]) | (refine arun_skip ?_ ?_; (focus (simp [awant, hlt, hlt2, hw, h2, strsE_len]; done))) | (refine AW.regionK [] (fun K hK => ?_)) | (refine AW.regionDK [] (pcs [] []) (by kernel_rfl) (by kernel_rfl) (fun K hK => ?_)) | (refine AW.condT ?_ ?_; (focus (simp [aev, hlt, hlt2, hw, h2, strsE_len]; done))) | (refine AW.condF ?_ ?_; (focus (simp [aev, hlt, hlt2, hw, h2, strsE_len]; done))) | with_reducible refine AW.block ?_ | ((first | ((first | refine arun_nil ?_ | refine arunD_nil ?_); refine hK _ ?_; clear hK K) | refine AW.skip ?_ | refine AW.exit ?_ | refine AW.ret ?_); simp only [thenA_exit, inBlockA_exit, if_true, if_false, Nat.reduceEqDiff, thenA_normal, inBlockA_normal, reduceIte, thenA_ret, inBlockA_ret, endQ_ret, endR_ret, endG_ret, endQ_normal, endR_normal, endG_normal])))
          exact ⟨i + 1, by omega, ⟨by omega, by rw [hf]; rfl⟩, less_a⟩
      · rw [List.drop_eq_nil_of_le (by omega), List.drop_eq_nil_of_le (by omega)] at hf
        (repeat (first | with_reducible refine AW.seq ?_ | ((first | refine arun_kn 4 rfl (fun C hC => ?_) | refine arunD_kn 4 rfl (fun C hC => ?_)); (repeat ((conv => whnf); simp [hlt, strsE_len])); refine hC _ ?_; clear hC C; simp only [List.drop, Nat.reduceAdd]) | ((first | refine arun_kn 1 rfl (fun C hC => ?_) | refine arunD_kn 1 rfl (fun C hC => ?_)); (repeat ((conv => whnf); simp [hlt, strsE_len])); refine hC _ ?_; clear hC C; simp only [List.drop, Nat.reduceAdd]) | (refine arun_skip ?_ ?_; (focus (simp [awant, hlt, strsE_len]; done))) | (refine AW.regionK [] (fun K hK => ?_)) | (refine AW.regionDK [] (pcs [] []) (by kernel_rfl) (by kernel_rfl) (fun K hK => ?_)) | (refine AW.condT ?_ ?_; (focus (simp [aev, hlt, strsE_len]; done))) | (refine AW.condF ?_ ?_; (focus (simp [aev, hlt, strsE_len]; done))) | with_reducible refine AW.block ?_ | ((first | ((first | refine arun_nil ?_ | refine arunD_nil ?_); refine hK _ ?_; clear hK K) | refine AW.skip ?_ | refine AW.exit ?_ | refine AW.ret ?_); simp only [thenA_exit, inBlockA_exit, if_true, if_false, Nat.reduceEqDiff, thenA_normal, inBlockA_normal, reduceIte, thenA_ret, inBlockA_ret, endQ_ret, endR_ret, endG_ret, endQ_normal, endR_normal, endG_normal])))
        exact ⟨.bool true, by simp [ares, aresL], pur_bool, by rw [hf]; rfl⟩
  · have hlen' : ((xs.length : Int) != (ys.length : Int)) = true := by rw [bne_iff_ne]; omega
    (repeat (first | with_reducible refine AW.seq ?_ | ((first | refine arun_kn 4 rfl (fun C hC => ?_) | refine arunD_kn 4 rfl (fun C hC => ?_)); (repeat ((conv => whnf); simp [strsE_len, hlen'])); refine hC _ ?_; clear hC C; simp only [List.drop, Nat.reduceAdd]) | ((first | refine arun_kn 1 rfl (fun C hC => ?_) | refine arunD_kn 1 rfl (fun C hC => ?_)); (repeat ((conv => whnf); simp [strsE_len, hlen'])); refine hC _ ?_; clear hC C; simp only [List.drop, Nat.reduceAdd]) | (refine arun_skip ?_ ?_; (focus (simp [awant, strsE_len, hlen']; done))) | (refine AW.regionK [] (fun K hK => ?_)) | (refine AW.regionDK [] (pcs [] []) (by kernel_rfl) (by kernel_rfl) (fun K hK => ?_)) | (refine AW.condT ?_ ?_; (focus (simp [aev, strsE_len, hlen']; done))) | (refine AW.condF ?_ ?_; (focus (simp [aev, strsE_len, hlen']; done))) | with_reducible refine AW.block ?_ | ((first | ((first | refine arun_nil ?_ | refine arunD_nil ?_); refine hK _ ?_; clear hK K) | refine AW.skip ?_ | refine AW.exit ?_ | refine AW.ret ?_); simp only [thenA_exit, inBlockA_exit, if_true, if_false, Nat.reduceEqDiff, thenA_normal, inBlockA_normal, reduceIte, thenA_ret, inBlockA_ret, endQ_ret, endR_ret, endG_ret, endQ_normal, endR_normal, endG_normal])))
    exact ⟨.bool false, by simp [ares, aresL], pur_bool, by rw [eqT_of_ne hlen]⟩
def cN : Nat := nC 3 + 30 + 4 * nC 2
end Go.Proofs.Ytiobnaielfeeaaa.Eng
namespace Go.Proofs.Ytiobnaielfeeaaa
open Go.RowKit Go.ChangeShapes Go.WideShapes Go.Deep
section
variable {H : Type} {enc : TypeId × Value → H} {W : World} {base : Nat} {sp : Nat → Bool} {held : Bool}
theorem addr_spot {w : World} {a : Addr} {v : Value} (h : w.cell? a = some v) : ∃ b o, a = ⟨b, o, none⟩ := by
  have := World.cell?_spot h
  exact ⟨a.block, a.off, by cases a; simp_all⟩
theorem add_mk (b o i : Nat) : (⟨b, o, none⟩ : Addr).add i = ⟨b, o + i, none⟩ := by
  unfold Addr.add; split
  · rename_i h; subst h; rfl
  · rfl
end
end Go.Proofs.Ytiobnaielfeeaaa
namespace Go.Proofs.Ytiobnaielfeeaaa
open Go.RowKit Go.ChangeShapes Go.WideShapes Go.Deep
def BytesR (W : World) (zs : List Int) (v : Value) : Prop := ∃ a c, v = .slice a zs.length c ∧ zs.length ≤ c ∧ zs.length ≤ big ∧ (zs = [] ∨ ∃ b o, a = some ⟨b, o, none⟩ ∧ ∀ i (h : i < zs.length), W.cell? ⟨b, o + i, none⟩ = some (.int .u8 zs[i])) ∧ Eng.ByteL zs
section
variable {H : Type} {enc : TypeId × Value → H} {W : World} {base : Nat} {sp : Nat → Bool} {held : Bool}
theorem rv_bytes {fuel : Nat} {v : Value} {x : DataW H × List MemPlace} (h : DataW.trod enc Try.prog W base sp held fuel 22 [v] = some x) : ∃ zs, BytesR W zs v := by
  rcases open_slice Try.underlying22 h with ⟨e, _⟩ | ⟨a, len, cap, m, n, D, Pl, e, _, hl, hm, hmm, _, hi⟩
  · cases e
    exact ⟨[], none, 0, rfl, by simp, by simp, .inl rfl, fun z hz => by cases hz⟩
  · cases e
    have hlm : len ≤ m := by rw [hmm]; split <;> omega
    have hel : ∀ i, i < len → ∃ z : Int, W.cell? (a.add i) = some (.int .u8 z) ∧ (0 ≤ z ∧ z ≤ 255) := fun i hi' => by
      obtain ⟨cs', h1, h2⟩ := hi i (by omega)
      have hc : Try.prog.cellsOf 5 = 1 := by kernel_rfl
      rw [hc] at h1
      obtain ⟨_, hlen, hat⟩ := World.cells?_some h1
      obtain ⟨z, rfl, _, hz⟩ := DataW.trod_int Try.underlying5 h2
      have := hat 0 (by omega)
      refine ⟨z, by simpa [Go.Deep.add_add] using this, ?_⟩
      simp only [Lit.wf, Bool.and_eq_true, decide_eq_true_eq] at hz
      simpa [IntKind.min, IntKind.max, IntKind.signed, IntKind.bits] using hz
    have : Inhabited Int := ⟨0⟩
    obtain ⟨f, hf⟩ := choose_lt hel
    have hkl : ((List.range len).map f).length = len := by simp
    refine ⟨(List.range len).map f, some a, cap, by rw [hkl], by rw [hkl]; exact hl, by rw [hkl]; unfold maxLen at hm; unfold big; omega, ?_, ?_⟩
    · by_cases h0 : len = 0
      · subst h0; exact .inl rfl
      · obtain ⟨b, o, ha⟩ := addr_spot (hf 0 (by omega)).1
        have ha' : a = ⟨b, o, none⟩ := by simpa [Addr.add] using ha
        subst ha'
        refine .inr ⟨b, o, rfl, fun i hi' => ?_⟩
        simp at hi'
        have := (hf i hi').1
        rw [add_mk] at this
        simpa using this
    · intro z hz
      obtain ⟨i, hi', rfl⟩ := List.mem_map.1 hz
      exact (hf i (List.mem_range.1 hi')).2
end
theorem law_bytes {f : FuncId} {zs : List Int} {v : Value} (h : Eng.ByteL zs → Eng.AC0 Try.prog f [.view .loose 1 (Eng.bytesE zs)] (fun r => r = .bool true)) (W : World) (hv : BytesR W zs v) :
    Calls Try.prog f #[v] W fun e W' => e = .returned (.bool true) ∧ Grow W W' := by
  obtain ⟨a, c, rfl, h1, h2, h3, h4⟩ := hv
  refine ((h h4).2 W nil (fun b => b < W.heap.size) [.slice a zs.length c] (fun b hb => hb.elim) (fun b hb => hb) ?_).mono ?_
  · unfold Eng.RepL
    refine ⟨_, _, rfl, ?_, by unfold Eng.RepL; rfl⟩
    refine Eng.rep_view.2 ⟨a, c, by rw [Eng.bytesE_len], fun h => (by cases h), by rw [Eng.bytesE_len]; exact h1, by rw [Eng.bytesE_len]; exact h2, fun e he => ?_, ?_⟩
    · obtain ⟨k, _, rfl⟩ := List.mem_map.1 he; rfl
    · rcases h3 with rfl | ⟨b, o, ha, hc⟩
      · exact .inl rfl
      · by_cases hz : zs = []
        · subst hz; exact .inl rfl
        · have hb : b < W.heap.size := lt_of_cell (hc 0 (List.length_pos_iff.2 hz))
          refine .inr ⟨b, o, ha, hb, Eng.RepE.of_get (sz := 1) (fun e he => ?_) (fun i e he => ?_)⟩
          · obtain ⟨k, _, rfl⟩ := List.mem_map.1 he; rfl
          · unfold Eng.bytesE at he
            rw [List.getElem?_map, Option.map_eq_some_iff] at he
            obtain ⟨x, hx, rfl⟩ := he
            obtain ⟨hi, rfl⟩ := List.getElem?_eq_some_iff.1 hx
            refine Eng.RepC.of_get (fun j d hd => ?_)
            have hj := (List.getElem?_eq_some_iff.1 hd).1
            simp only [List.length_cons, List.length_nil] at hj
            obtain rfl : j = 0 := by omega
            simp only [List.getElem?_cons_zero, Option.some.injEq] at hd
            subst hd
            exact ⟨_, by simpa using hc i hi, rfl, Eng.rep_int.2 rfl⟩
  · rintro e w' ⟨u, r, S', rfl, hg, _, _, hr, rfl⟩
    rw [Eng.rep_bool.1 hr]
    exact ⟨rfl, hg⟩
end Go.Proofs.Ytiobnaielfeeaaa
namespace Go.Proofs.Ytiobnaielfeeaaa.Eng
open Go Go.RowKit
attribute [local simp] big size_mk ASt.pay Option.map_map Function.comp_def awant aop acall ado aev ofVal ofVal0 ASt.put ASt.add ASt.turn ASt.kill abox aalloc astore aload ASt.at cellsTo afieldAddr afield aindexAddr aindex alen abin aint acmp astr aun apick aextract anil aslice abound abuild afill abuildSlice asCells aps avCells over upd aappend asrc amax amin aconv mkSt slots rowsOf_cons rowsOf_nil usedOf_cons usedOf_nil ZK.av List.replicate ASt.back ASt.addL ASt.killL nodeA nodeT nodeTL_eq nodeL_eq strsE_get strsE_len intsE_get intsE_len strsE_at intsE_at tab2 tab3 tab4 tab5 tab6 tab7 tab8 tab9 tab10 tab11 tab12 tab13 tab14 tab15 tab16 tab17 tab18 tab19 tab21 tab22 tab23 tab24 tab25 tab26 tab27 tab28 tab29 tab30 tab48 tab51 tab52 tab59 tab77 tab78 tab79 tab91 tab95 tab96 tab97 tab109 tab116 tab132 tab133 tab138 tab139 tab144 tab145 tab146 tab148 tab149 tab150
def nodeRR (n : Nd) (a b : Nat) : AV := .agg [.int .i64 n.kind, .int .i64 n.num, .str n.text, .own a n.names.length, .own b n.kids.length]
def namesR (xs : List ByteArray) : Row := ⟨false, 9, 1, strsE xs⟩
def nodesR (ks : List Nd) : Row := ⟨false, 30, 5, ks.map nodeL⟩
def zeroN : List AV := [.int .i64 0, .int .i64 0, .str ⟨#[]⟩, .view .tight 0 [], .view .tight 0 []]
def part (ks : List Nd) (i : Nat) : List (List AV) := (ks.take i).map nodeL ++ List.replicate (ks.length - i) zeroN
theorem part_len (ks : List Nd) (i : Nat) (h : i ≤ ks.length) : (part ks i).length = ks.length := by unfold part; simp; omega
theorem part_zero (ks : List Nd) : part ks 0 = List.replicate ks.length zeroN := by unfold part; simp
theorem part_all (ks : List Nd) : part ks ks.length = ks.map nodeL := by unfold part; simp
theorem part_get (ks : List Nd) (i : Nat) (h : i < ks.length) : (part ks i)[i]? = some [.int .i64 0, .int .i64 0, .str ⟨#[]⟩, .view .tight 0 [], .view .tight 0 []] := by
  unfold part
  have : ((ks.take i).map nodeL).length = i := by simp; omega
  rw [List.getElem?_append_right (by omega), this, Nat.sub_self, List.getElem?_replicate, if_pos (by omega)]
  rfl
theorem part_set (ks : List Nd) (i : Nat) (h : i < ks.length) : (part ks i).set i (nodeL ks[i]) = part ks (i + 1) := by
  unfold part
  have hl : ((ks.take i).map nodeL).length = i := by simp; omega
  rw [List.set_append_right _ _ (by omega), hl, Nat.sub_self, List.take_add_one, List.getElem?_eq_getElem h]
  have : ks.length - i = (ks.length - (i + 1)) + 1 := by omega
  rw [this, List.replicate_succ, List.set_cons_zero, List.map_append, List.append_assoc]
  rfl
theorem part_in {U : Nat → Bool} (ks : List Nd) (i : Nat) : ∀ e ∈ part ks i, ∀ c ∈ e, AV.In U c := by
  intro e he c hc
  unfold part at he
  rcases List.mem_append.1 he with he | he
  · exact nodesE_in (ks.take i) e he c hc
  · rw [List.eq_of_mem_replicate he] at hc
    simp only [zeroN, List.mem_cons, List.not_mem_nil, or_false] at hc
    rcases hc with rfl | rfl | rfl | rfl | rfl
    · exact in_int
    · exact in_int
    · exact in_str
    · exact in_vnil
    · exact in_vnil
theorem implCopy_step (n : Nd) (hs : Sml n) (ih : ∀ k ∈ n.kids, AC Try.prog 84 [nodeA k] 0 (fun r => r = nodeA k)) : ACG Try.prog 84 [nodeA n] [] 0 (fun r l => r = nodeRR n 20 34 ∧ l = [(20, namesR n.names), (34, nodesR n.kids)]) := by
  have hs1 := hs.names
  have hs2 := hs.kids
  unfold nodeA
  rw [nodeL_eq]
  refine ACG.of tab_ok mixed_ok Try.func84 (by rfl) (by kernel_rfl) (by simp) ?_; rintro ⟨P, T, hT, hm, w0, S0, rd0, k0⟩ hP hTT; dsimp only at hP hTT; subst hP hTT; unfold initStG; rw [Try.ntmps84]
  refine AW.seq ?_
  (refine AW.regionK [] (fun K hK => ?_); (repeat (refine arun_ks 4 rfl (fun C hC => ?_); (repeat ((conv => whnf); simp)); refine hC _ ?_; clear hC C; simp only [List.drop_succ_cons, List.drop_zero, List.drop_nil])); refine arun_nil ?_; refine hK _ ?_; clear hK K; simp only [thenA_normal, inBlockA_normal, endQ_normal, endR_normal])
  refine AW.seq ?_
  (refine AW.regionK [] (fun K hK => ?_); (repeat (refine arun_ks 4 rfl (fun C hC => ?_); (repeat ((conv => whnf); simp)); refine hC _ ?_; clear hC C; simp only [List.drop_succ_cons, List.drop_zero, List.drop_nil])); refine arun_nil ?_; refine hK _ ?_; clear hK K; simp only [thenA_normal, inBlockA_normal, endQ_normal, endR_normal])
  refine AW.seq ?_
  refine AW.cutN (fun (_ : Unit) => mkSt (slots 0 52 [(1, .ptr true 5 1 1 0 0), (2, .ptr true 5 1 2 0 0), (3, .ptr true 5 1 3 0 0)]) [(1, ⟨true, 30, 5, [[.int .i64 n.kind, .int .i64 n.num, .str n.text, .view .loose 1 (strsE n.names), .view .loose 5 (n.kids.map nodeL)]]⟩), (2, ⟨true, 30, 5, [zeroN]⟩), (3, ⟨true, 30, 5, [[.int .i64 n.kind, .int .i64 n.num, .str n.text, .own 20 n.names.length, .view .tight 0 []]]⟩), (20, namesR n.names)] [1, 2, 3, 20] (rd0.map fun _ => 0)) (fun _ => True) ?_ ?_
  · by_cases hn0 : 0 < n.names.length
    · (repeat (first | with_reducible refine AW.seq ?_ | ((first | refine arun_kn 4 rfl (fun C hC => ?_) | refine arunD_kn 4 rfl (fun C hC => ?_)); (repeat ((conv => whnf); simp [hn0])); refine hC _ ?_; clear hC C; simp only [List.drop, Nat.reduceAdd]) | ((first | refine arun_kn 1 rfl (fun C hC => ?_) | refine arunD_kn 1 rfl (fun C hC => ?_)); (repeat ((conv => whnf); simp [hn0])); refine hC _ ?_; clear hC C; simp only [List.drop, Nat.reduceAdd]) | (refine arun_skip ?_ ?_; (focus (simp [awant, hn0]; done))) | (refine AW.regionK [] (fun K hK => ?_)) | (refine AW.regionDK [] (pcs [] []) (by kernel_rfl) (by kernel_rfl) (fun K hK => ?_)) | (refine AW.condT ?_ ?_; (focus (simp [aev, hn0]; done))) | (refine AW.condF ?_ ?_; (focus (simp [aev, hn0]; done))) | with_reducible refine AW.block ?_ | ((first | ((first | refine arun_nil ?_ | refine arunD_nil ?_); refine hK _ ?_; clear hK K) | refine AW.skip ?_ | refine AW.exit ?_ | refine AW.ret ?_); simp only [thenA_exit, inBlockA_exit, if_true, if_false, Nat.reduceEqDiff, thenA_normal, inBlockA_normal, reduceIte, thenA_ret, inBlockA_ret, endQ_ret, endR_ret, endG_ret, endQ_normal, endR_normal, endG_normal])))
      refine arun_make 20 rfl (by simp [awant]) rfl tab23 tab9 (by decide) rfl (by dsimp only; omega) (by unfold maxLen; omega) (by simp [upd]) ?_
      (repeat (first | with_reducible refine AW.seq ?_ | ((first | refine arun_kn 4 rfl (fun C hC => ?_) | refine arunD_kn 4 rfl (fun C hC => ?_)); (repeat ((conv => whnf); simp [hn0])); refine hC _ ?_; clear hC C; simp only [List.drop, Nat.reduceAdd]) | ((first | refine arun_kn 1 rfl (fun C hC => ?_) | refine arunD_kn 1 rfl (fun C hC => ?_)); (repeat ((conv => whnf); simp [hn0])); refine hC _ ?_; clear hC C; simp only [List.drop, Nat.reduceAdd]) | (refine arun_skip ?_ ?_; (focus (simp [awant, hn0]; done))) | (refine AW.regionK [] (fun K hK => ?_)) | (refine AW.regionDK [] (pcs [] []) (by kernel_rfl) (by kernel_rfl) (fun K hK => ?_)) | (refine AW.condT ?_ ?_; (focus (simp [aev, hn0]; done))) | (refine AW.condF ?_ ?_; (focus (simp [aev, hn0]; done))) | with_reducible refine AW.block ?_ | ((first | ((first | refine arun_nil ?_ | refine arunD_nil ?_); refine hK _ ?_; clear hK K) | refine AW.skip ?_ | refine AW.exit ?_ | refine AW.ret ?_); simp only [thenA_exit, inBlockA_exit, if_true, if_false, Nat.reduceEqDiff, thenA_normal, inBlockA_normal, reduceIte, thenA_ret, inBlockA_ret, endQ_ret, endR_ret, endG_ret, endQ_normal, endR_normal, endG_normal])))
      refine arun_copyAll (r := ⟨false, 9, 1, List.replicate n.names.length [AV.str ⟨#[]⟩]⟩) rfl (by simp [awant]) rfl (by simp [upd]) rfl rfl List.length_replicate rfl (strsE_len _) tab23 tab9 rfl ?_
      (repeat (first | with_reducible refine AW.seq ?_ | ((first | refine arun_kn 4 rfl (fun C hC => ?_) | refine arunD_kn 4 rfl (fun C hC => ?_)); (repeat ((conv => whnf); simp [hn0])); refine hC _ ?_; clear hC C; simp only [List.drop, Nat.reduceAdd]) | ((first | refine arun_kn 1 rfl (fun C hC => ?_) | refine arunD_kn 1 rfl (fun C hC => ?_)); (repeat ((conv => whnf); simp [hn0])); refine hC _ ?_; clear hC C; simp only [List.drop, Nat.reduceAdd]) | (refine arun_skip ?_ ?_; (focus (simp [awant, hn0]; done))) | (refine AW.regionK [] (fun K hK => ?_)) | (refine AW.regionDK [] (pcs [] []) (by kernel_rfl) (by kernel_rfl) (fun K hK => ?_)) | (refine AW.condT ?_ ?_; (focus (simp [aev, hn0]; done))) | (refine AW.condF ?_ ?_; (focus (simp [aev, hn0]; done))) | with_reducible refine AW.block ?_ | ((first | ((first | refine arun_nil ?_ | refine arunD_nil ?_); refine hK _ ?_; clear hK K) | refine AW.skip ?_ | refine AW.exit ?_ | refine AW.ret ?_); simp only [thenA_exit, inBlockA_exit, if_true, if_false, Nat.reduceEqDiff, thenA_normal, inBlockA_normal, reduceIte, thenA_ret, inBlockA_ret, endQ_ret, endR_ret, endG_ret, endQ_normal, endR_normal, endG_normal])))
      exact ⟨(), trivial, (less_of (by simp [lessL, mkSt, slots, namesR, zeroN]) (by simp [upd, mkSt, rowsOf_cons, namesR, zeroN]) (by simp [upd, mkSt, usedOf_cons, namesR, zeroN]) (by first | exact rd_less (by omega) | simp [mkSt, namesR, zeroN]) (by simp [slots, in_any, in_int, in_bool, in_str, in_ptr, in_own, in_agg, in_vnil, in_rdr, usedOf_cons, usedOf_nil, strs_in, ints_in, nodes_in, in_tup, namesR, zeroN]) (by simp only [List.forall_mem_cons, List.not_mem_nil, false_implies, implies_true, and_true, true_and, namesR, zeroN]; (repeat (first | with_reducible exact trivial | with_reducible refine And.intro ?_ ?_ | with_reducible exact in_int | with_reducible exact in_str | with_reducible exact in_bool | with_reducible exact strs_in _ | with_reducible exact nodes_in _ | with_reducible exact items_in _ | with_reducible exact in_vnil | with_reducible exact in_any | exact hin _ | with_reducible refine take_in ?_ | with_reducible exact strsE_in _ | with_reducible exact nodesE_in _ | with_reducible exact nodeL_in _ | with_reducible exact itemsE_in _ | with_reducible exact itemL_in _ | with_reducible refine app_in ?_ ?_ | with_reducible refine sing_in ?_ | (focus (simp [in_any, in_int, in_bool, in_str, in_ptr, in_own, in_agg, in_vnil, in_rdr, usedOf_cons, usedOf_nil, strs_in, ints_in, nodes_in, namesR, zeroN]; done)))); done))⟩
    · have hl0 : n.names.length = 0 := by omega
      have he0 : n.names = [] := List.length_eq_zero_iff.1 hl0
      refine AW.adoptB 3 3 20 9 1 ⟨_, tab9, rfl⟩ (by simp [upd]; rfl) rfl rfl (by simp [upd]) ?_
      simp only [ASt.adoptB]
      (repeat (first | with_reducible refine AW.seq ?_ | ((first | refine arun_kn 4 rfl (fun C hC => ?_) | refine arunD_kn 4 rfl (fun C hC => ?_)); (repeat ((conv => whnf); simp [hl0])); refine hC _ ?_; clear hC C; simp only [List.drop, Nat.reduceAdd]) | ((first | refine arun_kn 1 rfl (fun C hC => ?_) | refine arunD_kn 1 rfl (fun C hC => ?_)); (repeat ((conv => whnf); simp [hl0])); refine hC _ ?_; clear hC C; simp only [List.drop, Nat.reduceAdd]) | (refine arun_skip ?_ ?_; (focus (simp [awant, hl0]; done))) | (refine AW.regionK [] (fun K hK => ?_)) | (refine AW.regionDK [] (pcs [] []) (by kernel_rfl) (by kernel_rfl) (fun K hK => ?_)) | (refine AW.condT ?_ ?_; (focus (simp [aev, hl0]; done))) | (refine AW.condF ?_ ?_; (focus (simp [aev, hl0]; done))) | with_reducible refine AW.block ?_ | ((first | ((first | refine arun_nil ?_ | refine arunD_nil ?_); refine hK _ ?_; clear hK K) | refine AW.skip ?_ | refine AW.exit ?_ | refine AW.ret ?_); simp only [thenA_exit, inBlockA_exit, if_true, if_false, Nat.reduceEqDiff, thenA_normal, inBlockA_normal, reduceIte, thenA_ret, inBlockA_ret, endQ_ret, endR_ret, endG_ret, endQ_normal, endR_normal, endG_normal])))
      exact ⟨(), trivial, (less_of (by simp [lessL, mkSt, slots, namesR, zeroN, he0, strsE]) (by simp [upd, mkSt, rowsOf_cons, namesR, zeroN, he0, strsE]) (by simp [upd, mkSt, usedOf_cons, namesR, zeroN, he0, strsE]) (by first | exact rd_less (by omega) | simp [mkSt, namesR, zeroN, he0, strsE]) (by simp [slots, in_any, in_int, in_bool, in_str, in_ptr, in_own, in_agg, in_vnil, in_rdr, usedOf_cons, usedOf_nil, strs_in, ints_in, nodes_in, in_tup, namesR, zeroN, he0, strsE]) (by simp only [List.forall_mem_cons, List.not_mem_nil, false_implies, implies_true, and_true, true_and, namesR, zeroN, he0, strsE]; (repeat (first | with_reducible exact trivial | with_reducible refine And.intro ?_ ?_ | with_reducible exact in_int | with_reducible exact in_str | with_reducible exact in_bool | with_reducible exact strs_in _ | with_reducible exact nodes_in _ | with_reducible exact items_in _ | with_reducible exact in_vnil | with_reducible exact in_any | exact hin _ | with_reducible refine take_in ?_ | with_reducible exact strsE_in _ | with_reducible exact nodesE_in _ | with_reducible exact nodeL_in _ | with_reducible exact itemsE_in _ | with_reducible exact itemL_in _ | with_reducible refine app_in ?_ ?_ | with_reducible refine sing_in ?_ | (focus (simp [in_any, in_int, in_bool, in_str, in_ptr, in_own, in_agg, in_vnil, in_rdr, usedOf_cons, usedOf_nil, strs_in, ints_in, nodes_in, namesR, zeroN, he0, strsE]; done)))); done))⟩
  rintro ⟨⟩ s' - hls
  refine AW.less _ hls ?_
  clear hls s'
  refine AW.seq ?_
  refine AW.cutN (fun (_ : Unit) => mkSt (slots 0 52 [(2, .ptr true 5 1 2 0 0), (3, .ptr true 5 1 3 0 0)]) [(2, ⟨true, 30, 5, [zeroN]⟩), (3, ⟨true, 30, 5, [[.int .i64 n.kind, .int .i64 n.num, .str n.text, .own 20 n.names.length, .own 34 n.kids.length]]⟩), (20, namesR n.names), (34, nodesR n.kids)] [2, 3, 20, 34] (rd0.map fun _ => 0)) (fun _ => True) ?_ ?_
  · by_cases hn0 : 0 < n.kids.length
    · (repeat (first | with_reducible refine AW.seq ?_ | ((first | refine arun_kn 4 rfl (fun C hC => ?_) | refine arunD_kn 4 rfl (fun C hC => ?_)); (repeat ((conv => whnf); simp [hn0])); refine hC _ ?_; clear hC C; simp only [List.drop, Nat.reduceAdd]) | ((first | refine arun_kn 1 rfl (fun C hC => ?_) | refine arunD_kn 1 rfl (fun C hC => ?_)); (repeat ((conv => whnf); simp [hn0])); refine hC _ ?_; clear hC C; simp only [List.drop, Nat.reduceAdd]) | (refine arun_skip ?_ ?_; (focus (simp [awant, hn0]; done))) | (refine AW.regionK [] (fun K hK => ?_)) | (refine AW.regionDK [] (pcs [] []) (by kernel_rfl) (by kernel_rfl) (fun K hK => ?_)) | (refine AW.condT ?_ ?_; (focus (simp [aev, hn0]; done))) | (refine AW.condF ?_ ?_; (focus (simp [aev, hn0]; done))) | with_reducible refine AW.block ?_ | ((first | ((first | refine arun_nil ?_ | refine arunD_nil ?_); refine hK _ ?_; clear hK K) | refine AW.skip ?_ | refine AW.exit ?_ | refine AW.ret ?_); simp only [thenA_exit, inBlockA_exit, if_true, if_false, Nat.reduceEqDiff, thenA_normal, inBlockA_normal, reduceIte, thenA_ret, inBlockA_ret, endQ_ret, endR_ret, endG_ret, endQ_normal, endR_normal, endG_normal])))
      refine arun_make 34 rfl (by simp [awant]) rfl tab28 tab30 (by decide) rfl (by dsimp only; omega) (by unfold maxLen; omega) (by simp [upd]) ?_
      (repeat (first | with_reducible refine AW.seq ?_ | ((first | refine arun_kn 4 rfl (fun C hC => ?_) | refine arunD_kn 4 rfl (fun C hC => ?_)); (repeat ((conv => whnf); simp [hn0])); refine hC _ ?_; clear hC C; simp only [List.drop, Nat.reduceAdd]) | ((first | refine arun_kn 1 rfl (fun C hC => ?_) | refine arunD_kn 1 rfl (fun C hC => ?_)); (repeat ((conv => whnf); simp [hn0])); refine hC _ ?_; clear hC C; simp only [List.drop, Nat.reduceAdd]) | (refine arun_skip ?_ ?_; (focus (simp [awant, hn0]; done))) | (refine AW.regionK [] (fun K hK => ?_)) | (refine AW.regionDK [] (pcs [] []) (by kernel_rfl) (by kernel_rfl) (fun K hK => ?_)) | (refine AW.condT ?_ ?_; (focus (simp [aev, hn0]; done))) | (refine AW.condF ?_ ?_; (focus (simp [aev, hn0]; done))) | with_reducible refine AW.block ?_ | ((first | ((first | refine arun_nil ?_ | refine arunD_nil ?_); refine hK _ ?_; clear hK K) | refine AW.skip ?_ | refine AW.exit ?_ | refine AW.ret ?_); simp only [thenA_exit, inBlockA_exit, if_true, if_false, Nat.reduceEqDiff, thenA_normal, inBlockA_normal, reduceIte, thenA_ret, inBlockA_ret, endQ_ret, endR_ret, endG_ret, endQ_normal, endR_normal, endG_normal])))
      refine AW.loopS (fun (i : Nat) => mkSt (slots 0 52 [(1, .ptr true 5 1 1 0 0), (2, .ptr true 5 1 2 0 0), (3, .ptr true 5 1 3 0 0), (37, .view .loose 5 (n.kids.map nodeL)), (38, .int .i64 n.kids.length), (39, .int .i64 i)]) [(1, ⟨true, 30, 5, [[.int .i64 n.kind, .int .i64 n.num, .str n.text, .view .loose 1 (strsE n.names), .view .loose 5 (n.kids.map nodeL)]]⟩), (2, ⟨true, 30, 5, [zeroN]⟩), (3, ⟨true, 30, 5, [[.int .i64 n.kind, .int .i64 n.num, .str n.text, .own 20 n.names.length, .own 34 n.kids.length]]⟩), (20, namesR n.names), (34, ⟨false, 30, 5, part n.kids i⟩)] [1, 2, 3, 20, 34] (rd0.map fun _ => 0)) (fun i => n.kids.length - i) (fun i => i ≤ n.kids.length) 0 ?_ (Nat.zero_le _) ?_
      · have hin : ∀ U : Nat → Bool, ∀ e ∈ part n.kids 0, ∀ c ∈ e, AV.In U c := fun U => part_in _ _
        rw [part_zero] at hin ⊢
        exact (less_of (by simp [lessL, mkSt, slots, namesR, zeroN]) (by simp [upd, mkSt, rowsOf_cons, namesR, zeroN]) (by simp [upd, mkSt, usedOf_cons, namesR, zeroN]) (by first | exact rd_less (by omega) | simp [mkSt, namesR, zeroN]) (by simp [slots, in_any, in_int, in_bool, in_str, in_ptr, in_own, in_agg, in_vnil, in_rdr, usedOf_cons, usedOf_nil, strs_in, ints_in, nodes_in, in_tup, namesR, zeroN]) (by simp only [List.forall_mem_cons, List.not_mem_nil, false_implies, implies_true, and_true, true_and, namesR, zeroN]; (repeat (first | with_reducible exact trivial | with_reducible refine And.intro ?_ ?_ | with_reducible exact in_int | with_reducible exact in_str | with_reducible exact in_bool | with_reducible exact strs_in _ | with_reducible exact nodes_in _ | with_reducible exact items_in _ | with_reducible exact in_vnil | with_reducible exact in_any | exact hin _ | with_reducible refine take_in ?_ | with_reducible exact strsE_in _ | with_reducible exact nodesE_in _ | with_reducible exact nodeL_in _ | with_reducible exact itemsE_in _ | with_reducible exact itemL_in _ | with_reducible refine app_in ?_ ?_ | with_reducible refine sing_in ?_ | (focus (simp [in_any, in_int, in_bool, in_str, in_ptr, in_own, in_agg, in_vnil, in_rdr, usedOf_cons, usedOf_nil, strs_in, ints_in, nodes_in, namesR, zeroN]; done)))); done))
      · intro i hi
        have hpl := part_len n.kids i hi
        by_cases hlt : i < n.kids.length
        · have hw : IntKind.i64.wrap ((i : Int) + 1) = (i : Int) + 1 := i64_nat (by omega) (by omega)
          have hg := part_get n.kids i hlt
          have hgd : ∀ h, (part n.kids i)[i]'h = [.int .i64 0, .int .i64 0, .str ⟨#[]⟩, .view .tight 0 [], .view .tight 0 []] := fun h => by
            rw [List.getElem?_eq_getElem h] at hg; exact Option.some.inj hg
          have hset := part_set n.kids i hlt
          rw [nodeL_eq] at hset
          have hin : ∀ U : Nat → Bool, ∀ e ∈ part n.kids (i + 1), ∀ c ∈ e, AV.In U c := fun U => part_in _ _
          (repeat (first | with_reducible refine AW.seq ?_ | ((first | refine arun_kn 4 rfl (fun C hC => ?_) | refine arunD_kn 4 rfl (fun C hC => ?_)); (repeat ((conv => whnf); simp [hlt, hw, hpl, hg, hgd])); refine hC _ ?_; clear hC C; simp only [List.drop, Nat.reduceAdd]) | ((first | refine arun_kn 1 rfl (fun C hC => ?_) | refine arunD_kn 1 rfl (fun C hC => ?_)); (repeat ((conv => whnf); simp [hlt, hw, hpl, hg, hgd])); refine hC _ ?_; clear hC C; simp only [List.drop, Nat.reduceAdd]) | (refine arun_skip ?_ ?_; (focus (simp [awant, hlt, hw, hpl, hg, hgd]; done))) | (refine arun_c0 (ih n.kids[i] (List.getElem_mem hlt)) ?_; rintro _ rfl) | (refine arunD_c (0) (ih n.kids[i] (List.getElem_mem hlt)) ?_; rintro _ rfl; intro _) | (refine AW.regionK [] (fun K hK => ?_)) | (refine AW.regionDK [] (pcs [(4, 0, fun r => r = nodeA n.kids[i])] []) (by kernel_rfl) (by kernel_rfl) (fun K hK => ?_)) | (refine AW.condT ?_ ?_; (focus (simp [aev, hlt, hw, hpl, hg, hgd]; done))) | (refine AW.condF ?_ ?_; (focus (simp [aev, hlt, hw, hpl, hg, hgd]; done))) | with_reducible refine AW.block ?_ | ((first | ((first | refine arun_nil ?_ | refine arunD_nil ?_); refine hK _ ?_; clear hK K) | refine AW.skip ?_ | refine AW.exit ?_ | refine AW.ret ?_); simp only [thenA_exit, inBlockA_exit, if_true, if_false, Nat.reduceEqDiff, thenA_normal, inBlockA_normal, reduceIte, thenA_ret, inBlockA_ret, endQ_ret, endR_ret, endG_ret, endQ_normal, endR_normal, endG_normal])))
          refine ⟨i + 1, by omega, by omega, ?_⟩
          exact (less_of (by simp [lessL, mkSt, slots, namesR, zeroN, hset]) (by simp [upd, mkSt, rowsOf_cons, namesR, zeroN, hset]) (by simp [upd, mkSt, usedOf_cons, namesR, zeroN, hset]) (by first | exact rd_less (by omega) | simp [mkSt, namesR, zeroN, hset]) (by simp [slots, in_any, in_int, in_bool, in_str, in_ptr, in_own, in_agg, in_vnil, in_rdr, usedOf_cons, usedOf_nil, strs_in, ints_in, nodes_in, in_tup, namesR, zeroN, hset]) (by simp only [List.forall_mem_cons, List.not_mem_nil, false_implies, implies_true, and_true, true_and, namesR, zeroN, hset]; (repeat (first | with_reducible exact trivial | with_reducible refine And.intro ?_ ?_ | with_reducible exact in_int | with_reducible exact in_str | with_reducible exact in_bool | with_reducible exact strs_in _ | with_reducible exact nodes_in _ | with_reducible exact items_in _ | with_reducible exact in_vnil | with_reducible exact in_any | exact hin _ | with_reducible refine take_in ?_ | with_reducible exact strsE_in _ | with_reducible exact nodesE_in _ | with_reducible exact nodeL_in _ | with_reducible exact itemsE_in _ | with_reducible exact itemL_in _ | with_reducible refine app_in ?_ ?_ | with_reducible refine sing_in ?_ | (focus (simp [in_any, in_int, in_bool, in_str, in_ptr, in_own, in_agg, in_vnil, in_rdr, usedOf_cons, usedOf_nil, strs_in, ints_in, nodes_in, namesR, zeroN, hset]; done)))); done))
        · obtain rfl : i = n.kids.length := by omega
          (repeat (first | with_reducible refine AW.seq ?_ | ((first | refine arun_kn 4 rfl (fun C hC => ?_) | refine arunD_kn 4 rfl (fun C hC => ?_)); (repeat ((conv => whnf); simp)); refine hC _ ?_; clear hC C; simp only [List.drop, Nat.reduceAdd]) | ((first | refine arun_kn 1 rfl (fun C hC => ?_) | refine arunD_kn 1 rfl (fun C hC => ?_)); (repeat ((conv => whnf); simp)); refine hC _ ?_; clear hC C; simp only [List.drop, Nat.reduceAdd]) | (refine arun_skip ?_ ?_; (focus (simp [awant]; done))) | (refine AW.regionK [] (fun K hK => ?_)) | (refine AW.regionDK [] (pcs [] []) (by kernel_rfl) (by kernel_rfl) (fun K hK => ?_)) | (refine AW.condT ?_ ?_; (focus (simp [aev]; done))) | (refine AW.condF ?_ ?_; (focus (simp [aev]; done))) | with_reducible refine AW.block ?_ | ((first | ((first | refine arun_nil ?_ | refine arunD_nil ?_); refine hK _ ?_; clear hK K) | refine AW.skip ?_ | refine AW.exit ?_ | refine AW.ret ?_); simp only [thenA_exit, inBlockA_exit, if_true, if_false, Nat.reduceEqDiff, thenA_normal, inBlockA_normal, reduceIte, thenA_ret, inBlockA_ret, endQ_ret, endR_ret, endG_ret, endQ_normal, endR_normal, endG_normal])))
          refine ⟨(), trivial, ?_⟩
          rw [part_all]
          exact (less_of (by simp [lessL, mkSt, slots, namesR, nodesR, zeroN]) (by simp [upd, mkSt, rowsOf_cons, namesR, nodesR, zeroN]) (by simp [upd, mkSt, usedOf_cons, namesR, nodesR, zeroN]) (by first | exact rd_less (by omega) | simp [mkSt, namesR, nodesR, zeroN]) (by simp [slots, in_any, in_int, in_bool, in_str, in_ptr, in_own, in_agg, in_vnil, in_rdr, usedOf_cons, usedOf_nil, strs_in, ints_in, nodes_in, in_tup, namesR, nodesR, zeroN]) (by simp only [List.forall_mem_cons, List.not_mem_nil, false_implies, implies_true, and_true, true_and, namesR, nodesR, zeroN]; (repeat (first | with_reducible exact trivial | with_reducible refine And.intro ?_ ?_ | with_reducible exact in_int | with_reducible exact in_str | with_reducible exact in_bool | with_reducible exact strs_in _ | with_reducible exact nodes_in _ | with_reducible exact items_in _ | with_reducible exact in_vnil | with_reducible exact in_any | exact hin _ | with_reducible refine take_in ?_ | with_reducible exact strsE_in _ | with_reducible exact nodesE_in _ | with_reducible exact nodeL_in _ | with_reducible exact itemsE_in _ | with_reducible exact itemL_in _ | with_reducible refine app_in ?_ ?_ | with_reducible refine sing_in ?_ | (focus (simp [in_any, in_int, in_bool, in_str, in_ptr, in_own, in_agg, in_vnil, in_rdr, usedOf_cons, usedOf_nil, strs_in, ints_in, nodes_in, namesR, nodesR, zeroN]; done)))); done))
    · have hl0 : n.kids.length = 0 := by omega
      have he0 : n.kids = [] := List.length_eq_zero_iff.1 hl0
      refine AW.adoptB 3 4 34 30 5 ⟨_, tab30, rfl⟩ (by simp [mkSt, rowsOf_cons]; rfl) rfl rfl (by simp [mkSt, usedOf_cons, usedOf_nil]) ?_
      simp only [ASt.adoptB]
      (repeat (first | with_reducible refine AW.seq ?_ | ((first | refine arun_kn 4 rfl (fun C hC => ?_) | refine arunD_kn 4 rfl (fun C hC => ?_)); (repeat ((conv => whnf); simp [hl0])); refine hC _ ?_; clear hC C; simp only [List.drop, Nat.reduceAdd]) | ((first | refine arun_kn 1 rfl (fun C hC => ?_) | refine arunD_kn 1 rfl (fun C hC => ?_)); (repeat ((conv => whnf); simp [hl0])); refine hC _ ?_; clear hC C; simp only [List.drop, Nat.reduceAdd]) | (refine arun_skip ?_ ?_; (focus (simp [awant, hl0]; done))) | (refine AW.regionK [] (fun K hK => ?_)) | (refine AW.regionDK [] (pcs [] []) (by kernel_rfl) (by kernel_rfl) (fun K hK => ?_)) | (refine AW.condT ?_ ?_; (focus (simp [aev, hl0]; done))) | (refine AW.condF ?_ ?_; (focus (simp [aev, hl0]; done))) | with_reducible refine AW.block ?_ | ((first | ((first | refine arun_nil ?_ | refine arunD_nil ?_); refine hK _ ?_; clear hK K) | refine AW.skip ?_ | refine AW.exit ?_ | refine AW.ret ?_); simp only [thenA_exit, inBlockA_exit, if_true, if_false, Nat.reduceEqDiff, thenA_normal, inBlockA_normal, reduceIte, thenA_ret, inBlockA_ret, endQ_ret, endR_ret, endG_ret, endQ_normal, endR_normal, endG_normal])))
      exact ⟨(), trivial, (less_of (by simp [lessL, mkSt, slots, namesR, nodesR, zeroN, he0]) (by simp [upd, mkSt, rowsOf_cons, namesR, nodesR, zeroN, he0]) (by simp [upd, mkSt, usedOf_cons, namesR, nodesR, zeroN, he0]) (by first | exact rd_less (by omega) | simp [mkSt, namesR, nodesR, zeroN, he0]) (by simp [slots, in_any, in_int, in_bool, in_str, in_ptr, in_own, in_agg, in_vnil, in_rdr, usedOf_cons, usedOf_nil, strs_in, ints_in, nodes_in, in_tup, namesR, nodesR, zeroN, he0]) (by simp only [List.forall_mem_cons, List.not_mem_nil, false_implies, implies_true, and_true, true_and, namesR, nodesR, zeroN, he0]; (repeat (first | with_reducible exact trivial | with_reducible refine And.intro ?_ ?_ | with_reducible exact in_int | with_reducible exact in_str | with_reducible exact in_bool | with_reducible exact strs_in _ | with_reducible exact nodes_in _ | with_reducible exact items_in _ | with_reducible exact in_vnil | with_reducible exact in_any | exact hin _ | with_reducible refine take_in ?_ | with_reducible exact strsE_in _ | with_reducible exact nodesE_in _ | with_reducible exact nodeL_in _ | with_reducible exact itemsE_in _ | with_reducible exact itemL_in _ | with_reducible refine app_in ?_ ?_ | with_reducible refine sing_in ?_ | (focus (simp [in_any, in_int, in_bool, in_str, in_ptr, in_own, in_agg, in_vnil, in_rdr, usedOf_cons, usedOf_nil, strs_in, ints_in, nodes_in, namesR, nodesR, zeroN, he0]; done)))); done))⟩
  rintro ⟨⟩ s' - hls
  refine AW.less _ hls ?_
  clear hls s'
  (repeat (first | with_reducible refine AW.seq ?_ | ((first | refine arun_kn 4 rfl (fun C hC => ?_) | refine arunD_kn 4 rfl (fun C hC => ?_)); (repeat ((conv => whnf); simp [zeroN])); refine hC _ ?_; clear hC C; simp only [List.drop, Nat.reduceAdd]) | ((first | refine arun_kn 1 rfl (fun C hC => ?_) | refine arunD_kn 1 rfl (fun C hC => ?_)); (repeat ((conv => whnf); simp [zeroN])); refine hC _ ?_; clear hC C; simp only [List.drop, Nat.reduceAdd]) | (refine arun_skip ?_ ?_; (focus (simp [awant, zeroN]; done))) | (refine AW.regionK [] (fun K hK => ?_)) | (refine AW.regionDK [] (pcs [] []) (by kernel_rfl) (by kernel_rfl) (fun K hK => ?_)) | (refine AW.condT ?_ ?_; (focus (simp [aev, zeroN]; done))) | (refine AW.condF ?_ ?_; (focus (simp [aev, zeroN]; done))) | with_reducible refine AW.block ?_ | ((first | ((first | refine arun_nil ?_ | refine arunD_nil ?_); refine hK _ ?_; clear hK K) | refine AW.skip ?_ | refine AW.exit ?_ | refine AW.ret ?_); simp only [thenA_exit, inBlockA_exit, if_true, if_false, Nat.reduceEqDiff, thenA_normal, inBlockA_normal, reduceIte, thenA_ret, inBlockA_ret, endQ_ret, endR_ret, endG_ret, endQ_normal, endR_normal, endG_normal])))
  refine ⟨nodeRR n 20 34, [(20, namesR n.names), (34, nodesR n.kids)], by simp [ares, aresL, upd, rowsOf_cons, nodeRR], by simp [mkSt, rowsOf_cons], ?_, ?_, ?_, rfl, rfl⟩
  · refine purR_agg ?_
    simp only [List.forall_mem_cons, List.not_mem_nil, false_implies, implies_true, and_true]
    exact ⟨pur_int.purR, pur_int.purR, pur_str.purR, purR_own, purR_own⟩
  · simp only [List.forall_mem_cons, List.not_mem_nil, false_implies, implies_true, and_true]
    exact ⟨fun e he c hc => (strsE_pur _ e he c hc).purR, fun e he c hc => (nodesE_pur _ e he c hc).purR⟩
  · refine ⟨by simp [nodeRR, in_agg, in_int, in_str, in_own, rowsOf_cons], ?_⟩
    simp only [List.forall_mem_cons, List.not_mem_nil, false_implies, implies_true, and_true]
    exact ⟨fun e he c hc => strsE_in _ e he c hc, fun e he c hc => nodesE_in _ e he c hc⟩
theorem sml_ind {p : Nd → Prop} (h : ∀ n, Sml n → (∀ k ∈ n.kids, p k) → p n) : ∀ n, Sml n → p n := Nd.ind' _ (fun n ih hs => h n hs (fun k hk => ih k hk (hs.kid hk)))
theorem implCopy_hd {l : List (Nat × Row)} {n : Nd} (h : l = [(20, namesR n.names), (34, nodesR n.kids)]) : Hd l (nodeRR n 20 34) (nodeA n) := by
  subst h
  refine .base ?_
  unfold nodeRR nodeA
  rw [nodeL_eq]
  refine .agg (.cons (.pur pur_int) (.cons (.pur pur_int) (.cons (.pur pur_str) (.cons ?_ (.cons ?_ .nil)))))
  · exact .own (R := namesR n.names) (t := .loose) rfl rfl (by simp [namesR, strsE]) (strsE_pur _)
  · exact .own (R := nodesR n.kids) (t := .loose) rfl (by simp [rowsOf_cons]) (by simp [nodesR]) (nodesE_pur _)
theorem implCopy_AC : ∀ n, Sml n → AC Try.prog 84 [nodeA n] 0 (fun r => r = nodeA n) :=
  sml_ind fun n hs ih => AC.ofG (implCopy_step n hs ih) (fun r l ⟨h1, h2⟩ => ⟨nodeA n, by rw [h1]; exact implCopy_hd h2, rfl⟩)
theorem implCopy_ACG (n : Nd) (hs : Sml n) : ACG Try.prog 84 [nodeA n] [] 0 (fun r l => r = nodeRR n 20 34 ∧ l = [(20, namesR n.names), (34, nodesR n.kids)]) :=
  implCopy_step n hs (fun k hk => implCopy_AC k (hs.kid hk))
end Go.Proofs.Ytiobnaielfeeaaa.Eng
namespace Go.Proofs.Ytiobnaielfeeaaa
open Go Go.RowKit
def Row0 (w : World) (g : Nat) (L : List Value) (e : TypeId) : Prop := Hid (w.heap[g]? = some (.cells L.toArray e (0, 0)))
theorem Row0.out {w : World} {g : Nat} {L : List Value} {e : TypeId} (h : Row0 w g L e) : w.heap[g]? = some (.cells L.toArray e (0, 0)) := h
theorem Row0.lt {w : World} {g : Nat} {L : List Value} {e : TypeId} (h : Row0 w g L e) : g < w.heap.size := (Array.getElem?_eq_some_iff.1 h.out).1
theorem Row0.ext {X : Nat → Prop} {w w' : World} {g : Nat} {L : List Value} {e : TypeId} (h : Row0 w g L e) (hx : Ext X w w') (hg : ¬ X g) : Row0 w' g L e := by
  show w'.heap[g]? = _
  rw [hx.block g h.lt hg]; exact h
theorem Row0.cell {w : World} {g : Nat} {L : List Value} {e : TypeId} (h : Row0 w g L e) {j : Nat} {v : Value} (hj : L[j]? = some v) : w.cell? ⟨g, j, none⟩ = some v := by
  unfold World.cell?
  rw [h.out]
  simpa using hj
theorem addr_plus (b o j : Nat) : (⟨b, o, Option.none⟩ : Addr).add j = ⟨b, o + j, Option.none⟩ := by unfold Addr.add; split <;> simp_all
theorem splice_two {α : Type} (A Z xs X : List α) (o1 o2 : Nat) (h1 : A.length = o1) (h2 : o2 = o1 + xs.length) (h3 : xs.length + X.length ≤ Z.length) : splice (splice (A ++ Z) o1 xs) o2 X = A ++ (xs ++ (X ++ Z.drop (xs.length + X.length))) := by
  subst h1 h2
  have e1 : splice (A ++ Z) A.length xs = A ++ (xs ++ Z.drop xs.length) := by
    unfold splice
    rw [List.take_left, List.drop_append, Nat.add_sub_cancel_left, List.drop_of_length_le (by omega), List.nil_append]
  rw [e1, ← List.append_assoc]
  unfold splice
  rw [← List.length_append, List.take_left, List.drop_append, Nat.add_sub_cancel_left, List.drop_of_length_le (by omega), List.nil_append, List.drop_drop]
  simp
theorem splice_shift {α : Type} (L xs X : List α) (o m : Nat) (h1 : xs.length = m) (h2 : o + m + X.length ≤ L.length) : splice (splice L (o + m) X) o xs = L.take o ++ (xs ++ (X ++ L.drop (o + m + X.length))) := by
  subst h1
  unfold splice
  have e1 : List.take o (List.take (o + xs.length) L ++ (X ++ List.drop (o + xs.length + X.length) L)) = List.take o L := by
    rw [List.take_append_of_le_length (by rw [List.length_take]; omega), List.take_take]
    congr 1; omega
  have e2 : List.drop (o + xs.length) (List.take (o + xs.length) L ++ (X ++ List.drop (o + xs.length + X.length) L)) = X ++ List.drop (o + xs.length + X.length) L := by
    have : (List.take (o + xs.length) L).length = o + xs.length := by rw [List.length_take]; omega
    rw [List.drop_append, this, Nat.sub_self, List.drop_of_length_le (by omega), List.nil_append, List.drop_zero]
  rw [e1, e2]
variable {P : Program}
theorem run_copyN (w : World) (dT sT ty elem : TypeId) (sz g o dLen dCap b off sLen sCap : Nat) (L M : List Value) (e e' : TypeId) (cs : List Value)
    (hu : P.underlying dT = some (.slice elem)) (hs : (P.info? elem).map (·.size) = some sz) (hg : Row0 w g L e) (hb : Row0 w b M e') (hn : cs.length = Nat.min sLen dLen * sz)
    (hsrc : cs = (M.drop off).take cs.length) (hfit : o + cs.length ≤ L.length) (h1 : ∀ v ∈ cs, v.oneCell' = true) :
    (Builtin.copy_ #[dT, sT] ty #[.slice (some ⟨g, o, none⟩) dLen dCap, .slice (some ⟨b, off, none⟩) sLen sCap]).run P w = .ok (goInt (Nat.min sLen dLen : Nat)) (w.setRow g (splice L o cs).toArray) := by
  have hcell : ∀ j v, cs[j]? = some v → w.cell? ((⟨b, off, none⟩ : Addr).add j) = some v := fun j v hj => by
    rw [addr_plus]
    refine hb.cell ?_
    rw [hsrc] at hj
    have hjl : j < cs.length := by
      have := (List.getElem?_eq_some_iff.1 hj).1
      rw [List.length_take] at this; omega
    rw [List.getElem?_take_of_lt hjl, List.getElem?_drop] at hj
    exact hj
  have hl := run_loadCells_list (P := P) w ⟨b, off, none⟩ cs hcell
  have hst := run_storeCells_at P g o e cs 0 L.toArray w hg.out (by simpa using hfit) h1
  cases hq : P.info? elem with
  | none => simp [hq] at hs
  | some i =>
    have hi : i.size = sz := by simpa [hq] using hs
    simp only [Nat.add_zero] at hst
    simp [Builtin.copy_, run_underlying hu, Builtin.lenOf, Builtin.firstCells, sizeOf, typeInfo, hq, hi, ← hn, hl, hst, splice]
theorem Row0.set {w : World} {g : Nat} {L L' : List Value} {e : TypeId} (h : Row0 w g L e) : Row0 (w.setRow g L'.toArray) g L' e := setRow_heap w g _ _ e _ h.out
theorem setRow_ext (w : World) (g : Nat) (cs : Array Value) : Ext (fun k => k = g) w (w.setRow g cs) := ⟨rfl, rfl, rfl, by simp [World.setRow], fun k _ hk => setRow_other w g k cs hk⟩
theorem wpList_copyN {w : World} {ops : Array Oper} {rest : List Oper} {o : Oper} {a : Act} {Q : Exit → Act → World → Prop} (hgd : o.guard = none) (d s : Operand) (dT sT : TypeId)
    (ho : o.op = .call { callee := .builtin .copy, args := #[d, s], argTypes := #[dT, sT] }) (elem : TypeId) (sz : Nat) (hu : P.underlying dT = some (.slice elem)) (hs : (P.info? elem).map (·.size) = some sz)
    (g oo dLen dCap b off sLen sCap : Nat) (hd : a.eval d = .slice (some ⟨g, oo, none⟩) dLen dCap) (hv : a.eval s = .slice (some ⟨b, off, none⟩) sLen sCap) (L M : List Value) (e e' : TypeId) (hg : Row0 w g L e) (hb : Row0 w b M e') (cs : List Value)
    (hn : cs.length = Nat.min sLen dLen * sz) (hsrc : cs = (M.drop off).take cs.length) (hfit : oo + cs.length ≤ L.length) (h1 : ∀ v ∈ cs, v.oneCell' = true)
    (h : ∀ x w', Row0 w' g (splice L oo cs) e → Ext (fun k => k = g) w w' → wpList P ops Q rest (a.put o.dst x) w') : wpList P ops Q (o :: rest) a w := by
  refine wpList_plain hgd fun K hK => ?_
  have hrun := run_copyN (P := P) w dT sT o.type elem sz g oo dLen dCap b off sLen sCap L M e e' cs hu hs hg hb hn hsrc hfit h1
  unfold Oper.wp
  simp only [execOp, ho, resolve, invoke, builtin, Sem.run_bind, Sem.run_pure, Result.andThen_ok, List.map_toArray, List.map_cons, List.map_nil, hd, hv, hrun]
  exact hK _ _ (h _ _ hg.set (setRow_ext w g _))
theorem step_copyN {ops : Array Oper} {o : Oper} {a : Act} {w : World} {K : Act → World → Prop} {Q : Exit → Act → World → Prop} {E : Prop} (hgd : o.guard = none) (d s : Operand) (dT sT : TypeId)
    (ho : o.op = .call { callee := .builtin .copy, args := #[d, s], argTypes := #[dT, sT] }) (elem : TypeId) (sz : Nat) (hu : P.underlying dT = some (.slice elem)) (hs : (P.info? elem).map (·.size) = some sz)
    (g oo dLen dCap b off sLen sCap : Nat) (hd : a.eval d = .slice (some ⟨g, oo, none⟩) dLen dCap) (hv : a.eval s = .slice (some ⟨b, off, none⟩) sLen sCap) (L M : List Value) (e e' : TypeId) (hg : Row0 w g L e) (hb : Row0 w b M e') (cs : List Value)
    (hn : cs.length = Nat.min sLen dLen * sz) (hsrc : cs = (M.drop off).take cs.length) (hfit : oo + cs.length ≤ L.length) (h1 : ∀ v ∈ cs, v.oneCell' = true)
    (h : ∀ x w', Row0 w' g (splice L oo cs) e → Ext (fun k => k = g) w w' → K (a.put o.dst x) w') :
    if Region.wanted o (yielded ops a.tmps) = true then Oper.wp P o a w K Q else E := by
  have hw : Region.wanted o (yielded ops a.tmps) = true := by simp [Region.wanted, hgd]
  rw [if_pos hw]
  have hrun := run_copyN (P := P) w dT sT o.type elem sz g oo dLen dCap b off sLen sCap L M e e' cs hu hs hg hb hn hsrc hfit h1
  unfold Oper.wp
  simp only [execOp, ho, resolve, invoke, builtin, Sem.run_bind, Sem.run_pure, Result.andThen_ok, List.map_toArray, List.map_cons, List.map_nil, hd, hv, hrun]
  exact h _ _ hg.set (setRow_ext w g _)
theorem run_firstCells_row (w : World) (size n : Nat) (g c : Nat) (L : List Value) (e : TypeId) (h : Row0 w g L e) (hl : n * size ≤ L.length) :
    (Builtin.firstCells size n (.slice (some ⟨g, 0, none⟩) n c)).run P w = .ok (L.take (n * size)).toArray w := by
  have hcell : ∀ j v, (L.take (n * size))[j]? = some v → w.cell? ((⟨g, 0, none⟩ : Addr).add j) = some v := fun j v hj => by
    rw [addr_plus, Nat.zero_add]
    refine h.cell ?_
    have hjl := (List.getElem?_eq_some_iff.1 hj).1
    rw [List.length_take] at hjl
    rwa [List.getElem?_take_of_lt (by omega)] at hj
  have hl2 := run_loadCells_list (P := P) w ⟨g, 0, none⟩ _ hcell
  have : (L.take (n * size)).length = n * size := by rw [List.length_take]; omega
  rw [this] at hl2
  simp [Builtin.firstCells, hl2]
theorem wpList_appendZ {w : World} {ops : Array Oper} {rest : List Oper} {o : Oper} {a : Act} {Q : Exit → Act → World → Prop} (hgd : o.guard = none) (x y : Operand) (t tn : TypeId)
    (ho : o.op = .call { callee := .builtin .append, args := #[x, y], argTypes := #[t, tn] }) (e : TypeId) (i : TypeInfo) (z : Value) (kq kn : IntKind) (ht : P.underlying t = some (.slice e)) (htn : P.underlying tn = some (.int kn)) (hi : P.info? e = some i) (hz : i.zero = some z) (hzs : z.cells.size = i.size)
    (g n c k : Nat) (hx : a.eval x = .slice (some ⟨g, 0, none⟩) n c) (hy : a.eval y = .int kq k) (L : List Value) (hL : Row0 w g L e) (hl : n * i.size ≤ L.length) (h0 : 0 < k) (hs : 0 < i.size) (hc : c < n + k) (h63 : n + k ≤ maxLen) (hby : (n + k) * i.bytes ≤ 140737488355328)
    (h : ∀ G w' Z, Row0 w' w.heap.size (L.take (n * i.size) ++ Z) e → Z.length = (G - n) * i.size → n + k ≤ G → G ≤ maxLen → Grow w w' → wpList P ops Q rest (a.put o.dst (.slice (some ⟨w.heap.size, 0, none⟩) (n + k) G)) w') : wpList P ops Q (o :: rest) a w := by
  refine wpList_plain hgd fun K hK => ?_
  have hold : (Builtin.firstCells i.size n (.slice (some ⟨g, 0, none⟩) n c)).run P w.drew = .ok (L.take (n * i.size)).toArray w.drew := run_firstCells_row w.drew i.size n g c L e hL hl
  have h63' : ((n + k : Nat) : Int) ≤ 9223372036854775807 := by unfold maxLen at h63; omega
  have hkb : k * i.bytes ≤ 281474976710656 := Nat.le_trans (Nat.mul_le_mul_right _ (Nat.le_add_left k n)) (by omega)
  have hrun := Lib.run_append_grow_zeros w t tn o.type e i z kq kn ht htn hi hz (some ⟨g, 0, none⟩) n c _ hold k h0 hs hc h63' hkb (growslice_fits hc hby)
  unfold Oper.wp
  simp only [execOp, ho, resolve, invoke, builtin, Sem.run_bind, Sem.run_pure, Result.andThen_ok, List.map_toArray, List.map_cons, List.map_nil, hx, hy, hrun]
  have hge := grownCap_ge w (n + k) c e
  refine hK _ _ (h (grownCap w (n + k) c e) _ ((Builtin.zeroCells z.cells k).toList ++ (Builtin.zeroCells z.cells (grownCap w (n + k) c e - (n + k))).toList) ?_ ?_ hge (grownCap_le_maxLen w _ _ _ h63) (((Ext.refl nil w).drew).alloc _))
  · show _ = _
    have := heap_alloc_new w.drew (.cells ((L.take (n * i.size)).toArray ++ Builtin.zeroCells z.cells k ++ Builtin.zeroCells z.cells (grownCap w (n + k) c e - (n + k))) e)
    rw [show w.heap.size = w.drew.heap.size from rfl, this]
    congr 2
    apply Array.ext'
    simp [List.append_assoc]
  · simp only [List.length_append, Array.length_toList, size_zeroCells, hzs]
    rw [← Nat.add_mul]
    congr 1; omega
theorem run_overlaps_rows (w : World) (tS tR e : TypeId) (ht : P.underlying tS = some (.slice e)) (size : Nat) (hz : ∀ w, (Go.sizeOf e).run P w = .ok size w) (g o g' o' la ca lb cb : Nat) (L L' : List Value) (e1 e2 : TypeId) (hg : Row0 w g L e1) (hg' : Row0 w g' L' e2) (hne : g ≠ g') (hL : 0 < L'.length) :
    (Extern.SlicesOverlaps.overlaps #[tS, tS] #[tR] #[.slice (some ⟨g, o, none⟩) la ca, .slice (some ⟨g', o', none⟩) lb cb]).run P w = .ok (.bool false) w := by
  have hsh : ∀ (g : Nat) (L : List Value) (e : TypeId), Row0 w g L e → w.shape? g = some (e, L.length) := fun g L e h => by
    have := h.out
    unfold World.shape?
    simp [this]
  have hfr : ∀ (g : Nat) (L : List Value) (e : TypeId) (o : Nat), Row0 w g L e → w.frozen? ⟨g, o, none⟩ = false := fun g L e o h => by
    have := h.out
    simp [World.frozen?, this]
  exact Lib.run_overlaps_apart w tS tR e ht size hz ⟨g, o, none⟩ ⟨g', o', none⟩ la ca lb cb hne e1 e2 L.length L'.length (hsh _ _ _ hg) (hsh _ _ _ hg') (by omega) (hfr _ _ _ _ hg) (hfr _ _ _ _ hg)
theorem step_appendN {ops : Array Oper} {o : Oper} {a : Act} {w : World} {K : Act → World → Prop} {Q : Exit → Act → World → Prop} {E : Prop} (hgd : o.guard = none) (d s : Operand) (t e : TypeId)
    (ho : o.op = .call { callee := .builtin .append, args := #[d, s], argTypes := #[t, t] }) (i : TypeInfo) (ht : P.underlying t = some (.slice e)) (hi : P.info? e = some i)
    (g n cap b off m c : Nat) (hd : a.eval d = .slice (some ⟨g, 0, none⟩) n cap) (hv : a.eval s = .slice (some ⟨b, off, none⟩) m c) (L M : List Value) (e' : TypeId) (hg : Row0 w g L e) (hb : Row0 w b M e') (news : List Value)
    (hn : news.length = m * i.size) (hsrc : news = (M.drop off).take news.length) (hroom : n + m ≤ cap) (hfit : n * i.size + news.length ≤ L.length) (h1 : ∀ v ∈ news, v.oneCell' = true)
    (h : ∀ w', Row0 w' g (splice L (n * i.size) news) e → Ext (fun k => k = g) w w' → K (a.put o.dst (.slice (some ⟨g, 0, none⟩) (n + m) cap)) w') :
    if Region.wanted o (yielded ops a.tmps) = true then Oper.wp P o a w K Q else E := by
  have hw : Region.wanted o (yielded ops a.tmps) = true := by simp [Region.wanted, hgd]
  rw [if_pos hw]
  have hcell : ∀ j v, news[j]? = some v → w.cell? ((⟨b, off, none⟩ : Addr).add j) = some v := fun j v hj => by
    rw [addr_plus]
    refine hb.cell ?_
    rw [hsrc] at hj
    have hjl : j < news.length := by
      have := (List.getElem?_eq_some_iff.1 hj).1
      rw [List.length_take] at this; omega
    rw [List.getElem?_take_of_lt hjl, List.getElem?_drop] at hj
    exact hj
  have hrun := run_append_room (P := P) w t o.type e i ht hi g n cap L.toArray hg.out ⟨b, off, none⟩ m c news hn hcell h1 hroom (by simpa using hfit)
  unfold Oper.wp
  simp only [execOp, ho, resolve, invoke, builtin, Sem.run_bind, Sem.run_pure, Result.andThen_ok, List.map_toArray, List.map_cons, List.map_nil, hd, hv, hrun]
  refine h _ ?_ (setRow_ext w g _)
  have := hg.set (L' := splice L (n * i.size) news)
  simpa [splice] using this
theorem wpList_clearN {w : World} {ops : Array Oper} {rest : List Oper} {o : Oper} {a : Act} {Q : Exit → Act → World → Prop} (hgd : o.guard = none) (x : Operand) (t e : TypeId)
    (ho : o.op = .call { callee := .builtin .clear, args := #[x], argTypes := #[t] }) (i : TypeInfo) (z : Value) (ht : P.underlying t = some (.slice e)) (hi : P.info? e = some i) (hz : i.zero = some z) (hzs : z.cells.size = i.size) (hz1 : ∀ u ∈ z.cells.toList, u.oneCell' = true)
    (g off n c : Nat) (hx : a.eval x = .slice (some ⟨g, off, none⟩) n c) (hn : 0 < n) (L : List Value) (hg : Row0 w g L e) (hfit : off + n * i.size ≤ L.length)
    (h : ∀ v w' Z, Row0 w' g (splice L off Z) e → Z.length = n * i.size → (∀ u ∈ Z, u.oneCell' = true) → Ext (fun k => k = g) w w' → wpList P ops Q rest (a.put o.dst v) w') : wpList P ops Q (o :: rest) a w := by
  refine wpList_plain hgd fun K hK => ?_
  have hZl : (Builtin.zeroCells z.cells n).toList.length = n * i.size := by simp [size_zeroCells, hzs]
  have hZ1 : ∀ u ∈ (Builtin.zeroCells z.cells n).toList, u.oneCell' = true := fun u hu => by
    unfold Builtin.zeroCells at hu
    simp only [Array.toList_map, List.mem_map] at hu
    obtain ⟨k, hk, rfl⟩ := hu
    have hk' : k < n * z.cells.size := by simpa using hk
    have hp : 0 < z.cells.size := by rcases Nat.eq_zero_or_pos z.cells.size with h0 | h0; rw [h0] at hk'; simp at hk'; exact h0
    have hm := Nat.mod_lt k hp
    rw [getElem!_pos z.cells _ hm]
    exact hz1 _ (by simp)
  have hst := run_storeCells_at P g off e (Builtin.zeroCells z.cells n).toList 0 L.toArray w hg.out (by rw [hZl]; simpa using hfit) hZ1
  simp only [Nat.add_zero] at hst
  obtain ⟨m, rfl⟩ : ∃ m, n = m + 1 := ⟨n - 1, by omega⟩
  have hrun : (Builtin.clear_ #[t] o.type #[.slice (some ⟨g, off, none⟩) (m + 1) c]).run P w = .ok (.tuple #[]) (w.setRow g (splice L off (Builtin.zeroCells z.cells (m + 1)).toList).toArray) := by
    simp [Builtin.clear_, run_underlying ht, zeroValue, typeInfo, hi, hz, hst, splice]
  unfold Oper.wp
  simp only [execOp, ho, resolve, invoke, builtin, Sem.run_bind, Sem.run_pure, Result.andThen_ok, List.map_toArray, List.map_cons, List.map_nil, hx, hrun]
  exact hK _ _ (h _ _ _ hg.set hZl hZ1 (setRow_ext w g _))
end Go.Proofs.Ytiobnaielfeeaaa
namespace Go.Proofs.Ytiobnaielfeeaaa
open Go Go.RowKit Go.Proofs.Ytiobnaielfeeaaa.Eng
theorem insN_grow (w : World) (b n i vb vc : Nat) (L M : List Value) (e1 : TypeId) (xs : List Value) (hb : Row0 w b L 30) (hv : Row0 w vb M e1) (hL : n * 5 ≤ L.length) (hM : M.take 5 = xs) (hxl : xs.length = 5) (hi : i < n) (hn : n ≤ 1000000) (h1 : ∀ u ∈ L, u.oneCell' = true) (h2 : ∀ u ∈ xs, u.oneCell' = true) :
    Calls Try.prog 113 #[.slice (some ⟨b, 0, none⟩) n n, .int .i64 i, .slice (some ⟨vb, 0, none⟩) 1 vc] w fun e w' =>
      ∃ g G Z, e = .returned (.slice (some ⟨g, 0, none⟩) (n + 1 : Nat) G) ∧ Grow w w' ∧ w.heap.size ≤ g ∧ Row0 w' g (L.take (i * 5) ++ (xs ++ ((L.take (n * 5)).drop (i * 5) ++ Z))) 30 ∧ Z.length = (G - (n + 1)) * 5 ∧ n + 1 ≤ G ∧ G ≤ maxLen := by
  obtain ⟨d, j, hs⟩ := TI.says (tab_ok _ _ tab30)
  obtain ⟨j', zv, zs, k1, k2, k3, k3', k3'', k4, k5, k6⟩ := zero_ok (w := w) (ρ := pureC nil nil none) (tab_ok _ _ tab30) (by decide)
  rw [hs.inf] at k1; cases k1
  have hjs := hs.sz
  have hjb := hs.by'
  have hinf := hs.inf
  dsimp only at hjs hjb k6
  have hzs : zv.cells.size = j.size := by rw [k3, hjs]; simpa using k6
  have hsz : (Try.prog.info? 30).map (·.size) = some 5 := by rw [hinf]; simp [hjs]
  have mixed := mixed_ok
  have hz1 : ¬ ((1 : Int) = 0) := by omega
  have hz2 : ¬ ((i : Int) = (n : Int)) := by omega
  have hz3 : (n : Int) < (n : Int) + 1 := by omega
  have hw1 : IntKind.i64.wrap ((n : Int) + 1) = (n : Int) + 1 := by rw [IntKind.wrap_i64]; omega
  have hw2 : IntKind.i64.wrap ((n : Int) + 1 - (i : Int)) = ((n + 1 - i : Nat) : Int) := by rw [IntKind.wrap_i64]; omega
  have hw3 : IntKind.i64.wrap ((i : Int) + 1) = (i : Int) + 1 := by rw [IntKind.wrap_i64]; omega
  have hb1 : (0 : Int) ≤ (i : Int) + 1 := by omega
  have hb2 : (0 : Int) ≤ (i : Int) := by omega
  have hin : i ≤ n := by omega
  have hni : ¬ (n = i) := by omega
  have htn : ((i : Int) + 1).toNat = i + 1 := by omega
  have hb3 : (i : Int) ≤ (n : Int) := by omega
  have hbn : b ≠ w.heap.size := by have := hb.lt; omega
  obtain ⟨X, hX⟩ : ∃ X, X = (L.take (n * 5)).drop (i * 5) := ⟨_, rfl⟩
  have hXl : X.length = (n - i) * 5 := by rw [hX, List.length_drop, List.length_take, Nat.sub_mul]; omega
  have hXs : X = (L.drop (i * 5)).take X.length := by rw [hXl, hX, List.drop_take, Nat.sub_mul]
  have hX1 : ∀ v ∈ X, v.oneCell' = true := fun v hv => h1 v (by rw [hX] at hv; exact List.mem_of_mem_take (List.mem_of_mem_drop hv))
  have HB := Lib.hid hb
  have HV := Lib.hid hv
  clear hb hv
  go_enter Try.func113, Try.ntmps113
  go_wp2_with (first
    | (at_builtin; refine wpList_appendZ rfl _ _ 28 3 rfl 30 j zv .i64 .i64 Try.underlying28 Try.underlying3 hinf k2 hzs b i n (n + 1 - i) rfl rfl L HB.out (by rw [hjs]; omega) (by omega) (by rw [hjs]; omega) (by omega) (by unfold maxLen; omega) (by rw [hjb]; omega) ?_; intro G w1 Z R1 Z1 G1 G2 E1; have B1 := HB.out.ext E1 (fun h => h); have V1 := HV.out.ext E1 (fun h => h); have G3 : ¬ (G = i) := (by omega); have G4 : ¬ (G = i + 1) := (by omega); have G5 : i + (n + 1 - i) = n + 1 := (by omega))
    | (refine wpList_copyN rfl (.tmp 43) (.tmp 44) 28 28 rfl 30 5 Try.underlying28 hsz w.heap.size _ _ _ vb 0 1 vc rfl rfl (L.take (i * j.size) ++ Z) M 30 e1 R1 V1 xs (by rw [hxl]; simp only [Nat.min_def]; split <;> omega) (by rw [hxl, List.drop_zero, hM]) (by simp only [List.length_append, List.length_take, Z1, hxl, hjs]; omega) h2 ?_; intro x2 w2 R2 E2; have B2 := B1.ext E2 (fun h => hbn h)))
  go_region_law_o (refine step_copyN rfl (.tmp 50) (.tmp 53) 28 28 rfl 30 5 Try.underlying28 hsz w.heap.size ((i + 1) * 5) (n + 1 - (i + 1)) (G - (i + 1)) b (i * 5) (n - i) (n - i) (by simp [Act.eval, Act.put]) (by simp [Act.eval, Act.put]) _ L 30 30 R2 B2 X (by rw [hXl, show Nat.min (n - i) (n + 1 - (i + 1)) = n - i from by rw [show n + 1 - (i + 1) = n - i by omega]; exact Nat.min_self _]) hXs (by rw [length_splice _ _ _ (by simp only [List.length_append, List.length_take, Z1, hxl, hjs]; omega)]; simp only [List.length_append, List.length_take, Z1, hXl, hjs]; omega) hX1 ?_; intro x3 w3 R3 E3)
  go_wp2
  go_ret
  have hZ : xs.length + X.length ≤ Z.length := by rw [hxl, hXl, Z1, hjs]; omega
  rw [hjs] at R3
  rw [splice_two _ _ _ _ _ _ (by rw [List.length_take]; omega) (by rw [hxl]; omega) hZ] at R3
  refine ⟨w.heap.size, G, Z.drop (xs.length + X.length), by simp, ?_, Nat.le_refl _, by rw [← hX]; exact R3, by rw [List.length_drop, hxl, hXl, Z1, hjs]; omega, by omega, G2⟩
  exact Grow.inner (Ext.drew (E1.inner E2 (fun k hk => Nat.le_of_eq (Eq.symm hk)))) E3 (fun k hk => Nat.le_of_eq (Eq.symm hk))
theorem insN_room (w : World) (b n c i vb vc : Nat) (L M : List Value) (e1 : TypeId) (xs : List Value) (hb : Row0 w b L 30) (hv : Row0 w vb M e1) (hbv : vb ≠ b) (hL : L.length = c * 5) (hM : M.take 5 = xs) (hxl : xs.length = 5) (hi : i < n) (hroom : n + 1 ≤ c) (hc : c ≤ maxLen) (h1 : ∀ u ∈ L.take (n * 5), u.oneCell' = true) (h2 : ∀ u ∈ xs, u.oneCell' = true) :
    Calls Try.prog 113 #[.slice (some ⟨b, 0, none⟩) n c, .int .i64 i, .slice (some ⟨vb, 0, none⟩) 1 vc] w fun e w' =>
      e = .returned (.slice (some ⟨b, 0, none⟩) (n + 1 : Nat) c) ∧ Ext (fun k => k = b) w w' ∧ Row0 w' b (L.take (i * 5) ++ (xs ++ ((L.take (n * 5)).drop (i * 5) ++ L.drop ((n + 1) * 5)))) 30 := by
  obtain ⟨d, j, hs⟩ := TI.says (tab_ok _ _ tab30)
  have hjs := hs.sz
  have hinf := hs.inf
  dsimp only at hjs
  have hsz : (Try.prog.info? 30).map (·.size) = some 5 := by rw [hinf]; simp [hjs]
  have hc63 : c ≤ 9223372036854775807 := by unfold maxLen at hc; exact hc
  have mixed := mixed_ok
  have hz1 : ¬ ((1 : Int) = 0) := by omega
  have hz2 : ¬ ((i : Int) = (n : Int)) := by omega
  have hz3 : ¬ ((c : Int) < (n : Int) + 1) := by omega
  have hw1 : IntKind.i64.wrap ((n : Int) + 1) = (n : Int) + 1 := by rw [IntKind.wrap_i64]; omega
  have hw3 : IntKind.i64.wrap ((i : Int) + 1) = (i : Int) + 1 := by rw [IntKind.wrap_i64]; omega
  have hb1 : (0 : Int) ≤ (i : Int) + 1 := by omega
  have hb2 : (0 : Int) ≤ (i : Int) := by omega
  have hb4 : (0 : Int) ≤ (n : Int) + 1 := by omega
  have hin : i ≤ n := by omega
  have hni : ¬ (c = i) := by omega
  have hni2 : ¬ (c = i + 1) := by omega
  have htn : ((i : Int) + 1).toNat = i + 1 := by omega
  have htn2 : ((n : Int) + 1).toNat = n + 1 := by omega
  have hb3 : (i : Int) ≤ (n : Int) := by omega
  have hb5 : (i : Int) + 1 ≤ (n : Int) + 1 := by omega
  have hb6 : (n : Int) + 1 ≤ (c : Int) := by omega
  have hb7 : (i : Int) ≤ (n : Int) + 1 := by omega
  obtain ⟨X, hX⟩ : ∃ X, X = (L.take (n * 5)).drop (i * 5) := ⟨_, rfl⟩
  have hXl : X.length = (n - i) * 5 := by rw [hX, List.length_drop, List.length_take, Nat.sub_mul, hL]; omega
  have hXs : X = (L.drop (i * 5)).take X.length := by rw [hXl, hX, List.drop_take, Nat.sub_mul]
  have hX1 : ∀ v ∈ X, v.oneCell' = true := fun v hv => h1 v (by rw [hX] at hv; exact List.mem_of_mem_drop hv)
  have hov : ∀ lb cb, (callFunc 129 #[.slice (some ⟨vb, 0, none⟩) 1 vc, .slice (some ⟨b, (i + 1) * 5, none⟩) lb cb]).run Try.prog w = .ok (.value (.bool false)) w := fun lb cb => by
    rw [run_callFunc_extern (P := Try.prog) (f := 129) (fn := Try.f129) (e := Extern.SlicesOverlaps.overlaps #[28, 28] #[4]) (by kernel_rfl) (by kernel_rfl) (by kernel_rfl) (by kernel_rfl) (by kernel_rfl)]
    rw [run_overlaps_rows (P := Try.prog) w 28 4 30 Try.underlying28 5 (fun w => hs.sizeOf w) vb 0 b ((i + 1) * 5) 1 vc lb cb M L e1 30 hv hb hbv (by rw [hL]; omega)]
    rfl
  have HB := Lib.hid hb
  have HV := Lib.hid hv
  clear hb hv
  go_enter Try.func113, Try.ntmps113
  go_wp2_with (simp only [hov])
  go_region_law_o (refine step_copyN rfl (.tmp 73) (.tmp 76) 28 28 rfl 30 5 Try.underlying28 hsz b ((i + 1) * 5) (n + 1 - (i + 1)) (c - (i + 1)) b (i * 5) (n + 1 - i) (c - i) (by simp [Act.eval, Act.put]) (by simp [Act.eval, Act.put]) L L 30 30 HB.out HB.out X (by rw [hXl, show Nat.min (n + 1 - i) (n + 1 - (i + 1)) = n - i from by rw [show n + 1 - (i + 1) = n - i by omega]; exact Nat.min_eq_right (by omega)]) hXs (by rw [hXl, hL]; omega) hX1 ?_; intro x2 w2 R2 E2)
  have V2 := HV.out.ext (Ext.trans (Ext.drew (Ext.refl _ w)) E2) (fun h => hbv h)
  go_wp2_with (refine wpList_copyN rfl (.tmp 80) (.tmp 81) 28 28 rfl 30 5 Try.underlying28 hsz b _ _ _ vb 0 1 vc rfl rfl (splice L ((i + 1) * 5) X) M 30 e1 R2 V2 xs (by rw [hxl]; simp only [Nat.min_def]; split <;> omega) (by rw [hxl, List.drop_zero, hM]) (by rw [length_splice _ _ _ (by rw [hXl, hL]; omega), hxl, hL]; omega) h2 ?_; intro x3 w3 R3 E3)
  go_ret
  rw [show (i + 1) * 5 = i * 5 + 5 by omega, splice_shift _ _ _ _ _ hxl (by rw [hXl, hL]; omega)] at R3
  refine ⟨by simp, Ext.trans (Ext.trans (Ext.drew (Ext.refl _ w)) E2) E3, ?_⟩
  rw [← hX, show (n + 1) * 5 = i * 5 + 5 + X.length by rw [hXl]; omega]
  exact R3
theorem delN_last (w : World) (b i : Nat) (L : List Value) (hb : Row0 w b L 30) (hL : L.length = (i + 1) * 5) (hc : i + 1 ≤ maxLen) :
    Calls Try.prog 109 #[.slice (some ⟨b, 0, none⟩) (i + 1) (i + 1), .int .i64 i, .int .i64 ((i : Int) + 1)] w fun e w' =>
      ∃ L', e = .returned (.slice (some ⟨b, 0, none⟩) i (i + 1)) ∧ Ext (fun k => k = b) w w' ∧ Row0 w' b L' 30 ∧ L'.length = (i + 1) * 5 ∧ L'.take (i * 5) = L.take (i * 5) := by
  obtain ⟨d, j, hs⟩ := TI.says (tab_ok _ _ tab30)
  obtain ⟨j', zv, zs, k1, k2, k3, k3', k3'', k4, k5, k6⟩ := zero_ok (w := w) (ρ := pureC nil nil none) (tab_ok _ _ tab30) (by decide)
  rw [hs.inf] at k1; cases k1
  have hjs := hs.sz
  have hinf := hs.inf
  dsimp only at hjs k6
  have hzs : zv.cells.size = j.size := by rw [k3, hjs]; simpa using k6
  have hz1c : ∀ u ∈ zv.cells.toList, u.oneCell' = true := by rw [k3]; simpa using k5
  have hc63 : i + 1 ≤ 9223372036854775807 := by unfold maxLen at hc; exact hc
  have mixed := mixed_ok
  have hz1 : ¬ ((i : Int) = (i : Int) + 1) := by omega
  have hb1 : (0 : Int) ≤ (i : Int) + 1 := by omega
  have hb2 : (0 : Int) ≤ (i : Int) := by omega
  have hb3 : (i : Int) ≤ (i : Int) + 1 := by omega
  have htn : ((i : Int) + 1).toNat = i + 1 := by omega
  have hni : ¬ (i + 1 = i) := by omega
  have hll : i + 1 - i = 1 := by omega
  have hX1 : ∀ v ∈ ([] : List Value), v.oneCell' = true := fun v hv => by cases hv
  have HB := Lib.hid hb
  clear hb
  go_enter Try.func109, Try.ntmps109
  go_wp2_with fail
  go_region_law_o (refine step_appendN rfl (.tmp 22) (.tmp 25) 28 30 rfl j Try.underlying28 hinf b i (i + 1) b 0 0 0 (by simp [Act.eval, Act.put]) (by simp [Act.eval, Act.put]) L L 30 HB.out HB.out [] (by simp) (by simp) (by omega) (by rw [hjs, hL]; simp only [List.length_nil]; omega) hX1 ?_; intro w2 R2 E2)
  have hsp : splice L (i * j.size) [] = L := by unfold splice; simp
  rw [hsp] at R2
  go_wp2_with (refine wpList_clearN rfl (.tmp 31) 28 30 rfl j zv Try.underlying28 hinf k2 hzs hz1c b _ _ _ rfl (by omega) _ R2 (by rw [hjs, hL]; omega) ?_; intro v3 w3 Z R3 Zl Z1 E3)
  go_ret
  refine ⟨_, by simp, Ext.trans (Ext.trans (Ext.drew (Ext.refl _ w)) E2) E3, R3, by rw [length_splice _ _ _ (by rw [hL, Zl, hjs]; omega), hL], ?_⟩
  unfold splice
  rw [List.take_append_of_le_length (by rw [List.length_take, hL]; omega), List.take_take]
  simp
theorem delN_mid (w : World) (b n c i : Nat) (L : List Value) (hb : Row0 w b L 30) (hL : L.length = c * 5) (hi : i < n) (hnc : n ≤ c) (hc : c ≤ maxLen) (hci : ¬ c = i + 1) (h1 : ∀ u ∈ L.take (n * 5), u.oneCell' = true) :
    Calls Try.prog 109 #[.slice (some ⟨b, 0, none⟩) n c, .int .i64 i, .int .i64 ((i : Int) + 1)] w fun e w' =>
      ∃ L', e = .returned (.slice (some ⟨b, 0, none⟩) (n - 1 : Nat) c) ∧ Ext (fun k => k = b) w w' ∧ Row0 w' b L' 30 ∧ L'.length = c * 5 ∧ L'.take ((n - 1) * 5) = L.take (i * 5) ++ (L.take (n * 5)).drop ((i + 1) * 5) := by
  obtain ⟨d, j, hs⟩ := TI.says (tab_ok _ _ tab30)
  obtain ⟨j', zv, zs, k1, k2, k3, k3', k3'', k4, k5, k6⟩ := zero_ok (w := w) (ρ := pureC nil nil none) (tab_ok _ _ tab30) (by decide)
  rw [hs.inf] at k1; cases k1
  have hjs := hs.sz
  have hinf := hs.inf
  dsimp only at hjs k6
  have hzs : zv.cells.size = j.size := by rw [k3, hjs]; simpa using k6
  have hz1c : ∀ u ∈ zv.cells.toList, u.oneCell' = true := by rw [k3]; simpa using k5
  have hc63 : c ≤ 9223372036854775807 := by unfold maxLen at hc; exact hc
  have mixed := mixed_ok
  have hz1 : ¬ ((i : Int) = (i : Int) + 1) := by omega
  have hb1 : (0 : Int) ≤ (i : Int) + 1 := by omega
  have hb2 : (0 : Int) ≤ (i : Int) := by omega
  have hb3 : (i : Int) ≤ (i : Int) + 1 := by omega
  have hb4 : (i : Int) + 1 ≤ (n : Int) := by omega
  have hb5 : (n : Int) ≤ (c : Int) := by omega
  have hb6 : (i : Int) ≤ (n : Int) := by omega
  have hb7 : (i : Int) ≤ (c : Int) := by omega
  have htn : ((i : Int) + 1).toNat = i + 1 := by omega
  have hni : ¬ (c = i) := by omega
  have hni3 : ¬ (n = i) := by omega
  obtain ⟨X, hX⟩ : ∃ X, X = (L.take (n * 5)).drop ((i + 1) * 5) := ⟨_, rfl⟩
  have hXl : X.length = (n - (i + 1)) * 5 := by rw [hX, List.length_drop, List.length_take, Nat.sub_mul, hL]; omega
  have hX1 : ∀ v ∈ X, v.oneCell' = true := fun v hv => h1 v (by rw [hX] at hv; exact List.mem_of_mem_drop hv)
  have hm : i + (n - (i + 1)) = n - 1 := by omega
  have hlast : n - (i + (n - (i + 1))) = 1 := by omega
  have hlc : (((n - 1 : Nat) : Int)) ≤ (n : Int) := by omega
  have hl0 : (0 : Int) ≤ ((n - 1 : Nat) : Int) := by omega
  have hnl : ¬ (c = n - 1) := by omega
  have hln : (splice L (i * j.size) X).length = c * 5 := by rw [length_splice _ _ _ (by rw [hXl, hjs, hL]; omega), hL]
  have HB := Lib.hid hb
  clear hb
  go_enter Try.func109, Try.ntmps109
  go_wp2_with fail
  go_region_law_o (refine step_appendN rfl (.tmp 22) (.tmp 25) 28 30 rfl j Try.underlying28 hinf b i c b ((i + 1) * 5) (n - (i + 1)) (c - (i + 1)) (by simp [Act.eval, Act.put]) (by simp [Act.eval, Act.put]) L L 30 HB.out HB.out X (by rw [hXl, hjs]) (by rw [hXl, hX]; rw [List.drop_take, Nat.sub_mul]) (by omega) (by rw [hjs, hXl, hL]; omega) hX1 ?_; intro w2 R2 E2)
  go_wp2_with (refine wpList_clearN rfl (.tmp 31) 28 30 rfl j zv Try.underlying28 hinf k2 hzs hz1c b _ _ _ rfl (by omega) _ R2 (by rw [hln, hjs]; omega) ?_; intro v3 w3 Z R3 Zl Z1 E3)
  go_ret
  refine ⟨_, by simp, Ext.trans (Ext.trans (Ext.drew (Ext.refl _ w)) E2) E3, R3, by rw [length_splice _ _ _ (by rw [hln, Zl, hjs]; omega), hln], ?_⟩
  rw [← hX]
  have e1 : splice L (i * j.size) X = L.take (i * 5) ++ X ++ L.drop ((n - 1) * 5) := by
    unfold splice
    rw [hXl, hjs, show i * 5 + (n - (i + 1)) * 5 = (n - 1) * 5 by omega, List.append_assoc]
  have e2 : (L.take (i * 5) ++ X).length = (n - 1) * 5 := by rw [List.length_append, List.length_take, hXl, hL]; omega
  unfold splice at e1 hln ⊢
  rw [List.take_append_of_le_length (by rw [List.length_take, hln]; omega), List.take_take, Nat.min_eq_left (by omega), e1, List.take_append_of_le_length (by omega), List.take_of_length_le (by omega)]
theorem wp_appRN {w : World} {ops : Array Oper} {rest : List Oper} {o : Oper} {a : Act} {Q : Exit → Act → World → Prop} (hgd : o.guard = none) (ho : o.op = .call { callee := .builtin .append, args := #[.tmp 23, .tmp 24], argTypes := #[28, 28] })
    (u : Value) (hx : a.eval (.tmp 23) = u) (n : Nat) (olds : List Value) (hat : Hid (Eng.RowAt w 0 30 5 u n olds)) (vb vc : Nat) (hy : a.eval (.tmp 24) = .slice (some ⟨vb, 0, none⟩) 1 vc) (M : List Value) (e1 : TypeId) (hv : Row0 w vb M e1) (xs : List Value) (hM : M.take 5 = xs) (hxl : xs.length = 5) (h2 : ∀ u ∈ xs, u.oneCell' = true) (hn : n ≤ 1000000)
    (h : ∀ v' w', Eng.RowAt w' 0 30 5 v' (n + 1) (olds ++ xs) → Ext (fun k => blk u = some k) w w' → (∀ g, blk v' = some g → blk u = some g ∨ w.heap.size ≤ g) → wpList Try.prog ops Q rest (a.put o.dst v') w') : wpList Try.prog ops Q (o :: rest) a w := by
  obtain ⟨d, j, hs⟩ := TI.says (tab_ok _ _ tab30)
  obtain ⟨j', zv, zs, k1, k2, k3, k3', k3'', k4, k5, k6⟩ := zero_ok (w := w) (ρ := pureC nil nil none) (tab_ok _ _ tab30) (by decide)
  rw [hs.inf] at k1; cases k1
  have hjs := hs.sz
  have hjb := hs.by'
  dsimp only at hjs hjb k6
  have hsrc : Eng.Src w (some ⟨vb, 0, none⟩) 1 xs := .inr ⟨_, rfl, fun q v hq => by
    rw [addr_plus, Nat.zero_add]
    refine hv.cell ?_
    rw [← hM] at hq
    have hl := (List.getElem?_eq_some_iff.1 hq).1
    rw [List.length_take] at hl
    rwa [List.getElem?_take_of_lt (by omega)] at hq⟩
  obtain ⟨v', w', m1, m2, m3, m4, _⟩ := run_append_row (P := Try.prog) (B := 0) 28 o.type 30 j zv Try.underlying28 hs.inf k2 (by rw [k3, hjs]; simpa using k6) (by rw [hjs]; exact hat.out) (Nat.zero_le _) (some ⟨vb, 0, none⟩) 1 vc xs (by rw [hxl, hjs]) hsrc h2 (by rw [hjb]; omega) (by unfold maxLen; omega)
  refine wpList_plain hgd fun K hK => ?_
  unfold Oper.wp
  simp only [execOp, ho, resolve, invoke, builtin, Sem.run_bind, Sem.run_pure, Result.andThen_ok, List.map_toArray, List.map_cons, List.map_nil, hx, hy, m1]
  exact hK _ _ (h v' w' (by rw [hjs] at m2; exact m2) m3 m4)
theorem insN_end (w : World) (b n c vb vc : Nat) (M : List Value) (e1 : TypeId) (xs olds : List Value) (hat : Eng.RowAt w 0 30 5 (.slice (some ⟨b, 0, none⟩) n c) n olds) (hv : Row0 w vb M e1) (hM : M.take 5 = xs) (hxl : xs.length = 5) (h2 : ∀ u ∈ xs, u.oneCell' = true) (hn : n ≤ 1000000) (hnc : n ≤ c) (hc : c ≤ maxLen) :
    Calls Try.prog 113 #[.slice (some ⟨b, 0, none⟩) n c, .int .i64 n, .slice (some ⟨vb, 0, none⟩) 1 vc] w fun e w' =>
      ∃ v', e = .returned v' ∧ Eng.RowAt w' 0 30 5 v' (n + 1) (olds ++ xs) ∧ Ext (fun k => blk (.slice (some ⟨b, 0, none⟩) n c) = some k) w w' ∧ ∀ g, blk v' = some g → blk (.slice (some ⟨b, 0, none⟩) n c) = some g ∨ w.heap.size ≤ g := by
  have hc63 : c ≤ 9223372036854775807 := by unfold maxLen at hc; exact hc
  have hz1 : ¬ ((1 : Int) = 0) := by omega
  have hb2 : (0 : Int) ≤ (n : Int) := by omega
  have hb3 : (n : Int) ≤ (c : Int) := by omega
  have HA := Lib.hid hat
  have HV := Lib.hid hv
  clear hat hv
  by_cases hcn : c = n
  · go_enter Try.func113, Try.ntmps113
    go_wp2_with (at_builtin; refine wp_appRN rfl rfl (.slice (some ⟨b, 0, none⟩) n c) (by simp [Act.eval, Act.put, hcn]) n olds HA vb vc rfl M e1 HV.out xs hM hxl h2 hn ?_; intro v4 w4 R4 E4 B4)
    go_ret
    exact ⟨_, by simp, R4, E4, B4⟩
  · go_enter Try.func113, Try.ntmps113
    go_wp2_with (at_builtin; refine wp_appRN rfl rfl (.slice (some ⟨b, 0, none⟩) n c) (by simp [Act.eval, Act.put]) n olds HA vb vc rfl M e1 HV.out xs hM hxl h2 hn ?_; intro v4 w4 R4 E4 B4)
    go_ret
    exact ⟨_, by simp, R4, E4, B4⟩
theorem insN_nil (w : World) (ad : Option Addr) (vb vc : Nat) (M : List Value) (e1 : TypeId) (xs : List Value) (hv : Row0 w vb M e1) (hM : M.take 5 = xs) (hxl : xs.length = 5) (h2 : ∀ u ∈ xs, u.oneCell' = true) :
    Calls Try.prog 113 #[.slice ad 0 0, .int .i64 0, .slice (some ⟨vb, 0, none⟩) 1 vc] w fun e w' =>
      ∃ v', e = .returned v' ∧ Eng.RowAt w' 0 30 5 v' 1 xs ∧ Grow w w' ∧ ∀ g, blk v' = some g → w.heap.size ≤ g := by
  have hat : Eng.RowAt w 0 30 5 (.slice ad 0 0) 0 [] := .inl ⟨rfl, rfl, ad, rfl⟩
  have hnb : ∀ k, ¬ blk (.slice ad 0 0) = some k := fun k hk => by cases ad <;> simp [blk] at hk
  have hz1 : ¬ ((1 : Int) = 0) := by omega
  have HA := Lib.hid hat
  have HV := Lib.hid hv
  clear hat hv
  cases ad with
  | none =>
    go_enter Try.func113, Try.ntmps113
    go_wp2_with (at_builtin; refine wp_appRN rfl rfl (.slice none 0 0) (by simp [Act.eval, Act.put]) 0 [] HA vb vc rfl M e1 HV.out xs hM hxl h2 (by omega) ?_; intro v4 w4 R4 E4 B4)
    go_ret
    exact ⟨v4, by simp, by simpa using R4, E4.mono (fun k hk => hnb k hk), fun g hg => (B4 g (by simpa using hg)).resolve_left (hnb g)⟩
  | some ad =>
    go_enter Try.func113, Try.ntmps113
    go_wp2_with (at_builtin; refine wp_appRN rfl rfl (.slice (some ad) 0 0) (by simp [Act.eval, Act.put]) 0 [] HA vb vc rfl M e1 HV.out xs hM hxl h2 (by omega) ?_; intro v4 w4 R4 E4 B4)
    go_ret
    exact ⟨v4, by simp, by simpa using R4, E4.mono (fun k hk => hnb k hk), fun g hg => (B4 g (by simpa using hg)).resolve_left (hnb g)⟩
theorem insN_at (w : World) (u : Value) (n i : Nat) (olds : List Value) (vb vc : Nat) (M : List Value) (e1 : TypeId) (xs : List Value) (hat : Eng.RowAt w 0 30 5 u n olds) (hone : ∀ u ∈ olds, u.oneCell' = true) (hv : Row0 w vb M e1) (hne : blk u ≠ some vb) (hM : M.take 5 = xs) (hxl : xs.length = 5) (h2 : ∀ u ∈ xs, u.oneCell' = true) (hi : i ≤ n) (hn : n ≤ 1000000) :
    Calls Try.prog 113 #[u, .int .i64 i, .slice (some ⟨vb, 0, none⟩) 1 vc] w fun e w' =>
      ∃ v', e = .returned v' ∧ Eng.RowAt w' 0 30 5 v' (n + 1) (olds.take (i * 5) ++ (xs ++ olds.drop (i * 5))) ∧ Ext (fun k => blk u = some k) w w' ∧ ∀ g, blk v' = some g → blk u = some g ∨ w.heap.size ≤ g := by
  have hat0 := hat
  rcases hat with ⟨rfl, rfl, ad, rfl⟩ | ⟨g, cap, cur, rfl, hp, _, hg, hnc, hcm, hcs, htk, hol⟩
  · have : i = 0 := by omega
    subst this
    refine (insN_nil w ad vb vc M e1 xs hv hM hxl h2).mono ?_
    rintro e w' ⟨v', rfl, q1, q2, q3⟩
    exact ⟨v', rfl, by simpa using q1, q2.mono (fun _ h => h.elim), fun g hg => .inr (q3 g hg)⟩
  · have hbl : blk (.slice (some ⟨g, 0, none⟩) n cap) = some g := blk_slice _ _ _ hp
    have hG : Row0 w g cur.toList 30 := by show _ = _; rw [hg]
    rcases Nat.lt_or_ge i n with hlt | hge
    · have hcl : cur.toList.length = cap * 5 := by rw [Array.length_toList, hcs]
      have hcut : (cur.toList.take (n * 5)).take (i * 5) = cur.toList.take (i * 5) := by rw [List.take_take, Nat.min_eq_left (by omega)]
      rcases Nat.lt_or_ge n cap with hroom | hfull
      · refine (insN_room w g n cap i vb vc cur.toList M e1 xs hG hv (fun e => hne (by rw [hbl, e])) hcl hM hxl hlt hroom hcm (by rw [htk]; exact hone) h2).mono ?_
        rintro e w' ⟨rfl, q1, q2⟩
        refine ⟨_, rfl, .inr ⟨g, cap, _, rfl, hp, Nat.zero_le _, q2.out, hroom, hcm, ?_, ?_, ?_⟩, q1.mono (fun k hk => by rw [hk]; exact hbl), fun g' hg' => by rw [blk_slice _ _ _ hp] at hg'; exact .inl (by rw [hbl]; exact hg')⟩
        · simp only [List.size_toArray, List.length_append, List.length_take, List.length_drop, hcl, hxl, Nat.add_mul]; omega
        · simp only [List.append_assoc]
          rw [htk, ← hcut, htk, ← List.append_assoc xs, ← List.append_assoc, ← List.append_assoc]
          exact List.take_left' (by simp only [List.length_append, List.length_take, List.length_drop, hol, hxl, Nat.add_mul]; omega)
        · simp only [List.length_append, List.length_take, List.length_drop, hol, hxl, Nat.add_mul]; omega
      · have hce : cap = n := by omega
        subst hce
        refine (insN_grow w g cap i vb vc cur.toList M e1 xs hG hv (by omega) hM hxl hlt hn ?_ h2).mono ?_
        · rw [← List.take_of_length_le (l := cur.toList) (i := cap * 5) (by omega), htk]; exact hone
        · rintro e w' ⟨g', G, Z, rfl, q1, q2, q3, q4, q5, q6⟩
          refine ⟨_, rfl, .inr ⟨g', G, _, rfl, by omega, Nat.zero_le _, q3.out, q5, q6, ?_, ?_, ?_⟩, q1.mono (fun _ h => h.elim), fun g'' hg' => by rw [blk_slice _ _ _ (by omega)] at hg'; cases hg'; exact .inr q2⟩
          · simp only [List.size_toArray, List.length_append, List.length_take, List.length_drop, hcl, hxl, q4, Nat.add_mul, Nat.sub_mul]; omega
          · rw [htk, ← hcut, htk, ← List.append_assoc xs, ← List.append_assoc]
            exact List.take_left' (by simp only [List.length_append, List.length_take, List.length_drop, hol, hxl, Nat.add_mul]; omega)
          · simp only [List.length_append, List.length_take, List.length_drop, hol, hxl, Nat.add_mul]; omega
    · have : i = n := by omega
      subst this
      refine (insN_end w g i cap vb vc M e1 xs olds hat0 hv hM hxl h2 hn hnc hcm).mono ?_
      rintro e w' ⟨v', rfl, q1, q2, q3⟩
      refine ⟨v', rfl, ?_, q2, q3⟩
      rw [List.take_of_length_le (by omega), List.drop_of_length_le (by omega), List.append_nil]
      exact q1
theorem insN_inv3 {w : World} {ρ : Cx} {a b c : AV} {vs : List Value} (h : RepL w ρ [a, b, c] vs) : ∃ x y z, vs = [x, y, z] ∧ Eng.Rep w ρ a x ∧ Eng.Rep w ρ b y ∧ Eng.Rep w ρ c z := by
  unfold RepL at h
  obtain ⟨x, _, rfl, h1, h⟩ := h
  unfold RepL at h
  obtain ⟨y, _, rfl, h2, h⟩ := h
  unfold RepL at h
  obtain ⟨z, _, rfl, h3, h⟩ := h
  unfold RepL at h
  subst h
  exact ⟨x, y, z, rfl, h1, h2, h3⟩
theorem insN_ACG (es : List (List AV)) (x : List AV) (i : Nat) (hi : i ≤ es.length) (hn : es.length ≤ 1000000) (hes : ∀ e ∈ es, ∀ c ∈ e, Pur c) (hx : ∀ c ∈ x, Pur c) :
    ACG Try.prog 113 [.own 1000 es.length, .int .i64 i, .own 1001 1] [(1000, ⟨false, 30, 5, es⟩), (1001, ⟨false, 30, 5, [x]⟩)] 0 (fun r l => r = .own 1 (es.length + 1) ∧ l = [(1, ⟨false, 30, 5, es.take i ++ (x :: es.drop i)⟩)]) := by
  refine ⟨Go.Proofs.Ytiobnaielfeeaaa.Eng.enters_of Try.func113 (by kernel_rfl) (by kernel_rfl), by simp, fun w ρ k vs hL hS hrd hU hR hargs => ?_⟩
  obtain ⟨v0, v1, v2, rfl, a0, a1, a2⟩ := insN_inv3 hargs
  obtain ⟨u0, p1, p2, ⟨p3, _⟩, p4, p5, xs0, p6, p7, p8⟩ := hR.rw 1000 _ rfl
  obtain ⟨u1, q1, q2, _, q4, q5, xs1, q6, q7, q8⟩ := hR.rw 1001 _ rfl
  dsimp only at p2 p4 p6 p7 q2 q4 q6 q7
  obtain ⟨_, _, _, hv0⟩ := rep_own.1 a0
  obtain ⟨_, _, _, hv2⟩ := rep_own.1 a2
  have := hv0 u0 p1 p2.symm
  subst this
  have := hv2 u1 q1 q2.symm
  subst this
  rw [rep_int] at a1
  subst a1
  rcases q6 with ⟨h0, _⟩ | ⟨g, cap, cur, rfl, hp, _, hg, hnc, hcm, hcs, htk, hol⟩
  · simp at h0
  have hG : Row0 w g cur.toList 30 := by show _ = _; rw [hg]
  have hbl : blk (.slice (some ⟨g, 0, none⟩) [x].length cap) = some g := blk_slice _ _ _ hp
  have htk' : cur.toList.take 5 = xs1 := by rw [← htk]; simp
  refine (insN_at w v0 es.length i xs0 g cap cur.toList 30 xs1 p6 p8 hG (fun e => ?_) htk' (by simpa using hol) q8 hi hn).mono ?_
  · have := hR.dj 1000 1001 _ _ g p1 q1 e hbl
    omega
  · rintro e w' ⟨v', rfl, m1, m2, m3⟩
    have hfl : (es.take i ++ (x :: es.drop i)).flatten = (es.take i).flatten ++ (x ++ (es.drop i).flatten) := by simp
    have hlt : (es.take i).flatten.length = i * 5 := by rw [flat_len (fun e he => p4 e (List.mem_of_mem_take he)), List.length_take, Nat.min_eq_left hi]
    have hsp : es.flatten = (es.take i).flatten ++ (es.drop i).flatten := by rw [← List.flatten_append, List.take_append_drop]
    have hl2 : (es.take i ++ (x :: es.drop i)).length = es.length + 1 := by simp; omega
    obtain ⟨ρ', r1, r2, r3, r4, r5, r6, r7, r8, r9⟩ := acg_one (k := k) (c := 0) hL hS hrd hR (m2.mono (fun b hb => ⟨1000, v0, p1, hb⟩)) ⟨false, 30, 5, es.take i ++ (x :: es.drop i)⟩ v' _ rfl p3 (fun y hy => by
      rcases List.mem_append.1 hy with hy | hy
      · exact p4 y (List.mem_of_mem_take hy)
      · rcases List.mem_cons.1 hy with rfl | hy
        · exact q4 _ (by simp)
        · exact p4 y (List.mem_of_mem_drop hy)) (by dsimp only; rw [hl2]; exact m1) (fun g hg => (m3 g hg).imp (fun h => ⟨1000, v0, p1, h⟩) (fun h => h)) (by
        dsimp only
        rw [hfl]
        rw [hsp] at p7
        have t1 := p7.take (i * 5)
        have t2 := p7.drop (i * 5)
        rw [← hlt, List.take_left] at t1
        rw [← hlt, List.drop_left] at t2
        rw [hlt] at t1 t2
        exact t1.append ((by simpa using q7 : RepL w ρ x xs1).append t2)) (fun e he c hc => by
        rcases List.mem_append.1 he with he | he
        · exact hes e (List.mem_of_mem_take he) c hc
        · rcases List.mem_cons.1 he with rfl | he
          · exact hx c hc
          · exact hes e (List.mem_of_mem_drop he) c hc) (fun u hu => by
        rcases List.mem_append.1 hu with hu | hu
        · exact p8 u (List.mem_of_mem_take hu)
        · rcases List.mem_append.1 hu with hu | hu
          · exact q8 u hu
          · exact p8 u (List.mem_of_mem_drop hu))
    exact ⟨v', _, _, ρ', rfl, r1, r2, r3, r4, r5, r6, r7, (fun id r h1 h2 u h3 => by rw [r8 id (by have := rowsOf_key h1; simp at this; omega)] at h3; cases h3), by rw [hl2] at r9; exact r9, rfl, rfl⟩
theorem delN_ACG (es : List (List AV)) (i : Nat) (hi : i < es.length) (hes : ∀ e ∈ es, ∀ c ∈ e, Pur c) :
    ACG Try.prog 109 [.own 1000 es.length, .int .i64 i, .int .i64 ((i : Int) + 1)] [(1000, ⟨false, 30, 5, es⟩)] 0 (fun r l => r = .own 1 (es.length - 1) ∧ l = [(1, ⟨false, 30, 5, es.take i ++ es.drop (i + 1)⟩)]) := by
  refine ⟨Go.Proofs.Ytiobnaielfeeaaa.Eng.enters_of Try.func109 (by kernel_rfl) (by kernel_rfl), by simp, fun w ρ k vs hL hS hrd hU hR hargs => ?_⟩
  obtain ⟨v0, v1, v2, rfl, a0, a1, a2⟩ := insN_inv3 hargs
  obtain ⟨u0, p1, p2, ⟨p3, _⟩, p4, p5, xs0, p6, p7, p8⟩ := hR.rw 1000 _ rfl
  dsimp only at p2 p4 p6 p7
  obtain ⟨_, _, _, hv0⟩ := rep_own.1 a0
  have := hv0 u0 p1 p2.symm
  subst this
  rw [rep_int] at a1 a2
  subst a1 a2
  rcases p6 with ⟨h0, _⟩ | ⟨g, cap, cur, rfl, hp, _, hg, hnc, hcm, hcs, htk, hol⟩
  · omega
  have hG : Row0 w g cur.toList 30 := by show _ = _; rw [hg]
  have hbl : blk (.slice (some ⟨g, 0, none⟩) es.length cap) = some g := blk_slice _ _ _ hp
  have hcl : cur.toList.length = cap * 5 := by rw [Array.length_toList, hcs]
  have hl2 : (es.take i ++ es.drop (i + 1)).length = es.length - 1 := by simp; omega
  have hsp : es.flatten = (es.take i).flatten ++ (es.drop i).flatten := by rw [← List.flatten_append, List.take_append_drop]
  have hlt : (es.take i).flatten.length = i * 5 := by rw [flat_len (fun e he => p4 e (List.mem_of_mem_take he)), List.length_take, Nat.min_eq_left (by omega)]
  have hlt2 : (es.take (i + 1)).flatten.length = (i + 1) * 5 := by rw [flat_len (fun e he => p4 e (List.mem_of_mem_take he)), List.length_take, Nat.min_eq_left (by omega)]
  have hsp2 : es.flatten = (es.take (i + 1)).flatten ++ (es.drop (i + 1)).flatten := by rw [← List.flatten_append, List.take_append_drop]
  have key : Calls Try.prog 109 #[.slice (some ⟨g, 0, none⟩) es.length cap, .int .i64 i, .int .i64 ((i : Int) + 1)] w fun e w' =>
      ∃ L', e = .returned (.slice (some ⟨g, 0, none⟩) (es.length - 1 : Nat) cap) ∧ Ext (fun k => k = g) w w' ∧ Row0 w' g L' 30 ∧ L'.length = cap * 5 ∧ L'.take ((es.length - 1) * 5) = xs0.take (i * 5) ++ xs0.drop ((i + 1) * 5) := by
    have hcut : cur.toList.take (i * 5) = xs0.take (i * 5) := by rw [← htk, List.take_take, Nat.min_eq_left (by omega)]
    by_cases hci : cap = i + 1
    · subst hci
      have : es.length = i + 1 := by omega
      rw [this]
      refine (delN_last w g i cur.toList hG hcl hcm).mono ?_
      rintro e w' ⟨L', rfl, m1, m2, m3, m4⟩
      refine ⟨L', by simp, m1, m2, m3, ?_⟩
      rw [Nat.add_sub_cancel, m4, hcut, List.drop_of_length_le (by rw [hol, this]; exact Nat.le_refl _), List.append_nil]
    · refine (delN_mid w g es.length cap i cur.toList hG hcl hi hnc hcm hci (by rw [htk]; exact p8)).mono ?_
      rintro e w' ⟨L', rfl, m1, m2, m3, m4⟩
      exact ⟨L', rfl, m1, m2, m3, by rw [m4, hcut, htk]⟩
  refine key.mono ?_
  rintro e w' ⟨L', rfl, m1, m2, m3, m4⟩
  have hat : Eng.RowAt w' 0 30 5 (.slice (some ⟨g, 0, none⟩) (es.length - 1) cap) (es.length - 1) (xs0.take (i * 5) ++ xs0.drop ((i + 1) * 5)) :=
    .inr ⟨g, cap, _, rfl, hp, Nat.zero_le _, m2.out, by omega, hcm, by rw [List.size_toArray, m3], by rw [← m4], by simp only [List.length_append, List.length_take, List.length_drop, hol, Nat.sub_mul, Nat.add_mul]; omega⟩
  obtain ⟨ρ', r1, r2, r3, r4, r5, r6, r7, r8, r9⟩ := acg_one (k := k) (c := 0) hL hS hrd hR (m1.mono (fun b hb => ⟨1000, _, p1, by rw [hbl, hb]⟩)) ⟨false, 30, 5, es.take i ++ es.drop (i + 1)⟩ _ _ rfl p3 (fun y hy => by
    rcases List.mem_append.1 hy with hy | hy
    · exact p4 y (List.mem_of_mem_take hy)
    · exact p4 y (List.mem_of_mem_drop hy)) (by dsimp only; rw [hl2]; exact hat) (fun g' hg' => .inl ⟨1000, _, p1, by rw [hbl]; rw [blk_slice _ _ _ hp] at hg'; exact hg'⟩) (by
      dsimp only
      rw [List.flatten_append]
      have t1 := p7
      have t2 := p7
      rw [hsp] at t1
      rw [hsp2] at t2
      have t1 := t1.take (i * 5)
      have t2 := t2.drop ((i + 1) * 5)
      rw [← hlt, List.take_left] at t1
      rw [← hlt2, List.drop_left] at t2
      rw [hlt] at t1
      rw [hlt2] at t2
      exact t1.append t2) (fun e he c hc => by
      rcases List.mem_append.1 he with he | he
      · exact hes e (List.mem_of_mem_take he) c hc
      · exact hes e (List.mem_of_mem_drop he) c hc) (fun u hu => by
      rcases List.mem_append.1 hu with hu | hu
      · exact p8 u (List.mem_of_mem_take hu)
      · exact p8 u (List.mem_of_mem_drop hu))
  exact ⟨_, _, _, ρ', rfl, r1, r2, r3, r4, r5, r6, r7, (fun id r h1 h2 u h3 => by rw [r8 id (by have := rowsOf_key h1; simp at this; omega)] at h3; cases h3), by rw [hl2] at r9; exact r9, rfl, rfl⟩
end Go.Proofs.Ytiobnaielfeeaaa
namespace Go.Proofs.Ytiobnaielfeeaaa
open Go Go.RowKit Go.Proofs.Ytiobnaielfeeaaa.Eng
theorem insS_grow (w : World) (b n i vb vc : Nat) (L M : List Value) (e1 : TypeId) (xs : List Value) (hb : Row0 w b L 9) (hv : Row0 w vb M e1) (hL : n * 1 ≤ L.length) (hM : M.take 1 = xs) (hxl : xs.length = 1) (hi : i < n) (hn : n ≤ 1000000) (h1 : ∀ u ∈ L, u.oneCell' = true) (h2 : ∀ u ∈ xs, u.oneCell' = true) :
    Calls Try.prog 112 #[.slice (some ⟨b, 0, none⟩) n n, .int .i64 i, .slice (some ⟨vb, 0, none⟩) 1 vc] w fun e w' =>
      ∃ g G Z, e = .returned (.slice (some ⟨g, 0, none⟩) (n + 1 : Nat) G) ∧ Grow w w' ∧ w.heap.size ≤ g ∧ Row0 w' g (L.take (i * 1) ++ (xs ++ ((L.take (n * 1)).drop (i * 1) ++ Z))) 9 ∧ Z.length = (G - (n + 1)) * 1 ∧ n + 1 ≤ G ∧ G ≤ maxLen := by
  obtain ⟨d, j, hs⟩ := TI.says (tab_ok _ _ tab9)
  obtain ⟨j', zv, zs, k1, k2, k3, k3', k3'', k4, k5, k6⟩ := zero_ok (w := w) (ρ := pureC nil nil none) (tab_ok _ _ tab9) (by decide)
  rw [hs.inf] at k1; cases k1
  have hjs := hs.sz
  have hjb := hs.by'
  have hinf := hs.inf
  dsimp only at hjs hjb k6
  have hzs : zv.cells.size = j.size := by rw [k3, hjs]; simpa using k6
  have hsz : (Try.prog.info? 9).map (·.size) = some 1 := by rw [hinf]; simp [hjs]
  have mixed := mixed_ok
  have hz1 : ¬ ((1 : Int) = 0) := by omega
  have hz2 : ¬ ((i : Int) = (n : Int)) := by omega
  have hz3 : (n : Int) < (n : Int) + 1 := by omega
  have hw1 : IntKind.i64.wrap ((n : Int) + 1) = (n : Int) + 1 := by rw [IntKind.wrap_i64]; omega
  have hw2 : IntKind.i64.wrap ((n : Int) + 1 - (i : Int)) = ((n + 1 - i : Nat) : Int) := by rw [IntKind.wrap_i64]; omega
  have hw3 : IntKind.i64.wrap ((i : Int) + 1) = (i : Int) + 1 := by rw [IntKind.wrap_i64]; omega
  have hb1 : (0 : Int) ≤ (i : Int) + 1 := by omega
  have hb2 : (0 : Int) ≤ (i : Int) := by omega
  have hin : i ≤ n := by omega
  have hni : ¬ (n = i) := by omega
  have htn : ((i : Int) + 1).toNat = i + 1 := by omega
  have hb3 : (i : Int) ≤ (n : Int) := by omega
  have hbn : b ≠ w.heap.size := by have := hb.lt; omega
  obtain ⟨X, hX⟩ : ∃ X, X = (L.take (n * 1)).drop (i * 1) := ⟨_, rfl⟩
  have hXl : X.length = (n - i) * 1 := by rw [hX, List.length_drop, List.length_take, Nat.sub_mul]; omega
  have hXs : X = (L.drop (i * 1)).take X.length := by rw [hXl, hX, List.drop_take, Nat.sub_mul]
  have hX1 : ∀ v ∈ X, v.oneCell' = true := fun v hv => h1 v (by rw [hX] at hv; exact List.mem_of_mem_take (List.mem_of_mem_drop hv))
  have HB := Lib.hid hb
  have HV := Lib.hid hv
  clear hb hv
  go_enter Try.func112, Try.ntmps112
  go_wp2_with (first
    | (at_builtin; refine wpList_appendZ rfl _ _ 23 3 rfl 9 j zv .i64 .i64 Try.underlying23 Try.underlying3 hinf k2 hzs b i n (n + 1 - i) rfl rfl L HB.out (by rw [hjs]; omega) (by omega) (by rw [hjs]; omega) (by omega) (by unfold maxLen; omega) (by rw [hjb]; omega) ?_; intro G w1 Z R1 Z1 G1 G2 E1; have B1 := HB.out.ext E1 (fun h => h); have V1 := HV.out.ext E1 (fun h => h); have G3 : ¬ (G = i) := (by omega); have G4 : ¬ (G = i + 1) := (by omega); have G5 : i + (n + 1 - i) = n + 1 := (by omega))
    | (refine wpList_copyN rfl (.tmp 43) (.tmp 44) 23 23 rfl 9 1 Try.underlying23 hsz w.heap.size _ _ _ vb 0 1 vc rfl rfl (L.take (i * j.size) ++ Z) M 9 e1 R1 V1 xs (by rw [hxl]; simp only [Nat.min_def]; split <;> omega) (by rw [hxl, List.drop_zero, hM]) (by simp only [List.length_append, List.length_take, Z1, hxl, hjs]; omega) h2 ?_; intro x2 w2 R2 E2; have B2 := B1.ext E2 (fun h => hbn h)))
  go_region_law_o (refine step_copyN rfl (.tmp 50) (.tmp 53) 23 23 rfl 9 1 Try.underlying23 hsz w.heap.size ((i + 1) * 1) (n + 1 - (i + 1)) (G - (i + 1)) b (i * 1) (n - i) (n - i) (by simp [Act.eval, Act.put]) (by simp [Act.eval, Act.put]) _ L 9 9 R2 B2 X (by rw [hXl, show Nat.min (n - i) (n + 1 - (i + 1)) = n - i from by rw [show n + 1 - (i + 1) = n - i by omega]; exact Nat.min_self _]) hXs (by rw [length_splice _ _ _ (by simp only [List.length_append, List.length_take, Z1, hxl, hjs]; omega)]; simp only [List.length_append, List.length_take, Z1, hXl, hjs]; omega) hX1 ?_; intro x3 w3 R3 E3)
  go_wp2
  go_ret
  have hZ : xs.length + X.length ≤ Z.length := by rw [hxl, hXl, Z1, hjs]; omega
  rw [hjs] at R3
  rw [splice_two _ _ _ _ _ _ (by rw [List.length_take]; omega) (by rw [hxl]; omega) hZ] at R3
  refine ⟨w.heap.size, G, Z.drop (xs.length + X.length), by simp, ?_, Nat.le_refl _, by rw [← hX]; exact R3, by rw [List.length_drop, hxl, hXl, Z1, hjs]; omega, by omega, G2⟩
  exact Grow.inner (Ext.drew (E1.inner E2 (fun k hk => Nat.le_of_eq (Eq.symm hk)))) E3 (fun k hk => Nat.le_of_eq (Eq.symm hk))
theorem insS_room (w : World) (b n c i vb vc : Nat) (L M : List Value) (e1 : TypeId) (xs : List Value) (hb : Row0 w b L 9) (hv : Row0 w vb M e1) (hbv : vb ≠ b) (hL : L.length = c * 1) (hM : M.take 1 = xs) (hxl : xs.length = 1) (hi : i < n) (hroom : n + 1 ≤ c) (hc : c ≤ maxLen) (h1 : ∀ u ∈ L.take (n * 1), u.oneCell' = true) (h2 : ∀ u ∈ xs, u.oneCell' = true) :
    Calls Try.prog 112 #[.slice (some ⟨b, 0, none⟩) n c, .int .i64 i, .slice (some ⟨vb, 0, none⟩) 1 vc] w fun e w' =>
      e = .returned (.slice (some ⟨b, 0, none⟩) (n + 1 : Nat) c) ∧ Ext (fun k => k = b) w w' ∧ Row0 w' b (L.take (i * 1) ++ (xs ++ ((L.take (n * 1)).drop (i * 1) ++ L.drop ((n + 1) * 1)))) 9 := by
  obtain ⟨d, j, hs⟩ := TI.says (tab_ok _ _ tab9)
  have hjs := hs.sz
  have hinf := hs.inf
  dsimp only at hjs
  have hsz : (Try.prog.info? 9).map (·.size) = some 1 := by rw [hinf]; simp [hjs]
  have hc63 : c ≤ 9223372036854775807 := by unfold maxLen at hc; exact hc
  have mixed := mixed_ok
  have hz1 : ¬ ((1 : Int) = 0) := by omega
  have hz2 : ¬ ((i : Int) = (n : Int)) := by omega
  have hz3 : ¬ ((c : Int) < (n : Int) + 1) := by omega
  have hw1 : IntKind.i64.wrap ((n : Int) + 1) = (n : Int) + 1 := by rw [IntKind.wrap_i64]; omega
  have hw3 : IntKind.i64.wrap ((i : Int) + 1) = (i : Int) + 1 := by rw [IntKind.wrap_i64]; omega
  have hb1 : (0 : Int) ≤ (i : Int) + 1 := by omega
  have hb2 : (0 : Int) ≤ (i : Int) := by omega
  have hb4 : (0 : Int) ≤ (n : Int) + 1 := by omega
  have hin : i ≤ n := by omega
  have hni : ¬ (c = i) := by omega
  have hni2 : ¬ (c = i + 1) := by omega
  have htn : ((i : Int) + 1).toNat = i + 1 := by omega
  have htn2 : ((n : Int) + 1).toNat = n + 1 := by omega
  have hb3 : (i : Int) ≤ (n : Int) := by omega
  have hb5 : (i : Int) + 1 ≤ (n : Int) + 1 := by omega
  have hb6 : (n : Int) + 1 ≤ (c : Int) := by omega
  have hb7 : (i : Int) ≤ (n : Int) + 1 := by omega
  obtain ⟨X, hX⟩ : ∃ X, X = (L.take (n * 1)).drop (i * 1) := ⟨_, rfl⟩
  have hXl : X.length = (n - i) * 1 := by rw [hX, List.length_drop, List.length_take, Nat.sub_mul, hL]; omega
  have hXs : X = (L.drop (i * 1)).take X.length := by rw [hXl, hX, List.drop_take, Nat.sub_mul]
  have hX1 : ∀ v ∈ X, v.oneCell' = true := fun v hv => h1 v (by rw [hX] at hv; exact List.mem_of_mem_drop hv)
  have hov : ∀ lb cb, (callFunc 127 #[.slice (some ⟨vb, 0, none⟩) 1 vc, .slice (some ⟨b, i + 1, none⟩) lb cb]).run Try.prog w = .ok (.value (.bool false)) w := fun lb cb => by
    rw [run_callFunc_extern (P := Try.prog) (f := 127) (fn := Try.f127) (e := Extern.SlicesOverlaps.overlaps #[23, 23] #[4]) (by kernel_rfl) (by kernel_rfl) (by kernel_rfl) (by kernel_rfl) (by kernel_rfl)]
    rw [run_overlaps_rows (P := Try.prog) w 23 4 9 Try.underlying23 1 (fun w => hs.sizeOf w) vb 0 b (i + 1) 1 vc lb cb M L e1 9 hv hb hbv (by rw [hL]; omega)]
    rfl
  have HB := Lib.hid hb
  have HV := Lib.hid hv
  clear hb hv
  go_enter Try.func112, Try.ntmps112
  go_wp2_with (simp only [hov])
  go_region_law_o (refine step_copyN rfl (.tmp 73) (.tmp 76) 23 23 rfl 9 1 Try.underlying23 hsz b ((i + 1) * 1) (n + 1 - (i + 1)) (c - (i + 1)) b (i * 1) (n + 1 - i) (c - i) (by simp [Act.eval, Act.put]) (by simp [Act.eval, Act.put]) L L 9 9 HB.out HB.out X (by rw [hXl, show Nat.min (n + 1 - i) (n + 1 - (i + 1)) = n - i from by rw [show n + 1 - (i + 1) = n - i by omega]; exact Nat.min_eq_right (by omega)]) hXs (by rw [hXl, hL]; omega) hX1 ?_; intro x2 w2 R2 E2)
  have V2 := HV.out.ext (Ext.trans (Ext.drew (Ext.refl _ w)) E2) (fun h => hbv h)
  go_wp2_with (refine wpList_copyN rfl (.tmp 80) (.tmp 81) 23 23 rfl 9 1 Try.underlying23 hsz b _ _ _ vb 0 1 vc rfl rfl (splice L ((i + 1) * 1) X) M 9 e1 R2 V2 xs (by rw [hxl]; simp only [Nat.min_def]; split <;> omega) (by rw [hxl, List.drop_zero, hM]) (by rw [length_splice _ _ _ (by rw [hXl, hL]; omega), hxl, hL]; omega) h2 ?_; intro x3 w3 R3 E3)
  go_ret
  simp only [Nat.mul_one] at R3 ⊢
  rw [splice_shift L xs X i 1 (by simpa using hxl) (by rw [hXl, hL]; omega)] at R3
  refine ⟨by simp, Ext.trans (Ext.trans (Ext.drew (Ext.refl _ w)) E2) E3, ?_⟩
  rw [Nat.mul_one] at hX
  rw [Nat.mul_one] at hX
  rw [← hX, show n + 1 = i + 1 + X.length by rw [hXl]; omega]
  exact R3
theorem delS_last (w : World) (b i : Nat) (L : List Value) (hb : Row0 w b L 9) (hL : L.length = (i + 1) * 1) (hc : i + 1 ≤ maxLen) :
    Calls Try.prog 108 #[.slice (some ⟨b, 0, none⟩) (i + 1) (i + 1), .int .i64 i, .int .i64 ((i : Int) + 1)] w fun e w' =>
      ∃ L', e = .returned (.slice (some ⟨b, 0, none⟩) i (i + 1)) ∧ Ext (fun k => k = b) w w' ∧ Row0 w' b L' 9 ∧ L'.length = (i + 1) * 1 ∧ L'.take (i * 1) = L.take (i * 1) := by
  obtain ⟨d, j, hs⟩ := TI.says (tab_ok _ _ tab9)
  obtain ⟨j', zv, zs, k1, k2, k3, k3', k3'', k4, k5, k6⟩ := zero_ok (w := w) (ρ := pureC nil nil none) (tab_ok _ _ tab9) (by decide)
  rw [hs.inf] at k1; cases k1
  have hjs := hs.sz
  have hinf := hs.inf
  dsimp only at hjs k6
  have hzs : zv.cells.size = j.size := by rw [k3, hjs]; simpa using k6
  have hz1c : ∀ u ∈ zv.cells.toList, u.oneCell' = true := by rw [k3]; simpa using k5
  have hc63 : i + 1 ≤ 9223372036854775807 := by unfold maxLen at hc; exact hc
  have mixed := mixed_ok
  have hz1 : ¬ ((i : Int) = (i : Int) + 1) := by omega
  have hb1 : (0 : Int) ≤ (i : Int) + 1 := by omega
  have hb2 : (0 : Int) ≤ (i : Int) := by omega
  have hb3 : (i : Int) ≤ (i : Int) + 1 := by omega
  have htn : ((i : Int) + 1).toNat = i + 1 := by omega
  have hni : ¬ (i + 1 = i) := by omega
  have hll : i + 1 - i = 1 := by omega
  have hX1 : ∀ v ∈ ([] : List Value), v.oneCell' = true := fun v hv => by cases hv
  have HB := Lib.hid hb
  clear hb
  go_enter Try.func108, Try.ntmps108
  go_wp2_with fail
  go_region_law_o (refine step_appendN rfl (.tmp 22) (.tmp 25) 23 9 rfl j Try.underlying23 hinf b i (i + 1) b 0 0 0 (by simp [Act.eval, Act.put]) (by simp [Act.eval, Act.put]) L L 9 HB.out HB.out [] (by simp) (by simp) (by omega) (by rw [hjs, hL]; simp only [List.length_nil]; omega) hX1 ?_; intro w2 R2 E2)
  have hsp : splice L (i * j.size) [] = L := by unfold splice; simp
  rw [hsp] at R2
  go_wp2_with (refine wpList_clearN rfl (.tmp 31) 23 9 rfl j zv Try.underlying23 hinf k2 hzs hz1c b _ _ _ rfl (by omega) _ R2 (by rw [hjs, hL]; omega) ?_; intro v3 w3 Z R3 Zl Z1 E3)
  go_ret
  refine ⟨_, by simp, Ext.trans (Ext.trans (Ext.drew (Ext.refl _ w)) E2) E3, R3, by rw [length_splice _ _ _ (by rw [hL, Zl, hjs]; omega), hL], ?_⟩
  unfold splice
  rw [List.take_append_of_le_length (by rw [List.length_take, hL]; omega), List.take_take]
  simp
theorem delS_mid (w : World) (b n c i : Nat) (L : List Value) (hb : Row0 w b L 9) (hL : L.length = c * 1) (hi : i < n) (hnc : n ≤ c) (hc : c ≤ maxLen) (hci : ¬ c = i + 1) (h1 : ∀ u ∈ L.take (n * 1), u.oneCell' = true) :
    Calls Try.prog 108 #[.slice (some ⟨b, 0, none⟩) n c, .int .i64 i, .int .i64 ((i : Int) + 1)] w fun e w' =>
      ∃ L', e = .returned (.slice (some ⟨b, 0, none⟩) (n - 1 : Nat) c) ∧ Ext (fun k => k = b) w w' ∧ Row0 w' b L' 9 ∧ L'.length = c * 1 ∧ L'.take ((n - 1) * 1) = L.take (i * 1) ++ (L.take (n * 1)).drop ((i + 1) * 1) := by
  obtain ⟨d, j, hs⟩ := TI.says (tab_ok _ _ tab9)
  obtain ⟨j', zv, zs, k1, k2, k3, k3', k3'', k4, k5, k6⟩ := zero_ok (w := w) (ρ := pureC nil nil none) (tab_ok _ _ tab9) (by decide)
  rw [hs.inf] at k1; cases k1
  have hjs := hs.sz
  have hinf := hs.inf
  dsimp only at hjs k6
  have hzs : zv.cells.size = j.size := by rw [k3, hjs]; simpa using k6
  have hz1c : ∀ u ∈ zv.cells.toList, u.oneCell' = true := by rw [k3]; simpa using k5
  have hc63 : c ≤ 9223372036854775807 := by unfold maxLen at hc; exact hc
  have mixed := mixed_ok
  have hz1 : ¬ ((i : Int) = (i : Int) + 1) := by omega
  have hb1 : (0 : Int) ≤ (i : Int) + 1 := by omega
  have hb2 : (0 : Int) ≤ (i : Int) := by omega
  have hb3 : (i : Int) ≤ (i : Int) + 1 := by omega
  have hb4 : (i : Int) + 1 ≤ (n : Int) := by omega
  have hb5 : (n : Int) ≤ (c : Int) := by omega
  have hb6 : (i : Int) ≤ (n : Int) := by omega
  have hb7 : (i : Int) ≤ (c : Int) := by omega
  have htn : ((i : Int) + 1).toNat = i + 1 := by omega
  have hni : ¬ (c = i) := by omega
  have hni3 : ¬ (n = i) := by omega
  obtain ⟨X, hX⟩ : ∃ X, X = (L.take (n * 1)).drop ((i + 1) * 1) := ⟨_, rfl⟩
  have hXl : X.length = (n - (i + 1)) * 1 := by rw [hX, List.length_drop, List.length_take, Nat.sub_mul, hL]; omega
  have hX1 : ∀ v ∈ X, v.oneCell' = true := fun v hv => h1 v (by rw [hX] at hv; exact List.mem_of_mem_drop hv)
  have hm : i + (n - (i + 1)) = n - 1 := by omega
  have hlast : n - (i + (n - (i + 1))) = 1 := by omega
  have hlc : (((n - 1 : Nat) : Int)) ≤ (n : Int) := by omega
  have hl0 : (0 : Int) ≤ ((n - 1 : Nat) : Int) := by omega
  have hnl : ¬ (c = n - 1) := by omega
  have hln : (splice L (i * j.size) X).length = c * 1 := by rw [length_splice _ _ _ (by rw [hXl, hjs, hL]; omega), hL]
  have HB := Lib.hid hb
  clear hb
  go_enter Try.func108, Try.ntmps108
  go_wp2_with fail
  go_region_law_o (refine step_appendN rfl (.tmp 22) (.tmp 25) 23 9 rfl j Try.underlying23 hinf b i c b ((i + 1) * 1) (n - (i + 1)) (c - (i + 1)) (by simp [Act.eval, Act.put]) (by simp [Act.eval, Act.put]) L L 9 HB.out HB.out X (by rw [hXl, hjs]) (by rw [hXl, hX]; rw [List.drop_take, Nat.sub_mul]) (by omega) (by rw [hjs, hXl, hL]; omega) hX1 ?_; intro w2 R2 E2)
  go_wp2_with (refine wpList_clearN rfl (.tmp 31) 23 9 rfl j zv Try.underlying23 hinf k2 hzs hz1c b _ _ _ rfl (by omega) _ R2 (by rw [hln, hjs]; omega) ?_; intro v3 w3 Z R3 Zl Z1 E3)
  go_ret
  refine ⟨_, by simp, Ext.trans (Ext.trans (Ext.drew (Ext.refl _ w)) E2) E3, R3, by rw [length_splice _ _ _ (by rw [hln, Zl, hjs]; omega), hln], ?_⟩
  rw [← hX]
  have e1 : splice L (i * j.size) X = L.take (i * 1) ++ X ++ L.drop ((n - 1) * 1) := by
    unfold splice
    rw [hXl, hjs, show i * 1 + (n - (i + 1)) * 1 = (n - 1) * 1 by omega, List.append_assoc]
  have e2 : (L.take (i * 1) ++ X).length = (n - 1) * 1 := by rw [List.length_append, List.length_take, hXl, hL]; omega
  unfold splice at e1 hln ⊢
  rw [List.take_append_of_le_length (by rw [List.length_take, hln]; omega), List.take_take, Nat.min_eq_left (by omega), e1, List.take_append_of_le_length (by omega), List.take_of_length_le (by omega)]
theorem wp_appRS {w : World} {ops : Array Oper} {rest : List Oper} {o : Oper} {a : Act} {Q : Exit → Act → World → Prop} (hgd : o.guard = none) (ho : o.op = .call { callee := .builtin .append, args := #[.tmp 23, .tmp 24], argTypes := #[23, 23] })
    (u : Value) (hx : a.eval (.tmp 23) = u) (n : Nat) (olds : List Value) (hat : Hid (Eng.RowAt w 0 9 1 u n olds)) (vb vc : Nat) (hy : a.eval (.tmp 24) = .slice (some ⟨vb, 0, none⟩) 1 vc) (M : List Value) (e1 : TypeId) (hv : Row0 w vb M e1) (xs : List Value) (hM : M.take 1 = xs) (hxl : xs.length = 1) (h2 : ∀ u ∈ xs, u.oneCell' = true) (hn : n ≤ 1000000)
    (h : ∀ v' w', Eng.RowAt w' 0 9 1 v' (n + 1) (olds ++ xs) → Ext (fun k => blk u = some k) w w' → (∀ g, blk v' = some g → blk u = some g ∨ w.heap.size ≤ g) → wpList Try.prog ops Q rest (a.put o.dst v') w') : wpList Try.prog ops Q (o :: rest) a w := by
  obtain ⟨d, j, hs⟩ := TI.says (tab_ok _ _ tab9)
  obtain ⟨j', zv, zs, k1, k2, k3, k3', k3'', k4, k5, k6⟩ := zero_ok (w := w) (ρ := pureC nil nil none) (tab_ok _ _ tab9) (by decide)
  rw [hs.inf] at k1; cases k1
  have hjs := hs.sz
  have hjb := hs.by'
  dsimp only at hjs hjb k6
  have hsrc : Eng.Src w (some ⟨vb, 0, none⟩) 1 xs := .inr ⟨_, rfl, fun q v hq => by
    rw [addr_plus, Nat.zero_add]
    refine hv.cell ?_
    rw [← hM] at hq
    have hl := (List.getElem?_eq_some_iff.1 hq).1
    rw [List.length_take] at hl
    rwa [List.getElem?_take_of_lt (by omega)] at hq⟩
  obtain ⟨v', w', m1, m2, m3, m4, _⟩ := run_append_row (P := Try.prog) (B := 0) 23 o.type 9 j zv Try.underlying23 hs.inf k2 (by rw [k3, hjs]; simpa using k6) (by rw [hjs]; exact hat.out) (Nat.zero_le _) (some ⟨vb, 0, none⟩) 1 vc xs (by rw [hxl, hjs]) hsrc h2 (by rw [hjb]; omega) (by unfold maxLen; omega)
  refine wpList_plain hgd fun K hK => ?_
  unfold Oper.wp
  simp only [execOp, ho, resolve, invoke, builtin, Sem.run_bind, Sem.run_pure, Result.andThen_ok, List.map_toArray, List.map_cons, List.map_nil, hx, hy, m1]
  exact hK _ _ (h v' w' (by rw [hjs] at m2; exact m2) m3 m4)
theorem insS_end (w : World) (b n c vb vc : Nat) (M : List Value) (e1 : TypeId) (xs olds : List Value) (hat : Eng.RowAt w 0 9 1 (.slice (some ⟨b, 0, none⟩) n c) n olds) (hv : Row0 w vb M e1) (hM : M.take 1 = xs) (hxl : xs.length = 1) (h2 : ∀ u ∈ xs, u.oneCell' = true) (hn : n ≤ 1000000) (hnc : n ≤ c) (hc : c ≤ maxLen) :
    Calls Try.prog 112 #[.slice (some ⟨b, 0, none⟩) n c, .int .i64 n, .slice (some ⟨vb, 0, none⟩) 1 vc] w fun e w' =>
      ∃ v', e = .returned v' ∧ Eng.RowAt w' 0 9 1 v' (n + 1) (olds ++ xs) ∧ Ext (fun k => blk (.slice (some ⟨b, 0, none⟩) n c) = some k) w w' ∧ ∀ g, blk v' = some g → blk (.slice (some ⟨b, 0, none⟩) n c) = some g ∨ w.heap.size ≤ g := by
  have hc63 : c ≤ 9223372036854775807 := by unfold maxLen at hc; exact hc
  have hz1 : ¬ ((1 : Int) = 0) := by omega
  have hb2 : (0 : Int) ≤ (n : Int) := by omega
  have hb3 : (n : Int) ≤ (c : Int) := by omega
  have HA := Lib.hid hat
  have HV := Lib.hid hv
  clear hat hv
  by_cases hcn : c = n
  · go_enter Try.func112, Try.ntmps112
    go_wp2_with (at_builtin; refine wp_appRS rfl rfl (.slice (some ⟨b, 0, none⟩) n c) (by simp [Act.eval, Act.put, hcn]) n olds HA vb vc rfl M e1 HV.out xs hM hxl h2 hn ?_; intro v4 w4 R4 E4 B4)
    go_ret
    exact ⟨_, by simp, R4, E4, B4⟩
  · go_enter Try.func112, Try.ntmps112
    go_wp2_with (at_builtin; refine wp_appRS rfl rfl (.slice (some ⟨b, 0, none⟩) n c) (by simp [Act.eval, Act.put]) n olds HA vb vc rfl M e1 HV.out xs hM hxl h2 hn ?_; intro v4 w4 R4 E4 B4)
    go_ret
    exact ⟨_, by simp, R4, E4, B4⟩
theorem insS_nil (w : World) (ad : Option Addr) (vb vc : Nat) (M : List Value) (e1 : TypeId) (xs : List Value) (hv : Row0 w vb M e1) (hM : M.take 1 = xs) (hxl : xs.length = 1) (h2 : ∀ u ∈ xs, u.oneCell' = true) :
    Calls Try.prog 112 #[.slice ad 0 0, .int .i64 0, .slice (some ⟨vb, 0, none⟩) 1 vc] w fun e w' =>
      ∃ v', e = .returned v' ∧ Eng.RowAt w' 0 9 1 v' 1 xs ∧ Grow w w' ∧ ∀ g, blk v' = some g → w.heap.size ≤ g := by
  have hat : Eng.RowAt w 0 9 1 (.slice ad 0 0) 0 [] := .inl ⟨rfl, rfl, ad, rfl⟩
  have hnb : ∀ k, ¬ blk (.slice ad 0 0) = some k := fun k hk => by cases ad <;> simp [blk] at hk
  have hz1 : ¬ ((1 : Int) = 0) := by omega
  have HA := Lib.hid hat
  have HV := Lib.hid hv
  clear hat hv
  cases ad with
  | none =>
    go_enter Try.func112, Try.ntmps112
    go_wp2_with (at_builtin; refine wp_appRS rfl rfl (.slice none 0 0) (by simp [Act.eval, Act.put]) 0 [] HA vb vc rfl M e1 HV.out xs hM hxl h2 (by omega) ?_; intro v4 w4 R4 E4 B4)
    go_ret
    exact ⟨v4, by simp, by simpa using R4, E4.mono (fun k hk => hnb k hk), fun g hg => (B4 g (by simpa using hg)).resolve_left (hnb g)⟩
  | some ad =>
    go_enter Try.func112, Try.ntmps112
    go_wp2_with (at_builtin; refine wp_appRS rfl rfl (.slice (some ad) 0 0) (by simp [Act.eval, Act.put]) 0 [] HA vb vc rfl M e1 HV.out xs hM hxl h2 (by omega) ?_; intro v4 w4 R4 E4 B4)
    go_ret
    exact ⟨v4, by simp, by simpa using R4, E4.mono (fun k hk => hnb k hk), fun g hg => (B4 g (by simpa using hg)).resolve_left (hnb g)⟩
theorem insS_at (w : World) (u : Value) (n i : Nat) (olds : List Value) (vb vc : Nat) (M : List Value) (e1 : TypeId) (xs : List Value) (hat : Eng.RowAt w 0 9 1 u n olds) (hone : ∀ u ∈ olds, u.oneCell' = true) (hv : Row0 w vb M e1) (hne : blk u ≠ some vb) (hM : M.take 1 = xs) (hxl : xs.length = 1) (h2 : ∀ u ∈ xs, u.oneCell' = true) (hi : i ≤ n) (hn : n ≤ 1000000) :
    Calls Try.prog 112 #[u, .int .i64 i, .slice (some ⟨vb, 0, none⟩) 1 vc] w fun e w' =>
      ∃ v', e = .returned v' ∧ Eng.RowAt w' 0 9 1 v' (n + 1) (olds.take (i * 1) ++ (xs ++ olds.drop (i * 1))) ∧ Ext (fun k => blk u = some k) w w' ∧ ∀ g, blk v' = some g → blk u = some g ∨ w.heap.size ≤ g := by
  have hat0 := hat
  rcases hat with ⟨rfl, rfl, ad, rfl⟩ | ⟨g, cap, cur, rfl, hp, _, hg, hnc, hcm, hcs, htk, hol⟩
  · have : i = 0 := by omega
    subst this
    refine (insS_nil w ad vb vc M e1 xs hv hM hxl h2).mono ?_
    rintro e w' ⟨v', rfl, q1, q2, q3⟩
    exact ⟨v', rfl, by simpa using q1, q2.mono (fun _ h => h.elim), fun g hg => .inr (q3 g hg)⟩
  · have hbl : blk (.slice (some ⟨g, 0, none⟩) n cap) = some g := blk_slice _ _ _ hp
    have hG : Row0 w g cur.toList 9 := by show _ = _; rw [hg]
    rcases Nat.lt_or_ge i n with hlt | hge
    · have hcl : cur.toList.length = cap * 1 := by rw [Array.length_toList, hcs]
      have hcut : (cur.toList.take (n * 1)).take (i * 1) = cur.toList.take (i * 1) := by rw [List.take_take, Nat.min_eq_left (by omega)]
      rcases Nat.lt_or_ge n cap with hroom | hfull
      · refine (insS_room w g n cap i vb vc cur.toList M e1 xs hG hv (fun e => hne (by rw [hbl, e])) hcl hM hxl hlt hroom hcm (by rw [htk]; exact hone) h2).mono ?_
        rintro e w' ⟨rfl, q1, q2⟩
        refine ⟨_, rfl, .inr ⟨g, cap, _, rfl, hp, Nat.zero_le _, q2.out, hroom, hcm, ?_, ?_, ?_⟩, q1.mono (fun k hk => by rw [hk]; exact hbl), fun g' hg' => by rw [blk_slice _ _ _ hp] at hg'; exact .inl (by rw [hbl]; exact hg')⟩
        · simp only [List.size_toArray, List.length_append, List.length_take, List.length_drop, hcl, hxl, Nat.add_mul]; omega
        · simp only [List.append_assoc]
          rw [htk, ← hcut, htk, ← List.append_assoc xs, ← List.append_assoc, ← List.append_assoc]
          exact List.take_left' (by simp only [List.length_append, List.length_take, List.length_drop, hol, hxl, Nat.add_mul]; omega)
        · simp only [List.length_append, List.length_take, List.length_drop, hol, hxl, Nat.add_mul]; omega
      · have hce : cap = n := by omega
        subst hce
        refine (insS_grow w g cap i vb vc cur.toList M e1 xs hG hv (by omega) hM hxl hlt hn ?_ h2).mono ?_
        · rw [← List.take_of_length_le (l := cur.toList) (i := cap * 1) (by omega), htk]; exact hone
        · rintro e w' ⟨g', G, Z, rfl, q1, q2, q3, q4, q5, q6⟩
          refine ⟨_, rfl, .inr ⟨g', G, _, rfl, by omega, Nat.zero_le _, q3.out, q5, q6, ?_, ?_, ?_⟩, q1.mono (fun _ h => h.elim), fun g'' hg' => by rw [blk_slice _ _ _ (by omega)] at hg'; cases hg'; exact .inr q2⟩
          · simp only [List.size_toArray, List.length_append, List.length_take, List.length_drop, hcl, hxl, q4, Nat.add_mul, Nat.sub_mul]; omega
          · rw [htk, ← hcut, htk, ← List.append_assoc xs, ← List.append_assoc]
            exact List.take_left' (by simp only [List.length_append, List.length_take, List.length_drop, hol, hxl, Nat.add_mul]; omega)
          · simp only [List.length_append, List.length_take, List.length_drop, hol, hxl, Nat.add_mul]; omega
    · have : i = n := by omega
      subst this
      refine (insS_end w g i cap vb vc M e1 xs olds hat0 hv hM hxl h2 hn hnc hcm).mono ?_
      rintro e w' ⟨v', rfl, q1, q2, q3⟩
      refine ⟨v', rfl, ?_, q2, q3⟩
      rw [List.take_of_length_le (by omega), List.drop_of_length_le (by omega), List.append_nil]
      exact q1
theorem insS_inv3 {w : World} {ρ : Cx} {a b c : AV} {vs : List Value} (h : RepL w ρ [a, b, c] vs) : ∃ x y z, vs = [x, y, z] ∧ Eng.Rep w ρ a x ∧ Eng.Rep w ρ b y ∧ Eng.Rep w ρ c z := by
  unfold RepL at h
  obtain ⟨x, _, rfl, h1, h⟩ := h
  unfold RepL at h
  obtain ⟨y, _, rfl, h2, h⟩ := h
  unfold RepL at h
  obtain ⟨z, _, rfl, h3, h⟩ := h
  unfold RepL at h
  subst h
  exact ⟨x, y, z, rfl, h1, h2, h3⟩
theorem insS_ACG (es : List (List AV)) (x : List AV) (i : Nat) (hi : i ≤ es.length) (hn : es.length ≤ 1000000) (hes : ∀ e ∈ es, ∀ c ∈ e, Pur c) (hx : ∀ c ∈ x, Pur c) :
    ACG Try.prog 112 [.own 1000 es.length, .int .i64 i, .own 1001 1] [(1000, ⟨false, 9, 1, es⟩), (1001, ⟨false, 9, 1, [x]⟩)] 0 (fun r l => r = .own 1 (es.length + 1) ∧ l = [(1, ⟨false, 9, 1, es.take i ++ (x :: es.drop i)⟩)]) := by
  refine ⟨Go.Proofs.Ytiobnaielfeeaaa.Eng.enters_of Try.func112 (by kernel_rfl) (by kernel_rfl), by simp, fun w ρ k vs hL hS hrd hU hR hargs => ?_⟩
  obtain ⟨v0, v1, v2, rfl, a0, a1, a2⟩ := insS_inv3 hargs
  obtain ⟨u0, p1, p2, ⟨p3, _⟩, p4, p5, xs0, p6, p7, p8⟩ := hR.rw 1000 _ rfl
  obtain ⟨u1, q1, q2, _, q4, q5, xs1, q6, q7, q8⟩ := hR.rw 1001 _ rfl
  dsimp only at p2 p4 p6 p7 q2 q4 q6 q7
  obtain ⟨_, _, _, hv0⟩ := rep_own.1 a0
  obtain ⟨_, _, _, hv2⟩ := rep_own.1 a2
  have := hv0 u0 p1 p2.symm
  subst this
  have := hv2 u1 q1 q2.symm
  subst this
  rw [rep_int] at a1
  subst a1
  rcases q6 with ⟨h0, _⟩ | ⟨g, cap, cur, rfl, hp, _, hg, hnc, hcm, hcs, htk, hol⟩
  · simp at h0
  have hG : Row0 w g cur.toList 9 := by show _ = _; rw [hg]
  have hbl : blk (.slice (some ⟨g, 0, none⟩) [x].length cap) = some g := blk_slice _ _ _ hp
  have htk' : cur.toList.take 1 = xs1 := by rw [← htk]; simp
  refine (insS_at w v0 es.length i xs0 g cap cur.toList 9 xs1 p6 p8 hG (fun e => ?_) htk' (by simpa using hol) q8 hi hn).mono ?_
  · have := hR.dj 1000 1001 _ _ g p1 q1 e hbl
    omega
  · rintro e w' ⟨v', rfl, m1, m2, m3⟩
    have hfl : (es.take i ++ (x :: es.drop i)).flatten = (es.take i).flatten ++ (x ++ (es.drop i).flatten) := by simp
    have hlt : (es.take i).flatten.length = i * 1 := by rw [flat_len (fun e he => p4 e (List.mem_of_mem_take he)), List.length_take, Nat.min_eq_left hi]
    have hsp : es.flatten = (es.take i).flatten ++ (es.drop i).flatten := by rw [← List.flatten_append, List.take_append_drop]
    have hl2 : (es.take i ++ (x :: es.drop i)).length = es.length + 1 := by simp; omega
    obtain ⟨ρ', r1, r2, r3, r4, r5, r6, r7, r8, r9⟩ := acg_one (k := k) (c := 0) hL hS hrd hR (m2.mono (fun b hb => ⟨1000, v0, p1, hb⟩)) ⟨false, 9, 1, es.take i ++ (x :: es.drop i)⟩ v' _ rfl p3 (fun y hy => by
      rcases List.mem_append.1 hy with hy | hy
      · exact p4 y (List.mem_of_mem_take hy)
      · rcases List.mem_cons.1 hy with rfl | hy
        · exact q4 _ (by simp)
        · exact p4 y (List.mem_of_mem_drop hy)) (by dsimp only; rw [hl2]; exact m1) (fun g hg => (m3 g hg).imp (fun h => ⟨1000, v0, p1, h⟩) (fun h => h)) (by
        dsimp only
        rw [hfl]
        rw [hsp] at p7
        have t1 := p7.take (i * 1)
        have t2 := p7.drop (i * 1)
        rw [← hlt, List.take_left] at t1
        rw [← hlt, List.drop_left] at t2
        rw [hlt] at t1 t2
        exact t1.append ((by simpa using q7 : RepL w ρ x xs1).append t2)) (fun e he c hc => by
        rcases List.mem_append.1 he with he | he
        · exact hes e (List.mem_of_mem_take he) c hc
        · rcases List.mem_cons.1 he with rfl | he
          · exact hx c hc
          · exact hes e (List.mem_of_mem_drop he) c hc) (fun u hu => by
        rcases List.mem_append.1 hu with hu | hu
        · exact p8 u (List.mem_of_mem_take hu)
        · rcases List.mem_append.1 hu with hu | hu
          · exact q8 u hu
          · exact p8 u (List.mem_of_mem_drop hu))
    exact ⟨v', _, _, ρ', rfl, r1, r2, r3, r4, r5, r6, r7, (fun id r h1 h2 u h3 => by rw [r8 id (by have := rowsOf_key h1; simp at this; omega)] at h3; cases h3), by rw [hl2] at r9; exact r9, rfl, rfl⟩
theorem delS_ACG (es : List (List AV)) (i : Nat) (hi : i < es.length) (hes : ∀ e ∈ es, ∀ c ∈ e, Pur c) :
    ACG Try.prog 108 [.own 1000 es.length, .int .i64 i, .int .i64 ((i : Int) + 1)] [(1000, ⟨false, 9, 1, es⟩)] 0 (fun r l => r = .own 1 (es.length - 1) ∧ l = [(1, ⟨false, 9, 1, es.take i ++ es.drop (i + 1)⟩)]) := by
  refine ⟨Go.Proofs.Ytiobnaielfeeaaa.Eng.enters_of Try.func108 (by kernel_rfl) (by kernel_rfl), by simp, fun w ρ k vs hL hS hrd hU hR hargs => ?_⟩
  obtain ⟨v0, v1, v2, rfl, a0, a1, a2⟩ := insS_inv3 hargs
  obtain ⟨u0, p1, p2, ⟨p3, _⟩, p4, p5, xs0, p6, p7, p8⟩ := hR.rw 1000 _ rfl
  dsimp only at p2 p4 p6 p7
  obtain ⟨_, _, _, hv0⟩ := rep_own.1 a0
  have := hv0 u0 p1 p2.symm
  subst this
  rw [rep_int] at a1 a2
  subst a1 a2
  rcases p6 with ⟨h0, _⟩ | ⟨g, cap, cur, rfl, hp, _, hg, hnc, hcm, hcs, htk, hol⟩
  · omega
  have hG : Row0 w g cur.toList 9 := by show _ = _; rw [hg]
  have hbl : blk (.slice (some ⟨g, 0, none⟩) es.length cap) = some g := blk_slice _ _ _ hp
  have hcl : cur.toList.length = cap * 1 := by rw [Array.length_toList, hcs]
  have hl2 : (es.take i ++ es.drop (i + 1)).length = es.length - 1 := by simp; omega
  have hsp : es.flatten = (es.take i).flatten ++ (es.drop i).flatten := by rw [← List.flatten_append, List.take_append_drop]
  have hlt : (es.take i).flatten.length = i * 1 := by rw [flat_len (fun e he => p4 e (List.mem_of_mem_take he)), List.length_take, Nat.min_eq_left (by omega)]
  have hlt2 : (es.take (i + 1)).flatten.length = (i + 1) * 1 := by rw [flat_len (fun e he => p4 e (List.mem_of_mem_take he)), List.length_take, Nat.min_eq_left (by omega)]
  have hsp2 : es.flatten = (es.take (i + 1)).flatten ++ (es.drop (i + 1)).flatten := by rw [← List.flatten_append, List.take_append_drop]
  have key : Calls Try.prog 108 #[.slice (some ⟨g, 0, none⟩) es.length cap, .int .i64 i, .int .i64 ((i : Int) + 1)] w fun e w' =>
      ∃ L', e = .returned (.slice (some ⟨g, 0, none⟩) (es.length - 1 : Nat) cap) ∧ Ext (fun k => k = g) w w' ∧ Row0 w' g L' 9 ∧ L'.length = cap * 1 ∧ L'.take ((es.length - 1) * 1) = xs0.take (i * 1) ++ xs0.drop ((i + 1) * 1) := by
    have hcut : cur.toList.take (i * 1) = xs0.take (i * 1) := by rw [← htk, List.take_take, Nat.min_eq_left (by omega)]
    by_cases hci : cap = i + 1
    · subst hci
      have : es.length = i + 1 := by omega
      rw [this]
      refine (delS_last w g i cur.toList hG hcl hcm).mono ?_
      rintro e w' ⟨L', rfl, m1, m2, m3, m4⟩
      refine ⟨L', by simp, m1, m2, m3, ?_⟩
      rw [Nat.add_sub_cancel, m4, hcut, List.drop_of_length_le (by rw [hol, this]; exact Nat.le_refl _), List.append_nil]
    · refine (delS_mid w g es.length cap i cur.toList hG hcl hi hnc hcm hci (by rw [htk]; exact p8)).mono ?_
      rintro e w' ⟨L', rfl, m1, m2, m3, m4⟩
      exact ⟨L', rfl, m1, m2, m3, by rw [m4, hcut, htk]⟩
  refine key.mono ?_
  rintro e w' ⟨L', rfl, m1, m2, m3, m4⟩
  have hat : Eng.RowAt w' 0 9 1 (.slice (some ⟨g, 0, none⟩) (es.length - 1) cap) (es.length - 1) (xs0.take (i * 1) ++ xs0.drop ((i + 1) * 1)) :=
    .inr ⟨g, cap, _, rfl, hp, Nat.zero_le _, m2.out, by omega, hcm, by rw [List.size_toArray, m3], by rw [← m4], by simp only [List.length_append, List.length_take, List.length_drop, hol, Nat.sub_mul, Nat.add_mul]; omega⟩
  obtain ⟨ρ', r1, r2, r3, r4, r5, r6, r7, r8, r9⟩ := acg_one (k := k) (c := 0) hL hS hrd hR (m1.mono (fun b hb => ⟨1000, _, p1, by rw [hbl, hb]⟩)) ⟨false, 9, 1, es.take i ++ es.drop (i + 1)⟩ _ _ rfl p3 (fun y hy => by
    rcases List.mem_append.1 hy with hy | hy
    · exact p4 y (List.mem_of_mem_take hy)
    · exact p4 y (List.mem_of_mem_drop hy)) (by dsimp only; rw [hl2]; exact hat) (fun g' hg' => .inl ⟨1000, _, p1, by rw [hbl]; rw [blk_slice _ _ _ hp] at hg'; exact hg'⟩) (by
      dsimp only
      rw [List.flatten_append]
      have t1 := p7
      have t2 := p7
      rw [hsp] at t1
      rw [hsp2] at t2
      have t1 := t1.take (i * 1)
      have t2 := t2.drop ((i + 1) * 1)
      rw [← hlt, List.take_left] at t1
      rw [← hlt2, List.drop_left] at t2
      rw [hlt] at t1
      rw [hlt2] at t2
      exact t1.append t2) (fun e he c hc => by
      rcases List.mem_append.1 he with he | he
      · exact hes e (List.mem_of_mem_take he) c hc
      · exact hes e (List.mem_of_mem_drop he) c hc) (fun u hu => by
      rcases List.mem_append.1 hu with hu | hu
      · exact p8 u (List.mem_of_mem_take hu)
      · exact p8 u (List.mem_of_mem_drop hu))
  exact ⟨_, _, _, ρ', rfl, r1, r2, r3, r4, r5, r6, r7, (fun id r h1 h2 u h3 => by rw [r8 id (by have := rowsOf_key h1; simp at this; omega)] at h3; cases h3), by rw [hl2] at r9; exact r9, rfl, rfl⟩
end Go.Proofs.Ytiobnaielfeeaaa
namespace Go.Proofs.Ytiobnaielfeeaaa.Eng
open Go Go.RowKit
attribute [local simp] big size_mk ASt.pay Option.map_map Function.comp_def awant aop acall ado aev ofVal ofVal0 ASt.put ASt.add ASt.turn ASt.kill abox aalloc astore aload ASt.at cellsTo afieldAddr afield aindexAddr aindex alen abin aint acmp astr aun apick aextract anil aslice abound abuild afill abuildSlice asCells aps avCells over upd aappend asrc amax amin aconv mkSt slots rowsOf_cons rowsOf_nil usedOf_cons usedOf_nil ZK.av List.replicate ASt.back ASt.addL ASt.killL nodeA nodeT nodeTL_eq nodeL_eq strsE_get strsE_len intsE_get intsE_len strsE_at intsE_at tab2 tab3 tab4 tab5 tab6 tab7 tab8 tab9 tab10 tab11 tab12 tab13 tab14 tab15 tab16 tab17 tab18 tab19 tab21 tab22 tab23 tab24 tab25 tab26 tab27 tab28 tab29 tab30 tab48 tab51 tab52 tab59 tab77 tab78 tab79 tab91 tab95 tab96 tab97 tab109 tab116 tab132 tab133 tab138 tab139 tab144 tab145 tab146 tab148 tab149 tab150
end Go.Proofs.Ytiobnaielfeeaaa.Eng
namespace Go.Proofs.Ytiobnaielfeeaaa.Eng
open Go Go.RowKit
def stp (kind : Int) (names : List ByteArray) (i : Nat) : ByteArray := if kind = 4 then (names[i]?).getD ⟨#[]⟩ else txt (dig1 i)
inductive Way : Nd → Prop where
  | mk (n : Nd) (h1 : n.kind = 4 → n.kids.length ≤ n.names.length) (h2 : n.kids.length ≤ 6) (h3 : ∀ k ∈ n.kids, Way k) : Way n
theorem Way.names {n : Nd} : Way n → n.kind = 4 → n.kids.length ≤ n.names.length | .mk _ h _ _ => h
theorem Way.kids {n : Nd} : Way n → n.kids.length ≤ 6 | .mk _ _ h _ => h
theorem Way.kid {n : Nd} : Way n → ∀ k ∈ n.kids, Way k | .mk _ _ _ h => h
end Go.Proofs.Ytiobnaielfeeaaa.Eng
namespace Go.Proofs.Ytiobnaielfeeaaa.Eng
open Go Go.RowKit
section
variable {P : Program} {T : Tab} {w0 : W0} {S0 : Nat → Prop} {rd0 : Option Nat} {k0 : Nat} {w : World} {a : Act} {s : ASt} {ρ : Cx}
end
section
variable {P : Program} {T : Tab} {k0 : Nat} {md : List Nat} {ops : Array Oper} {K : ASt → Prop} {o : Oper} {l : List Oper} {s : ASt}
end
end Go.Proofs.Ytiobnaielfeeaaa.Eng
namespace Go.Proofs.Ytiobnaielfeeaaa.Eng
open Go Go.RowKit
attribute [local simp] big size_mk ASt.pay Option.map_map Function.comp_def awant aop acall ado aev ofVal ofVal0 ASt.put ASt.add ASt.turn ASt.kill abox aalloc astore aload ASt.at cellsTo afieldAddr afield aindexAddr aindex alen abin aint acmp astr aun apick aextract anil aslice abound abuild afill abuildSlice asCells aps avCells over upd aappend asrc amax amin aconv mkSt slots rowsOf_cons rowsOf_nil usedOf_cons usedOf_nil ZK.av List.replicate ASt.back ASt.addL ASt.killL nodeA nodeT nodeTL_eq nodeL_eq strsE_get strsE_len intsE_get intsE_len strsE_at intsE_at tab2 tab3 tab4 tab5 tab6 tab7 tab8 tab9 tab10 tab11 tab12 tab13 tab14 tab15 tab16 tab17 tab18 tab19 tab21 tab22 tab23 tab24 tab25 tab26 tab27 tab28 tab29 tab30 tab48 tab51 tab52 tab59 tab77 tab78 tab79 tab91 tab95 tab96 tab97 tab109 tab116 tab132 tab133 tab138 tab139 tab144 tab145 tab146 tab148 tab149 tab150
theorem AC.args {P : Program} {f : FuncId} {args args' : List AV} {c : Nat} {Post : AV → Prop} (h : AC P f args c Post) (hw : ∀ w ρ vs, RepL w ρ args' vs → RepL w ρ args vs) : AC P f args' c Post :=
  ⟨h.1, fun w L S rb k vs h0 h1 h2 h3 => h.2 w L S rb k vs h0 h1 h2 (hw w _ vs h3)⟩
theorem ACR.args {P : Program} {f : FuncId} {args args' : List AV} {c : Nat} {Post0 : AV → Prop} {Post : (Nat → AV) → Row → Prop} (h : ACR P f args c Post0 Post) (hw : ∀ w ρ vs, RepL w ρ args' vs → RepL w ρ args vs) : ACR P f args' c Post0 Post :=
  ⟨h.1, fun w L S rb k vs h0 h1 h2 h3 => h.2 w L S rb k vs h0 h1 h2 (hw w _ vs h3)⟩
theorem Less.hold {s : ASt} (id : Nat) : Less s (s.hold id) := fun _ _ _ _ _ _ _ _ hs => by
  obtain ⟨ρ', h, _⟩ := SR.held hs id
  exact ⟨ρ', h⟩
end Go.Proofs.Ytiobnaielfeeaaa.Eng
