/-
  Texts of this claim, joined.
-/
import Derived.Test.YtmeobmegnneegaaPkH

set_option linter.unusedSimpArgs false
set_option linter.unusedVariables false
set_option maxRecDepth 100000
set_option maxHeartbeats 16000000
namespace Go.Proofs.Ytmeobmegnneegaa.Eng
open Go Go.RowKit
attribute [local simp] big size_mk ASt.pay Option.map_map Function.comp_def awant aop acall ado aev ofVal ofVal0 ASt.put ASt.add ASt.turn ASt.kill abox aalloc astore aload ASt.at cellsTo afieldAddr afield aindexAddr aindex alen abin aint acmp astr aun apick aextract anil aslice abound abuild afill abuildSlice asCells aps avCells over upd aappend asrc amax amin aconv mkSt slots rowsOf_cons rowsOf_nil usedOf_cons usedOf_nil ZK.av List.replicate ASt.back ASt.addL ASt.killL nodeA nodeT nodeTL_eq nodeL_eq strsE_get strsE_len intsE_get intsE_len strsE_at intsE_at tab2 tab3 tab4 tab5 tab6 tab7 tab8 tab9 tab10 tab11 tab12 tab13 tab14 tab15 tab16 tab17 tab18 tab19 tab21 tab22 tab23 tab24 tab25 tab26 tab27 tab28 tab31 tab32 tab33 tab37 tab38 tab39 tab46 tab53 tab61 tab62 tab69 tab70 tab98 tab116 tab117 tab125 tab126 tab128 tab136 tab145 tab146 tab151 tab152 tab153 tab155 tab156 tab157
theorem equalNodes_step (t t' : VC) (ks : List Nd) (hn : ks.length ≤ 1000000) (ih : ∀ k ∈ ks, AC Try.prog 51 [nodeA k, nodeA k] 0 (fun r => r = .bool true)) : AC Try.prog 101 [.view t 5 (ks.map nodeL), .view t' 5 (ks.map nodeL)] 0 (fun r => r = .bool true) := by
  refine AC.of tab_ok mixed_ok Try.func101 (by rfl) (by kernel_rfl) ?_; rintro ⟨P, T, hT, hm, w0, S0, rd0, k0⟩ hP hTT; dsimp only at hP hTT; subst hP hTT; unfold initSt; rw [Try.ntmps101]
  (repeat (first | with_reducible refine AW.seq ?_ | ((first | refine arun_kn 4 rfl (fun C hC => ?_) | refine arunD_kn 4 rfl (fun C hC => ?_)); (repeat ((conv => whnf); simp [List.length_map])); refine hC _ ?_; clear hC C; simp only [List.drop, Nat.reduceAdd]) | ((first | refine arun_kn 1 rfl (fun C hC => ?_) | refine arunD_kn 1 rfl (fun C hC => ?_)); (repeat ((conv => whnf); simp [List.length_map])); refine hC _ ?_; clear hC C; simp only [List.drop, Nat.reduceAdd]) | (refine arun_skip ?_ ?_; (focus (simp [awant, List.length_map]; done))) | (refine AW.regionK [] (fun K hK => ?_)) | (refine AW.regionDK [] (pcs [] []) (by kernel_rfl) (by kernel_rfl) (fun K hK => ?_)) | (refine AW.condT ?_ ?_; (focus (simp [aev, List.length_map]; done))) | (refine AW.condF ?_ ?_; (focus (simp [aev, List.length_map]; done))) | with_reducible refine AW.block ?_ | ((first | ((first | refine arun_nil ?_ | refine arunD_nil ?_); refine hK _ ?_; clear hK K) | refine AW.skip ?_ | refine AW.exit ?_ | refine AW.ret ?_); simp only [thenA_exit, inBlockA_exit, if_true, if_false, Nat.reduceEqDiff, thenA_normal, inBlockA_normal, reduceIte, thenA_ret, inBlockA_ret, endQ_ret, endR_ret, endG_ret, endQ_normal, endR_normal, endG_normal])))
  refine AW.loopS (fun (i : Nat) => mkSt (slots 0 27 [(0, .view t 5 (ks.map nodeL)), (1, .view t' 5 (ks.map nodeL)), (5, .int .i64 i)]) [] [] (rd0.map fun _ => 0)) (fun i => ks.length - i) (fun i => i ≤ ks.length) 0 ?_ (Nat.zero_le _) ?_
  · exact less_a
  · intro i hi
    by_cases hlt : i < ks.length
    · have hw : IntKind.i64.wrap ((i : Int) + 1) = (i : Int) + 1 := i64_nat (by omega) (by omega)
      have hik := ih ks[i] (List.getElem_mem hlt)
      (repeat (first | with_reducible refine AW.seq ?_ | ((first | refine arun_kn 4 rfl (fun C hC => ?_) | refine arunD_kn 4 rfl (fun C hC => ?_)); (repeat ((conv => whnf); simp [hlt, hw, List.length_map])); refine hC _ ?_; clear hC C; simp only [List.drop, Nat.reduceAdd]) | ((first | refine arun_kn 1 rfl (fun C hC => ?_) | refine arunD_kn 1 rfl (fun C hC => ?_)); (repeat ((conv => whnf); simp [hlt, hw, List.length_map])); refine hC _ ?_; clear hC C; simp only [List.drop, Nat.reduceAdd]) | (refine arun_skip ?_ ?_; (focus (simp [awant, hlt, hw, List.length_map]; done))) | (refine arun_c0 (hik) ?_; rintro _ rfl) | (refine arunD_c (0) (hik) ?_; rintro _ rfl; intro _) | (refine AW.regionK [] (fun K hK => ?_)) | (refine AW.regionDK [] (pcs [(8, 0, fun r => r = .bool true)] []) (by kernel_rfl) (by kernel_rfl) (fun K hK => ?_)) | (refine AW.condT ?_ ?_; (focus (simp [aev, hlt, hw, List.length_map]; done))) | (refine AW.condF ?_ ?_; (focus (simp [aev, hlt, hw, List.length_map]; done))) | with_reducible refine AW.block ?_ | ((first | ((first | refine arun_nil ?_ | refine arunD_nil ?_); refine hK _ ?_; clear hK K) | refine AW.skip ?_ | refine AW.exit ?_ | refine AW.ret ?_); simp only [thenA_exit, inBlockA_exit, if_true, if_false, Nat.reduceEqDiff, thenA_normal, inBlockA_normal, reduceIte, thenA_ret, inBlockA_ret, endQ_ret, endR_ret, endG_ret, endQ_normal, endR_normal, endG_normal])))
      exact ⟨i + 1, by omega, by omega, less_a⟩
    · (repeat (first | with_reducible refine AW.seq ?_ | ((first | refine arun_kn 4 rfl (fun C hC => ?_) | refine arunD_kn 4 rfl (fun C hC => ?_)); (repeat ((conv => whnf); simp [hlt, List.length_map])); refine hC _ ?_; clear hC C; simp only [List.drop, Nat.reduceAdd]) | ((first | refine arun_kn 1 rfl (fun C hC => ?_) | refine arunD_kn 1 rfl (fun C hC => ?_)); (repeat ((conv => whnf); simp [hlt, List.length_map])); refine hC _ ?_; clear hC C; simp only [List.drop, Nat.reduceAdd]) | (refine arun_skip ?_ ?_; (focus (simp [awant, hlt, List.length_map]; done))) | (refine AW.regionK [] (fun K hK => ?_)) | (refine AW.regionDK [] (pcs [] []) (by kernel_rfl) (by kernel_rfl) (fun K hK => ?_)) | (refine AW.condT ?_ ?_; (focus (simp [aev, hlt, List.length_map]; done))) | (refine AW.condF ?_ ?_; (focus (simp [aev, hlt, List.length_map]; done))) | with_reducible refine AW.block ?_ | ((first | ((first | refine arun_nil ?_ | refine arunD_nil ?_); refine hK _ ?_; clear hK K) | refine AW.skip ?_ | refine AW.exit ?_ | refine AW.ret ?_); simp only [thenA_exit, inBlockA_exit, if_true, if_false, Nat.reduceEqDiff, thenA_normal, inBlockA_normal, reduceIte, thenA_ret, inBlockA_ret, endQ_ret, endR_ret, endG_ret, endQ_normal, endR_normal, endG_normal])))
      exact ⟨.bool true, by simp [ares, aresL], pur_bool, rfl⟩
theorem equalNode_step (n : Nd) (hs : Sml n) (t t' : VC) (ih : ∀ k ∈ n.kids, AC Try.prog 51 [nodeA k, nodeA k] 0 (fun r => r = .bool true)) : AC Try.prog 51 [nodeT t n, nodeT t' n] 0 (fun r => r = .bool true) := by
  have hs1 := hs.names
  have hs2 := hs.kids
  have p1 := equalTexts_AC t t' n.names n.names (by omega)
  have p2 := equalNodes_step .loose .loose n.kids (by omega) ih
  rw [eqT_refl] at p1
  refine AC.of tab_ok mixed_ok Try.func51 (by rfl) (by kernel_rfl) ?_; rintro ⟨P, T, hT, hm, w0, S0, rd0, k0⟩ hP hTT; dsimp only at hP hTT; subst hP hTT; unfold initSt; rw [Try.ntmps51]
  unfold nodeT
  rw [nodeTL_eq, nodeTL_eq]
  (repeat (first | with_reducible refine AW.seq ?_ | ((first | refine arun_kn 4 rfl (fun C hC => ?_) | refine arunD_kn 4 rfl (fun C hC => ?_)); (repeat ((conv => whnf); simp [eqs_self', nodeTL_eq])); refine hC _ ?_; clear hC C; simp only [List.drop, Nat.reduceAdd]) | ((first | refine arun_kn 1 rfl (fun C hC => ?_) | refine arunD_kn 1 rfl (fun C hC => ?_)); (repeat ((conv => whnf); simp [eqs_self', nodeTL_eq])); refine hC _ ?_; clear hC C; simp only [List.drop, Nat.reduceAdd]) | (refine arun_skip ?_ ?_; (focus (simp [awant, eqs_self', nodeTL_eq]; done))) | (refine arun_c0 (p1) ?_; rintro _ rfl) | (refine arun_c0 (p2) ?_; rintro _ rfl) | (refine AW.regionK [] (fun K hK => ?_)) | (refine AW.regionDK [] (pcs [] []) (by kernel_rfl) (by kernel_rfl) (fun K hK => ?_)) | (refine AW.condT ?_ ?_; (focus (simp [aev, eqs_self', nodeTL_eq]; done))) | (refine AW.condF ?_ ?_; (focus (simp [aev, eqs_self', nodeTL_eq]; done))) | with_reducible refine AW.block ?_ | ((first | ((first | refine arun_nil ?_ | refine arunD_nil ?_); refine hK _ ?_; clear hK K) | refine AW.skip ?_ | refine AW.exit ?_ | refine AW.ret ?_); simp only [thenA_exit, inBlockA_exit, if_true, if_false, Nat.reduceEqDiff, thenA_normal, inBlockA_normal, reduceIte, thenA_ret, inBlockA_ret, endQ_ret, endR_ret, endG_ret, endQ_normal, endR_normal, endG_normal])))
  exact ⟨.bool true, by simp [ares, aresL], pur_bool, rfl⟩
theorem equalNode_AC : ∀ n, Sml n → ∀ t t', AC Try.prog 51 [nodeT t n, nodeT t' n] 0 (fun r => r = .bool true) := Nd.ind' _ (fun n ih hs t t' =>
  equalNode_step n hs t t' (fun k hk => by have := ih k hk (hs.kid hk) .loose .loose; rwa [nodeT_loose] at this))
end Go.Proofs.Ytmeobmegnneegaa.Eng
-- EV: store
namespace Go.Proofs.Ytmeobmegnneegaa.Eng
open Go Go.RowKit
attribute [local simp] big size_mk ASt.pay Option.map_map Function.comp_def awant aop acall ado aev ofVal ofVal0 ASt.put ASt.add ASt.turn ASt.kill abox aalloc astore aload ASt.at cellsTo afieldAddr afield aindexAddr aindex alen abin aint acmp astr aun apick aextract anil aslice abound abuild afill abuildSlice asCells aps avCells over upd aappend asrc amax amin aconv mkSt slots rowsOf_cons rowsOf_nil usedOf_cons usedOf_nil ZK.av List.replicate ASt.back ASt.addL ASt.killL nodeA nodeT nodeTL_eq nodeL_eq strsE_get strsE_len intsE_get intsE_len strsE_at intsE_at itemA itemL_eq storeA storeT storeO itemsRow tab2 tab3 tab4 tab5 tab6 tab7 tab8 tab9 tab10 tab11 tab12 tab13 tab14 tab15 tab16 tab17 tab18 tab19 tab21 tab22 tab23 tab24 tab25 tab26 tab27 tab28 tab31 tab32 tab33 tab37 tab38 tab39 tab46 tab53 tab61 tab62 tab69 tab70 tab98 tab116 tab117 tab125 tab126 tab128 tab136 tab145 tab146 tab151 tab152 tab153 tab155 tab156 tab157
theorem gt_name {s : Sto} {nm : ByteArray} (h : gtB s nm = true) : eqs (gtI s nm).1 nm = true := by
  have h' := h
  unfold gtB at h'
  rw [Bool.and_eq_true] at h'
  obtain ⟨-, hl, e1, e2⟩ := gt_yes h'.1 h'.2
  rw [e1, eqs_iff]; exact e2
end Go.Proofs.Ytmeobmegnneegaa.Eng
-- EV: store
namespace Go.Proofs.Ytmeobmegnneegaa.Eng
open Go Go.RowKit
attribute [local simp] big size_mk ASt.pay Option.map_map Function.comp_def awant aop acall ado aev ofVal ofVal0 ASt.put ASt.add ASt.turn ASt.kill abox aalloc astore aload ASt.at cellsTo afieldAddr afield aindexAddr aindex alen abin aint acmp astr aun apick aextract anil aslice abound abuild afill abuildSlice asCells aps avCells over upd aappend asrc amax amin aconv mkSt slots rowsOf_cons rowsOf_nil usedOf_cons usedOf_nil ZK.av List.replicate ASt.back ASt.addL ASt.killL nodeA nodeT nodeTL_eq nodeL_eq strsE_get strsE_len intsE_get intsE_len strsE_at intsE_at itemA itemL_eq storeA storeT storeO itemsRow tab2 tab3 tab4 tab5 tab6 tab7 tab8 tab9 tab10 tab11 tab12 tab13 tab14 tab15 tab16 tab17 tab18 tab19 tab21 tab22 tab23 tab24 tab25 tab26 tab27 tab28 tab31 tab32 tab33 tab37 tab38 tab39 tab46 tab53 tab61 tab62 tab69 tab70 tab98 tab116 tab117 tab125 tab126 tab128 tab136 tab145 tab146 tab151 tab152 tab153 tab155 tab156 tab157
theorem gt_at {s : Sto} (h : storeB s = true) (i : Nat) (hi : i < s.1.length) : gtB s s.1[i].1 = true ∧ gtI s s.1[i].1 = s.1[i] := by
  have hm : mem (nmL s.1) s.1[i].1 = true := mem_iff.2 (List.mem_map.2 ⟨s.1[i], List.getElem_mem hi, rfl⟩)
  obtain ⟨e0, hl, e1, e2⟩ := gt_yes h hm
  refine ⟨e0, ?_⟩
  rw [e1]
  have hp := (storeB_parts h).2.2.2.2
  have key : ∀ a b (ha : a < s.1.length) (hb : b < s.1.length), a < b → s.1[a].1 ≠ s.1[b].1 := fun a b ha hb hab e => by
    have := List.pairwise_iff_getElem.1 hp a b (by simpa using ha) (by simpa using hb) hab
    simp only [List.getElem_map] at this
    rw [e] at this
    rw [show lt s.1[b].1 s.1[b].1 = false from bl_irrefl _] at this; cases this
  rcases Nat.lt_trichotomy (lbound (nmL s.1) s.1[i].1) i with hlt | heq | hgt
  · exact absurd e2 (key _ _ hl hi hlt)
  · simp only [heq]
  · exact absurd e2.symm (key _ _ hi hl hgt)
theorem equalItems_AC (t t' : VC) (xs : List Itm) (hn : xs.length ≤ 1000000) (hs : ∀ x ∈ xs, Sml x.2.2) : AC Try.prog 48 [.view t 7 (xs.map itemL), .view t' 7 (xs.map itemL)] 0 (fun r => r = .bool true) := by
  refine AC.of tab_ok mixed_ok Try.func48 (by rfl) (by kernel_rfl) ?_; rintro ⟨P, T, hT, hm, w0, S0, rd0, k0⟩ hP hTT; dsimp only at hP hTT; subst hP hTT; unfold initSt; rw [Try.ntmps48]
  (repeat (first | with_reducible refine AW.seq ?_ | ((first | refine arun_kn 4 rfl (fun C hC => ?_) | refine arunD_kn 4 rfl (fun C hC => ?_)); (repeat ((conv => whnf); simp [List.length_map])); refine hC _ ?_; clear hC C; simp only [List.drop, Nat.reduceAdd]) | ((first | refine arun_kn 1 rfl (fun C hC => ?_) | refine arunD_kn 1 rfl (fun C hC => ?_)); (repeat ((conv => whnf); simp [List.length_map])); refine hC _ ?_; clear hC C; simp only [List.drop, Nat.reduceAdd]) | (refine arun_skip ?_ ?_; (focus (simp [awant, List.length_map]; done))) | (refine AW.regionK [] (fun K hK => ?_)) | (refine AW.regionDK [] (pcs [] []) (by kernel_rfl) (by kernel_rfl) (fun K hK => ?_)) | (refine AW.condT ?_ ?_; (focus (simp [aev, List.length_map]; done))) | (refine AW.condF ?_ ?_; (focus (simp [aev, List.length_map]; done))) | with_reducible refine AW.block ?_ | ((first | ((first | refine arun_nil ?_ | refine arunD_nil ?_); refine hK _ ?_; clear hK K) | refine AW.skip ?_ | refine AW.exit ?_ | refine AW.ret ?_); simp only [thenA_exit, inBlockA_exit, if_true, if_false, Nat.reduceEqDiff, thenA_normal, inBlockA_normal, reduceIte, thenA_ret, inBlockA_ret, endQ_ret, endR_ret, endG_ret, endQ_normal, endR_normal, endG_normal])))
  refine AW.loopS (fun (i : Nat) => mkSt (slots 0 55 [(0, .view t 7 (xs.map itemL)), (1, .view t' 7 (xs.map itemL)), (5, .int .i64 i)]) [] [] (rd0.map fun _ => 0)) (fun i => xs.length - i) (fun i => i ≤ xs.length) 0 ?_ (Nat.zero_le _) ?_
  · exact less_s
  · intro i hi
    by_cases hlt : i < xs.length
    · have hw : IntKind.i64.wrap ((i : Int) + 1) = (i : Int) + 1 := i64_nat (by omega) (by omega)
      have hik := equalNode_AC xs[i].2.2 (hs _ (List.getElem_mem hlt)) .loose .loose
      (repeat (first | with_reducible refine AW.seq ?_ | ((first | refine arun_kn 4 rfl (fun C hC => ?_) | refine arunD_kn 4 rfl (fun C hC => ?_)); (repeat ((conv => whnf); simp [hlt, hw, eqs_self', List.length_map])); refine hC _ ?_; clear hC C; simp only [List.drop, Nat.reduceAdd]) | ((first | refine arun_kn 1 rfl (fun C hC => ?_) | refine arunD_kn 1 rfl (fun C hC => ?_)); (repeat ((conv => whnf); simp [hlt, hw, eqs_self', List.length_map])); refine hC _ ?_; clear hC C; simp only [List.drop, Nat.reduceAdd]) | (refine arun_skip ?_ ?_; (focus (simp [awant, hlt, hw, eqs_self', List.length_map]; done))) | (refine arun_c0 (hik) ?_; rintro _ rfl) | (refine arunD_c (0) (hik) ?_; rintro _ rfl; intro _) | (refine AW.regionK [] (fun K hK => ?_)) | (refine AW.regionDK [] (pcs [(35, 0, fun r => r = .bool true)] []) (by kernel_rfl) (by kernel_rfl) (fun K hK => ?_)) | (refine AW.condT ?_ ?_; (focus (simp [aev, hlt, hw, eqs_self', List.length_map]; done))) | (refine AW.condF ?_ ?_; (focus (simp [aev, hlt, hw, eqs_self', List.length_map]; done))) | with_reducible refine AW.block ?_ | ((first | ((first | refine arun_nil ?_ | refine arunD_nil ?_); refine hK _ ?_; clear hK K) | refine AW.skip ?_ | refine AW.exit ?_ | refine AW.ret ?_); simp only [thenA_exit, inBlockA_exit, if_true, if_false, Nat.reduceEqDiff, thenA_normal, inBlockA_normal, reduceIte, thenA_ret, inBlockA_ret, endQ_ret, endR_ret, endG_ret, endQ_normal, endR_normal, endG_normal])))
      exact ⟨i + 1, by omega, by omega, less_s⟩
    · (repeat (first | with_reducible refine AW.seq ?_ | ((first | refine arun_kn 4 rfl (fun C hC => ?_) | refine arunD_kn 4 rfl (fun C hC => ?_)); (repeat ((conv => whnf); simp [hlt, List.length_map])); refine hC _ ?_; clear hC C; simp only [List.drop, Nat.reduceAdd]) | ((first | refine arun_kn 1 rfl (fun C hC => ?_) | refine arunD_kn 1 rfl (fun C hC => ?_)); (repeat ((conv => whnf); simp [hlt, List.length_map])); refine hC _ ?_; clear hC C; simp only [List.drop, Nat.reduceAdd]) | (refine arun_skip ?_ ?_; (focus (simp [awant, hlt, List.length_map]; done))) | (refine AW.regionK [] (fun K hK => ?_)) | (refine AW.regionDK [] (pcs [] []) (by kernel_rfl) (by kernel_rfl) (fun K hK => ?_)) | (refine AW.condT ?_ ?_; (focus (simp [aev, hlt, List.length_map]; done))) | (refine AW.condF ?_ ?_; (focus (simp [aev, hlt, List.length_map]; done))) | with_reducible refine AW.block ?_ | ((first | ((first | refine arun_nil ?_ | refine arunD_nil ?_); refine hK _ ?_; clear hK K) | refine AW.skip ?_ | refine AW.exit ?_ | refine AW.ret ?_); simp only [thenA_exit, inBlockA_exit, if_true, if_false, Nat.reduceEqDiff, thenA_normal, inBlockA_normal, reduceIte, thenA_ret, inBlockA_ret, endQ_ret, endR_ret, endG_ret, endQ_normal, endR_normal, endG_normal])))
      exact ⟨.bool true, by simp [ares, aresL], pur_bool, rfl⟩
end Go.Proofs.Ytmeobmegnneegaa.Eng
-- EV: store
namespace Go.Proofs.Ytmeobmegnneegaa.Eng
open Go Go.RowKit
attribute [local simp] big size_mk ASt.pay Option.map_map Function.comp_def awant aop acall ado aev ofVal ofVal0 ASt.put ASt.add ASt.turn ASt.kill abox aalloc astore aload ASt.at cellsTo afieldAddr afield aindexAddr aindex alen abin aint acmp astr aun apick aextract anil aslice abound abuild afill abuildSlice asCells aps avCells over upd aappend asrc amax amin aconv mkSt slots rowsOf_cons rowsOf_nil usedOf_cons usedOf_nil ZK.av List.replicate ASt.back ASt.addL ASt.killL nodeA nodeT nodeTL_eq nodeL_eq strsE_get strsE_len intsE_get intsE_len strsE_at intsE_at itemA itemL_eq storeA storeT storeO itemsRow tab2 tab3 tab4 tab5 tab6 tab7 tab8 tab9 tab10 tab11 tab12 tab13 tab14 tab15 tab16 tab17 tab18 tab19 tab21 tab22 tab23 tab24 tab25 tab26 tab27 tab28 tab31 tab32 tab33 tab37 tab38 tab39 tab46 tab53 tab61 tab62 tab69 tab70 tab98 tab116 tab117 tab125 tab126 tab128 tab136 tab145 tab146 tab151 tab152 tab153 tab155 tab156 tab157
def nwF (l : List Itm) : Nat → Nat → Nat → Nat
  | 0, _, k => k
  | n + 1, i, k => nwF l n (i + 1) (if (l[k]?.getD Itm.zero).2.1 < (l[i]?.getD Itm.zero).2.1 then i else k)
def nwI (s : Sto) : Nat := nwF s.1 s.1.length 0 0
def nwB (s : Sto) : Bool := storeB s && decide (0 < s.1.length)
def nwN (s : Sto) : ByteArray := if nwB s then (s.1[nwI s]?.getD Itm.zero).1 else ⟨#[]⟩
theorem nwF_lt {l : List Itm} : ∀ {n i k : Nat}, i + n ≤ l.length → k < l.length → nwF l n i k < l.length
  | 0, _, _, _, hk => hk
  | n + 1, i, k, hi, hk => by
    unfold nwF
    refine nwF_lt (by omega) ?_
    split <;> omega
theorem nwF_step {l : List Itm} {n i k : Nat} (hi : i < l.length) (hk : k < l.length) : nwF l (n + 1) i k = nwF l n (i + 1) (if l[k].2.1 < l[i].2.1 then i else k) := by
  rw [nwF, List.getElem?_eq_getElem hi, List.getElem?_eq_getElem hk]; rfl
theorem nw_one {s : Sto} (h : 0 < s.1.length) : nwI s = nwF s.1 (s.1.length - 1) 1 0 := by
  unfold nwI
  conv => lhs; rw [show s.1.length = s.1.length - 1 + 1 by omega]
  rw [nwF_step h h]
  simp
theorem NewestItem_AC (s : Sto) (t : VC) : AC Try.prog 63 [storeT t s] 0 (fun r => r = .tup [.str (nwN s), .bool (nwB s)]) := by
  have p := ValidStore_AC s t
  unfold storeT at *
  refine AC.of tab_ok mixed_ok Try.func63 (by rfl) (by kernel_rfl) ?_; rintro ⟨P, T, hT, hm, w0, S0, rd0, k0⟩ hP hTT; dsimp only at hP hTT; subst hP hTT; unfold initSt; rw [Try.ntmps63]
  cases hb : storeB s <;> rw [hb] at p
  · have e : nwN s = ⟨#[]⟩ ∧ nwB s = false := by unfold nwN nwB; rw [hb]; exact ⟨rfl, rfl⟩
    rw [e.1, e.2]
    (repeat (first | with_reducible refine AW.seq ?_ | ((first | refine arun_kn 4 rfl (fun C hC => ?_) | refine arunD_kn 4 rfl (fun C hC => ?_)); (repeat ((conv => whnf); simp)); refine hC _ ?_; clear hC C; simp only [List.drop, Nat.reduceAdd]) | ((first | refine arun_kn 1 rfl (fun C hC => ?_) | refine arunD_kn 1 rfl (fun C hC => ?_)); (repeat ((conv => whnf); simp)); refine hC _ ?_; clear hC C; simp only [List.drop, Nat.reduceAdd]) | (refine arun_skip ?_ ?_; (focus (simp [awant]; done))) | (refine arun_c0 (p) ?_; rintro _ rfl) | (refine AW.regionK [] (fun K hK => ?_)) | (refine AW.regionDK [] (pcs [] []) (by kernel_rfl) (by kernel_rfl) (fun K hK => ?_)) | (refine AW.condT ?_ ?_; (focus (simp [aev]; done))) | (refine AW.condF ?_ ?_; (focus (simp [aev]; done))) | with_reducible refine AW.block ?_ | ((first | ((first | refine arun_nil ?_ | refine arunD_nil ?_); refine hK _ ?_; clear hK K) | refine AW.skip ?_ | refine AW.exit ?_ | refine AW.ret ?_); simp only [thenA_exit, inBlockA_exit, if_true, if_false, Nat.reduceEqDiff, thenA_normal, inBlockA_normal, reduceIte, thenA_ret, inBlockA_ret, endQ_ret, endR_ret, endG_ret, endQ_normal, endR_normal, endG_normal])))
    exact ⟨.tup [.str ⟨#[]⟩, .bool false], by simp [ares, aresL], tup2_pur pur_str pur_bool, rfl⟩
  · have h10 := (storeB_sml hb).1
    by_cases hz : s.1.length = 0
    · have hn : s.1 = [] := List.length_eq_zero_iff.1 hz
      have e : nwN s = ⟨#[]⟩ ∧ nwB s = false := by unfold nwN nwB; rw [hb, hn]; exact ⟨rfl, rfl⟩
      rw [e.1, e.2]
      (repeat (first | with_reducible refine AW.seq ?_ | ((first | refine arun_kn 4 rfl (fun C hC => ?_) | refine arunD_kn 4 rfl (fun C hC => ?_)); (repeat ((conv => whnf); simp [hn])); refine hC _ ?_; clear hC C; simp only [List.drop, Nat.reduceAdd]) | ((first | refine arun_kn 1 rfl (fun C hC => ?_) | refine arunD_kn 1 rfl (fun C hC => ?_)); (repeat ((conv => whnf); simp [hn])); refine hC _ ?_; clear hC C; simp only [List.drop, Nat.reduceAdd]) | (refine arun_skip ?_ ?_; (focus (simp [awant, hn]; done))) | (refine arun_c0 (hx := by (simp [hn] <;> fail)) (p) ?_; rintro _ rfl) | (refine AW.regionK [] (fun K hK => ?_)) | (refine AW.regionDK [] (pcs [] []) (by kernel_rfl) (by kernel_rfl) (fun K hK => ?_)) | (refine AW.condT ?_ ?_; (focus (simp [aev, hn]; done))) | (refine AW.condF ?_ ?_; (focus (simp [aev, hn]; done))) | with_reducible refine AW.block ?_ | ((first | ((first | refine arun_nil ?_ | refine arunD_nil ?_); refine hK _ ?_; clear hK K) | refine AW.skip ?_ | refine AW.exit ?_ | refine AW.ret ?_); simp only [thenA_exit, inBlockA_exit, if_true, if_false, Nat.reduceEqDiff, thenA_normal, inBlockA_normal, reduceIte, thenA_ret, inBlockA_ret, endQ_ret, endR_ret, endG_ret, endQ_normal, endR_normal, endG_normal])))
      exact ⟨.tup [.str ⟨#[]⟩, .bool false], by simp [ares, aresL], tup2_pur pur_str pur_bool, rfl⟩
    · have hz' : ((s.1.length : Int) == 0) = false := beq_false_of_ne (by omega)
      have hpos : 0 < s.1.length := by omega
      (repeat (first | with_reducible refine AW.seq ?_ | ((first | refine arun_kn 4 rfl (fun C hC => ?_) | refine arunD_kn 4 rfl (fun C hC => ?_)); (repeat ((conv => whnf); simp [hz'])); refine hC _ ?_; clear hC C; simp only [List.drop, Nat.reduceAdd]) | ((first | refine arun_kn 1 rfl (fun C hC => ?_) | refine arunD_kn 1 rfl (fun C hC => ?_)); (repeat ((conv => whnf); simp [hz'])); refine hC _ ?_; clear hC C; simp only [List.drop, Nat.reduceAdd]) | (refine arun_skip ?_ ?_; (focus (simp [awant, hz']; done))) | (refine arun_c0 (p) ?_; rintro _ rfl) | (refine AW.regionK [] (fun K hK => ?_)) | (refine AW.regionDK [] (pcs [] []) (by kernel_rfl) (by kernel_rfl) (fun K hK => ?_)) | (refine AW.condT ?_ ?_; (focus (simp [aev, hz']; done))) | (refine AW.condF ?_ ?_; (focus (simp [aev, hz']; done))) | with_reducible refine AW.block ?_ | ((first | ((first | refine arun_nil ?_ | refine arunD_nil ?_); refine hK _ ?_; clear hK K) | refine AW.skip ?_ | refine AW.exit ?_ | refine AW.ret ?_); simp only [thenA_exit, inBlockA_exit, if_true, if_false, Nat.reduceEqDiff, thenA_normal, inBlockA_normal, reduceIte, thenA_ret, inBlockA_ret, endQ_ret, endR_ret, endG_ret, endQ_normal, endR_normal, endG_normal])))
      refine AW.loopS (fun (x : Nat × Nat) => mkSt (slots 0 41 [(1, .ptr true 2 1 1 0 0), (4, .int .i64 x.2), (17, .view t 7 (s.1.map itemL)), (18, .int .i64 s.1.length), (19, .int .i64 x.1)]) [(1, ⟨true, 33, 2, [[.view t 7 (s.1.map itemL), .int .i64 s.2]]⟩)] [1] (rd0.map fun _ => 0)) (fun x => s.1.length - x.1) (fun x => x.1 ≤ s.1.length ∧ x.2 < s.1.length ∧ nwI s = nwF s.1 (s.1.length - x.1) x.1 x.2) (0, 0) ?_ ⟨Nat.zero_le _, hpos, rfl⟩ ?_
      · exact less_s
      · rintro ⟨i, k⟩ ⟨hi, hk, hf⟩
        dsimp only at hi hk hf ⊢
        by_cases hlt : i < s.1.length
        · have hw : IntKind.i64.wrap ((i : Int) + 1) = (i : Int) + 1 := i64_nat (by omega) (by omega)
          rw [show s.1.length - i = s.1.length - (i + 1) + 1 by omega, nwF_step hlt hk] at hf
          by_cases hv : s.1[k].2.1 < s.1[i].2.1
          · rw [if_pos hv] at hf
            (repeat (first | with_reducible refine AW.seq ?_ | ((first | refine arun_kn 4 rfl (fun C hC => ?_) | refine arunD_kn 4 rfl (fun C hC => ?_)); (repeat ((conv => whnf); simp [hlt, hk, hw, hv])); refine hC _ ?_; clear hC C; simp only [List.drop, Nat.reduceAdd]) | ((first | refine arun_kn 1 rfl (fun C hC => ?_) | refine arunD_kn 1 rfl (fun C hC => ?_)); (repeat ((conv => whnf); simp [hlt, hk, hw, hv])); refine hC _ ?_; clear hC C; simp only [List.drop, Nat.reduceAdd]) | (refine arun_skip ?_ ?_; (focus (simp [awant, hlt, hk, hw, hv]; done))) | (refine AW.regionK [] (fun K hK => ?_)) | (refine AW.regionDK [] (pcs [] []) (by kernel_rfl) (by kernel_rfl) (fun K hK => ?_)) | (refine AW.condT ?_ ?_; (focus (simp [aev, hlt, hk, hw, hv]; done))) | (refine AW.condF ?_ ?_; (focus (simp [aev, hlt, hk, hw, hv]; done))) | with_reducible refine AW.block ?_ | ((first | ((first | refine arun_nil ?_ | refine arunD_nil ?_); refine hK _ ?_; clear hK K) | refine AW.skip ?_ | refine AW.exit ?_ | refine AW.ret ?_); simp only [thenA_exit, inBlockA_exit, if_true, if_false, Nat.reduceEqDiff, thenA_normal, inBlockA_normal, reduceIte, thenA_ret, inBlockA_ret, endQ_ret, endR_ret, endG_ret, endQ_normal, endR_normal, endG_normal])))
            exact ⟨(i + 1, i), by dsimp only; omega, ⟨by dsimp only; omega, hlt, hf⟩, less_s⟩
          · rw [if_neg hv] at hf
            (repeat (first | with_reducible refine AW.seq ?_ | ((first | refine arun_kn 4 rfl (fun C hC => ?_) | refine arunD_kn 4 rfl (fun C hC => ?_)); (repeat ((conv => whnf); simp [hlt, hk, hw, hv])); refine hC _ ?_; clear hC C; simp only [List.drop, Nat.reduceAdd]) | ((first | refine arun_kn 1 rfl (fun C hC => ?_) | refine arunD_kn 1 rfl (fun C hC => ?_)); (repeat ((conv => whnf); simp [hlt, hk, hw, hv])); refine hC _ ?_; clear hC C; simp only [List.drop, Nat.reduceAdd]) | (refine arun_skip ?_ ?_; (focus (simp [awant, hlt, hk, hw, hv]; done))) | (refine AW.regionK [] (fun K hK => ?_)) | (refine AW.regionDK [] (pcs [] []) (by kernel_rfl) (by kernel_rfl) (fun K hK => ?_)) | (refine AW.condT ?_ ?_; (focus (simp [aev, hlt, hk, hw, hv]; done))) | (refine AW.condF ?_ ?_; (focus (simp [aev, hlt, hk, hw, hv]; done))) | with_reducible refine AW.block ?_ | ((first | ((first | refine arun_nil ?_ | refine arunD_nil ?_); refine hK _ ?_; clear hK K) | refine AW.skip ?_ | refine AW.exit ?_ | refine AW.ret ?_); simp only [thenA_exit, inBlockA_exit, if_true, if_false, Nat.reduceEqDiff, thenA_normal, inBlockA_normal, reduceIte, thenA_ret, inBlockA_ret, endQ_ret, endR_ret, endG_ret, endQ_normal, endR_normal, endG_normal])))
            exact ⟨(i + 1, k), by dsimp only; omega, ⟨by dsimp only; omega, hk, hf⟩, less_s⟩
        · rw [show s.1.length - i = 0 by omega, nwF] at hf
          have e : nwN s = s.1[k].1 ∧ nwB s = true := by
            have h2 : nwB s = true := by unfold nwB; rw [hb, decide_eq_true hpos]; rfl
            refine ⟨?_, h2⟩
            unfold nwN
            rw [h2, hf, List.getElem?_eq_getElem hk]; rfl
          rw [e.1, e.2]
          (repeat (first | with_reducible refine AW.seq ?_ | ((first | refine arun_kn 4 rfl (fun C hC => ?_) | refine arunD_kn 4 rfl (fun C hC => ?_)); (repeat ((conv => whnf); simp [hlt, hk])); refine hC _ ?_; clear hC C; simp only [List.drop, Nat.reduceAdd]) | ((first | refine arun_kn 1 rfl (fun C hC => ?_) | refine arunD_kn 1 rfl (fun C hC => ?_)); (repeat ((conv => whnf); simp [hlt, hk])); refine hC _ ?_; clear hC C; simp only [List.drop, Nat.reduceAdd]) | (refine arun_skip ?_ ?_; (focus (simp [awant, hlt, hk]; done))) | (refine AW.regionK [] (fun K hK => ?_)) | (refine AW.regionDK [] (pcs [] []) (by kernel_rfl) (by kernel_rfl) (fun K hK => ?_)) | (refine AW.condT ?_ ?_; (focus (simp [aev, hlt, hk]; done))) | (refine AW.condF ?_ ?_; (focus (simp [aev, hlt, hk]; done))) | with_reducible refine AW.block ?_ | ((first | ((first | refine arun_nil ?_ | refine arunD_nil ?_); refine hK _ ?_; clear hK K) | refine AW.skip ?_ | refine AW.exit ?_ | refine AW.ret ?_); simp only [thenA_exit, inBlockA_exit, if_true, if_false, Nat.reduceEqDiff, thenA_normal, inBlockA_normal, reduceIte, thenA_ret, inBlockA_ret, endQ_ret, endR_ret, endG_ret, endQ_normal, endR_normal, endG_normal])))
          exact ⟨.tup [.str s.1[k].1, .bool true], by simp [ares, aresL], tup2_pur pur_str pur_bool, rfl⟩
theorem specNewestItem_AC (s : Sto) (t : VC) : AC Try.prog 64 [storeT t s] 0 (fun r => r = .tup [.str (nwN s), .bool (nwB s)]) := by
  have p := validStore_AC s t
  unfold storeT at *
  refine AC.of tab_ok mixed_ok Try.func64 (by rfl) (by kernel_rfl) ?_; rintro ⟨P, T, hT, hm, w0, S0, rd0, k0⟩ hP hTT; dsimp only at hP hTT; subst hP hTT; unfold initSt; rw [Try.ntmps64]
  cases hb : storeB s <;> rw [hb] at p
  · have e : nwN s = ⟨#[]⟩ ∧ nwB s = false := by unfold nwN nwB; rw [hb]; exact ⟨rfl, rfl⟩
    rw [e.1, e.2]
    (repeat (first | with_reducible refine AW.seq ?_ | ((first | refine arun_kn 4 rfl (fun C hC => ?_) | refine arunD_kn 4 rfl (fun C hC => ?_)); (repeat ((conv => whnf); simp)); refine hC _ ?_; clear hC C; simp only [List.drop, Nat.reduceAdd]) | ((first | refine arun_kn 1 rfl (fun C hC => ?_) | refine arunD_kn 1 rfl (fun C hC => ?_)); (repeat ((conv => whnf); simp)); refine hC _ ?_; clear hC C; simp only [List.drop, Nat.reduceAdd]) | (refine arun_skip ?_ ?_; (focus (simp [awant]; done))) | (refine arun_c0 (p) ?_; rintro _ rfl) | (refine AW.regionK [] (fun K hK => ?_)) | (refine AW.regionDK [] (pcs [] []) (by kernel_rfl) (by kernel_rfl) (fun K hK => ?_)) | (refine AW.condT ?_ ?_; (focus (simp [aev]; done))) | (refine AW.condF ?_ ?_; (focus (simp [aev]; done))) | with_reducible refine AW.block ?_ | ((first | ((first | refine arun_nil ?_ | refine arunD_nil ?_); refine hK _ ?_; clear hK K) | refine AW.skip ?_ | refine AW.exit ?_ | refine AW.ret ?_); simp only [thenA_exit, inBlockA_exit, if_true, if_false, Nat.reduceEqDiff, thenA_normal, inBlockA_normal, reduceIte, thenA_ret, inBlockA_ret, endQ_ret, endR_ret, endG_ret, endQ_normal, endR_normal, endG_normal])))
    exact ⟨.tup [.str ⟨#[]⟩, .bool false], by simp [ares, aresL], tup2_pur pur_str pur_bool, rfl⟩
  · have h10 := (storeB_sml hb).1
    by_cases hz : s.1.length = 0
    · have hn : s.1 = [] := List.length_eq_zero_iff.1 hz
      have e : nwN s = ⟨#[]⟩ ∧ nwB s = false := by unfold nwN nwB; rw [hb, hn]; exact ⟨rfl, rfl⟩
      rw [e.1, e.2]
      (repeat (first | with_reducible refine AW.seq ?_ | ((first | refine arun_kn 4 rfl (fun C hC => ?_) | refine arunD_kn 4 rfl (fun C hC => ?_)); (repeat ((conv => whnf); simp [hn])); refine hC _ ?_; clear hC C; simp only [List.drop, Nat.reduceAdd]) | ((first | refine arun_kn 1 rfl (fun C hC => ?_) | refine arunD_kn 1 rfl (fun C hC => ?_)); (repeat ((conv => whnf); simp [hn])); refine hC _ ?_; clear hC C; simp only [List.drop, Nat.reduceAdd]) | (refine arun_skip ?_ ?_; (focus (simp [awant, hn]; done))) | (refine arun_c0 (hx := by (simp [hn] <;> fail)) (p) ?_; rintro _ rfl) | (refine AW.regionK [] (fun K hK => ?_)) | (refine AW.regionDK [] (pcs [] []) (by kernel_rfl) (by kernel_rfl) (fun K hK => ?_)) | (refine AW.condT ?_ ?_; (focus (simp [aev, hn]; done))) | (refine AW.condF ?_ ?_; (focus (simp [aev, hn]; done))) | with_reducible refine AW.block ?_ | ((first | ((first | refine arun_nil ?_ | refine arunD_nil ?_); refine hK _ ?_; clear hK K) | refine AW.skip ?_ | refine AW.exit ?_ | refine AW.ret ?_); simp only [thenA_exit, inBlockA_exit, if_true, if_false, Nat.reduceEqDiff, thenA_normal, inBlockA_normal, reduceIte, thenA_ret, inBlockA_ret, endQ_ret, endR_ret, endG_ret, endQ_normal, endR_normal, endG_normal])))
      exact ⟨.tup [.str ⟨#[]⟩, .bool false], by simp [ares, aresL], tup2_pur pur_str pur_bool, rfl⟩
    · have hz' : ((s.1.length : Int) == 0) = false := beq_false_of_ne (by omega)
      have hpos : 0 < s.1.length := by omega
      (repeat (first | with_reducible refine AW.seq ?_ | ((first | refine arun_kn 4 rfl (fun C hC => ?_) | refine arunD_kn 4 rfl (fun C hC => ?_)); (repeat ((conv => whnf); simp [hz'])); refine hC _ ?_; clear hC C; simp only [List.drop, Nat.reduceAdd]) | ((first | refine arun_kn 1 rfl (fun C hC => ?_) | refine arunD_kn 1 rfl (fun C hC => ?_)); (repeat ((conv => whnf); simp [hz'])); refine hC _ ?_; clear hC C; simp only [List.drop, Nat.reduceAdd]) | (refine arun_skip ?_ ?_; (focus (simp [awant, hz']; done))) | (refine arun_c0 (p) ?_; rintro _ rfl) | (refine AW.regionK [] (fun K hK => ?_)) | (refine AW.regionDK [] (pcs [] []) (by kernel_rfl) (by kernel_rfl) (fun K hK => ?_)) | (refine AW.condT ?_ ?_; (focus (simp [aev, hz']; done))) | (refine AW.condF ?_ ?_; (focus (simp [aev, hz']; done))) | with_reducible refine AW.block ?_ | ((first | ((first | refine arun_nil ?_ | refine arunD_nil ?_); refine hK _ ?_; clear hK K) | refine AW.skip ?_ | refine AW.exit ?_ | refine AW.ret ?_); simp only [thenA_exit, inBlockA_exit, if_true, if_false, Nat.reduceEqDiff, thenA_normal, inBlockA_normal, reduceIte, thenA_ret, inBlockA_ret, endQ_ret, endR_ret, endG_ret, endQ_normal, endR_normal, endG_normal])))
      refine AW.loopS (fun (x : Nat × Nat) => mkSt (slots 0 42 [(1, .ptr true 2 1 1 0 0), (4, .int .i64 x.2), (5, .int .i64 x.1)]) [(1, ⟨true, 33, 2, [[.view t 7 (s.1.map itemL), .int .i64 s.2]]⟩)] [1] (rd0.map fun _ => 0)) (fun x => s.1.length - x.1) (fun x => x.1 ≤ s.1.length ∧ x.2 < s.1.length ∧ nwI s = nwF s.1 (s.1.length - x.1) x.1 x.2) (1, 0) ?_ ⟨hpos, hpos, nw_one hpos⟩ ?_
      · exact less_s
      · rintro ⟨i, k⟩ ⟨hi, hk, hf⟩
        dsimp only at hi hk hf ⊢
        by_cases hlt : i < s.1.length
        · have hw : IntKind.i64.wrap ((i : Int) + 1) = (i : Int) + 1 := i64_nat (by omega) (by omega)
          rw [show s.1.length - i = s.1.length - (i + 1) + 1 by omega, nwF_step hlt hk] at hf
          by_cases hv : s.1[k].2.1 < s.1[i].2.1
          · rw [if_pos hv] at hf
            (repeat (first | with_reducible refine AW.seq ?_ | ((first | refine arun_kn 4 rfl (fun C hC => ?_) | refine arunD_kn 4 rfl (fun C hC => ?_)); (repeat ((conv => whnf); simp [hlt, hk, hw, hv])); refine hC _ ?_; clear hC C; simp only [List.drop, Nat.reduceAdd]) | ((first | refine arun_kn 1 rfl (fun C hC => ?_) | refine arunD_kn 1 rfl (fun C hC => ?_)); (repeat ((conv => whnf); simp [hlt, hk, hw, hv])); refine hC _ ?_; clear hC C; simp only [List.drop, Nat.reduceAdd]) | (refine arun_skip ?_ ?_; (focus (simp [awant, hlt, hk, hw, hv]; done))) | (refine AW.regionK [] (fun K hK => ?_)) | (refine AW.regionDK [] (pcs [] []) (by kernel_rfl) (by kernel_rfl) (fun K hK => ?_)) | (refine AW.condT ?_ ?_; (focus (simp [aev, hlt, hk, hw, hv]; done))) | (refine AW.condF ?_ ?_; (focus (simp [aev, hlt, hk, hw, hv]; done))) | with_reducible refine AW.block ?_ | ((first | ((first | refine arun_nil ?_ | refine arunD_nil ?_); refine hK _ ?_; clear hK K) | refine AW.skip ?_ | refine AW.exit ?_ | refine AW.ret ?_); simp only [thenA_exit, inBlockA_exit, if_true, if_false, Nat.reduceEqDiff, thenA_normal, inBlockA_normal, reduceIte, thenA_ret, inBlockA_ret, endQ_ret, endR_ret, endG_ret, endQ_normal, endR_normal, endG_normal])))
            exact ⟨(i + 1, i), by dsimp only; omega, ⟨by dsimp only; omega, hlt, hf⟩, less_s⟩
          · rw [if_neg hv] at hf
            (repeat (first | with_reducible refine AW.seq ?_ | ((first | refine arun_kn 4 rfl (fun C hC => ?_) | refine arunD_kn 4 rfl (fun C hC => ?_)); (repeat ((conv => whnf); simp [hlt, hk, hw, hv])); refine hC _ ?_; clear hC C; simp only [List.drop, Nat.reduceAdd]) | ((first | refine arun_kn 1 rfl (fun C hC => ?_) | refine arunD_kn 1 rfl (fun C hC => ?_)); (repeat ((conv => whnf); simp [hlt, hk, hw, hv])); refine hC _ ?_; clear hC C; simp only [List.drop, Nat.reduceAdd]) | (refine arun_skip ?_ ?_; (focus (simp [awant, hlt, hk, hw, hv]; done))) | (refine AW.regionK [] (fun K hK => ?_)) | (refine AW.regionDK [] (pcs [] []) (by kernel_rfl) (by kernel_rfl) (fun K hK => ?_)) | (refine AW.condT ?_ ?_; (focus (simp [aev, hlt, hk, hw, hv]; done))) | (refine AW.condF ?_ ?_; (focus (simp [aev, hlt, hk, hw, hv]; done))) | with_reducible refine AW.block ?_ | ((first | ((first | refine arun_nil ?_ | refine arunD_nil ?_); refine hK _ ?_; clear hK K) | refine AW.skip ?_ | refine AW.exit ?_ | refine AW.ret ?_); simp only [thenA_exit, inBlockA_exit, if_true, if_false, Nat.reduceEqDiff, thenA_normal, inBlockA_normal, reduceIte, thenA_ret, inBlockA_ret, endQ_ret, endR_ret, endG_ret, endQ_normal, endR_normal, endG_normal])))
            exact ⟨(i + 1, k), by dsimp only; omega, ⟨by dsimp only; omega, hk, hf⟩, less_s⟩
        · rw [show s.1.length - i = 0 by omega, nwF] at hf
          have e : nwN s = s.1[k].1 ∧ nwB s = true := by
            have h2 : nwB s = true := by unfold nwB; rw [hb, decide_eq_true hpos]; rfl
            refine ⟨?_, h2⟩
            unfold nwN
            rw [h2, hf, List.getElem?_eq_getElem hk]; rfl
          rw [e.1, e.2]
          (repeat (first | with_reducible refine AW.seq ?_ | ((first | refine arun_kn 4 rfl (fun C hC => ?_) | refine arunD_kn 4 rfl (fun C hC => ?_)); (repeat ((conv => whnf); simp [hlt, hk])); refine hC _ ?_; clear hC C; simp only [List.drop, Nat.reduceAdd]) | ((first | refine arun_kn 1 rfl (fun C hC => ?_) | refine arunD_kn 1 rfl (fun C hC => ?_)); (repeat ((conv => whnf); simp [hlt, hk])); refine hC _ ?_; clear hC C; simp only [List.drop, Nat.reduceAdd]) | (refine arun_skip ?_ ?_; (focus (simp [awant, hlt, hk]; done))) | (refine AW.regionK [] (fun K hK => ?_)) | (refine AW.regionDK [] (pcs [] []) (by kernel_rfl) (by kernel_rfl) (fun K hK => ?_)) | (refine AW.condT ?_ ?_; (focus (simp [aev, hlt, hk]; done))) | (refine AW.condF ?_ ?_; (focus (simp [aev, hlt, hk]; done))) | with_reducible refine AW.block ?_ | ((first | ((first | refine arun_nil ?_ | refine arunD_nil ?_); refine hK _ ?_; clear hK K) | refine AW.skip ?_ | refine AW.exit ?_ | refine AW.ret ?_); simp only [thenA_exit, inBlockA_exit, if_true, if_false, Nat.reduceEqDiff, thenA_normal, inBlockA_normal, reduceIte, thenA_ret, inBlockA_ret, endQ_ret, endR_ret, endG_ret, endQ_normal, endR_normal, endG_normal])))
          exact ⟨.tup [.str s.1[k].1, .bool true], by simp [ares, aresL], tup2_pur pur_str pur_bool, rfl⟩
end Go.Proofs.Ytmeobmegnneegaa.Eng
-- EV: store
namespace Go.Proofs.Ytmeobmegnneegaa.Eng
open Go Go.RowKit
attribute [local simp] big size_mk ASt.pay Option.map_map Function.comp_def awant aop acall ado aev ofVal ofVal0 ASt.put ASt.add ASt.turn ASt.kill abox aalloc astore aload ASt.at cellsTo afieldAddr afield aindexAddr aindex alen abin aint acmp astr aun apick aextract anil aslice abound abuild afill abuildSlice asCells aps avCells over upd aappend asrc amax amin aconv mkSt slots rowsOf_cons rowsOf_nil usedOf_cons usedOf_nil ZK.av List.replicate ASt.back ASt.addL ASt.killL nodeA nodeT nodeTL_eq nodeL_eq strsE_get strsE_len intsE_get intsE_len strsE_at intsE_at itemA itemL_eq storeA storeT storeO itemsRow tab2 tab3 tab4 tab5 tab6 tab7 tab8 tab9 tab10 tab11 tab12 tab13 tab14 tab15 tab16 tab17 tab18 tab19 tab21 tab22 tab23 tab24 tab25 tab26 tab27 tab28 tab31 tab32 tab33 tab37 tab38 tab39 tab46 tab53 tab61 tab62 tab69 tab70 tab98 tab116 tab117 tab125 tab126 tab128 tab136 tab145 tab146 tab151 tab152 tab153 tab155 tab156 tab157
def itemsR (l : List Itm) : Row := ⟨false, 62, 7, l.map itemL⟩
theorem putAt_ACG (l : List Itm) (it : Itm) (hasc : Asc (nmL l)) (hb : l.length ≤ 1000) : ACG Try.prog 80 [.own 1000 l.length, itemA it] [(1000, itemsR l)] 0 (Post1 (fun k => .own k (putI l it).length) (itemsR (putI l it))) := by
  have hml : (l.map itemL).length = l.length := List.length_map _
  unfold itemA itemsR
  rw [itemL_eq]
  refine ACG.of tab_ok mixed_ok Try.func80 (by rfl) (by kernel_rfl) (by simp) ?_; rintro ⟨P, T, hT, hm, w0, S0, rd0, k0⟩ hP hTT; dsimp only at hP hTT; subst hP hTT; unfold initStG; rw [Try.ntmps80]
  have hle := lb_le (nmL l) it.1
  rw [nmL_len] at hle
  cases hm : mem (nmL l) it.1 with
  | true =>
    have hlt := lb_lt hm
    rw [nmL_len] at hlt
    have hput : putI l it = l.set (lbound (nmL l) it.1) it := by unfold putI; rw [hm]; rfl
    rw [hput]
    have hset : (l.map itemL).set (lbound (nmL l) it.1) (itemL it) = (l.set (lbound (nmL l) it.1) it).map itemL := by rw [List.map_set]
    rw [itemL_eq it] at hset
    (repeat (first | with_reducible refine AW.seq ?_ | ((first | refine arun_kn 4 rfl (fun C hC => ?_) | refine arunD_kn 4 rfl (fun C hC => ?_)); (repeat ((conv => whnf); simp [hm, hml, hlt])); refine hC _ ?_; clear hC C; simp only [List.drop, Nat.reduceAdd]) | ((first | refine arun_kn 1 rfl (fun C hC => ?_) | refine arunD_kn 1 rfl (fun C hC => ?_)); (repeat ((conv => whnf); simp [hm, hml, hlt])); refine hC _ ?_; clear hC C; simp only [List.drop, Nat.reduceAdd]) | (refine arun_skip ?_ ?_; (focus (simp [awant, hm, hml, hlt]; done))) | (refine arun_cL (0) (findItem_AC l .lent it.1 hasc (by omega)) ?_; rintro _ rfl) | (refine AW.regionK [] (fun K hK => ?_)) | (refine AW.regionDK [] (pcs [] []) (by kernel_rfl) (by kernel_rfl) (fun K hK => ?_)) | (refine AW.condT ?_ ?_; (focus (simp [aev, hm, hml, hlt]; done))) | (refine AW.condF ?_ ?_; (focus (simp [aev, hm, hml, hlt]; done))) | with_reducible refine AW.block ?_ | ((first | ((first | refine arun_nil ?_ | refine arunD_nil ?_); refine hK _ ?_; clear hK K) | refine AW.skip ?_ | refine AW.exit ?_ | refine AW.ret ?_); simp only [thenA_exit, inBlockA_exit, if_true, if_false, Nat.reduceEqDiff, thenA_normal, inBlockA_normal, reduceIte, thenA_ret, inBlockA_ret, endQ_ret, endR_ret, endG_ret, endQ_normal, endR_normal, endG_normal])))
    refine ⟨.own 1000 l.length, [(1000, ⟨false, 62, 7, (l.set (lbound (nmL l) it.1) it).map itemL⟩)], rfl, (fun p hp => by rw [List.mem_singleton.1 hp]; dsimp only; rw [upd_same, hset]), purR_own, ?_, ?_, 1000, by rw [List.length_set], rfl⟩
    · simp only [List.forall_mem_cons, List.not_mem_nil, false_implies, implies_true, and_true]
      exact fun e he c hc => (itemsE_pur _ e he c hc).purR
    · refine ⟨by simp [in_own, rowsOf_cons], ?_⟩
      simp only [List.forall_mem_cons, List.not_mem_nil, false_implies, implies_true, and_true]
      exact fun e he c hc => itemsE_in _ e he c hc
  | false =>
    have hput : putI l it = l.take (lbound (nmL l) it.1) ++ (it :: l.drop (lbound (nmL l) it.1)) := by unfold putI; rw [hm]; rfl
    rw [hput]
    (repeat (first | with_reducible refine AW.seq ?_ | ((first | refine arun_knb 4 rfl (fun C hC => ?_) | refine arunD_kn 4 rfl (fun C hC => ?_)); (repeat ((conv => whnf); simp [hm, hml])); refine hC _ ?_; clear hC C; simp only [List.drop, Nat.reduceAdd]) | ((first | refine arun_knb 1 rfl (fun C hC => ?_) | refine arunD_kn 1 rfl (fun C hC => ?_)); (repeat ((conv => whnf); simp [hm, hml])); refine hC _ ?_; clear hC C; simp only [List.drop, Nat.reduceAdd]) | (refine arun_skip ?_ ?_; (focus (simp [awant, hm, hml]; done))) | (refine arun_cL (0) (findItem_AC l .lent it.1 hasc (by omega)) ?_; rintro _ rfl) | (refine AW.regionK [] (fun K hK => ?_)) | (refine AW.regionDK [] (pcs [] []) (by kernel_rfl) (by kernel_rfl) (fun K hK => ?_)) | (refine AW.condT ?_ ?_; (focus (simp [aev, hm, hml]; done))) | (refine AW.condF ?_ ?_; (focus (simp [aev, hm, hml]; done))) | with_reducible refine AW.block ?_ | ((first | ((first | refine arun_nil ?_ | refine arunD_nil ?_); refine hK _ ?_; clear hK K) | refine AW.skip ?_ | refine AW.exit ?_ | refine AW.ret ?_); simp only [thenA_exit, inBlockA_exit, if_true, if_false, Nat.reduceEqDiff, thenA_normal, inBlockA_normal, reduceIte, thenA_ret, inBlockA_ret, endQ_ret, endR_ret, endG_ret, endQ_normal, endR_normal, endG_normal])))
    refine arun_ownSlice 23 rfl (by simp [awant]) tab31 (by simp; exact ⟨rfl, rfl⟩) (by simp [upd]) ?_
    have hins := insI_ACG (l.map itemL) (itemL it) (lbound (nmL l) it.1) (by rw [hml]; exact hle) (by rw [hml]; omega) (itemsE_pur l) (itemL_pur it)
    rw [hml] at hins
    have hes : (l.map itemL).take (lbound (nmL l) it.1) ++ (itemL it :: (l.map itemL).drop (lbound (nmL l) it.1)) = (l.take (lbound (nmL l) it.1) ++ (it :: l.drop (lbound (nmL l) it.1))).map itemL := by rw [List.map_append, List.map_cons, List.map_take, List.map_drop]
    have hln : (l.take (lbound (nmL l) it.1) ++ (it :: l.drop (lbound (nmL l) it.1))).length = l.length + 1 := by rw [List.length_append, List.length_cons, List.length_take, List.length_drop]; omega
    rw [hes] at hins
    refine arun_callG1 (g := fun k => .own k (l.length + 1)) (R := itemsR (l.take (lbound (nmL l) it.1) ++ (it :: l.drop (lbound (nmL l) it.1)))) [(1000, ⟨false, 62, 7, l.map itemL⟩), (1001, ⟨false, 62, 7, [itemL it]⟩)] (fun k => if k = 1000 then 1000 else 23) 24 (by simp [awant]) rfl (hins.mono (fun r b h => ⟨1, h⟩)) (by simp) ?_ ?_ (can_of (Nat.le_refl _)) (by simp [upd]) (itemsE_pur _) (fun k => .base (.base (.own (by simp) rfl))) ?_
    · refine MvR.same (by simp [upd, rowsOf_cons]) (fun e he c hc => (itemsE_pur l e he c hc).clo) (MvR.same (by simp [upd, itemL_eq]) (fun e he c hc => ?_) MvR.nil)
      rw [List.mem_singleton.1 he] at hc
      exact (itemL_pur it c hc).clo
    · exact .cons (.base (.own (by simp) (by simp))) (.cons (.base (.clo (Clo.cloTo clo_int))) (.cons (.base (.own (by simp) (by simp))) .nil))
    (repeat (first | with_reducible refine AW.seq ?_ | ((first | refine arun_kn 4 rfl (fun C hC => ?_) | refine arunD_kn 4 rfl (fun C hC => ?_)); (repeat ((conv => whnf); simp)); refine hC _ ?_; clear hC C; simp only [List.drop, Nat.reduceAdd]) | ((first | refine arun_kn 1 rfl (fun C hC => ?_) | refine arunD_kn 1 rfl (fun C hC => ?_)); (repeat ((conv => whnf); simp)); refine hC _ ?_; clear hC C; simp only [List.drop, Nat.reduceAdd]) | (refine arun_skip ?_ ?_; (focus (simp [awant]; done))) | (refine AW.regionK [] (fun K hK => ?_)) | (refine AW.regionDK [] (pcs [] []) (by kernel_rfl) (by kernel_rfl) (fun K hK => ?_)) | (refine AW.condT ?_ ?_; (focus (simp [aev]; done))) | (refine AW.condF ?_ ?_; (focus (simp [aev]; done))) | with_reducible refine AW.block ?_ | ((first | ((first | refine arun_nil ?_ | refine arunD_nil ?_); refine hK _ ?_; clear hK K) | refine AW.skip ?_ | refine AW.exit ?_ | refine AW.ret ?_); simp only [thenA_exit, inBlockA_exit, if_true, if_false, Nat.reduceEqDiff, thenA_normal, inBlockA_normal, reduceIte, thenA_ret, inBlockA_ret, endQ_ret, endR_ret, endG_ret, endQ_normal, endR_normal, endG_normal])))
    refine ⟨.own 24 (l.length + 1), [(24, itemsR (l.take (lbound (nmL l) it.1) ++ (it :: l.drop (lbound (nmL l) it.1))))], rfl, (fun p hp => by rw [List.mem_singleton.1 hp]; simp [upd]), purR_own, ?_, ?_, 24, by rw [hln], rfl⟩
    · simp only [List.forall_mem_cons, List.not_mem_nil, false_implies, implies_true, and_true]
      exact fun e he c hc => (itemsE_pur _ e he c hc).purR
    · refine ⟨by simp [in_own, rowsOf_cons], ?_⟩
      simp only [List.forall_mem_cons, List.not_mem_nil, false_implies, implies_true, and_true]
      exact fun e he c hc => itemsE_in _ e he c hc
theorem putI_S (s : Sto) (nm : ByteArray) (n : Nd) (h : storeB s = true) : (putI s.1 (nm, s.2 + 1, n), s.2 + 1) = putS s nm n := by
  unfold putS
  rw [putI_eq (storeB_asc h)]
theorem implPut_ACR0 (s : Sto) (nm : ByteArray) (n : Nd) : ACR Try.prog 27 [storeA s, .str nm, nodeA n] 0 (Res0 (putOk s nm n)) (Res (putOk s nm n) (putS s nm n)) := by
  unfold storeA storeT nodeA
  rw [nodeL_eq]
  refine ACR.of tab_ok mixed_ok Try.func27 (by rfl) (by kernel_rfl) ?_; rintro ⟨P, T, hT, hm, w0, S0, rd0, k0⟩ hP hTT; dsimp only at hP hTT; subst hP hTT; unfold initSt; rw [Try.ntmps27]
  cases h1 : storeB s
  · (repeat (first | with_reducible refine AW.seq ?_ | ((first | refine arun_kn 4 rfl (fun C hC => ?_) | refine arunD_kn 4 rfl (fun C hC => ?_)); (repeat ((conv => whnf); simp [h1])); refine hC _ ?_; clear hC C; simp only [List.drop, Nat.reduceAdd]) | ((first | refine arun_kn 1 rfl (fun C hC => ?_) | refine arunD_kn 1 rfl (fun C hC => ?_)); (repeat ((conv => whnf); simp [h1])); refine hC _ ?_; clear hC C; simp only [List.drop, Nat.reduceAdd]) | (refine arun_skip ?_ ?_; (focus (simp [awant, h1]; done))) | (refine arun_c0 (ValidStore_AC s .loose) ?_; rintro _ rfl) | (refine AW.regionK [] (fun K hK => ?_)) | (refine AW.regionDK [] (pcs [] []) (by kernel_rfl) (by kernel_rfl) (fun K hK => ?_)) | (refine AW.condT ?_ ?_; (focus (simp [aev, h1]; done))) | (refine AW.condF ?_ ?_; (focus (simp [aev, h1]; done))) | with_reducible refine AW.block ?_ | ((first | ((first | refine arun_nil ?_ | refine arunD_nil ?_); refine hK _ ?_; clear hK K) | refine AW.skip ?_ | refine AW.exit ?_ | refine AW.ret ?_); simp only [thenA_exit, inBlockA_exit, if_true, if_false, Nat.reduceEqDiff, thenA_normal, inBlockA_normal, reduceIte, thenA_ret, inBlockA_ret, endQ_ret, endR_ret, endG_ret, endQ_normal, endR_normal, endG_normal])))
    exact ⟨_, by simp [ares, aresL, upd, rowsOf_cons]; rfl, .inl ⟨storeZ_pur, by simp [putOk, h1], rfl⟩⟩
  cases h2 : nameB nm
  · (repeat (first | with_reducible refine AW.seq ?_ | ((first | refine arun_kn 4 rfl (fun C hC => ?_) | refine arunD_kn 4 rfl (fun C hC => ?_)); (repeat ((conv => whnf); simp [h1, h2])); refine hC _ ?_; clear hC C; simp only [List.drop, Nat.reduceAdd]) | ((first | refine arun_kn 1 rfl (fun C hC => ?_) | refine arunD_kn 1 rfl (fun C hC => ?_)); (repeat ((conv => whnf); simp [h1, h2])); refine hC _ ?_; clear hC C; simp only [List.drop, Nat.reduceAdd]) | (refine arun_skip ?_ ?_; (focus (simp [awant, h1, h2]; done))) | (refine arun_c0 (ValidStore_AC s .loose) ?_; rintro _ rfl) | (refine arun_c0 (isName_AC nm) ?_; rintro _ rfl) | (refine AW.regionK [] (fun K hK => ?_)) | (refine AW.regionDK [] (pcs [] []) (by kernel_rfl) (by kernel_rfl) (fun K hK => ?_)) | (refine AW.condT ?_ ?_; (focus (simp [aev, h1, h2]; done))) | (refine AW.condF ?_ ?_; (focus (simp [aev, h1, h2]; done))) | with_reducible refine AW.block ?_ | ((first | ((first | refine arun_nil ?_ | refine arunD_nil ?_); refine hK _ ?_; clear hK K) | refine AW.skip ?_ | refine AW.exit ?_ | refine AW.ret ?_); simp only [thenA_exit, inBlockA_exit, if_true, if_false, Nat.reduceEqDiff, thenA_normal, inBlockA_normal, reduceIte, thenA_ret, inBlockA_ret, endQ_ret, endR_ret, endG_ret, endQ_normal, endR_normal, endG_normal])))
    exact ⟨_, by simp [ares, aresL, upd, rowsOf_cons]; rfl, .inl ⟨storeZ_pur, by simp [putOk, h1, h2], rfl⟩⟩
  cases h3 : validB n
  · (repeat (first | with_reducible refine AW.seq ?_ | ((first | refine arun_kn 4 rfl (fun C hC => ?_) | refine arunD_kn 4 rfl (fun C hC => ?_)); (repeat ((conv => whnf); simp [h1, h2, h3])); refine hC _ ?_; clear hC C; simp only [List.drop, Nat.reduceAdd]) | ((first | refine arun_kn 1 rfl (fun C hC => ?_) | refine arunD_kn 1 rfl (fun C hC => ?_)); (repeat ((conv => whnf); simp [h1, h2, h3])); refine hC _ ?_; clear hC C; simp only [List.drop, Nat.reduceAdd]) | (refine arun_skip ?_ ?_; (focus (simp [awant, h1, h2, h3]; done))) | (refine arun_c0 (ValidStore_AC s .loose) ?_; rintro _ rfl) | (refine arun_c0 (isName_AC nm) ?_; rintro _ rfl) | (refine arun_c0 (ValidNode_AC n .loose) ?_; rintro _ rfl) | (refine AW.regionK [] (fun K hK => ?_)) | (refine AW.regionDK [] (pcs [] []) (by kernel_rfl) (by kernel_rfl) (fun K hK => ?_)) | (refine AW.condT ?_ ?_; (focus (simp [aev, h1, h2, h3]; done))) | (refine AW.condF ?_ ?_; (focus (simp [aev, h1, h2, h3]; done))) | with_reducible refine AW.block ?_ | ((first | ((first | refine arun_nil ?_ | refine arunD_nil ?_); refine hK _ ?_; clear hK K) | refine AW.skip ?_ | refine AW.exit ?_ | refine AW.ret ?_); simp only [thenA_exit, inBlockA_exit, if_true, if_false, Nat.reduceEqDiff, thenA_normal, inBlockA_normal, reduceIte, thenA_ret, inBlockA_ret, endQ_ret, endR_ret, endG_ret, endQ_normal, endR_normal, endG_normal])))
    exact ⟨_, by simp [ares, aresL, upd, rowsOf_cons]; rfl, .inl ⟨storeZ_pur, by simp [putOk, h1, h2, h3], rfl⟩⟩
  obtain ⟨q0, q1, q2, _⟩ := storeB_parts h1
  have hw : IntKind.i64.wrap (s.2 + 1) = s.2 + 1 := by rw [IntKind.wrap_i64]; omega
  (repeat (first | with_reducible refine AW.seq ?_ | ((first | refine arun_kn 4 rfl (fun C hC => ?_) | refine arunD_kn 4 rfl (fun C hC => ?_)); (repeat ((conv => whnf); simp [h1, h2, h3])); refine hC _ ?_; clear hC C; simp only [List.drop, Nat.reduceAdd]) | ((first | refine arun_kn 1 rfl (fun C hC => ?_) | refine arunD_kn 1 rfl (fun C hC => ?_)); (repeat ((conv => whnf); simp [h1, h2, h3])); refine hC _ ?_; clear hC C; simp only [List.drop, Nat.reduceAdd]) | (refine arun_skip ?_ ?_; (focus (simp [awant, h1, h2, h3]; done))) | (refine arun_c0 (ValidStore_AC s .loose) ?_; rintro _ rfl) | (refine arun_c0 (isName_AC nm) ?_; rintro _ rfl) | (refine arun_c0 (ValidNode_AC n .loose) ?_; rintro _ rfl) | (refine AW.regionK [] (fun K hK => ?_)) | (refine AW.regionDK [] (pcs [] []) (by kernel_rfl) (by kernel_rfl) (fun K hK => ?_)) | (refine AW.condT ?_ ?_; (focus (simp [aev, h1, h2, h3]; done))) | (refine AW.condF ?_ ?_; (focus (simp [aev, h1, h2, h3]; done))) | with_reducible refine AW.block ?_ | ((first | ((first | refine arun_nil ?_ | refine arunD_nil ?_); refine hK _ ?_; clear hK K) | refine AW.skip ?_ | refine AW.exit ?_ | refine AW.ret ?_); simp only [thenA_exit, inBlockA_exit, if_true, if_false, Nat.reduceEqDiff, thenA_normal, inBlockA_normal, reduceIte, thenA_ret, inBlockA_ret, endQ_ret, endR_ret, endG_ret, endQ_normal, endR_normal, endG_normal])))
  refine arun_callG1 (g := storeO s) (R := itemsRow s) [] (fun _ => 0) 24 (by simp [awant]) rfl (implCopyStore_ACG s (storeB_smlS h1)) (by simp) MvR.nil (.cons (.base (.clo (Clo.cloTo (storeA_clo s)))) .nil) (can_of (Nat.le_refl _)) (by simp [upd]) (itemsE_pur _) (fun k => .base (.agg (.cons (.own (by simp) rfl) (.cons (.pur pur_int) .nil)))) ?_
  unfold storeO itemsRow
  (repeat (first | with_reducible refine AW.seq ?_ | ((first | refine arun_kn 4 rfl (fun C hC => ?_) | refine arunD_kn 4 rfl (fun C hC => ?_)); (repeat ((conv => whnf); simp [hw])); refine hC _ ?_; clear hC C; simp only [List.drop, Nat.reduceAdd]) | ((first | refine arun_kn 1 rfl (fun C hC => ?_) | refine arunD_kn 1 rfl (fun C hC => ?_)); (repeat ((conv => whnf); simp [hw])); refine hC _ ?_; clear hC C; simp only [List.drop, Nat.reduceAdd]) | (refine arun_skip ?_ ?_; (focus (simp [awant, hw]; done))) | (refine arun_c0 (implCopy_AC n (valid_sml h3)) ?_; rintro _ rfl) | (refine arunD_c (0) (implCopy_AC n (valid_sml h3)) ?_; rintro _ rfl; intro _) | (refine AW.regionK [] (fun K hK => ?_)) | (refine AW.regionDK [] (pcs [(6, 0, fun r => r = nodeA n)] [1008]) (by kernel_rfl) (by kernel_rfl) (fun K hK => ?_)) | (refine AW.condT ?_ ?_; (focus (simp [aev, hw]; done))) | (refine AW.condF ?_ ?_; (focus (simp [aev, hw]; done))) | with_reducible refine AW.block ?_ | ((first | ((first | refine arun_nil ?_ | refine arunD_nil ?_); refine hK _ ?_; clear hK K) | refine AW.skip ?_ | refine AW.exit ?_ | refine AW.ret ?_); simp only [thenA_exit, inBlockA_exit, if_true, if_false, Nat.reduceEqDiff, thenA_normal, inBlockA_normal, reduceIte, thenA_ret, inBlockA_ret, endQ_ret, endR_ret, endG_ret, endQ_normal, endR_normal, endG_normal])))
  have hpt := putAt_ACG s.1 (nm, s.2 + 1, n) (storeB_asc h1) (by omega)
  have hps := putI_S s nm n h1
  have hp1 : putI s.1 (nm, s.2 + 1, n) = (putS s nm n).1 := by rw [← hps]
  have hp2 : s.2 + 1 = (putS s nm n).2 := by rw [← hps]
  have hit : itemA (nm, s.2 + 1, n) = AV.agg [AV.str nm, AV.int .i64 (s.2 + 1), AV.int .i64 n.kind, AV.int .i64 n.num, AV.str n.text, AV.view .loose 1 (strsE n.names), AV.view .loose 5 (n.kids.map nodeL)] := by rw [itemA, itemL_eq]
  have hcl := item_clo (nm, s.2 + 1, n)
  rw [hit] at hcl hpt
  rw [hp1] at hpt
  refine arunD_callG1 (g := fun k => .own k (putS s nm n).1.length) (R := itemsR (putS s nm n).1) [(1000, itemsR s.1)] (fun _ => 24) 37 rfl (by simp [awant]) rfl hpt (by simp) (MvR.same (by simp [upd, itemsR]) (fun e he c hc => (itemsE_pur s.1 e he c hc).clo) MvR.nil)
    (.cons (.base (.own (by simp) rfl)) (.cons (.base (.clo (Clo.cloTo hcl))) .nil)) (can_of (Nat.le_refl _)) (by simp [upd]) (itemsE_pur _) (fun e he c hc => itemsE_in _ e he c hc) (fun k => .base (.base (.own (by simp) rfl))) (in_own.2 (by simp)) ?_
  unfold itemsR
  rw [hp2]
  cases h4 : storeB (putS s nm n)
  · (repeat (first | with_reducible refine AW.seq ?_ | ((first | refine arun_kn 4 rfl (fun C hC => ?_) | refine arunD_kn 4 rfl (fun C hC => ?_)); (repeat ((conv => whnf); simp [h4])); refine hC _ ?_; clear hC C; simp only [List.drop, Nat.reduceAdd]) | ((first | refine arun_kn 1 rfl (fun C hC => ?_) | refine arunD_kn 1 rfl (fun C hC => ?_)); (repeat ((conv => whnf); simp [h4])); refine hC _ ?_; clear hC C; simp only [List.drop, Nat.reduceAdd]) | (refine arun_skip ?_ ?_; (focus (simp [awant, h4]; done))) | (refine arun_cL (0) (ValidStore_AC (putS s nm n) .lent) ?_; rintro _ rfl) | (refine AW.regionK [] (fun K hK => ?_)) | (refine AW.regionDK [] (pcs [] []) (by kernel_rfl) (by kernel_rfl) (fun K hK => ?_)) | (refine AW.condT ?_ ?_; (focus (simp [aev, h4]; done))) | (refine AW.condF ?_ ?_; (focus (simp [aev, h4]; done))) | with_reducible refine AW.block ?_ | ((first | ((first | refine arun_nil ?_ | refine arunD_nil ?_); refine hK _ ?_; clear hK K) | refine AW.skip ?_ | refine AW.exit ?_ | refine AW.ret ?_); simp only [thenA_exit, inBlockA_exit, if_true, if_false, Nat.reduceEqDiff, thenA_normal, inBlockA_normal, reduceIte, thenA_ret, inBlockA_ret, endQ_ret, endR_ret, endG_ret, endQ_normal, endR_normal, endG_normal])))
    exact ⟨_, by simp [ares, aresL, upd, rowsOf_cons]; rfl, .inl ⟨storeZ_pur, by simp [putOk, h1, h2, h3, h4], rfl⟩⟩
  · (repeat (first | with_reducible refine AW.seq ?_ | ((first | refine arun_kn 4 rfl (fun C hC => ?_) | refine arunD_kn 4 rfl (fun C hC => ?_)); (repeat ((conv => whnf); simp [h4])); refine hC _ ?_; clear hC C; simp only [List.drop, Nat.reduceAdd]) | ((first | refine arun_kn 1 rfl (fun C hC => ?_) | refine arunD_kn 1 rfl (fun C hC => ?_)); (repeat ((conv => whnf); simp [h4])); refine hC _ ?_; clear hC C; simp only [List.drop, Nat.reduceAdd]) | (refine arun_skip ?_ ?_; (focus (simp [awant, h4]; done))) | (refine arun_cL (0) (ValidStore_AC (putS s nm n) .lent) ?_; rintro _ rfl) | (refine AW.regionK [] (fun K hK => ?_)) | (refine AW.regionDK [] (pcs [] []) (by kernel_rfl) (by kernel_rfl) (fun K hK => ?_)) | (refine AW.condT ?_ ?_; (focus (simp [aev, h4]; done))) | (refine AW.condF ?_ ?_; (focus (simp [aev, h4]; done))) | with_reducible refine AW.block ?_ | ((first | ((first | refine arun_nil ?_ | refine arunD_nil ?_); refine hK _ ?_; clear hK K) | refine AW.skip ?_ | refine AW.exit ?_ | refine AW.ret ?_); simp only [thenA_exit, inBlockA_exit, if_true, if_false, Nat.reduceEqDiff, thenA_normal, inBlockA_normal, reduceIte, thenA_ret, inBlockA_ret, endQ_ret, endR_ret, endG_ret, endQ_normal, endR_normal, endG_normal])))
    exact ⟨.tup [storeO (putS s nm n) 37, .bool true], by simp [ares, aresL, upd, rowsOf_cons], .inr ⟨fun id => .tup [storeO (putS s nm n) id, .bool true], 37, itemsRow (putS s nm n), rfl, by simp [upd, itemsRow], tup_res _ true 37, itemsE_pur _, by simp [putOk, h1, h2, h3, h4], rfl, rfl⟩⟩
theorem implPut_ACR (s : Sto) (nm : ByteArray) (n : Nd) : ACR Try.prog 27 [storeA s, .str nm, nodeA n] 0 (fun _ => False) (ResS (putOk s nm n) (putS s nm n)) := (implPut_ACR0 s nm n).rowS
theorem implPut_AC (s : Sto) (nm : ByteArray) (n : Nd) : AC Try.prog 27 [storeA s, .str nm, nodeA n] 0 (fun r => r = .tup [storeA (okS (putOk s nm n) (putS s nm n)), .bool (putOk s nm n)]) := AC.ofRes (implPut_ACR s nm n)
theorem findF_mem (nm : ByteArray) : ∀ (l : List Itm) (k : Nat), decide (findF nm l k < 0) = !(mem (nmL l) nm)
  | [], k => by simp [findF, nmL, mem]
  | x :: l, k => by
    have ih := findF_mem nm l (k + 1)
    have hme : mem (nmL (x :: l)) nm = (decide (x.1 = nm) || mem (nmL l) nm) := by unfold mem nmL; rw [List.map_cons, List.any_cons]
    unfold findF
    rw [hme]
    cases he : eqs x.1 nm with
    | true =>
      have hx : x.1 = nm := eqs_iff.1 he
      simp [hx]
    | false =>
      have hd : decide (x.1 = nm) = false := by rw [eqs_false] at he; simpa using he
      rw [hd, Bool.false_or, ← ih]
      simp
theorem findI_mem (s : Sto) (nm : ByteArray) : decide (findI s nm < 0) = !(mem (nmL s.1) nm) := findF_mem nm s.1 0
theorem implDrop_ACR0 (s : Sto) (nm : ByteArray) : ACR Try.prog 56 [storeA s, .str nm] 0 (Res0 (dropOk s nm)) (Res (dropOk s nm) (dropS s nm)) := by
  unfold storeA storeT
  refine ACR.of tab_ok mixed_ok Try.func56 (by rfl) (by kernel_rfl) ?_; rintro ⟨P, T, hT, hm, w0, S0, rd0, k0⟩ hP hTT; dsimp only at hP hTT; subst hP hTT; unfold initSt; rw [Try.ntmps56]
  cases h1 : storeB s
  · (repeat (first | with_reducible refine AW.seq ?_ | ((first | refine arun_kn 4 rfl (fun C hC => ?_) | refine arunD_kn 4 rfl (fun C hC => ?_)); (repeat ((conv => whnf); simp [h1])); refine hC _ ?_; clear hC C; simp only [List.drop, Nat.reduceAdd]) | ((first | refine arun_kn 1 rfl (fun C hC => ?_) | refine arunD_kn 1 rfl (fun C hC => ?_)); (repeat ((conv => whnf); simp [h1])); refine hC _ ?_; clear hC C; simp only [List.drop, Nat.reduceAdd]) | (refine arun_skip ?_ ?_; (focus (simp [awant, h1]; done))) | (refine arun_c0 (ValidStore_AC s .loose) ?_; rintro _ rfl) | (refine AW.regionK [] (fun K hK => ?_)) | (refine AW.regionDK [] (pcs [] []) (by kernel_rfl) (by kernel_rfl) (fun K hK => ?_)) | (refine AW.condT ?_ ?_; (focus (simp [aev, h1]; done))) | (refine AW.condF ?_ ?_; (focus (simp [aev, h1]; done))) | with_reducible refine AW.block ?_ | ((first | ((first | refine arun_nil ?_ | refine arunD_nil ?_); refine hK _ ?_; clear hK K) | refine AW.skip ?_ | refine AW.exit ?_ | refine AW.ret ?_); simp only [thenA_exit, inBlockA_exit, if_true, if_false, Nat.reduceEqDiff, thenA_normal, inBlockA_normal, reduceIte, thenA_ret, inBlockA_ret, endQ_ret, endR_ret, endG_ret, endQ_normal, endR_normal, endG_normal])))
    exact ⟨_, by simp [ares, aresL, upd, rowsOf_cons]; rfl, .inl ⟨storeZ_pur, by simp [dropOk, h1], rfl⟩⟩
  obtain ⟨q0, q1, q2, _⟩ := storeB_parts h1
  have hasc := storeB_asc h1
  cases h2 : s.2 == 999
  · have hne : ¬ s.2 = 999 := by simpa using h2
    have hf := findI_mem s nm
    cases h3 : mem (nmL s.1) nm
    · rw [h3] at hf
      (repeat (first | with_reducible refine AW.seq ?_ | ((first | refine arun_kn 4 rfl (fun C hC => ?_) | refine arunD_kn 4 rfl (fun C hC => ?_)); (repeat ((conv => whnf); simp [h1, h2, hne, h3])); refine hC _ ?_; clear hC C; simp only [List.drop, Nat.reduceAdd]) | ((first | refine arun_kn 1 rfl (fun C hC => ?_) | refine arunD_kn 1 rfl (fun C hC => ?_)); (repeat ((conv => whnf); simp [h1, h2, hne, h3])); refine hC _ ?_; clear hC C; simp only [List.drop, Nat.reduceAdd]) | (refine arun_skip ?_ ?_; (focus (simp [awant, h1, h2, hne, h3]; done))) | (refine arun_c0 (ValidStore_AC s .loose) ?_; rintro _ rfl) | (refine arun_c0 (findItem_AC s.1 .loose nm hasc (by omega)) ?_; rintro _ rfl) | (refine AW.regionK [] (fun K hK => ?_)) | (refine AW.regionDK [] (pcs [] []) (by kernel_rfl) (by kernel_rfl) (fun K hK => ?_)) | (refine AW.condT ?_ ?_; (focus (simp [aev, h1, h2, hne, h3]; done))) | (refine AW.condF ?_ ?_; (focus (simp [aev, h1, h2, hne, h3]; done))) | with_reducible refine AW.block ?_ | ((first | ((first | refine arun_nil ?_ | refine arunD_nil ?_); refine hK _ ?_; clear hK K) | refine AW.skip ?_ | refine AW.exit ?_ | refine AW.ret ?_); simp only [thenA_exit, inBlockA_exit, if_true, if_false, Nat.reduceEqDiff, thenA_normal, inBlockA_normal, reduceIte, thenA_ret, inBlockA_ret, endQ_ret, endR_ret, endG_ret, endQ_normal, endR_normal, endG_normal])))
      exact ⟨_, by simp [ares, aresL, upd, rowsOf_cons]; rfl, .inl ⟨storeZ_pur, by simp only [dropOk, h1, hf]; rfl, rfl⟩⟩
    · rw [h3] at hf
      have hlt := lb_lt h3
      rw [nmL_len] at hlt
      have hml : (s.1.map itemL).length = s.1.length := List.length_map _
      have hw : IntKind.i64.wrap (s.2 + 1) = s.2 + 1 := by rw [IntKind.wrap_i64]; omega
      have hw2 : IntKind.i64.wrap ((lbound (nmL s.1) nm : Int) + 1) = (lbound (nmL s.1) nm : Int) + 1 := i64_nat (by omega) (by omega)
      (repeat (first | with_reducible refine AW.seq ?_ | ((first | refine arun_kn 4 rfl (fun C hC => ?_) | refine arunD_kn 4 rfl (fun C hC => ?_)); (repeat ((conv => whnf); simp [h1, h2, hne, h3])); refine hC _ ?_; clear hC C; simp only [List.drop, Nat.reduceAdd]) | ((first | refine arun_kn 1 rfl (fun C hC => ?_) | refine arunD_kn 1 rfl (fun C hC => ?_)); (repeat ((conv => whnf); simp [h1, h2, hne, h3])); refine hC _ ?_; clear hC C; simp only [List.drop, Nat.reduceAdd]) | (refine arun_skip ?_ ?_; (focus (simp [awant, h1, h2, hne, h3]; done))) | (refine arun_c0 (ValidStore_AC s .loose) ?_; rintro _ rfl) | (refine arun_c0 (findItem_AC s.1 .loose nm hasc (by omega)) ?_; rintro _ rfl) | (refine AW.regionK [] (fun K hK => ?_)) | (refine AW.regionDK [] (pcs [] []) (by kernel_rfl) (by kernel_rfl) (fun K hK => ?_)) | (refine AW.condT ?_ ?_; (focus (simp [aev, h1, h2, hne, h3]; done))) | (refine AW.condF ?_ ?_; (focus (simp [aev, h1, h2, hne, h3]; done))) | with_reducible refine AW.block ?_ | ((first | ((first | refine arun_nil ?_ | refine arunD_nil ?_); refine hK _ ?_; clear hK K) | refine AW.skip ?_ | refine AW.exit ?_ | refine AW.ret ?_); simp only [thenA_exit, inBlockA_exit, if_true, if_false, Nat.reduceEqDiff, thenA_normal, inBlockA_normal, reduceIte, thenA_ret, inBlockA_ret, endQ_ret, endR_ret, endG_ret, endQ_normal, endR_normal, endG_normal])))
      refine arun_callG1 (g := storeO s) (R := itemsRow s) [] (fun _ => 0) 29 (by simp [awant]) rfl (implCopyStore_ACG s (storeB_smlS h1)) (by simp) MvR.nil (.cons (.base (.clo (Clo.cloTo (storeA_clo s)))) .nil) (can_of (Nat.le_refl _)) (by simp [upd]) (itemsE_pur _) (fun k => .base (.agg (.cons (.own (by simp) rfl) (.cons (.pur pur_int) .nil)))) ?_
      unfold storeO itemsRow
      (repeat (first | with_reducible refine AW.seq ?_ | ((first | refine arun_kn 4 rfl (fun C hC => ?_) | refine arunD_kn 4 rfl (fun C hC => ?_)); (repeat ((conv => whnf); simp [hw, hw2])); refine hC _ ?_; clear hC C; simp only [List.drop, Nat.reduceAdd]) | ((first | refine arun_kn 1 rfl (fun C hC => ?_) | refine arunD_kn 1 rfl (fun C hC => ?_)); (repeat ((conv => whnf); simp [hw, hw2])); refine hC _ ?_; clear hC C; simp only [List.drop, Nat.reduceAdd]) | (refine arun_skip ?_ ?_; (focus (simp [awant, hw, hw2]; done))) | (refine AW.regionK [] (fun K hK => ?_)) | (refine AW.regionDK [] (pcs [] []) (by kernel_rfl) (by kernel_rfl) (fun K hK => ?_)) | (refine AW.condT ?_ ?_; (focus (simp [aev, hw, hw2]; done))) | (refine AW.condF ?_ ?_; (focus (simp [aev, hw, hw2]; done))) | with_reducible refine AW.block ?_ | ((first | ((first | refine arun_nil ?_ | refine arunD_nil ?_); refine hK _ ?_; clear hK K) | refine AW.skip ?_ | refine AW.exit ?_ | refine AW.ret ?_); simp only [thenA_exit, inBlockA_exit, if_true, if_false, Nat.reduceEqDiff, thenA_normal, inBlockA_normal, reduceIte, thenA_ret, inBlockA_ret, endQ_ret, endR_ret, endG_ret, endQ_normal, endR_normal, endG_normal])))
      have hdel := delI_ACG (s.1.map itemL) (lbound (nmL s.1) nm) (by rw [hml]; exact hlt) (itemsE_pur s.1)
      rw [hml] at hdel
      have hes : (s.1.map itemL).take (lbound (nmL s.1) nm) ++ (s.1.map itemL).drop (lbound (nmL s.1) nm + 1) = (dropS s nm).1.map itemL := by
        unfold dropS
        rw [← dropI_eq hasc nm h3]
        unfold dropI
        rw [List.map_append, List.map_take, List.map_drop]
      have hln : (dropS s nm).1.length = s.1.length - 1 := by
        have := congrArg List.length hes
        rw [List.length_append, List.length_take, List.length_drop, List.length_map, List.length_map] at this
        omega
      rw [hes, ← hln] at hdel
      refine arun_callG1 (g := fun k => .own k (dropS s nm).1.length) (R := itemsR (dropS s nm).1) [(1000, itemsR s.1)] (fun _ => 29) 39 (by simp [awant]) rfl (hdel.mono (fun r b h => ⟨1, h⟩)) (by simp) (MvR.same (by simp [upd, itemsR]) (fun e he c hc => (itemsE_pur s.1 e he c hc).clo) MvR.nil)
        (.cons (.base (.own (by simp) rfl)) (.cons (.base (.clo (Clo.cloTo clo_int))) (.cons (.base (.clo (Clo.cloTo clo_int))) .nil))) (can_of (Nat.le_refl _)) (by simp [upd]) (itemsE_pur _) (fun k => .base (.base (.own (by simp) rfl))) ?_
      unfold itemsR
      have hp2 : s.2 + 1 = (dropS s nm).2 := rfl
      rw [hp2]
      (repeat (first | with_reducible refine AW.seq ?_ | ((first | refine arun_kn 4 rfl (fun C hC => ?_) | refine arunD_kn 4 rfl (fun C hC => ?_)); (repeat ((conv => whnf); simp)); refine hC _ ?_; clear hC C; simp only [List.drop, Nat.reduceAdd]) | ((first | refine arun_kn 1 rfl (fun C hC => ?_) | refine arunD_kn 1 rfl (fun C hC => ?_)); (repeat ((conv => whnf); simp)); refine hC _ ?_; clear hC C; simp only [List.drop, Nat.reduceAdd]) | (refine arun_skip ?_ ?_; (focus (simp [awant]; done))) | (refine AW.regionK [] (fun K hK => ?_)) | (refine AW.regionDK [] (pcs [] []) (by kernel_rfl) (by kernel_rfl) (fun K hK => ?_)) | (refine AW.condT ?_ ?_; (focus (simp [aev]; done))) | (refine AW.condF ?_ ?_; (focus (simp [aev]; done))) | with_reducible refine AW.block ?_ | ((first | ((first | refine arun_nil ?_ | refine arunD_nil ?_); refine hK _ ?_; clear hK K) | refine AW.skip ?_ | refine AW.exit ?_ | refine AW.ret ?_); simp only [thenA_exit, inBlockA_exit, if_true, if_false, Nat.reduceEqDiff, thenA_normal, inBlockA_normal, reduceIte, thenA_ret, inBlockA_ret, endQ_ret, endR_ret, endG_ret, endQ_normal, endR_normal, endG_normal])))
      exact ⟨.tup [storeO (dropS s nm) 39, .bool true], by simp [ares, aresL, upd, rowsOf_cons], .inr ⟨fun id => .tup [storeO (dropS s nm) id, .bool true], 39, itemsRow (dropS s nm), rfl, by simp [upd, itemsRow], tup_res _ true 39, itemsE_pur _, by simp only [dropOk, h1, hf, h2]; rfl, rfl, rfl⟩⟩
  · have he : s.2 = 999 := by simpa using h2
    (repeat (first | with_reducible refine AW.seq ?_ | ((first | refine arun_kn 4 rfl (fun C hC => ?_) | refine arunD_kn 4 rfl (fun C hC => ?_)); (repeat ((conv => whnf); simp [h1, h2, he])); refine hC _ ?_; clear hC C; simp only [List.drop, Nat.reduceAdd]) | ((first | refine arun_kn 1 rfl (fun C hC => ?_) | refine arunD_kn 1 rfl (fun C hC => ?_)); (repeat ((conv => whnf); simp [h1, h2, he])); refine hC _ ?_; clear hC C; simp only [List.drop, Nat.reduceAdd]) | (refine arun_skip ?_ ?_; (focus (simp [awant, h1, h2, he]; done))) | (refine arun_c0 (hx := by (simp [h1, h2, he] <;> fail)) (ValidStore_AC s .loose) ?_; rintro _ rfl) | (refine AW.regionK [] (fun K hK => ?_)) | (refine AW.regionDK [] (pcs [] []) (by kernel_rfl) (by kernel_rfl) (fun K hK => ?_)) | (refine AW.condT ?_ ?_; (focus (simp [aev, h1, h2, he]; done))) | (refine AW.condF ?_ ?_; (focus (simp [aev, h1, h2, he]; done))) | with_reducible refine AW.block ?_ | ((first | ((first | refine arun_nil ?_ | refine arunD_nil ?_); refine hK _ ?_; clear hK K) | refine AW.skip ?_ | refine AW.exit ?_ | refine AW.ret ?_); simp only [thenA_exit, inBlockA_exit, if_true, if_false, Nat.reduceEqDiff, thenA_normal, inBlockA_normal, reduceIte, thenA_ret, inBlockA_ret, endQ_ret, endR_ret, endG_ret, endQ_normal, endR_normal, endG_normal])))
    exact ⟨_, by simp [ares, aresL, upd, rowsOf_cons]; rfl, .inl ⟨storeZ_pur, by simp only [dropOk, h1, h2]; simp, rfl⟩⟩
theorem implDrop_ACR (s : Sto) (nm : ByteArray) : ACR Try.prog 56 [storeA s, .str nm] 0 (fun _ => False) (ResS (dropOk s nm) (dropS s nm)) := (implDrop_ACR0 s nm).rowS
theorem implDrop_AC (s : Sto) (nm : ByteArray) : AC Try.prog 56 [storeA s, .str nm] 0 (fun r => r = .tup [storeA (okS (dropOk s nm) (dropS s nm)), .bool (dropOk s nm)]) := AC.ofRes (implDrop_ACR s nm)
end Go.Proofs.Ytmeobmegnneegaa.Eng
namespace Go.Proofs.Ytmeobmegnneegaa.Eng
open Go Go.RowKit
theorem storeB_of {s : Sto} (h1 : s.1.length ≤ 10) (h2 : 0 ≤ s.2) (h3 : s.2 ≤ 999) (h4 : ∀ x ∈ s.1, itmB s.2 x = true) (h5 : (s.1.map (·.1)).Pairwise (fun a b => lt a b = true)) : storeB s = true := by
  have key : ∀ (l : List Itm) (p : Option ByteArray), (∀ x ∈ l, itmB s.2 x = true) → (l.map (·.1)).Pairwise (fun a b => lt a b = true) → (∀ y, p = some y → ∀ x ∈ l, lt y x.1 = true) → itmsFrom s.2 p l = true := by
    intro l
    induction l with
    | nil => intros; rfl
    | cons x l ih =>
      intro p ha hb hc
      unfold itmsFrom
      rw [List.map_cons, List.pairwise_cons] at hb
      rw [ha x (by simp), ih _ (fun y hy => ha y (by simp [hy])) hb.2 (fun y hy z hz => by
        cases hy
        exact hb.1 z.1 (List.mem_map.2 ⟨z, hz, rfl⟩))]
      cases p with
      | none => rfl
      | some y => simp [hc y rfl x (by simp)]
  unfold storeB inR itmsB
  rw [key s.1 none h4 h5 (fun y hy => by cases hy)]
  simp [h1, h2, h3]
theorem putL_has {nm : ByteArray} {nx : Itm} : ∀ {l : List Itm}, nx ∈ putL nm nx false l
  | [] => by unfold putL; simp
  | x :: l => by
    unfold putL
    simp only [List.mem_append]
    cases lts x.1 nm
    · left; left; simp
    · right; exact putL_has
theorem putOk_parts {s : Sto} {nm : ByteArray} {n : Nd} (h : putOk s nm n = true) : storeB s = true ∧ nameB nm = true ∧ validB n = true ∧ storeB (putS s nm n) = true := by
  unfold putOk at h
  simp only [Bool.and_eq_true] at h
  exact ⟨h.1.1.1, h.1.1.2, h.1.2, h.2⟩
theorem itmB_mono {c c' : Int} (h : c ≤ c') {x : Itm} (hx : itmB c x = true) : itmB c' x = true := by
  unfold itmB inR at *
  simp only [Bool.and_eq_true, decide_eq_true_eq] at *
  exact ⟨⟨hx.1.1, hx.1.2.1, by omega⟩, hx.2⟩
theorem dropL_sub (nm : ByteArray) : ∀ (l : List Itm), ((dropL nm l).map (·.1)).Sublist (l.map (·.1))
  | [] => by simp [dropL]
  | x :: l => by
    unfold dropL
    rw [List.map_append, List.map_cons]
    split
    · simp only [List.map_nil, List.nil_append]
      exact (dropL_sub nm l).cons _
    · simp only [List.map_cons, List.map_nil, List.singleton_append]
      exact (dropL_sub nm l).cons_cons _
theorem dropOk_parts {s : Sto} {nm : ByteArray} (h : dropOk s nm = true) : storeB s = true ∧ mem (nmL s.1) nm = true ∧ s.2 ≠ 999 := by
  unfold dropOk at h
  rw [findI_mem] at h
  simp only [Bool.and_eq_true, Bool.not_not, Bool.not_eq_true', beq_eq_false_iff_ne] at h
  exact ⟨h.1.1, h.1.2, h.2⟩
theorem drop_store {s : Sto} {nm : ByteArray} (h : dropOk s nm = true) : storeB (dropS s nm) = true := by
  obtain ⟨p1, p2, p3⟩ := dropOk_parts h
  obtain ⟨q1, q2, q3, q4, q5⟩ := storeB_parts p1
  have e2 : (dropS s nm).2 = s.2 + 1 := rfl
  refine storeB_of (by have := dropL_len nm s.1; unfold dropS; dsimp only; omega) (by rw [e2]; omega) (by rw [e2]; omega) ?_ ?_
  · intro x hx
    rw [e2]
    exact itmB_mono (by omega) (q4 x (dropL_mem nm s.1 x hx))
  · exact q5.sublist (dropL_sub nm s.1)
theorem nwF_max {l : List Itm} : ∀ {n i k : Nat}, i + n = l.length → (hk : k < l.length) → (∀ j (h : j < i), j < l.length → (l[j]?.getD Itm.zero).2.1 ≤ (l[k]?.getD Itm.zero).2.1) → ∀ j, j < l.length → (l[j]?.getD Itm.zero).2.1 ≤ (l[nwF l n i k]?.getD Itm.zero).2.1
  | 0, i, k, hi, hk, h, j, hj => by unfold nwF; exact h j (by omega) hj
  | n + 1, i, k, hi, hk, h, j, hj => by
    unfold nwF
    refine nwF_max (by omega) (by split <;> omega) (fun j' h1 h2 => ?_) j hj
    by_cases e : j' = i
    · subst e
      split
      · exact Int.le_refl _
      · omega
    · have := h j' (by omega) h2
      split
      · omega
      · exact this
theorem nw_get {s : Sto} (h : nwB s = true) : gtB s (nwN s) = true ∧ ∀ x ∈ s.1, x.2.1 ≤ (gtI s (nwN s)).2.1 := by
  have h' := h
  unfold nwB at h'
  simp only [Bool.and_eq_true, decide_eq_true_eq] at h'
  have hlt : nwI s < s.1.length := nwF_lt (by omega) h'.2
  have e : nwN s = s.1[nwI s].1 := by unfold nwN; rw [h, List.getElem?_eq_getElem hlt]; rfl
  obtain ⟨g1, g2⟩ := gt_at h'.1 (nwI s) hlt
  rw [e, g1, g2]
  refine ⟨rfl, fun x hx => ?_⟩
  obtain ⟨j, hj, rfl⟩ := List.getElem_of_mem hx
  have := nwF_max (l := s.1) (n := s.1.length) (i := 0) (k := 0) (by omega) h'.2 (fun j h => by omega) j hj
  unfold nwI
  rw [List.getElem?_eq_getElem hj] at this
  have hlt' := hlt
  unfold nwI at hlt'
  rw [List.getElem?_eq_getElem hlt'] at this
  exact this
theorem nw_put {s : Sto} {nm : ByteArray} {n : Nd} (h : putOk s nm n = true) : nwB (putS s nm n) = true ∧ nwN (putS s nm n) = nm := by
  obtain ⟨p1, p2, p3, p4⟩ := putOk_parts h
  have hb : nwB (putS s nm n) = true := by
    unfold nwB
    rw [p4]
    have : 0 < (putS s nm n).1.length := List.length_pos_of_mem (show (nm, s.2 + 1, n) ∈ (putS s nm n).1 from putL_has)
    simp [this]
  refine ⟨hb, ?_⟩
  obtain ⟨g1, g2⟩ := nw_get hb
  have h3 := g2 (nm, s.2 + 1, n) putL_has
  dsimp only at h3
  have hg := gt_name g1
  have g1' := g1
  unfold gtB at g1'
  rw [Bool.and_eq_true] at g1'
  obtain ⟨-, hl, e1, e2⟩ := gt_yes g1'.1 g1'.2
  have hmem : gtI (putS s nm n) (nwN (putS s nm n)) ∈ (putS s nm n).1 := by rw [e1]; exact List.getElem_mem hl
  rw [eqs_iff] at hg
  rcases putL_mem _ _ _ _ _ hmem with e | hm
  · rw [← hg, e]
  · have := (storeB_parts p1).2.2.2.1 _ hm
    unfold itmB inR at this
    simp only [Bool.and_eq_true, decide_eq_true_eq] at this
    omega
end Go.Proofs.Ytmeobmegnneegaa.Eng
-- EV: store
namespace Go.Proofs.Ytmeobmegnneegaa.Eng
open Go Go.RowKit
attribute [local simp] big size_mk ASt.pay Option.map_map Function.comp_def awant aop acall ado aev ofVal ofVal0 ASt.put ASt.add ASt.turn ASt.kill abox aalloc astore aload ASt.at cellsTo afieldAddr afield aindexAddr aindex alen abin aint acmp astr aun apick aextract anil aslice abound abuild afill abuildSlice asCells aps avCells over upd aappend asrc amax amin aconv mkSt slots rowsOf_cons rowsOf_nil usedOf_cons usedOf_nil ZK.av List.replicate ASt.back ASt.addL ASt.killL nodeA nodeT nodeTL_eq nodeL_eq strsE_get strsE_len intsE_get intsE_len strsE_at intsE_at itemA itemL_eq storeA storeT storeO itemsRow tab2 tab3 tab4 tab5 tab6 tab7 tab8 tab9 tab10 tab11 tab12 tab13 tab14 tab15 tab16 tab17 tab18 tab19 tab21 tab22 tab23 tab24 tab25 tab26 tab27 tab28 tab31 tab32 tab33 tab37 tab38 tab39 tab46 tab53 tab61 tab62 tab69 tab70 tab98 tab116 tab117 tab125 tab126 tab128 tab136 tab145 tab146 tab151 tab152 tab153 tab155 tab156 tab157
theorem equalStore_AC (t t' : VC) (s : Sto) (hs : SmlS s) : AC Try.prog 55 [storeT t s, storeT t' s] 0 (fun r => r = .bool true) := by
  have p := equalItems_AC t t' s.1 (by have := hs.1; omega) hs.2
  unfold storeT
  refine AC.of tab_ok mixed_ok Try.func55 (by rfl) (by kernel_rfl) ?_; rintro ⟨P, T, hT, hm, w0, S0, rd0, k0⟩ hP hTT; dsimp only at hP hTT; subst hP hTT; unfold initSt; rw [Try.ntmps55]
  (repeat (first | with_reducible refine AW.seq ?_ | ((first | refine arun_kn 4 rfl (fun C hC => ?_) | refine arunD_kn 4 rfl (fun C hC => ?_)); (repeat ((conv => whnf); simp)); refine hC _ ?_; clear hC C; simp only [List.drop, Nat.reduceAdd]) | ((first | refine arun_kn 1 rfl (fun C hC => ?_) | refine arunD_kn 1 rfl (fun C hC => ?_)); (repeat ((conv => whnf); simp)); refine hC _ ?_; clear hC C; simp only [List.drop, Nat.reduceAdd]) | (refine arun_skip ?_ ?_; (focus (simp [awant]; done))) | (refine arun_c0 (p) ?_; rintro _ rfl) | (refine AW.regionK [] (fun K hK => ?_)) | (refine AW.regionDK [] (pcs [] []) (by kernel_rfl) (by kernel_rfl) (fun K hK => ?_)) | (refine AW.condT ?_ ?_; (focus (simp [aev]; done))) | (refine AW.condF ?_ ?_; (focus (simp [aev]; done))) | with_reducible refine AW.block ?_ | ((first | ((first | refine arun_nil ?_ | refine arunD_nil ?_); refine hK _ ?_; clear hK K) | refine AW.skip ?_ | refine AW.exit ?_ | refine AW.ret ?_); simp only [thenA_exit, inBlockA_exit, if_true, if_false, Nat.reduceEqDiff, thenA_normal, inBlockA_normal, reduceIte, thenA_ret, inBlockA_ret, endQ_ret, endR_ret, endG_ret, endQ_normal, endR_normal, endG_normal])))
  exact ⟨.bool true, by simp [ares, aresL], pur_bool, rfl⟩
theorem number_AC (k : Int) : AC Try.prog 65 [.int .i64 k] 0 (fun r => r = nodeA ⟨1, k, ⟨#[]⟩, [], []⟩) := by
  refine AC.weak ?_
  refine AC.of tab_ok mixed_ok Try.func65 (by rfl) (by kernel_rfl) ?_; rintro ⟨P, T, hT, hm, w0, S0, rd0, k0⟩ hP hTT; dsimp only at hP hTT; subst hP hTT; unfold initSt; rw [Try.ntmps65]
  (repeat (first | with_reducible refine AW.seq ?_ | ((first | refine arun_kn 4 rfl (fun C hC => ?_) | refine arunD_kn 4 rfl (fun C hC => ?_)); (repeat ((conv => whnf); simp)); refine hC _ ?_; clear hC C; simp only [List.drop, Nat.reduceAdd]) | ((first | refine arun_kn 1 rfl (fun C hC => ?_) | refine arunD_kn 1 rfl (fun C hC => ?_)); (repeat ((conv => whnf); simp)); refine hC _ ?_; clear hC C; simp only [List.drop, Nat.reduceAdd]) | (refine arun_skip ?_ ?_; (focus (simp [awant]; done))) | (refine AW.regionK [] (fun K hK => ?_)) | (refine AW.regionDK [] (pcs [] []) (by kernel_rfl) (by kernel_rfl) (fun K hK => ?_)) | (refine AW.condT ?_ ?_; (focus (simp [aev]; done))) | (refine AW.condF ?_ ?_; (focus (simp [aev]; done))) | with_reducible refine AW.block ?_ | ((first | ((first | refine arun_nil ?_ | refine arunD_nil ?_); refine hK _ ?_; clear hK K) | refine AW.skip ?_ | refine AW.exit ?_ | refine AW.ret ?_); simp only [thenA_exit, inBlockA_exit, if_true, if_false, Nat.reduceEqDiff, thenA_normal, inBlockA_normal, reduceIte, thenA_ret, inBlockA_ret, endQ_ret, endR_ret, endG_ret, endQ_normal, endR_normal, endG_normal])))
  refine ⟨.agg [.int .i64 1, .int .i64 k, .str ⟨#[]⟩, .view .tight 0 [], .view .tight 0 []], by simp [ares, aresL, upd, rowsOf_cons], node0_pur 1 k ⟨#[]⟩, nodeA ⟨1, k, ⟨#[]⟩, [], []⟩, ?_, rfl⟩
  unfold nodeA
  rw [nodeL_eq]
  exact Wk.agg (.cons (Wk.refl _) (.cons (Wk.refl _) (.cons (Wk.refl _) (.cons (Wk.nil (fun h => by cases h)) (.cons (Wk.nil (fun h => by cases h)) .nil)))))
theorem okS_sml {b : Bool} {s : Sto} (h : b = true → storeB s = true) : SmlS (okS b s) := by
  cases b
  · exact ⟨by simp [okS], fun x hx => by simp [okS] at hx⟩
  · exact storeB_smlS (h rfl)
theorem sb_in (t : Sto) (b : Bool) : NoId (.tup [storeA t, .bool b]) := in_tup.2 (by
  simp only [List.forall_mem_cons, List.not_mem_nil, false_implies, implies_true, and_true]
  exact ⟨storeA_in t, in_bool⟩)
end Go.Proofs.Ytmeobmegnneegaa.Eng
-- EV: store skip
namespace Go.Proofs.Ytmeobmegnneegaa.Eng
open Go Go.RowKit
attribute [local simp] big size_mk ASt.pay Option.map_map Function.comp_def awant aop acall ado aev ofVal ofVal0 ASt.put ASt.add ASt.turn ASt.kill abox aalloc astore aload ASt.at cellsTo afieldAddr afield aindexAddr aindex alen abin aint acmp astr aun apick aextract anil aslice abound abuild afill abuildSlice asCells aps avCells over upd aappend asrc amax amin aconv mkSt slots rowsOf_cons rowsOf_nil usedOf_cons usedOf_nil ZK.av List.replicate ASt.back ASt.addL ASt.killL nodeA nodeT nodeTL_eq nodeL_eq strsE_get strsE_len intsE_get intsE_len strsE_at intsE_at itemA itemL_eq storeA storeT storeO itemsRow tab2 tab3 tab4 tab5 tab6 tab7 tab8 tab9 tab10 tab11 tab12 tab13 tab14 tab15 tab16 tab17 tab18 tab19 tab21 tab22 tab23 tab24 tab25 tab26 tab27 tab28 tab31 tab32 tab33 tab37 tab38 tab39 tab46 tab53 tab61 tab62 tab69 tab70 tab98 tab116 tab117 tab125 tab126 tab128 tab136 tab145 tab146 tab151 tab152 tab153 tab155 tab156 tab157
theorem lawNewestItem_AC0 (zs : List Int) (hb : ByteL zs) : AC0 Try.prog 17 [.view .loose 1 (bytesE zs)] (fun r => r = .bool true) := by
  refine AC0.of tab_ok mixed_ok Try.func17 (by rfl) (by kernel_rfl) ?_; rintro ⟨P, T, hT, hm, w0, S0, rd0, k0⟩ hP hTT hk0; dsimp only at hP hTT hk0; subst hP hTT hk0; unfold initSt; rw [Try.ntmps17]
  by_cases hl : zs.length ≤ 1048576
  · have hl' : ¬ ((1048576 : Int) < (zs.length : Int)) := by omega
    (repeat (first | with_reducible refine AW.seq ?_ | ((first | refine arun_kn 4 rfl (fun C hC => ?_) | refine arunD_kn 4 rfl (fun C hC => ?_)); (repeat ((conv => whnf); simp [bytesE_len, hl'])); refine hC _ ?_; clear hC C; simp only [List.drop, Nat.reduceAdd]) | ((first | refine arun_kn 1 rfl (fun C hC => ?_) | refine arunD_kn 1 rfl (fun C hC => ?_)); (repeat ((conv => whnf); simp [bytesE_len, hl'])); refine hC _ ?_; clear hC C; simp only [List.drop, Nat.reduceAdd]) | (refine arun_skip ?_ ?_; (focus (simp [awant, bytesE_len, hl']; done))) | (refine arun_cZ (drawNewestItem_AC0 zs hl hb) ?_; (rintro _ ⟨s, hs, rfl⟩)) | (refine arunD_skip ?_ ?_; (focus (simp [awant, bytesE_len, hl']; done))) | (refine AW.regionK [] (fun K hK => ?_)) | (refine AW.regionDK [] (pcs [] []) (by kernel_rfl) (by kernel_rfl) (fun K hK => ?_)) | (refine AW.condT ?_ ?_; (focus (simp [aev, bytesE_len, hl']; done))) | (refine AW.condF ?_ ?_; (focus (simp [aev, bytesE_len, hl']; done))) | with_reducible refine AW.block ?_ | ((first | ((first | refine arun_nil ?_ | refine arunD_nil ?_); refine hK _ ?_; clear hK K) | refine AW.skip ?_ | refine AW.exit ?_ | refine AW.ret ?_); simp only [thenA_exit, inBlockA_exit, if_true, if_false, Nat.reduceEqDiff, thenA_normal, inBlockA_normal, reduceIte, thenA_ret, inBlockA_ret, endQ_ret, endR_ret, endG_ret, endQ_normal, endR_normal, endG_normal])))
    have p1 := NewestItem_AC s .loose
    have p2 := specNewestItem_AC s .loose
    cases hk : nwB s <;> rw [hk] at p1 p2
    · generalize nwN s = nm at *
      (repeat (first | with_reducible refine AW.seq ?_ | ((first | refine arun_kn 4 rfl (fun C hC => ?_) | refine arunD_kn 4 rfl (fun C hC => ?_)); (repeat ((conv => whnf); simp [eqs_self'])); refine hC _ ?_; clear hC C; simp only [List.drop, Nat.reduceAdd]) | ((first | refine arun_kn 1 rfl (fun C hC => ?_) | refine arunD_kn 1 rfl (fun C hC => ?_)); (repeat ((conv => whnf); simp [eqs_self'])); refine hC _ ?_; clear hC C; simp only [List.drop, Nat.reduceAdd]) | (refine arun_skip ?_ ?_; (focus (simp [awant, eqs_self']; done))) | (refine arun_c0 (p1) ?_; rintro _ rfl) | (refine arun_c0 (p2) ?_; rintro _ rfl) | (refine arunD_skip ?_ ?_; (focus (simp [awant, eqs_self']; done))) | (refine AW.regionK [] (fun K hK => ?_)) | (refine AW.regionDK [] (pcs [] []) (by kernel_rfl) (by kernel_rfl) (fun K hK => ?_)) | (refine AW.condT ?_ ?_; (focus (simp [aev, eqs_self']; done))) | (refine AW.condF ?_ ?_; (focus (simp [aev, eqs_self']; done))) | with_reducible refine AW.block ?_ | ((first | ((first | refine arun_nil ?_ | refine arunD_nil ?_); refine hK _ ?_; clear hK K) | refine AW.skip ?_ | refine AW.exit ?_ | refine AW.ret ?_); simp only [thenA_exit, inBlockA_exit, if_true, if_false, Nat.reduceEqDiff, thenA_normal, inBlockA_normal, reduceIte, thenA_ret, inBlockA_ret, endQ_ret, endR_ret, endG_ret, endQ_normal, endR_normal, endG_normal])))
      exact ⟨.bool true, by simp [ares, aresL], pur_bool, rfl⟩
    · have hg := nw_get hk
      have p3 := GetItem_AC s .loose (nwN s)
      rw [hg.1] at p3
      have hmax := hg.2
      generalize gtI s (nwN s) = g at *
      generalize nwN s = nm at *
      (repeat (first | with_reducible refine AW.seq ?_ | ((first | refine arun_kn 4 rfl (fun C hC => ?_) | refine arunD_kn 4 rfl (fun C hC => ?_)); (repeat ((conv => whnf); simp [eqs_self'])); refine hC _ ?_; clear hC C; simp only [List.drop, Nat.reduceAdd]) | ((first | refine arun_kn 1 rfl (fun C hC => ?_) | refine arunD_kn 1 rfl (fun C hC => ?_)); (repeat ((conv => whnf); simp [eqs_self'])); refine hC _ ?_; clear hC C; simp only [List.drop, Nat.reduceAdd]) | (refine arun_skip ?_ ?_; (focus (simp [awant, eqs_self']; done))) | (refine arun_c0 (p1) ?_; rintro _ rfl) | (refine arun_c0 (p2) ?_; rintro _ rfl) | (refine arun_c0 (p3) ?_; rintro _ rfl) | (refine arunD_skip ?_ ?_; (focus (simp [awant, eqs_self']; done))) | (refine AW.regionK [] (fun K hK => ?_)) | (refine AW.regionDK [] (pcs [] []) (by kernel_rfl) (by kernel_rfl) (fun K hK => ?_)) | (refine AW.condT ?_ ?_; (focus (simp [aev, eqs_self']; done))) | (refine AW.condF ?_ ?_; (focus (simp [aev, eqs_self']; done))) | with_reducible refine AW.block ?_ | ((first | ((first | refine arun_nil ?_ | refine arunD_nil ?_); refine hK _ ?_; clear hK K) | refine AW.skip ?_ | refine AW.exit ?_ | refine AW.ret ?_); simp only [thenA_exit, inBlockA_exit, if_true, if_false, Nat.reduceEqDiff, thenA_normal, inBlockA_normal, reduceIte, thenA_ret, inBlockA_ret, endQ_ret, endR_ret, endG_ret, endQ_normal, endR_normal, endG_normal])))
      refine AW.loopS (fun (i : Nat) => mkSt (slots 0 96 [(3, .ptr true 2 1 3 0 0), (8, .ptr true 7 1 8 0 0), (9, .bool true), (10, .int .i64 i)]) [(3, ⟨true, 33, 2, [[.view .loose 7 (s.1.map itemL), .int .i64 s.2]]⟩), (8, ⟨true, 62, 7, [itemL g]⟩)] [3, 8] none) (fun i => s.1.length - i) (fun i => i ≤ s.1.length) 0 ?_ (Nat.zero_le _) ?_
      · exact less_s
      · intro i hi
        by_cases hlt : i < s.1.length
        · have hw : IntKind.i64.wrap ((i : Int) + 1) = (i : Int) + 1 := i64_nat (by omega) (by omega)
          have hv := hmax s.1[i] (List.getElem_mem hlt)
          have hv' : ¬ g.2.1 < s.1[i].2.1 := by omega
          (repeat (first | with_reducible refine AW.seq ?_ | ((first | refine arun_kn 4 rfl (fun C hC => ?_) | refine arunD_kn 4 rfl (fun C hC => ?_)); (repeat ((conv => whnf); simp [hlt, hw, hv', List.length_map])); refine hC _ ?_; clear hC C; simp only [List.drop, Nat.reduceAdd]) | ((first | refine arun_kn 1 rfl (fun C hC => ?_) | refine arunD_kn 1 rfl (fun C hC => ?_)); (repeat ((conv => whnf); simp [hlt, hw, hv', List.length_map])); refine hC _ ?_; clear hC C; simp only [List.drop, Nat.reduceAdd]) | (refine arun_skip ?_ ?_; (focus (simp [awant, hlt, hw, hv', List.length_map]; done))) | (refine arunD_skip ?_ ?_; (focus (simp [awant, hlt, hw, hv', List.length_map]; done))) | (refine AW.regionK [] (fun K hK => ?_)) | (refine AW.regionDK [] (pcs [] []) (by kernel_rfl) (by kernel_rfl) (fun K hK => ?_)) | (refine AW.condT ?_ ?_; (focus (simp [aev, hlt, hw, hv', List.length_map]; done))) | (refine AW.condF ?_ ?_; (focus (simp [aev, hlt, hw, hv', List.length_map]; done))) | with_reducible refine AW.block ?_ | ((first | ((first | refine arun_nil ?_ | refine arunD_nil ?_); refine hK _ ?_; clear hK K) | refine AW.skip ?_ | refine AW.exit ?_ | refine AW.ret ?_); simp only [thenA_exit, inBlockA_exit, if_true, if_false, Nat.reduceEqDiff, thenA_normal, inBlockA_normal, reduceIte, thenA_ret, inBlockA_ret, endQ_ret, endR_ret, endG_ret, endQ_normal, endR_normal, endG_normal])))
          exact ⟨i + 1, by omega, by omega, less_s⟩
        · have p4 := number_AC 1
          have p5 := implPut_AC s ⟨#[98]⟩ ⟨1, 1, ⟨#[]⟩, [], []⟩
          have p6 := NewestItem_AC (okS (putOk s ⟨#[98]⟩ ⟨1, 1, ⟨#[]⟩, [], []⟩) (putS s ⟨#[98]⟩ ⟨1, 1, ⟨#[]⟩, [], []⟩)) .loose
          have hnw := nw_put (s := s) (nm := ⟨#[98]⟩) (n := ⟨1, 1, ⟨#[]⟩, [], []⟩)
          cases hq : putOk s ⟨#[98]⟩ ⟨1, 1, ⟨#[]⟩, [], []⟩ <;> rw [hq] at p5 p6
          · generalize okS false (putS s ⟨#[98]⟩ ⟨1, 1, ⟨#[]⟩, [], []⟩) = t at *
            generalize nwN t = tn at *
            generalize nwB t = tb at *
            (repeat (first | with_reducible refine AW.seq ?_ | ((first | refine arun_kn 4 rfl (fun C hC => ?_) | refine arunD_kn 4 rfl (fun C hC => ?_)); (repeat ((conv => whnf); simp [hlt])); refine hC _ ?_; clear hC C; simp only [List.drop, Nat.reduceAdd]) | ((first | refine arun_kn 1 rfl (fun C hC => ?_) | refine arunD_kn 1 rfl (fun C hC => ?_)); (repeat ((conv => whnf); simp [hlt])); refine hC _ ?_; clear hC C; simp only [List.drop, Nat.reduceAdd]) | (refine arun_skip ?_ ?_; (focus (simp [awant, hlt]; done))) | (refine arun_c0 (p4) ?_; rintro _ rfl) | (refine arun_c0 (p5) ?_; rintro _ rfl) | (refine arun_c0 (p6) ?_; rintro _ rfl) | (refine arunD_skip ?_ ?_; (focus (simp [awant, hlt]; done))) | (refine arunD_c (0) (p4) ?_; rintro _ rfl; intro _) | (refine arunD_cE (0) (p5) (by exact ⟨_, rfl, sb_in _ _⟩) ?_; rintro _ rfl; intro _) | (refine arunD_c (0) (p6) ?_; rintro _ rfl; intro _) | (refine AW.regionK [] (fun K hK => ?_)) | (refine AW.regionDK [] (pcs [(1, 0, fun r => r = nodeA ⟨1, 1, ⟨#[]⟩, [], []⟩), (2, 0, fun r => r = .tup [storeA t, .bool false])] []) (by kernel_rfl) (by kernel_rfl) (fun K hK => ?_)) | (refine AW.condT ?_ ?_; (focus (simp [aev, hlt]; done))) | (refine AW.condF ?_ ?_; (focus (simp [aev, hlt]; done))) | with_reducible refine AW.block ?_ | ((first | ((first | refine arun_nil ?_ | refine arunD_nil ?_); refine hK _ ?_; clear hK K) | refine AW.skip ?_ | refine AW.exit ?_ | refine AW.ret ?_); simp only [thenA_exit, inBlockA_exit, if_true, if_false, Nat.reduceEqDiff, thenA_normal, inBlockA_normal, reduceIte, thenA_ret, inBlockA_ret, endQ_ret, endR_ret, endG_ret, endQ_normal, endR_normal, endG_normal])))
            exact ⟨.bool true, by simp [ares, aresL], pur_bool, rfl⟩
          · have e2 : okS true (putS s ⟨#[98]⟩ ⟨1, 1, ⟨#[]⟩, [], []⟩) = putS s ⟨#[98]⟩ ⟨1, 1, ⟨#[]⟩, [], []⟩ := rfl
            rw [e2] at p5 p6
            rw [(hnw hq).1, (hnw hq).2] at p6
            generalize putS s ⟨#[98]⟩ ⟨1, 1, ⟨#[]⟩, [], []⟩ = t at *
            (repeat (first | with_reducible refine AW.seq ?_ | ((first | refine arun_kn 4 rfl (fun C hC => ?_) | refine arunD_kn 4 rfl (fun C hC => ?_)); (repeat ((conv => whnf); simp [hlt, eqs_self'])); refine hC _ ?_; clear hC C; simp only [List.drop, Nat.reduceAdd]) | ((first | refine arun_kn 1 rfl (fun C hC => ?_) | refine arunD_kn 1 rfl (fun C hC => ?_)); (repeat ((conv => whnf); simp [hlt, eqs_self'])); refine hC _ ?_; clear hC C; simp only [List.drop, Nat.reduceAdd]) | (refine arun_skip ?_ ?_; (focus (simp [awant, hlt, eqs_self']; done))) | (refine arun_c0 (p4) ?_; rintro _ rfl) | (refine arun_c0 (p5) ?_; rintro _ rfl) | (refine arun_c0 (p6) ?_; rintro _ rfl) | (refine arunD_skip ?_ ?_; (focus (simp [awant, hlt, eqs_self']; done))) | (refine arunD_c (0) (p4) ?_; rintro _ rfl; intro _) | (refine arunD_cE (0) (p5) (by exact ⟨_, rfl, sb_in _ _⟩) ?_; rintro _ rfl; intro _) | (refine arunD_c (0) (p6) ?_; rintro _ rfl; intro _) | (refine AW.regionK [] (fun K hK => ?_)) | (refine AW.regionDK [] (pcs [(1, 0, fun r => r = nodeA ⟨1, 1, ⟨#[]⟩, [], []⟩), (2, 0, fun r => r = .tup [storeA t, .bool true])] []) (by kernel_rfl) (by kernel_rfl) (fun K hK => ?_)) | (refine AW.condT ?_ ?_; (focus (simp [aev, hlt, eqs_self']; done))) | (refine AW.condF ?_ ?_; (focus (simp [aev, hlt, eqs_self']; done))) | with_reducible refine AW.block ?_ | ((first | ((first | refine arun_nil ?_ | refine arunD_nil ?_); refine hK _ ?_; clear hK K) | refine AW.skip ?_ | refine AW.exit ?_ | refine AW.ret ?_); simp only [thenA_exit, inBlockA_exit, if_true, if_false, Nat.reduceEqDiff, thenA_normal, inBlockA_normal, reduceIte, thenA_ret, inBlockA_ret, endQ_ret, endR_ret, endG_ret, endQ_normal, endR_normal, endG_normal])))
            exact ⟨.bool true, by simp [ares, aresL], pur_bool, rfl⟩
  · have hl' : (1048576 : Int) < (zs.length : Int) := by omega
    (repeat (first | with_reducible refine AW.seq ?_ | ((first | refine arun_kn 4 rfl (fun C hC => ?_) | refine arunD_kn 4 rfl (fun C hC => ?_)); (repeat ((conv => whnf); simp [bytesE_len, hl'])); refine hC _ ?_; clear hC C; simp only [List.drop, Nat.reduceAdd]) | ((first | refine arun_kn 1 rfl (fun C hC => ?_) | refine arunD_kn 1 rfl (fun C hC => ?_)); (repeat ((conv => whnf); simp [bytesE_len, hl'])); refine hC _ ?_; clear hC C; simp only [List.drop, Nat.reduceAdd]) | (refine arun_skip ?_ ?_; (focus (simp [awant, bytesE_len, hl']; done))) | (refine arunD_skip ?_ ?_; (focus (simp [awant, bytesE_len, hl']; done))) | (refine AW.regionK [] (fun K hK => ?_)) | (refine AW.regionDK [] (pcs [] []) (by kernel_rfl) (by kernel_rfl) (fun K hK => ?_)) | (refine AW.condT ?_ ?_; (focus (simp [aev, bytesE_len, hl']; done))) | (refine AW.condF ?_ ?_; (focus (simp [aev, bytesE_len, hl']; done))) | with_reducible refine AW.block ?_ | ((first | ((first | refine arun_nil ?_ | refine arunD_nil ?_); refine hK _ ?_; clear hK K) | refine AW.skip ?_ | refine AW.exit ?_ | refine AW.ret ?_); simp only [thenA_exit, inBlockA_exit, if_true, if_false, Nat.reduceEqDiff, thenA_normal, inBlockA_normal, reduceIte, thenA_ret, inBlockA_ret, endQ_ret, endR_ret, endG_ret, endQ_normal, endR_normal, endG_normal])))
    exact ⟨.bool true, by simp [ares, aresL], pur_bool, rfl⟩
end Go.Proofs.Ytmeobmegnneegaa.Eng
-- EV: store change skip
namespace Go.Proofs.Ytmeobmegnneegaa.Eng
open Go Go.RowKit
attribute [local simp] big size_mk ASt.pay Option.map_map Function.comp_def awant aop acall ado aev ofVal ofVal0 ASt.put ASt.add ASt.turn ASt.kill abox aalloc astore aload ASt.at cellsTo afieldAddr afield aindexAddr aindex alen abin aint acmp astr aun apick aextract anil aslice abound abuild afill abuildSlice asCells aps avCells over upd aappend asrc amax amin aconv mkSt slots rowsOf_cons rowsOf_nil usedOf_cons usedOf_nil ZK.av List.replicate ASt.back ASt.addL ASt.killL nodeA nodeT nodeTL_eq nodeL_eq strsE_get strsE_len intsE_get intsE_len strsE_at intsE_at itemA itemL_eq storeA storeT storeO itemsRow changeA changeL_eq tab2 tab3 tab4 tab5 tab6 tab7 tab8 tab9 tab10 tab11 tab12 tab13 tab14 tab15 tab16 tab17 tab18 tab19 tab21 tab22 tab23 tab24 tab25 tab26 tab27 tab28 tab31 tab32 tab33 tab37 tab38 tab39 tab46 tab53 tab61 tab62 tab69 tab70 tab98 tab116 tab117 tab125 tab126 tab128 tab136 tab145 tab146 tab151 tab152 tab153 tab155 tab156 tab157
def chB (nm : ByteArray) (g : Bool) (n : Nd) : Bool := nameB nm && validB n && (!g || decide (n.kind = 0))
def apB (s : Sto) (nm : ByteArray) (g : Bool) (n : Nd) : Bool := if g then dropOk s nm else putOk s nm n
def apS (s : Sto) (nm : ByteArray) (g : Bool) (n : Nd) : Sto := if g then dropS s nm else putS s nm n
def apOk (s : Sto) (nm : ByteArray) (g : Bool) (n : Nd) : Bool := storeB s && chB nm g n && apB s nm g n
theorem isChange_AC (nm : ByteArray) (g : Bool) (n : Nd) : AC Try.prog 103 [changeA nm g n] 0 (fun r => r = .bool (chB nm g n)) := by
  have p1 := isName_AC nm
  have p2 := ValidNode_AC n .loose
  unfold changeA chB
  rw [changeL_eq]
  refine AC.of tab_ok mixed_ok Try.func103 (by rfl) (by kernel_rfl) ?_; rintro ⟨P, T, hT, hm, w0, S0, rd0, k0⟩ hP hTT; dsimp only at hP hTT; subst hP hTT; unfold initSt; rw [Try.ntmps103]
  cases h1 : nameB nm <;> rw [h1] at p1
  · (repeat (first | with_reducible refine AW.seq ?_ | ((first | refine arun_kn 4 rfl (fun C hC => ?_) | refine arunD_kn 4 rfl (fun C hC => ?_)); (repeat ((conv => whnf); simp)); refine hC _ ?_; clear hC C; simp only [List.drop, Nat.reduceAdd]) | ((first | refine arun_kn 1 rfl (fun C hC => ?_) | refine arunD_kn 1 rfl (fun C hC => ?_)); (repeat ((conv => whnf); simp)); refine hC _ ?_; clear hC C; simp only [List.drop, Nat.reduceAdd]) | (refine arun_skip ?_ ?_; (focus (simp [awant]; done))) | (refine arun_c0 (p1) ?_; rintro _ rfl) | (refine arun_c0 (p2) ?_; rintro _ rfl) | (refine arunD_skip ?_ ?_; (focus (simp [awant]; done))) | (refine AW.regionK [] (fun K hK => ?_)) | (refine AW.regionDK [] (pcs [] []) (by kernel_rfl) (by kernel_rfl) (fun K hK => ?_)) | (refine AW.condT ?_ ?_; (focus (simp [aev]; done))) | (refine AW.condF ?_ ?_; (focus (simp [aev]; done))) | with_reducible refine AW.block ?_ | ((first | ((first | refine arun_nil ?_ | refine arunD_nil ?_); refine hK _ ?_; clear hK K) | refine AW.skip ?_ | refine AW.exit ?_ | refine AW.ret ?_); simp only [thenA_exit, inBlockA_exit, if_true, if_false, Nat.reduceEqDiff, thenA_normal, inBlockA_normal, reduceIte, thenA_ret, inBlockA_ret, endQ_ret, endR_ret, endG_ret, endQ_normal, endR_normal, endG_normal])))
    exact ⟨.bool false, by simp [ares, aresL], pur_bool, rfl⟩
  · cases h2 : validB n <;> rw [h2] at p2
    · (repeat (first | with_reducible refine AW.seq ?_ | ((first | refine arun_kn 4 rfl (fun C hC => ?_) | refine arunD_kn 4 rfl (fun C hC => ?_)); (repeat ((conv => whnf); simp)); refine hC _ ?_; clear hC C; simp only [List.drop, Nat.reduceAdd]) | ((first | refine arun_kn 1 rfl (fun C hC => ?_) | refine arunD_kn 1 rfl (fun C hC => ?_)); (repeat ((conv => whnf); simp)); refine hC _ ?_; clear hC C; simp only [List.drop, Nat.reduceAdd]) | (refine arun_skip ?_ ?_; (focus (simp [awant]; done))) | (refine arun_c0 (p1) ?_; rintro _ rfl) | (refine arun_c0 (p2) ?_; rintro _ rfl) | (refine arunD_skip ?_ ?_; (focus (simp [awant]; done))) | (refine AW.regionK [] (fun K hK => ?_)) | (refine AW.regionDK [] (pcs [] []) (by kernel_rfl) (by kernel_rfl) (fun K hK => ?_)) | (refine AW.condT ?_ ?_; (focus (simp [aev]; done))) | (refine AW.condF ?_ ?_; (focus (simp [aev]; done))) | with_reducible refine AW.block ?_ | ((first | ((first | refine arun_nil ?_ | refine arunD_nil ?_); refine hK _ ?_; clear hK K) | refine AW.skip ?_ | refine AW.exit ?_ | refine AW.ret ?_); simp only [thenA_exit, inBlockA_exit, if_true, if_false, Nat.reduceEqDiff, thenA_normal, inBlockA_normal, reduceIte, thenA_ret, inBlockA_ret, endQ_ret, endR_ret, endG_ret, endQ_normal, endR_normal, endG_normal])))
      exact ⟨.bool false, by simp [ares, aresL], pur_bool, rfl⟩
    · cases g
      · (repeat (first | with_reducible refine AW.seq ?_ | ((first | refine arun_kn 4 rfl (fun C hC => ?_) | refine arunD_kn 4 rfl (fun C hC => ?_)); (repeat ((conv => whnf); simp)); refine hC _ ?_; clear hC C; simp only [List.drop, Nat.reduceAdd]) | ((first | refine arun_kn 1 rfl (fun C hC => ?_) | refine arunD_kn 1 rfl (fun C hC => ?_)); (repeat ((conv => whnf); simp)); refine hC _ ?_; clear hC C; simp only [List.drop, Nat.reduceAdd]) | (refine arun_skip ?_ ?_; (focus (simp [awant]; done))) | (refine arun_c0 (p1) ?_; rintro _ rfl) | (refine arun_c0 (p2) ?_; rintro _ rfl) | (refine arunD_skip ?_ ?_; (focus (simp [awant]; done))) | (refine AW.regionK [] (fun K hK => ?_)) | (refine AW.regionDK [] (pcs [] []) (by kernel_rfl) (by kernel_rfl) (fun K hK => ?_)) | (refine AW.condT ?_ ?_; (focus (simp [aev]; done))) | (refine AW.condF ?_ ?_; (focus (simp [aev]; done))) | with_reducible refine AW.block ?_ | ((first | ((first | refine arun_nil ?_ | refine arunD_nil ?_); refine hK _ ?_; clear hK K) | refine AW.skip ?_ | refine AW.exit ?_ | refine AW.ret ?_); simp only [thenA_exit, inBlockA_exit, if_true, if_false, Nat.reduceEqDiff, thenA_normal, inBlockA_normal, reduceIte, thenA_ret, inBlockA_ret, endQ_ret, endR_ret, endG_ret, endQ_normal, endR_normal, endG_normal])))
        exact ⟨.bool true, by simp [ares, aresL], pur_bool, rfl⟩
      · by_cases hk : n.kind = 0
        · (repeat (first | with_reducible refine AW.seq ?_ | ((first | refine arun_kn 4 rfl (fun C hC => ?_) | refine arunD_kn 4 rfl (fun C hC => ?_)); (repeat ((conv => whnf); simp [hk])); refine hC _ ?_; clear hC C; simp only [List.drop, Nat.reduceAdd]) | ((first | refine arun_kn 1 rfl (fun C hC => ?_) | refine arunD_kn 1 rfl (fun C hC => ?_)); (repeat ((conv => whnf); simp [hk])); refine hC _ ?_; clear hC C; simp only [List.drop, Nat.reduceAdd]) | (refine arun_skip ?_ ?_; (focus (simp [awant, hk]; done))) | (refine arun_c0 (p1) ?_; rintro _ rfl) | (refine arun_c0 (hx := by (simp [hk] <;> fail)) (p2) ?_; rintro _ rfl) | (refine arunD_skip ?_ ?_; (focus (simp [awant, hk]; done))) | (refine AW.regionK [] (fun K hK => ?_)) | (refine AW.regionDK [] (pcs [] []) (by kernel_rfl) (by kernel_rfl) (fun K hK => ?_)) | (refine AW.condT ?_ ?_; (focus (simp [aev, hk]; done))) | (refine AW.condF ?_ ?_; (focus (simp [aev, hk]; done))) | with_reducible refine AW.block ?_ | ((first | ((first | refine arun_nil ?_ | refine arunD_nil ?_); refine hK _ ?_; clear hK K) | refine AW.skip ?_ | refine AW.exit ?_ | refine AW.ret ?_); simp only [thenA_exit, inBlockA_exit, if_true, if_false, Nat.reduceEqDiff, thenA_normal, inBlockA_normal, reduceIte, thenA_ret, inBlockA_ret, endQ_ret, endR_ret, endG_ret, endQ_normal, endR_normal, endG_normal])))
          exact ⟨.bool true, by simp [ares, aresL], pur_bool, by simp [hk]⟩
        · (repeat (first | with_reducible refine AW.seq ?_ | ((first | refine arun_kn 4 rfl (fun C hC => ?_) | refine arunD_kn 4 rfl (fun C hC => ?_)); (repeat ((conv => whnf); simp [hk])); refine hC _ ?_; clear hC C; simp only [List.drop, Nat.reduceAdd]) | ((first | refine arun_kn 1 rfl (fun C hC => ?_) | refine arunD_kn 1 rfl (fun C hC => ?_)); (repeat ((conv => whnf); simp [hk])); refine hC _ ?_; clear hC C; simp only [List.drop, Nat.reduceAdd]) | (refine arun_skip ?_ ?_; (focus (simp [awant, hk]; done))) | (refine arun_c0 (p1) ?_; rintro _ rfl) | (refine arun_c0 (p2) ?_; rintro _ rfl) | (refine arunD_skip ?_ ?_; (focus (simp [awant, hk]; done))) | (refine AW.regionK [] (fun K hK => ?_)) | (refine AW.regionDK [] (pcs [] []) (by kernel_rfl) (by kernel_rfl) (fun K hK => ?_)) | (refine AW.condT ?_ ?_; (focus (simp [aev, hk]; done))) | (refine AW.condF ?_ ?_; (focus (simp [aev, hk]; done))) | with_reducible refine AW.block ?_ | ((first | ((first | refine arun_nil ?_ | refine arunD_nil ?_); refine hK _ ?_; clear hK K) | refine AW.skip ?_ | refine AW.exit ?_ | refine AW.ret ?_); simp only [thenA_exit, inBlockA_exit, if_true, if_false, Nat.reduceEqDiff, thenA_normal, inBlockA_normal, reduceIte, thenA_ret, inBlockA_ret, endQ_ret, endR_ret, endG_ret, endQ_normal, endR_normal, endG_normal])))
          exact ⟨.bool false, by simp [ares, aresL, hk], pur_bool, by simp [hk]⟩
theorem validChange_AC (nm : ByteArray) (g : Bool) (n : Nd) : AC Try.prog 104 [changeA nm g n] 0 (fun r => r = .bool (chB nm g n)) := by
  have p1 := validName_AC nm
  have p2 := validNode_AC n .loose
  unfold changeA chB
  rw [changeL_eq]
  refine AC.of tab_ok mixed_ok Try.func104 (by rfl) (by kernel_rfl) ?_; rintro ⟨P, T, hT, hm, w0, S0, rd0, k0⟩ hP hTT; dsimp only at hP hTT; subst hP hTT; unfold initSt; rw [Try.ntmps104]
  cases h1 : nameB nm <;> rw [h1] at p1
  · (repeat (first | with_reducible refine AW.seq ?_ | ((first | refine arun_kn 4 rfl (fun C hC => ?_) | refine arunD_kn 4 rfl (fun C hC => ?_)); (repeat ((conv => whnf); simp)); refine hC _ ?_; clear hC C; simp only [List.drop, Nat.reduceAdd]) | ((first | refine arun_kn 1 rfl (fun C hC => ?_) | refine arunD_kn 1 rfl (fun C hC => ?_)); (repeat ((conv => whnf); simp)); refine hC _ ?_; clear hC C; simp only [List.drop, Nat.reduceAdd]) | (refine arun_skip ?_ ?_; (focus (simp [awant]; done))) | (refine arun_c0 (p1) ?_; rintro _ rfl) | (refine arun_c0 (p2) ?_; rintro _ rfl) | (refine arunD_skip ?_ ?_; (focus (simp [awant]; done))) | (refine AW.regionK [] (fun K hK => ?_)) | (refine AW.regionDK [] (pcs [] []) (by kernel_rfl) (by kernel_rfl) (fun K hK => ?_)) | (refine AW.condT ?_ ?_; (focus (simp [aev]; done))) | (refine AW.condF ?_ ?_; (focus (simp [aev]; done))) | with_reducible refine AW.block ?_ | ((first | ((first | refine arun_nil ?_ | refine arunD_nil ?_); refine hK _ ?_; clear hK K) | refine AW.skip ?_ | refine AW.exit ?_ | refine AW.ret ?_); simp only [thenA_exit, inBlockA_exit, if_true, if_false, Nat.reduceEqDiff, thenA_normal, inBlockA_normal, reduceIte, thenA_ret, inBlockA_ret, endQ_ret, endR_ret, endG_ret, endQ_normal, endR_normal, endG_normal])))
    exact ⟨.bool false, by simp [ares, aresL], pur_bool, rfl⟩
  · cases h2 : validB n <;> rw [h2] at p2
    · (repeat (first | with_reducible refine AW.seq ?_ | ((first | refine arun_kn 4 rfl (fun C hC => ?_) | refine arunD_kn 4 rfl (fun C hC => ?_)); (repeat ((conv => whnf); simp)); refine hC _ ?_; clear hC C; simp only [List.drop, Nat.reduceAdd]) | ((first | refine arun_kn 1 rfl (fun C hC => ?_) | refine arunD_kn 1 rfl (fun C hC => ?_)); (repeat ((conv => whnf); simp)); refine hC _ ?_; clear hC C; simp only [List.drop, Nat.reduceAdd]) | (refine arun_skip ?_ ?_; (focus (simp [awant]; done))) | (refine arun_c0 (p1) ?_; rintro _ rfl) | (refine arun_c0 (p2) ?_; rintro _ rfl) | (refine arunD_skip ?_ ?_; (focus (simp [awant]; done))) | (refine AW.regionK [] (fun K hK => ?_)) | (refine AW.regionDK [] (pcs [] []) (by kernel_rfl) (by kernel_rfl) (fun K hK => ?_)) | (refine AW.condT ?_ ?_; (focus (simp [aev]; done))) | (refine AW.condF ?_ ?_; (focus (simp [aev]; done))) | with_reducible refine AW.block ?_ | ((first | ((first | refine arun_nil ?_ | refine arunD_nil ?_); refine hK _ ?_; clear hK K) | refine AW.skip ?_ | refine AW.exit ?_ | refine AW.ret ?_); simp only [thenA_exit, inBlockA_exit, if_true, if_false, Nat.reduceEqDiff, thenA_normal, inBlockA_normal, reduceIte, thenA_ret, inBlockA_ret, endQ_ret, endR_ret, endG_ret, endQ_normal, endR_normal, endG_normal])))
      exact ⟨.bool false, by simp [ares, aresL], pur_bool, rfl⟩
    · cases g
      · (repeat (first | with_reducible refine AW.seq ?_ | ((first | refine arun_kn 4 rfl (fun C hC => ?_) | refine arunD_kn 4 rfl (fun C hC => ?_)); (repeat ((conv => whnf); simp)); refine hC _ ?_; clear hC C; simp only [List.drop, Nat.reduceAdd]) | ((first | refine arun_kn 1 rfl (fun C hC => ?_) | refine arunD_kn 1 rfl (fun C hC => ?_)); (repeat ((conv => whnf); simp)); refine hC _ ?_; clear hC C; simp only [List.drop, Nat.reduceAdd]) | (refine arun_skip ?_ ?_; (focus (simp [awant]; done))) | (refine arun_c0 (p1) ?_; rintro _ rfl) | (refine arun_c0 (p2) ?_; rintro _ rfl) | (refine arunD_skip ?_ ?_; (focus (simp [awant]; done))) | (refine AW.regionK [] (fun K hK => ?_)) | (refine AW.regionDK [] (pcs [] []) (by kernel_rfl) (by kernel_rfl) (fun K hK => ?_)) | (refine AW.condT ?_ ?_; (focus (simp [aev]; done))) | (refine AW.condF ?_ ?_; (focus (simp [aev]; done))) | with_reducible refine AW.block ?_ | ((first | ((first | refine arun_nil ?_ | refine arunD_nil ?_); refine hK _ ?_; clear hK K) | refine AW.skip ?_ | refine AW.exit ?_ | refine AW.ret ?_); simp only [thenA_exit, inBlockA_exit, if_true, if_false, Nat.reduceEqDiff, thenA_normal, inBlockA_normal, reduceIte, thenA_ret, inBlockA_ret, endQ_ret, endR_ret, endG_ret, endQ_normal, endR_normal, endG_normal])))
        exact ⟨.bool true, by simp [ares, aresL], pur_bool, rfl⟩
      · by_cases hk : n.kind = 0
        · (repeat (first | with_reducible refine AW.seq ?_ | ((first | refine arun_kn 4 rfl (fun C hC => ?_) | refine arunD_kn 4 rfl (fun C hC => ?_)); (repeat ((conv => whnf); simp [hk])); refine hC _ ?_; clear hC C; simp only [List.drop, Nat.reduceAdd]) | ((first | refine arun_kn 1 rfl (fun C hC => ?_) | refine arunD_kn 1 rfl (fun C hC => ?_)); (repeat ((conv => whnf); simp [hk])); refine hC _ ?_; clear hC C; simp only [List.drop, Nat.reduceAdd]) | (refine arun_skip ?_ ?_; (focus (simp [awant, hk]; done))) | (refine arun_c0 (p1) ?_; rintro _ rfl) | (refine arun_c0 (hx := by (simp [hk] <;> fail)) (p2) ?_; rintro _ rfl) | (refine arunD_skip ?_ ?_; (focus (simp [awant, hk]; done))) | (refine AW.regionK [] (fun K hK => ?_)) | (refine AW.regionDK [] (pcs [] []) (by kernel_rfl) (by kernel_rfl) (fun K hK => ?_)) | (refine AW.condT ?_ ?_; (focus (simp [aev, hk]; done))) | (refine AW.condF ?_ ?_; (focus (simp [aev, hk]; done))) | with_reducible refine AW.block ?_ | ((first | ((first | refine arun_nil ?_ | refine arunD_nil ?_); refine hK _ ?_; clear hK K) | refine AW.skip ?_ | refine AW.exit ?_ | refine AW.ret ?_); simp only [thenA_exit, inBlockA_exit, if_true, if_false, Nat.reduceEqDiff, thenA_normal, inBlockA_normal, reduceIte, thenA_ret, inBlockA_ret, endQ_ret, endR_ret, endG_ret, endQ_normal, endR_normal, endG_normal])))
          exact ⟨.bool true, by simp [ares, aresL], pur_bool, by simp [hk]⟩
        · (repeat (first | with_reducible refine AW.seq ?_ | ((first | refine arun_kn 4 rfl (fun C hC => ?_) | refine arunD_kn 4 rfl (fun C hC => ?_)); (repeat ((conv => whnf); simp [hk])); refine hC _ ?_; clear hC C; simp only [List.drop, Nat.reduceAdd]) | ((first | refine arun_kn 1 rfl (fun C hC => ?_) | refine arunD_kn 1 rfl (fun C hC => ?_)); (repeat ((conv => whnf); simp [hk])); refine hC _ ?_; clear hC C; simp only [List.drop, Nat.reduceAdd]) | (refine arun_skip ?_ ?_; (focus (simp [awant, hk]; done))) | (refine arun_c0 (p1) ?_; rintro _ rfl) | (refine arun_c0 (p2) ?_; rintro _ rfl) | (refine arunD_skip ?_ ?_; (focus (simp [awant, hk]; done))) | (refine AW.regionK [] (fun K hK => ?_)) | (refine AW.regionDK [] (pcs [] []) (by kernel_rfl) (by kernel_rfl) (fun K hK => ?_)) | (refine AW.condT ?_ ?_; (focus (simp [aev, hk]; done))) | (refine AW.condF ?_ ?_; (focus (simp [aev, hk]; done))) | with_reducible refine AW.block ?_ | ((first | ((first | refine arun_nil ?_ | refine arunD_nil ?_); refine hK _ ?_; clear hK K) | refine AW.skip ?_ | refine AW.exit ?_ | refine AW.ret ?_); simp only [thenA_exit, inBlockA_exit, if_true, if_false, Nat.reduceEqDiff, thenA_normal, inBlockA_normal, reduceIte, thenA_ret, inBlockA_ret, endQ_ret, endR_ret, endG_ret, endQ_normal, endR_normal, endG_normal])))
          exact ⟨.bool false, by simp [ares, aresL, hk], pur_bool, by simp [hk]⟩
theorem storeZ_wk (s : Sto) : Wk (.tup [storeZ, .bool false]) (.tup [storeA (okS false s), .bool false]) := by
  refine tup2_wk ?_ (Wk.refl _)
  unfold storeZ storeA storeT
  exact Wk.agg (.cons (Wk.nil (fun h => by cases h)) (.cons (Wk.refl _) .nil))
theorem implApply_AC (s : Sto) (nm : ByteArray) (g : Bool) (n : Nd) : AC Try.prog 53 [storeA s, changeA nm g n] 0 (fun r => r = .tup [storeA (okS (apOk s nm g n) (apS s nm g n)), .bool (apOk s nm g n)]) := by
  have p1 := ValidStore_AC s .loose
  have p2 := isChange_AC nm g n
  have p3 := implDrop_AC s nm
  have p4 := implPut_AC s nm n
  refine AC.weak ?_
  unfold storeA storeT changeA
  rw [changeL_eq]
  refine AC.of tab_ok mixed_ok Try.func53 (by rfl) (by kernel_rfl) ?_; rintro ⟨P, T, hT, hm, w0, S0, rd0, k0⟩ hP hTT; dsimp only at hP hTT; subst hP hTT; unfold initSt; rw [Try.ntmps53]
  unfold apOk
  cases h1 : storeB s <;> rw [h1] at p1
  · (repeat (first | with_reducible refine AW.seq ?_ | ((first | refine arun_kn 4 rfl (fun C hC => ?_) | refine arunD_kn 4 rfl (fun C hC => ?_)); (repeat ((conv => whnf); simp)); refine hC _ ?_; clear hC C; simp only [List.drop, Nat.reduceAdd]) | ((first | refine arun_kn 1 rfl (fun C hC => ?_) | refine arunD_kn 1 rfl (fun C hC => ?_)); (repeat ((conv => whnf); simp)); refine hC _ ?_; clear hC C; simp only [List.drop, Nat.reduceAdd]) | (refine arun_skip ?_ ?_; (focus (simp [awant]; done))) | (refine arun_c0 (p1) ?_; rintro _ rfl) | (refine arun_c0 (p2) ?_; rintro _ rfl) | (refine arunD_skip ?_ ?_; (focus (simp [awant]; done))) | (refine AW.regionK [] (fun K hK => ?_)) | (refine AW.regionDK [] (pcs [] []) (by kernel_rfl) (by kernel_rfl) (fun K hK => ?_)) | (refine AW.condT ?_ ?_; (focus (simp [aev]; done))) | (refine AW.condF ?_ ?_; (focus (simp [aev]; done))) | with_reducible refine AW.block ?_ | ((first | ((first | refine arun_nil ?_ | refine arunD_nil ?_); refine hK _ ?_; clear hK K) | refine AW.skip ?_ | refine AW.exit ?_ | refine AW.ret ?_); simp only [thenA_exit, inBlockA_exit, if_true, if_false, Nat.reduceEqDiff, thenA_normal, inBlockA_normal, reduceIte, thenA_ret, inBlockA_ret, endQ_ret, endR_ret, endG_ret, endQ_normal, endR_normal, endG_normal])))
    exact ⟨.tup [storeZ, .bool false], by simp [storeZ, ares, aresL, upd, rowsOf_cons], storeZ_pur, _, storeZ_wk _, rfl⟩
  · cases h2 : chB nm g n <;> rw [h2] at p2
    · (repeat (first | with_reducible refine AW.seq ?_ | ((first | refine arun_kn 4 rfl (fun C hC => ?_) | refine arunD_kn 4 rfl (fun C hC => ?_)); (repeat ((conv => whnf); simp)); refine hC _ ?_; clear hC C; simp only [List.drop, Nat.reduceAdd]) | ((first | refine arun_kn 1 rfl (fun C hC => ?_) | refine arunD_kn 1 rfl (fun C hC => ?_)); (repeat ((conv => whnf); simp)); refine hC _ ?_; clear hC C; simp only [List.drop, Nat.reduceAdd]) | (refine arun_skip ?_ ?_; (focus (simp [awant]; done))) | (refine arun_c0 (p1) ?_; rintro _ rfl) | (refine arun_c0 (p2) ?_; rintro _ rfl) | (refine arunD_skip ?_ ?_; (focus (simp [awant]; done))) | (refine AW.regionK [] (fun K hK => ?_)) | (refine AW.regionDK [] (pcs [] []) (by kernel_rfl) (by kernel_rfl) (fun K hK => ?_)) | (refine AW.condT ?_ ?_; (focus (simp [aev]; done))) | (refine AW.condF ?_ ?_; (focus (simp [aev]; done))) | with_reducible refine AW.block ?_ | ((first | ((first | refine arun_nil ?_ | refine arunD_nil ?_); refine hK _ ?_; clear hK K) | refine AW.skip ?_ | refine AW.exit ?_ | refine AW.ret ?_); simp only [thenA_exit, inBlockA_exit, if_true, if_false, Nat.reduceEqDiff, thenA_normal, inBlockA_normal, reduceIte, thenA_ret, inBlockA_ret, endQ_ret, endR_ret, endG_ret, endQ_normal, endR_normal, endG_normal])))
      exact ⟨.tup [storeZ, .bool false], by simp [storeZ, ares, aresL, upd, rowsOf_cons], storeZ_pur, _, storeZ_wk _, rfl⟩
    · cases g
      · unfold apB apS
        simp only [Bool.true_and, Bool.false_eq_true, if_false]
        generalize okS (putOk s nm n) (putS s nm n) = t at *
        generalize putOk s nm n = b at *
        (repeat (first | with_reducible refine AW.seq ?_ | ((first | refine arun_kn 4 rfl (fun C hC => ?_) | refine arunD_kn 4 rfl (fun C hC => ?_)); (repeat ((conv => whnf); simp)); refine hC _ ?_; clear hC C; simp only [List.drop, Nat.reduceAdd]) | ((first | refine arun_kn 1 rfl (fun C hC => ?_) | refine arunD_kn 1 rfl (fun C hC => ?_)); (repeat ((conv => whnf); simp)); refine hC _ ?_; clear hC C; simp only [List.drop, Nat.reduceAdd]) | (refine arun_skip ?_ ?_; (focus (simp [awant]; done))) | (refine arun_c0 (p1) ?_; rintro _ rfl) | (refine arun_c0 (p2) ?_; rintro _ rfl) | (refine arun_c0 (p4) ?_; rintro _ rfl) | (refine arunD_skip ?_ ?_; (focus (simp [awant]; done))) | (refine AW.regionK [] (fun K hK => ?_)) | (refine AW.regionDK [] (pcs [] []) (by kernel_rfl) (by kernel_rfl) (fun K hK => ?_)) | (refine AW.condT ?_ ?_; (focus (simp [aev]; done))) | (refine AW.condF ?_ ?_; (focus (simp [aev]; done))) | with_reducible refine AW.block ?_ | ((first | ((first | refine arun_nil ?_ | refine arunD_nil ?_); refine hK _ ?_; clear hK K) | refine AW.skip ?_ | refine AW.exit ?_ | refine AW.ret ?_); simp only [thenA_exit, inBlockA_exit, if_true, if_false, Nat.reduceEqDiff, thenA_normal, inBlockA_normal, reduceIte, thenA_ret, inBlockA_ret, endQ_ret, endR_ret, endG_ret, endQ_normal, endR_normal, endG_normal])))
        exact ⟨.tup [storeA t, .bool b], by simp [ares, aresL, upd, rowsOf_cons], tup2_pur (storeA_pur t) pur_bool, _, Wk.refl _, rfl⟩
      · unfold apB apS
        simp only [Bool.true_and, if_true]
        generalize okS (dropOk s nm) (dropS s nm) = t at *
        generalize dropOk s nm = b at *
        (repeat (first | with_reducible refine AW.seq ?_ | ((first | refine arun_kn 4 rfl (fun C hC => ?_) | refine arunD_kn 4 rfl (fun C hC => ?_)); (repeat ((conv => whnf); simp)); refine hC _ ?_; clear hC C; simp only [List.drop, Nat.reduceAdd]) | ((first | refine arun_kn 1 rfl (fun C hC => ?_) | refine arunD_kn 1 rfl (fun C hC => ?_)); (repeat ((conv => whnf); simp)); refine hC _ ?_; clear hC C; simp only [List.drop, Nat.reduceAdd]) | (refine arun_skip ?_ ?_; (focus (simp [awant]; done))) | (refine arun_c0 (p1) ?_; rintro _ rfl) | (refine arun_c0 (p2) ?_; rintro _ rfl) | (refine arun_c0 (p3) ?_; rintro _ rfl) | (refine arunD_skip ?_ ?_; (focus (simp [awant]; done))) | (refine AW.regionK [] (fun K hK => ?_)) | (refine AW.regionDK [] (pcs [] []) (by kernel_rfl) (by kernel_rfl) (fun K hK => ?_)) | (refine AW.condT ?_ ?_; (focus (simp [aev]; done))) | (refine AW.condF ?_ ?_; (focus (simp [aev]; done))) | with_reducible refine AW.block ?_ | ((first | ((first | refine arun_nil ?_ | refine arunD_nil ?_); refine hK _ ?_; clear hK K) | refine AW.skip ?_ | refine AW.exit ?_ | refine AW.ret ?_); simp only [thenA_exit, inBlockA_exit, if_true, if_false, Nat.reduceEqDiff, thenA_normal, inBlockA_normal, reduceIte, thenA_ret, inBlockA_ret, endQ_ret, endR_ret, endG_ret, endQ_normal, endR_normal, endG_normal])))
        exact ⟨.tup [storeA t, .bool b], by simp [ares, aresL, upd, rowsOf_cons], tup2_pur (storeA_pur t) pur_bool, _, Wk.refl _, rfl⟩
theorem applyChange_AC (s : Sto) (nm : ByteArray) (g : Bool) (n : Nd) : AC Try.prog 105 [storeA s, changeA nm g n] 0 (fun r => r = .tup [storeA (okS (apB s nm g n) (apS s nm g n)), .bool (apB s nm g n)]) := by
  have p3 := specDrop_AC .loose s nm
  have p4 := specPut_AC .loose .loose s nm n
  unfold storeA storeT changeA
  rw [changeL_eq]
  refine AC.of tab_ok mixed_ok Try.func105 (by rfl) (by kernel_rfl) ?_; rintro ⟨P, T, hT, hm, w0, S0, rd0, k0⟩ hP hTT; dsimp only at hP hTT; subst hP hTT; unfold initSt; rw [Try.ntmps105]
  cases g
  · unfold apB apS
    simp only [Bool.false_eq_true, if_false]
    generalize okS (putOk s nm n) (putS s nm n) = t at *
    generalize putOk s nm n = b at *
    (repeat (first | with_reducible refine AW.seq ?_ | ((first | refine arun_kn 4 rfl (fun C hC => ?_) | refine arunD_kn 4 rfl (fun C hC => ?_)); (repeat ((conv => whnf); simp)); refine hC _ ?_; clear hC C; simp only [List.drop, Nat.reduceAdd]) | ((first | refine arun_kn 1 rfl (fun C hC => ?_) | refine arunD_kn 1 rfl (fun C hC => ?_)); (repeat ((conv => whnf); simp)); refine hC _ ?_; clear hC C; simp only [List.drop, Nat.reduceAdd]) | (refine arun_skip ?_ ?_; (focus (simp [awant]; done))) | (refine arun_c0 (p4) ?_; rintro _ rfl) | (refine arunD_skip ?_ ?_; (focus (simp [awant]; done))) | (refine AW.regionK [] (fun K hK => ?_)) | (refine AW.regionDK [] (pcs [] []) (by kernel_rfl) (by kernel_rfl) (fun K hK => ?_)) | (refine AW.condT ?_ ?_; (focus (simp [aev]; done))) | (refine AW.condF ?_ ?_; (focus (simp [aev]; done))) | with_reducible refine AW.block ?_ | ((first | ((first | refine arun_nil ?_ | refine arunD_nil ?_); refine hK _ ?_; clear hK K) | refine AW.skip ?_ | refine AW.exit ?_ | refine AW.ret ?_); simp only [thenA_exit, inBlockA_exit, if_true, if_false, Nat.reduceEqDiff, thenA_normal, inBlockA_normal, reduceIte, thenA_ret, inBlockA_ret, endQ_ret, endR_ret, endG_ret, endQ_normal, endR_normal, endG_normal])))
    exact ⟨.tup [storeA t, .bool b], by simp [ares, aresL, upd, rowsOf_cons], tup2_pur (storeA_pur t) pur_bool, rfl⟩
  · unfold apB apS
    simp only [if_true]
    generalize okS (dropOk s nm) (dropS s nm) = t at *
    generalize dropOk s nm = b at *
    (repeat (first | with_reducible refine AW.seq ?_ | ((first | refine arun_kn 4 rfl (fun C hC => ?_) | refine arunD_kn 4 rfl (fun C hC => ?_)); (repeat ((conv => whnf); simp)); refine hC _ ?_; clear hC C; simp only [List.drop, Nat.reduceAdd]) | ((first | refine arun_kn 1 rfl (fun C hC => ?_) | refine arunD_kn 1 rfl (fun C hC => ?_)); (repeat ((conv => whnf); simp)); refine hC _ ?_; clear hC C; simp only [List.drop, Nat.reduceAdd]) | (refine arun_skip ?_ ?_; (focus (simp [awant]; done))) | (refine arun_c0 (p3) ?_; rintro _ rfl) | (refine arunD_skip ?_ ?_; (focus (simp [awant]; done))) | (refine AW.regionK [] (fun K hK => ?_)) | (refine AW.regionDK [] (pcs [] []) (by kernel_rfl) (by kernel_rfl) (fun K hK => ?_)) | (refine AW.condT ?_ ?_; (focus (simp [aev]; done))) | (refine AW.condF ?_ ?_; (focus (simp [aev]; done))) | with_reducible refine AW.block ?_ | ((first | ((first | refine arun_nil ?_ | refine arunD_nil ?_); refine hK _ ?_; clear hK K) | refine AW.skip ?_ | refine AW.exit ?_ | refine AW.ret ?_); simp only [thenA_exit, inBlockA_exit, if_true, if_false, Nat.reduceEqDiff, thenA_normal, inBlockA_normal, reduceIte, thenA_ret, inBlockA_ret, endQ_ret, endR_ret, endG_ret, endQ_normal, endR_normal, endG_normal])))
    exact ⟨.tup [storeA t, .bool b], by simp [ares, aresL, upd, rowsOf_cons], tup2_pur (storeA_pur t) pur_bool, rfl⟩
theorem specApply_AC (s : Sto) (nm : ByteArray) (g : Bool) (n : Nd) : AC Try.prog 54 [storeA s, changeA nm g n] 0 (fun r => r = .tup [storeA (okS (apOk s nm g n) (apS s nm g n)), .bool (apOk s nm g n)]) := by
  have p1 := validStore_AC s .loose
  have p2 := validChange_AC nm g n
  have p3 := applyChange_AC s nm g n
  refine AC.weak ?_
  unfold storeA storeT changeA
  rw [changeL_eq]
  refine AC.of tab_ok mixed_ok Try.func54 (by rfl) (by kernel_rfl) ?_; rintro ⟨P, T, hT, hm, w0, S0, rd0, k0⟩ hP hTT; dsimp only at hP hTT; subst hP hTT; unfold initSt; rw [Try.ntmps54]
  unfold apOk
  cases h1 : storeB s <;> rw [h1] at p1
  · (repeat (first | with_reducible refine AW.seq ?_ | ((first | refine arun_kn 4 rfl (fun C hC => ?_) | refine arunD_kn 4 rfl (fun C hC => ?_)); (repeat ((conv => whnf); simp)); refine hC _ ?_; clear hC C; simp only [List.drop, Nat.reduceAdd]) | ((first | refine arun_kn 1 rfl (fun C hC => ?_) | refine arunD_kn 1 rfl (fun C hC => ?_)); (repeat ((conv => whnf); simp)); refine hC _ ?_; clear hC C; simp only [List.drop, Nat.reduceAdd]) | (refine arun_skip ?_ ?_; (focus (simp [awant]; done))) | (refine arun_c0 (p1) ?_; rintro _ rfl) | (refine arun_c0 (p2) ?_; rintro _ rfl) | (refine arunD_skip ?_ ?_; (focus (simp [awant]; done))) | (refine AW.regionK [] (fun K hK => ?_)) | (refine AW.regionDK [] (pcs [] []) (by kernel_rfl) (by kernel_rfl) (fun K hK => ?_)) | (refine AW.condT ?_ ?_; (focus (simp [aev]; done))) | (refine AW.condF ?_ ?_; (focus (simp [aev]; done))) | with_reducible refine AW.block ?_ | ((first | ((first | refine arun_nil ?_ | refine arunD_nil ?_); refine hK _ ?_; clear hK K) | refine AW.skip ?_ | refine AW.exit ?_ | refine AW.ret ?_); simp only [thenA_exit, inBlockA_exit, if_true, if_false, Nat.reduceEqDiff, thenA_normal, inBlockA_normal, reduceIte, thenA_ret, inBlockA_ret, endQ_ret, endR_ret, endG_ret, endQ_normal, endR_normal, endG_normal])))
    exact ⟨.tup [storeZ, .bool false], by simp [storeZ, ares, aresL, upd, rowsOf_cons], storeZ_pur, _, storeZ_wk _, rfl⟩
  · cases h2 : chB nm g n <;> rw [h2] at p2
    · (repeat (first | with_reducible refine AW.seq ?_ | ((first | refine arun_kn 4 rfl (fun C hC => ?_) | refine arunD_kn 4 rfl (fun C hC => ?_)); (repeat ((conv => whnf); simp)); refine hC _ ?_; clear hC C; simp only [List.drop, Nat.reduceAdd]) | ((first | refine arun_kn 1 rfl (fun C hC => ?_) | refine arunD_kn 1 rfl (fun C hC => ?_)); (repeat ((conv => whnf); simp)); refine hC _ ?_; clear hC C; simp only [List.drop, Nat.reduceAdd]) | (refine arun_skip ?_ ?_; (focus (simp [awant]; done))) | (refine arun_c0 (p1) ?_; rintro _ rfl) | (refine arun_c0 (p2) ?_; rintro _ rfl) | (refine arunD_skip ?_ ?_; (focus (simp [awant]; done))) | (refine AW.regionK [] (fun K hK => ?_)) | (refine AW.regionDK [] (pcs [] []) (by kernel_rfl) (by kernel_rfl) (fun K hK => ?_)) | (refine AW.condT ?_ ?_; (focus (simp [aev]; done))) | (refine AW.condF ?_ ?_; (focus (simp [aev]; done))) | with_reducible refine AW.block ?_ | ((first | ((first | refine arun_nil ?_ | refine arunD_nil ?_); refine hK _ ?_; clear hK K) | refine AW.skip ?_ | refine AW.exit ?_ | refine AW.ret ?_); simp only [thenA_exit, inBlockA_exit, if_true, if_false, Nat.reduceEqDiff, thenA_normal, inBlockA_normal, reduceIte, thenA_ret, inBlockA_ret, endQ_ret, endR_ret, endG_ret, endQ_normal, endR_normal, endG_normal])))
      exact ⟨.tup [storeZ, .bool false], by simp [storeZ, ares, aresL, upd, rowsOf_cons], storeZ_pur, _, storeZ_wk _, rfl⟩
    · simp only [Bool.true_and]
      generalize okS (apB s nm g n) (apS s nm g n) = t at *
      generalize apB s nm g n = b at *
      (repeat (first | with_reducible refine AW.seq ?_ | ((first | refine arun_kn 4 rfl (fun C hC => ?_) | refine arunD_kn 4 rfl (fun C hC => ?_)); (repeat ((conv => whnf); simp)); refine hC _ ?_; clear hC C; simp only [List.drop, Nat.reduceAdd]) | ((first | refine arun_kn 1 rfl (fun C hC => ?_) | refine arunD_kn 1 rfl (fun C hC => ?_)); (repeat ((conv => whnf); simp)); refine hC _ ?_; clear hC C; simp only [List.drop, Nat.reduceAdd]) | (refine arun_skip ?_ ?_; (focus (simp [awant]; done))) | (refine arun_c0 (p1) ?_; rintro _ rfl) | (refine arun_c0 (p2) ?_; rintro _ rfl) | (refine arun_c0 (p3) ?_; rintro _ rfl) | (refine arunD_skip ?_ ?_; (focus (simp [awant]; done))) | (refine AW.regionK [] (fun K hK => ?_)) | (refine AW.regionDK [] (pcs [] []) (by kernel_rfl) (by kernel_rfl) (fun K hK => ?_)) | (refine AW.condT ?_ ?_; (focus (simp [aev]; done))) | (refine AW.condF ?_ ?_; (focus (simp [aev]; done))) | with_reducible refine AW.block ?_ | ((first | ((first | refine arun_nil ?_ | refine arunD_nil ?_); refine hK _ ?_; clear hK K) | refine AW.skip ?_ | refine AW.exit ?_ | refine AW.ret ?_); simp only [thenA_exit, inBlockA_exit, if_true, if_false, Nat.reduceEqDiff, thenA_normal, inBlockA_normal, reduceIte, thenA_ret, inBlockA_ret, endQ_ret, endR_ret, endG_ret, endQ_normal, endR_normal, endG_normal])))
      exact ⟨.tup [storeA t, .bool b], by simp [ares, aresL, upd, rowsOf_cons], tup2_pur (storeA_pur t) pur_bool, _, Wk.refl _, rfl⟩
theorem apOk_store {s : Sto} {nm : ByteArray} {g : Bool} {n : Nd} (h : apOk s nm g n = true) : storeB (apS s nm g n) = true ∧ (apS s nm g n).2 = s.2 + 1 ∧ storeB s = true := by
  unfold apOk at h
  rw [Bool.and_eq_true] at h
  unfold apB apS at *
  cases g
  · exact ⟨(putOk_parts h.2).2.2.2, rfl, (putOk_parts h.2).1⟩
  · exact ⟨drop_store h.2, rfl, (dropOk_parts h.2).1⟩
theorem lawApplyChange_AC0 (zs : List Int) (hb : ByteL zs) : AC0 Try.prog 12 [.view .loose 1 (bytesE zs)] (fun r => r = .bool true) := by
  refine AC0.of tab_ok mixed_ok Try.func12 (by rfl) (by kernel_rfl) ?_; rintro ⟨P, T, hT, hm, w0, S0, rd0, k0⟩ hP hTT hk0; dsimp only at hP hTT hk0; subst hP hTT hk0; unfold initSt; rw [Try.ntmps12]
  by_cases hl : zs.length ≤ 1048576
  · have hl' : ¬ ((1048576 : Int) < (zs.length : Int)) := by omega
    (repeat (first | with_reducible refine AW.seq ?_ | ((first | refine arun_kn 4 rfl (fun C hC => ?_) | refine arunD_kn 4 rfl (fun C hC => ?_)); (repeat ((conv => whnf); simp [bytesE_len, hl'])); refine hC _ ?_; clear hC C; simp only [List.drop, Nat.reduceAdd]) | ((first | refine arun_kn 1 rfl (fun C hC => ?_) | refine arunD_kn 1 rfl (fun C hC => ?_)); (repeat ((conv => whnf); simp [bytesE_len, hl'])); refine hC _ ?_; clear hC C; simp only [List.drop, Nat.reduceAdd]) | (refine arun_skip ?_ ?_; (focus (simp [awant, bytesE_len, hl']; done))) | (refine arun_cZ (drawApplyChange_AC0 zs hl hb) ?_; (rintro _ ⟨s, nm, g, n, hs, hn, rfl⟩)) | (refine arunD_skip ?_ ?_; (focus (simp [awant, bytesE_len, hl']; done))) | (refine AW.regionK [] (fun K hK => ?_)) | (refine AW.regionDK [] (pcs [] []) (by kernel_rfl) (by kernel_rfl) (fun K hK => ?_)) | (refine AW.condT ?_ ?_; (focus (simp [aev, bytesE_len, hl']; done))) | (refine AW.condF ?_ ?_; (focus (simp [aev, bytesE_len, hl']; done))) | with_reducible refine AW.block ?_ | ((first | ((first | refine arun_nil ?_ | refine arunD_nil ?_); refine hK _ ?_; clear hK K) | refine AW.skip ?_ | refine AW.exit ?_ | refine AW.ret ?_); simp only [thenA_exit, inBlockA_exit, if_true, if_false, Nat.reduceEqDiff, thenA_normal, inBlockA_normal, reduceIte, thenA_ret, inBlockA_ret, endQ_ret, endR_ret, endG_ret, endQ_normal, endR_normal, endG_normal])))
    have p1 := implApply_AC s nm g n
    have p2 := specApply_AC s nm g n
    have p3 := equalStore_AC .loose .loose (okS (apOk s nm g n) (apS s nm g n)) (okS_sml (fun h => (apOk_store h).1))
    have p4 := implPut_AC s nm n
    have p5 := implDrop_AC s nm
    cases hk : apOk s nm g n <;> rw [hk] at p1 p2 p3
    · generalize okS false (apS s nm g n) = t at *
      (repeat (first | with_reducible refine AW.seq ?_ | ((first | refine arun_kn 4 rfl (fun C hC => ?_) | refine arunD_kn 4 rfl (fun C hC => ?_)); (repeat ((conv => whnf); simp)); refine hC _ ?_; clear hC C; simp only [List.drop, Nat.reduceAdd]) | ((first | refine arun_kn 1 rfl (fun C hC => ?_) | refine arunD_kn 1 rfl (fun C hC => ?_)); (repeat ((conv => whnf); simp)); refine hC _ ?_; clear hC C; simp only [List.drop, Nat.reduceAdd]) | (refine arun_skip ?_ ?_; (focus (simp [awant]; done))) | (refine arun_c0 (p1) ?_; rintro _ rfl) | (refine arun_c0 (p2) ?_; rintro _ rfl) | (refine arun_c0 (p3) ?_; rintro _ rfl) | (refine arunD_skip ?_ ?_; (focus (simp [awant]; done))) | (refine AW.regionK [] (fun K hK => ?_)) | (refine AW.regionDK [] (pcs [] []) (by kernel_rfl) (by kernel_rfl) (fun K hK => ?_)) | (refine AW.condT ?_ ?_; (focus (simp [aev]; done))) | (refine AW.condF ?_ ?_; (focus (simp [aev]; done))) | with_reducible refine AW.block ?_ | ((first | ((first | refine arun_nil ?_ | refine arunD_nil ?_); refine hK _ ?_; clear hK K) | refine AW.skip ?_ | refine AW.exit ?_ | refine AW.ret ?_); simp only [thenA_exit, inBlockA_exit, if_true, if_false, Nat.reduceEqDiff, thenA_normal, inBlockA_normal, reduceIte, thenA_ret, inBlockA_ret, endQ_ret, endR_ret, endG_ret, endQ_normal, endR_normal, endG_normal])))
      exact ⟨.bool true, by simp [ares, aresL], pur_bool, rfl⟩
    · have e : okS true (apS s nm g n) = apS s nm g n := rfl
      rw [e] at p1 p2 p3
      obtain ⟨hst, ht2, hs1⟩ := apOk_store hk
      have hs2 := storeB_parts hs1
      have hkk := hk
      unfold apOk at hkk
      rw [Bool.and_eq_true] at hkk
      have hb2 := hkk.2
      have hw : IntKind.i64.wrap (s.2 + 1) = s.2 + 1 := i64_nat (by omega) (by omega)
      cases g
      · have e2 : okS (putOk s nm n) (putS s nm n) = apS s nm false n := by
          have : putOk s nm n = true := hb2
          unfold okS; rw [this]; rfl
        have e3 : putOk s nm n = true := hb2
        rw [e2, e3] at p4
        generalize apS s nm false n = t at *
        (repeat (first | with_reducible refine AW.seq ?_ | ((first | refine arun_kn 4 rfl (fun C hC => ?_) | refine arunD_kn 4 rfl (fun C hC => ?_)); (repeat ((conv => whnf); simp [hw, ht2])); refine hC _ ?_; clear hC C; simp only [List.drop, Nat.reduceAdd]) | ((first | refine arun_kn 1 rfl (fun C hC => ?_) | refine arunD_kn 1 rfl (fun C hC => ?_)); (repeat ((conv => whnf); simp [hw, ht2])); refine hC _ ?_; clear hC C; simp only [List.drop, Nat.reduceAdd]) | (refine arun_skip ?_ ?_; (focus (simp [awant, hw, ht2]; done))) | (refine arun_c0 (p1) ?_; rintro _ rfl) | (refine arun_c0 (p2) ?_; rintro _ rfl) | (refine arun_c0 (hx := by (simp [hw, ht2] <;> fail)) (p3) ?_; rintro _ rfl) | (refine arun_c0 (p4) ?_; rintro _ rfl) | (refine arunD_skip ?_ ?_; (focus (simp [awant, hw, ht2]; done))) | (refine AW.regionK [] (fun K hK => ?_)) | (refine AW.regionDK [] (pcs [] []) (by kernel_rfl) (by kernel_rfl) (fun K hK => ?_)) | (refine AW.condT ?_ ?_; (focus (simp [aev, hw, ht2]; done))) | (refine AW.condF ?_ ?_; (focus (simp [aev, hw, ht2]; done))) | with_reducible refine AW.block ?_ | ((first | ((first | refine arun_nil ?_ | refine arunD_nil ?_); refine hK _ ?_; clear hK K) | refine AW.skip ?_ | refine AW.exit ?_ | refine AW.ret ?_); simp only [thenA_exit, inBlockA_exit, if_true, if_false, Nat.reduceEqDiff, thenA_normal, inBlockA_normal, reduceIte, thenA_ret, inBlockA_ret, endQ_ret, endR_ret, endG_ret, endQ_normal, endR_normal, endG_normal])))
        exact ⟨.bool true, by simp [ares, aresL], pur_bool, rfl⟩
      · have e2 : okS (dropOk s nm) (dropS s nm) = apS s nm true n := by
          have : dropOk s nm = true := hb2
          unfold okS; rw [this]; rfl
        have e3 : dropOk s nm = true := hb2
        rw [e2, e3] at p5
        generalize apS s nm true n = t at *
        generalize okS (putOk s nm n) (putS s nm n) = u at *
        generalize putOk s nm n = pb at *
        (repeat (first | with_reducible refine AW.seq ?_ | ((first | refine arun_kn 4 rfl (fun C hC => ?_) | refine arunD_kn 4 rfl (fun C hC => ?_)); (repeat ((conv => whnf); simp [hw, ht2])); refine hC _ ?_; clear hC C; simp only [List.drop, Nat.reduceAdd]) | ((first | refine arun_kn 1 rfl (fun C hC => ?_) | refine arunD_kn 1 rfl (fun C hC => ?_)); (repeat ((conv => whnf); simp [hw, ht2])); refine hC _ ?_; clear hC C; simp only [List.drop, Nat.reduceAdd]) | (refine arun_skip ?_ ?_; (focus (simp [awant, hw, ht2]; done))) | (refine arun_c0 (p1) ?_; rintro _ rfl) | (refine arun_c0 (p2) ?_; rintro _ rfl) | (refine arun_c0 (hx := by (simp [hw, ht2] <;> fail)) (p3) ?_; rintro _ rfl) | (refine arun_c0 (p4) ?_; rintro _ rfl) | (refine arun_c0 (p5) ?_; rintro _ rfl) | (refine arunD_skip ?_ ?_; (focus (simp [awant, hw, ht2]; done))) | (refine AW.regionK [] (fun K hK => ?_)) | (refine AW.regionDK [] (pcs [] []) (by kernel_rfl) (by kernel_rfl) (fun K hK => ?_)) | (refine AW.condT ?_ ?_; (focus (simp [aev, hw, ht2]; done))) | (refine AW.condF ?_ ?_; (focus (simp [aev, hw, ht2]; done))) | with_reducible refine AW.block ?_ | ((first | ((first | refine arun_nil ?_ | refine arunD_nil ?_); refine hK _ ?_; clear hK K) | refine AW.skip ?_ | refine AW.exit ?_ | refine AW.ret ?_); simp only [thenA_exit, inBlockA_exit, if_true, if_false, Nat.reduceEqDiff, thenA_normal, inBlockA_normal, reduceIte, thenA_ret, inBlockA_ret, endQ_ret, endR_ret, endG_ret, endQ_normal, endR_normal, endG_normal])))
        exact ⟨.bool true, by simp [ares, aresL], pur_bool, rfl⟩
  · have hl' : (1048576 : Int) < (zs.length : Int) := by omega
    (repeat (first | with_reducible refine AW.seq ?_ | ((first | refine arun_kn 4 rfl (fun C hC => ?_) | refine arunD_kn 4 rfl (fun C hC => ?_)); (repeat ((conv => whnf); simp [bytesE_len, hl'])); refine hC _ ?_; clear hC C; simp only [List.drop, Nat.reduceAdd]) | ((first | refine arun_kn 1 rfl (fun C hC => ?_) | refine arunD_kn 1 rfl (fun C hC => ?_)); (repeat ((conv => whnf); simp [bytesE_len, hl'])); refine hC _ ?_; clear hC C; simp only [List.drop, Nat.reduceAdd]) | (refine arun_skip ?_ ?_; (focus (simp [awant, bytesE_len, hl']; done))) | (refine arunD_skip ?_ ?_; (focus (simp [awant, bytesE_len, hl']; done))) | (refine AW.regionK [] (fun K hK => ?_)) | (refine AW.regionDK [] (pcs [] []) (by kernel_rfl) (by kernel_rfl) (fun K hK => ?_)) | (refine AW.condT ?_ ?_; (focus (simp [aev, bytesE_len, hl']; done))) | (refine AW.condF ?_ ?_; (focus (simp [aev, bytesE_len, hl']; done))) | with_reducible refine AW.block ?_ | ((first | ((first | refine arun_nil ?_ | refine arunD_nil ?_); refine hK _ ?_; clear hK K) | refine AW.skip ?_ | refine AW.exit ?_ | refine AW.ret ?_); simp only [thenA_exit, inBlockA_exit, if_true, if_false, Nat.reduceEqDiff, thenA_normal, inBlockA_normal, reduceIte, thenA_ret, inBlockA_ret, endQ_ret, endR_ret, endG_ret, endQ_normal, endR_normal, endG_normal])))
    exact ⟨.bool true, by simp [ares, aresL], pur_bool, rfl⟩
end Go.Proofs.Ytmeobmegnneegaa.Eng
