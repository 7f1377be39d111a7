/-
  Texts of this claim, joined.
-/
import Derived.Test.YtiobnaielfeeaaaPrG

set_option linter.unusedSimpArgs false
set_option linter.unusedVariables false
set_option linter.unnecessarySimpa false
set_option maxRecDepth 100000
set_option maxHeartbeats 16000000
-- EV: store skip
namespace Go.Proofs.Ytiobnaielfeeaaa.Eng
open Go Go.RowKit
attribute [local simp] big size_mk ASt.pay Option.map_map Function.comp_def awant aop acall ado aev ofVal ofVal0 ASt.put ASt.add ASt.turn ASt.kill abox aalloc astore aload aloadD astoreD idOf ASt.at cellsTo afieldAddr afield aindexAddr aindex alen abin aint acmp astr aun apick aextract anil aslice abound abuild afill abuildSlice asCells aps avCells over upd aappend asrc amax amin aconv mkSt slots rowsOf_cons rowsOf_nil usedOf_cons usedOf_nil ZK.av List.replicate ASt.back ASt.addL ASt.killL nodeA nodeT nodeTL_eq nodeL_eq strsE_get strsE_len intsE_get intsE_len strsE_at intsE_at itemA itemL_eq storeA storeT storeO itemsRow tab2 tab3 tab4 tab5 tab6 tab7 tab8 tab9 tab10 tab11 tab12 tab13 tab14 tab15 tab16 tab17 tab18 tab19 tab21 tab22 tab23 tab24 tab25 tab26 tab27 tab28 tab29 tab30 tab48 tab51 tab52 tab59 tab77 tab78 tab79 tab91 tab95 tab96 tab97 tab109 tab116 tab132 tab133 tab138 tab139 tab144 tab145 tab146 tab148 tab149 tab150
theorem kcN_pos (l : List Ent) (h : 0 < l.length) : ∀ k, 1 ≤ kcN l (k + 1)
  | 0 => by rw [kcN_no h rfl]; omega
  | k + 1 => by
    have := kcN_pos l h k
    rw [kcN]; omega
theorem kcN_app (l r : List Ent) : ∀ k, k ≤ l.length → kcN (l ++ r) k = kcN l k
  | 0, _ => rfl
  | k + 1, h => by
    have h1 : k < (l ++ r).length := by rw [List.length_append]; omega
    have h2 : k < l.length := by omega
    rw [kcN, kcN, dif_pos h1, dif_pos h2, kcN_app l r k (by omega), List.take_append_of_le_length (by omega), List.getElem_append_left h2]
theorem kcS_twice {l : List Ent} (he : entsB l = true) (h : 0 < l.length) (h10 : ¬ l.length = 10) : kcS (l ++ [l[0]]) = kcS l := by
  have hl := entsB_len he
  have he2 : entsB (l ++ [l[0]]) = true := by
    simp only [entsB, Bool.and_eq_true, decide_eq_true_eq, entsV, List.all_eq_true] at he ⊢
    refine ⟨by rw [List.length_append]; simp; omega, fun e hm => ?_⟩
    rcases List.mem_append.1 hm with hm | hm
    · exact he.2 e hm
    · rw [List.mem_singleton] at hm; subst hm; exact he.2 _ (List.getElem_mem h)
  have hlt : l.length < (l ++ [l[0]]).length := by rw [List.length_append]; simp
  have hk : knB ((l ++ [l[0]]).take l.length) (l ++ [l[0]])[l.length] = true := by
    rw [List.take_left, List.getElem_append_right (Nat.le_refl _)]
    simp only [Nat.sub_self, List.getElem_cons_zero]
    unfold knB
    rw [List.any_eq_true]
    exact ⟨l[0], List.getElem_mem h, by rw [cmpN_refl]; rfl⟩
  have e1 : kcN (l ++ [l[0]]) (l ++ [l[0]]).length = kcN l l.length := by
    rw [show (l ++ [l[0]]).length = l.length + 1 by rw [List.length_append]; rfl, kcN_yes hlt hk, kcN_app l _ _ (Nat.le_refl _)]
  unfold kcS
  rw [he, he2, e1]
theorem drawKeyCount_AC0 (zs : List Int) (hl : zs.length ≤ 1048576) (hb : ByteL zs) : AC0 Try.prog 29 [.view .loose 1 (bytesE zs)] (fun r => ∃ l : List Ent, l.length ≤ 1100 ∧ r = .view .loose 6 (l.map entE)) := by
  have hc := fC_le
  have hE := anyEntries_AC
  have hfC : fC = eC + cN + cN + 4 := rfl
  generalize fC = F at *
  generalize eC = E at *
  refine AC0.of tab_ok mixed_ok Try.func29 (by rfl) (by kernel_rfl) ?_; rintro ⟨P, T, hT, hm, w0, S0, rd0, k0⟩ hP hTT hk0; dsimp only at hP hTT hk0; subst hP hTT hk0; unfold initSt; rw [Try.ntmps29]
  (repeat (first | with_reducible refine AW.seq ?_ | ((first | refine arun_kn 4 rfl (fun C hC => ?_) | refine arunD_kn 4 rfl (fun C hC => ?_)); (repeat ((conv => whnf); simp)); refine hC _ ?_; clear hC C; simp only [List.drop, Nat.reduceAdd]) | ((first | refine arun_kn 1 rfl (fun C hC => ?_) | refine arunD_kn 1 rfl (fun C hC => ?_)); (repeat ((conv => whnf); simp)); refine hC _ ?_; clear hC C; simp only [List.drop, Nat.reduceAdd]) | (refine arun_skip ?_ ?_; (focus (simp [awant]; done))) | (refine arun_cN F (newReader_ACN zs (0 + F) hl (by omega) hb) ?_) | (refine arun_c (E) (hE) ?_; (rintro _ ⟨l, hl, hs, rfl⟩; have hcl := ents_clo l)) | (refine arunD_skip ?_ ?_; (focus (simp [awant]; done))) | (refine AW.regionK [] (fun K hK => ?_)) | (refine AW.regionDK [] (pcs [] []) (by kernel_rfl) (by kernel_rfl) (fun K hK => ?_)) | (refine AW.condT ?_ ?_; (focus (simp [aev]; done))) | (refine AW.condF ?_ ?_; (focus (simp [aev]; done))) | with_reducible refine AW.block ?_ | ((first | ((first | refine arun_nil ?_ | refine arunD_nil ?_); refine hK _ ?_; clear hK K) | refine AW.skip ?_ | refine AW.exit ?_ | refine AW.ret ?_); simp only [thenA_exit, inBlockA_exit, if_true, if_false, Nat.reduceEqDiff, thenA_normal, inBlockA_normal, reduceIte, thenA_ret, inBlockA_ret, endQ_ret, endR_ret, endG_ret, endQ_normal, endR_normal, endG_normal])))
  exact ⟨.view .loose 6 (l.map entE), by simp [ares, aresL, upd, rowsOf_cons], pur_view (by decide) (entsE_pur l), l, hl, rfl⟩
theorem lawKyC_AC0 (zs : List Int) (hb : ByteL zs) : AC0 Try.prog 8 [.view .loose 1 (bytesE zs)] (fun r => r = .bool true) := by
  refine AC0.of tab_ok mixed_ok Try.func8 (by rfl) (by kernel_rfl) ?_; rintro ⟨P, T, hT, hm, w0, S0, rd0, k0⟩ hP hTT hk0; dsimp only at hP hTT hk0; subst hP hTT hk0; unfold initSt; rw [Try.ntmps8]
  by_cases hl : zs.length ≤ 1048576
  rotate_left
  · have hl' : (1048576 : Int) < (zs.length : Int) := by omega
    (repeat (first | with_reducible refine AW.seq ?_ | ((first | refine arun_kn 4 rfl (fun C hC => ?_) | refine arunD_kn 4 rfl (fun C hC => ?_)); (repeat ((conv => whnf); simp [bytesE_len, hl'])); refine hC _ ?_; clear hC C; simp only [List.drop, Nat.reduceAdd]) | ((first | refine arun_kn 1 rfl (fun C hC => ?_) | refine arunD_kn 1 rfl (fun C hC => ?_)); (repeat ((conv => whnf); simp [bytesE_len, hl'])); refine hC _ ?_; clear hC C; simp only [List.drop, Nat.reduceAdd]) | (refine arun_skip ?_ ?_; (focus (simp [awant, bytesE_len, hl']; done))) | (refine arunD_skip ?_ ?_; (focus (simp [awant, bytesE_len, hl']; done))) | (refine AW.regionK [] (fun K hK => ?_)) | (refine AW.regionDK [] (pcs [] []) (by kernel_rfl) (by kernel_rfl) (fun K hK => ?_)) | (refine AW.condT ?_ ?_; (focus (simp [aev, bytesE_len, hl']; done))) | (refine AW.condF ?_ ?_; (focus (simp [aev, bytesE_len, hl']; done))) | with_reducible refine AW.block ?_ | ((first | ((first | refine arun_nil ?_ | refine arunD_nil ?_); refine hK _ ?_; clear hK K) | refine AW.skip ?_ | refine AW.exit ?_ | refine AW.ret ?_); simp only [thenA_exit, inBlockA_exit, if_true, if_false, Nat.reduceEqDiff, thenA_normal, inBlockA_normal, reduceIte, thenA_ret, inBlockA_ret, endQ_ret, endR_ret, endG_ret, endQ_normal, endR_normal, endG_normal])))
    exact ⟨.bool true, by simp [ares, aresL], pur_bool, rfl⟩
  have hl' : ¬ ((1048576 : Int) < (zs.length : Int)) := by omega
  (repeat (first | with_reducible refine AW.seq ?_ | ((first | refine arun_kn 4 rfl (fun C hC => ?_) | refine arunD_kn 4 rfl (fun C hC => ?_)); (repeat ((conv => whnf); simp [bytesE_len, hl'])); refine hC _ ?_; clear hC C; simp only [List.drop, Nat.reduceAdd]) | ((first | refine arun_kn 1 rfl (fun C hC => ?_) | refine arunD_kn 1 rfl (fun C hC => ?_)); (repeat ((conv => whnf); simp [bytesE_len, hl'])); refine hC _ ?_; clear hC C; simp only [List.drop, Nat.reduceAdd]) | (refine arun_skip ?_ ?_; (focus (simp [awant, bytesE_len, hl']; done))) | (refine arun_cZ (drawKeyCount_AC0 zs hl hb) ?_; (rintro _ ⟨l, hll, rfl⟩; have hcl := ents_clo l)) | (refine arunD_skip ?_ ?_; (focus (simp [awant, bytesE_len, hl']; done))) | (refine AW.regionK [] (fun K hK => ?_)) | (refine AW.regionDK [] (pcs [] []) (by kernel_rfl) (by kernel_rfl) (fun K hK => ?_)) | (refine AW.condT ?_ ?_; (focus (simp [aev, bytesE_len, hl']; done))) | (refine AW.condF ?_ ?_; (focus (simp [aev, bytesE_len, hl']; done))) | with_reducible refine AW.block ?_ | ((first | ((first | refine arun_nil ?_ | refine arunD_nil ?_); refine hK _ ?_; clear hK K) | refine AW.skip ?_ | refine AW.exit ?_ | refine AW.ret ?_); simp only [thenA_exit, inBlockA_exit, if_true, if_false, Nat.reduceEqDiff, thenA_normal, inBlockA_normal, reduceIte, thenA_ret, inBlockA_ret, endQ_ret, endR_ret, endG_ret, endQ_normal, endR_normal, endG_normal])))
  have c1 := KeyCount_AC l .loose
  have c2 := specKeyCount_AC l
  cases he : entsB l
  · have e : kcS l = -1 := by unfold kcS; rw [he]; rfl
    rw [e] at c1 c2
    (repeat (first | with_reducible refine AW.seq ?_ | ((first | refine arun_kn 4 rfl (fun C hC => ?_) | refine arunD_kn 4 rfl (fun C hC => ?_)); (repeat ((conv => whnf); simp [List.length_map])); refine hC _ ?_; clear hC C; simp only [List.drop, Nat.reduceAdd]) | ((first | refine arun_kn 1 rfl (fun C hC => ?_) | refine arunD_kn 1 rfl (fun C hC => ?_)); (repeat ((conv => whnf); simp [List.length_map])); refine hC _ ?_; clear hC C; simp only [List.drop, Nat.reduceAdd]) | (refine arun_skip ?_ ?_; (focus (simp [awant, List.length_map]; done))) | (refine arun_c0 (c1) ?_; rintro _ rfl) | (refine arun_c0 (c2) ?_; rintro _ rfl) | (refine arunD_skip ?_ ?_; (focus (simp [awant, List.length_map]; done))) | (refine AW.regionK [] (fun K hK => ?_)) | (refine AW.regionDK [] (pcs [] []) (by kernel_rfl) (by kernel_rfl) (fun K hK => ?_)) | (refine AW.condT ?_ ?_; (focus (simp [aev, List.length_map]; done))) | (refine AW.condF ?_ ?_; (focus (simp [aev, List.length_map]; done))) | with_reducible refine AW.block ?_ | ((first | ((first | refine arun_nil ?_ | refine arunD_nil ?_); refine hK _ ?_; clear hK K) | refine AW.skip ?_ | refine AW.exit ?_ | refine AW.ret ?_); simp only [thenA_exit, inBlockA_exit, if_true, if_false, Nat.reduceEqDiff, thenA_normal, inBlockA_normal, reduceIte, thenA_ret, inBlockA_ret, endQ_ret, endR_ret, endG_ret, endQ_normal, endR_normal, endG_normal])))
    exact ⟨.bool true, by simp [ares, aresL], pur_bool, rfl⟩
  have e : kcS l = (kcN l l.length : Nat) := by unfold kcS; rw [he]; rfl
  have hl10 := entsB_len he
  by_cases hz : l.length = 0
  · rw [List.length_eq_zero_iff] at hz
    subst hz
    rw [show kcS ([] : List Ent) = 0 from rfl] at c1 c2
    (repeat (first | with_reducible refine AW.seq ?_ | ((first | refine arun_kn 4 rfl (fun C hC => ?_) | refine arunD_kn 4 rfl (fun C hC => ?_)); (repeat ((conv => whnf); simp)); refine hC _ ?_; clear hC C; simp only [List.drop, Nat.reduceAdd]) | ((first | refine arun_kn 1 rfl (fun C hC => ?_) | refine arunD_kn 1 rfl (fun C hC => ?_)); (repeat ((conv => whnf); simp)); refine hC _ ?_; clear hC C; simp only [List.drop, Nat.reduceAdd]) | (refine arun_skip ?_ ?_; (focus (simp [awant]; done))) | (refine arun_c0 (c1) ?_; rintro _ rfl) | (refine arun_c0 (c2) ?_; rintro _ rfl) | (refine arunD_skip ?_ ?_; (focus (simp [awant]; done))) | (refine AW.regionK [] (fun K hK => ?_)) | (refine AW.regionDK [] (pcs [] []) (by kernel_rfl) (by kernel_rfl) (fun K hK => ?_)) | (refine AW.condT ?_ ?_; (focus (simp [aev]; done))) | (refine AW.condF ?_ ?_; (focus (simp [aev]; done))) | with_reducible refine AW.block ?_ | ((first | ((first | refine arun_nil ?_ | refine arunD_nil ?_); refine hK _ ?_; clear hK K) | refine AW.skip ?_ | refine AW.exit ?_ | refine AW.ret ?_); simp only [thenA_exit, inBlockA_exit, if_true, if_false, Nat.reduceEqDiff, thenA_normal, inBlockA_normal, reduceIte, thenA_ret, inBlockA_ret, endQ_ret, endR_ret, endG_ret, endQ_normal, endR_normal, endG_normal])))
    exact ⟨.bool true, by simp [ares, aresL], pur_bool, rfl⟩
  have hpos : 0 < l.length := by omega
  have hpos' : (0 : Int) < (l.length : Int) := by omega
  have hle := kcN_le l l.length
  have hge : 1 ≤ kcN l l.length := by
    have := kcN_pos l hpos (l.length - 1)
    rwa [show l.length - 1 + 1 = l.length by omega] at this
  have htw := kcS_twice he hpos
  rw [e] at c1 c2 htw
  generalize kcN l l.length = n at *
  have g1 : ¬ (n : Int) < 0 := by omega
  have g2 : (n : Int) ≤ (l.length : Int) := by omega
  have g3 : (1 : Int) ≤ (n : Int) := by omega
  have g4 : ((l.length : Int) == 0) = false := beq_false_of_ne (by omega)
  have x1 := ent_get hpos
  have c3 := KeyCount_AC (l ++ [l[0]]) .lent
  have em : (l ++ [l[0]]).map entE = l.map entE ++ [[.int .i64 l[0].1.kind, .int .i64 l[0].1.num, .str l[0].1.text, .view .loose 1 (strsE l[0].1.names), .view .loose 5 (l[0].1.kids.map nodeL), .str l[0].2]] := by rw [List.map_append]; rfl
  have hce : ∀ e ∈ (l ++ [l[0]]).map entE, ∀ c ∈ e, Clo c := fun e he c hc => (entsE_pur _ e he c hc).clo
  have hln : ((l ++ [l[0]]).map entE).length = l.length + 1 := by rw [List.length_map, List.length_append]; rfl
  rw [em] at c3 hce hln
  have b1 : l.length * 96 ≤ 140737488355328 := by omega
  have b2 : l.length ≤ 140737488355328 := by omega
  have b3 : (l.length + 1) * 96 ≤ 140737488355328 := by omega
  have b4 : l.length + 1 ≤ 140737488355328 := by omega
  by_cases h10 : l.length = 10
  · have g5 : ((l.length : Int) == 10) = true := by rw [h10]; rfl
    (repeat (first | with_reducible refine AW.seq ?_ | ((first | refine arun_kn 4 rfl (fun C hC => ?_) | refine arunD_kn 4 rfl (fun C hC => ?_)); (repeat ((conv => whnf); simp [List.length_map, hpos, hpos', g1, g2, g3, g4, g5, x1, entE])); refine hC _ ?_; clear hC C; simp only [List.drop, Nat.reduceAdd]) | ((first | refine arun_kn 1 rfl (fun C hC => ?_) | refine arunD_kn 1 rfl (fun C hC => ?_)); (repeat ((conv => whnf); simp [List.length_map, hpos, hpos', g1, g2, g3, g4, g5, x1, entE])); refine hC _ ?_; clear hC C; simp only [List.drop, Nat.reduceAdd]) | (refine arun_skip ?_ ?_; (focus (simp [awant, List.length_map, hpos, hpos', g1, g2, g3, g4, g5, x1, entE]; done))) | (refine arun_c0 (c1) ?_; rintro _ rfl) | (refine arun_c0 (c2) ?_; rintro _ rfl) | (refine arunD_skip ?_ ?_; (focus (simp [awant, List.length_map, hpos, hpos', g1, g2, g3, g4, g5, x1, entE]; done))) | (refine AW.regionK [] (fun K hK => ?_)) | (refine AW.condT ?_ ?_; (focus (simp [aev, List.length_map, hpos, hpos', g1, g2, g3, g4, g5, x1, entE]; done))) | (refine AW.condF ?_ ?_; (focus (simp [aev, List.length_map, hpos, hpos', g1, g2, g3, g4, g5, x1, entE]; done))) | with_reducible refine AW.block ?_ | ((first | ((first | refine arun_nil ?_ | refine arunD_nil ?_); refine hK _ ?_; clear hK K) | refine AW.skip ?_ | refine AW.exit ?_ | refine AW.ret ?_); simp only [thenA_exit, inBlockA_exit, if_true, if_false, Nat.reduceEqDiff, thenA_normal, inBlockA_normal, reduceIte, thenA_ret, inBlockA_ret, endQ_ret, endR_ret, endG_ret, endQ_normal, endR_normal, endG_normal])))
    refine AW.regionDK [2030] (pcs [] []) (by kernel_rfl) (by kernel_rfl) (fun K hK => ?_)
    (repeat (first | with_reducible refine AW.seq ?_ | ((first | refine arun_kn 4 rfl (fun C hC => ?_) | refine arunD_kn 4 rfl (fun C hC => ?_)); (repeat ((conv => whnf); simp [List.length_map, hpos, hpos', g1, g2, g3, g4, g5, x1, entE, b1, b2, b3, b4])); refine hC _ ?_; clear hC C; simp only [List.drop, Nat.reduceAdd]) | ((first | refine arun_kn 1 rfl (fun C hC => ?_) | refine arunD_kn 1 rfl (fun C hC => ?_)); (repeat ((conv => whnf); simp [List.length_map, hpos, hpos', g1, g2, g3, g4, g5, x1, entE, b1, b2, b3, b4])); refine hC _ ?_; clear hC C; simp only [List.drop, Nat.reduceAdd]) | (refine arun_skip ?_ ?_; (focus (simp [awant, List.length_map, hpos, hpos', g1, g2, g3, g4, g5, x1, entE, b1, b2, b3, b4]; done))) | (refine arun_cL (0) (c3) ?_; rintro _ rfl) | (refine arunD_skip ?_ ?_; (focus (simp [awant, List.length_map, hpos, hpos', g1, g2, g3, g4, g5, x1, entE, b1, b2, b3, b4]; done))) | (refine AW.regionK [] (fun K hK => ?_)) | (refine AW.regionDK [] (pcs [] []) (by kernel_rfl) (by kernel_rfl) (fun K hK => ?_)) | (refine AW.condT ?_ ?_; (focus (simp [aev, List.length_map, hpos, hpos', g1, g2, g3, g4, g5, x1, entE, b1, b2, b3, b4]; done))) | (refine AW.condF ?_ ?_; (focus (simp [aev, List.length_map, hpos, hpos', g1, g2, g3, g4, g5, x1, entE, b1, b2, b3, b4]; done))) | with_reducible refine AW.block ?_ | ((first | ((first | refine arun_nil ?_ | refine arunD_nil ?_); refine hK _ ?_; clear hK K) | refine AW.skip ?_ | refine AW.exit ?_ | refine AW.ret ?_); simp only [thenA_exit, inBlockA_exit, if_true, if_false, Nat.reduceEqDiff, thenA_normal, inBlockA_normal, reduceIte, thenA_ret, inBlockA_ret, endQ_ret, endR_ret, endG_ret, endQ_normal, endR_normal, endG_normal])))
    exact ⟨.bool true, by simp [ares, aresL], pur_bool, rfl⟩
  · have g5 : ((l.length : Int) == 10) = false := beq_false_of_ne (by omega)
    rw [htw h10] at c3
    (repeat (first | with_reducible refine AW.seq ?_ | ((first | refine arun_kn 4 rfl (fun C hC => ?_) | refine arunD_kn 4 rfl (fun C hC => ?_)); (repeat ((conv => whnf); simp [List.length_map, hpos, hpos', g1, g2, g3, g4, g5, x1, entE])); refine hC _ ?_; clear hC C; simp only [List.drop, Nat.reduceAdd]) | ((first | refine arun_kn 1 rfl (fun C hC => ?_) | refine arunD_kn 1 rfl (fun C hC => ?_)); (repeat ((conv => whnf); simp [List.length_map, hpos, hpos', g1, g2, g3, g4, g5, x1, entE])); refine hC _ ?_; clear hC C; simp only [List.drop, Nat.reduceAdd]) | (refine arun_skip ?_ ?_; (focus (simp [awant, List.length_map, hpos, hpos', g1, g2, g3, g4, g5, x1, entE]; done))) | (refine arun_c0 (c1) ?_; rintro _ rfl) | (refine arun_c0 (c2) ?_; rintro _ rfl) | (refine arunD_skip ?_ ?_; (focus (simp [awant, List.length_map, hpos, hpos', g1, g2, g3, g4, g5, x1, entE]; done))) | (refine AW.regionK [] (fun K hK => ?_)) | (refine AW.condT ?_ ?_; (focus (simp [aev, List.length_map, hpos, hpos', g1, g2, g3, g4, g5, x1, entE]; done))) | (refine AW.condF ?_ ?_; (focus (simp [aev, List.length_map, hpos, hpos', g1, g2, g3, g4, g5, x1, entE]; done))) | with_reducible refine AW.block ?_ | ((first | ((first | refine arun_nil ?_ | refine arunD_nil ?_); refine hK _ ?_; clear hK K) | refine AW.skip ?_ | refine AW.exit ?_ | refine AW.ret ?_); simp only [thenA_exit, inBlockA_exit, if_true, if_false, Nat.reduceEqDiff, thenA_normal, inBlockA_normal, reduceIte, thenA_ret, inBlockA_ret, endQ_ret, endR_ret, endG_ret, endQ_normal, endR_normal, endG_normal])))
    refine AW.regionDK [2030] (pcs [] []) (by kernel_rfl) (by kernel_rfl) (fun K hK => ?_)
    (repeat (first | with_reducible refine AW.seq ?_ | ((first | refine arun_kn 4 rfl (fun C hC => ?_) | refine arunD_kn 4 rfl (fun C hC => ?_)); (repeat ((conv => whnf); simp [List.length_map, hpos, hpos', g1, g2, g3, g4, g5, x1, entE, b1, b2, b3, b4])); refine hC _ ?_; clear hC C; simp only [List.drop, Nat.reduceAdd]) | ((first | refine arun_kn 1 rfl (fun C hC => ?_) | refine arunD_kn 1 rfl (fun C hC => ?_)); (repeat ((conv => whnf); simp [List.length_map, hpos, hpos', g1, g2, g3, g4, g5, x1, entE, b1, b2, b3, b4])); refine hC _ ?_; clear hC C; simp only [List.drop, Nat.reduceAdd]) | (refine arun_skip ?_ ?_; (focus (simp [awant, List.length_map, hpos, hpos', g1, g2, g3, g4, g5, x1, entE, b1, b2, b3, b4]; done))) | (refine arun_cL (0) (c3) ?_; rintro _ rfl) | (refine arunD_skip ?_ ?_; (focus (simp [awant, List.length_map, hpos, hpos', g1, g2, g3, g4, g5, x1, entE, b1, b2, b3, b4]; done))) | (refine AW.regionK [] (fun K hK => ?_)) | (refine AW.regionDK [] (pcs [] []) (by kernel_rfl) (by kernel_rfl) (fun K hK => ?_)) | (refine AW.condT ?_ ?_; (focus (simp [aev, List.length_map, hpos, hpos', g1, g2, g3, g4, g5, x1, entE, b1, b2, b3, b4]; done))) | (refine AW.condF ?_ ?_; (focus (simp [aev, List.length_map, hpos, hpos', g1, g2, g3, g4, g5, x1, entE, b1, b2, b3, b4]; done))) | with_reducible refine AW.block ?_ | ((first | ((first | refine arun_nil ?_ | refine arunD_nil ?_); refine hK _ ?_; clear hK K) | refine AW.skip ?_ | refine AW.exit ?_ | refine AW.ret ?_); simp only [thenA_exit, inBlockA_exit, if_true, if_false, Nat.reduceEqDiff, thenA_normal, inBlockA_normal, reduceIte, thenA_ret, inBlockA_ret, endQ_ret, endR_ret, endG_ret, endQ_normal, endR_normal, endG_normal])))
    exact ⟨.bool true, by simp [ares, aresL], pur_bool, rfl⟩
end Go.Proofs.Ytiobnaielfeeaaa.Eng
