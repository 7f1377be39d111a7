/-
  Texts of this claim, joined.
-/
import Derived.Test.YtiobnaielfeeaaaPcE

set_option linter.unusedSimpArgs false
set_option linter.unusedVariables false
set_option linter.unnecessarySimpa false
set_option maxRecDepth 100000
set_option maxHeartbeats 16000000
namespace Go.Proofs.Ytiobnaielfeeaaa.Eng
open Go Go.RowKit
attribute [local simp] big size_mk ASt.pay Option.map_map Function.comp_def awant aop acall ado aev ofVal ofVal0 ASt.put ASt.add ASt.turn ASt.kill abox aalloc astore aload ASt.at cellsTo afieldAddr afield aindexAddr aindex alen abin aint acmp astr aun apick aextract anil aslice abound abuild afill abuildSlice asCells aps avCells over upd aappend asrc amax amin aconv mkSt slots rowsOf_cons rowsOf_nil usedOf_cons usedOf_nil ZK.av List.replicate ASt.back ASt.addL ASt.killL nodeA nodeT nodeTL_eq nodeL_eq strsE_get strsE_len intsE_get intsE_len strsE_at intsE_at tab2 tab3 tab4 tab5 tab6 tab7 tab8 tab9 tab10 tab11 tab12 tab13 tab14 tab15 tab16 tab17 tab18 tab19 tab21 tab22 tab23 tab24 tab25 tab26 tab27 tab28 tab29 tab30 tab48 tab51 tab52 tab59 tab77 tab78 tab79 tab91 tab95 tab96 tab97 tab109 tab116 tab132 tab133 tab138 tab139 tab144 tab145 tab146 tab148 tab149 tab150
theorem Less.hold {s : ASt} (id : Nat) : Less s (s.hold id) := fun _ _ _ _ _ _ _ _ hs => by
  obtain ⟨ρ', h, _⟩ := SR.held hs id
  exact ⟨ρ', h⟩
theorem allL_mem {k : Int} {ns : List ByteArray} {b : List ByteArray} : ∀ {ks : List Nd} {i : Nat}, b ∈ allL k ns ks i → ∃ x ∈ ks, ∃ c ∈ allS x, ∃ j, b = stp k ns j :: c
  | [], _, h => by rw [allL] at h; cases h
  | x :: xs, i, h => by
    rw [allL, List.mem_append] at h
    rcases h with h | h
    · obtain ⟨c, hc, rfl⟩ := List.mem_map.1 h
      exact ⟨x, by simp, c, hc, i, rfl⟩
    · obtain ⟨y, hy, c, hc, j, rfl⟩ := allL_mem h
      exact ⟨y, by simp [hy], c, hc, j, rfl⟩
theorem allS_short : ∀ n : Nd, ∀ b ∈ allS n, b.length < n.depth := Nd.ind' _ (fun n ih b hb => by
  rw [allS_eq] at hb
  have hd := n.depth_eq
  rcases List.mem_cons.1 hb with rfl | hb
  · simp; omega
  · obtain ⟨x, hx, c, hc, j, rfl⟩ := allL_mem hb
    have h1 := ih x hx c hc
    have h2 := depth_mem hx
    rw [List.length_cons]; omega)
theorem allW_step (n : Nd) (hn : Way n) (hc : n.count ≤ 1000) (hd : n.depth ≤ 500) (ih : ∀ k ∈ n.kids, k.count ≤ 1000 → k.depth ≤ 500 → AC Try.prog 102 [nodeA k] 0 (fun r => r = .view .loose 1 (pathsE (allS k)))) : ACR Try.prog 102 [nodeA n] 0 (fun _ => False) (fun f R => f = (fun id => .own id (allS n).length) ∧ R = pathsR (allS n)) := by
  have hcnt := n.count_eq
  have hdep := n.depth_eq
  have hk6 := hn.kids
  have hin : ∀ (L : List (List ByteArray)) (U : Nat → Bool), ∀ e ∈ pathsE L, ∀ c ∈ e, AV.In U c := fun L U => pathsE_in L
  unfold nodeA
  rw [nodeL_eq]
  refine ACR.of tab_ok mixed_ok Try.func102 (by rfl) (by kernel_rfl) ?_; rintro ⟨P, T, hT, hm, w0, S0, rd0, k0⟩ hP hTT; dsimp only at hP hTT; subst hP hTT; unfold initSt; rw [Try.ntmps102]
  (repeat (first | with_reducible refine AW.seq ?_ | ((first | refine arun_knb 4 rfl (fun C hC => ?_) | refine arunD_kn 4 rfl (fun C hC => ?_)); (repeat ((conv => whnf); simp)); refine hC _ ?_; clear hC C; simp only [List.drop, Nat.reduceAdd]) | ((first | refine arun_knb 1 rfl (fun C hC => ?_) | refine arunD_kn 1 rfl (fun C hC => ?_)); (repeat ((conv => whnf); simp)); refine hC _ ?_; clear hC C; simp only [List.drop, Nat.reduceAdd]) | (refine arun_skip ?_ ?_; (focus (simp [awant]; done))) | (refine AW.regionK [] (fun K hK => ?_)) | (refine AW.regionDK [] (pcs [] []) (by kernel_rfl) (by kernel_rfl) (fun K hK => ?_)) | (refine AW.condT ?_ ?_; (focus (simp [aev]; done))) | (refine AW.condF ?_ ?_; (focus (simp [aev]; done))) | with_reducible refine AW.block ?_ | ((first | ((first | refine arun_nil ?_ | refine arunD_nil ?_); refine hK _ ?_; clear hK K) | refine AW.skip ?_ | refine AW.exit ?_ | refine AW.ret ?_); simp only [thenA_exit, inBlockA_exit, if_true, if_false, Nat.reduceEqDiff, thenA_normal, inBlockA_normal, reduceIte, thenA_ret, inBlockA_ret, endQ_ret, endR_ret, endG_ret, endQ_normal, endR_normal, endG_normal])))
  refine arun_ownSlice 8 rfl (by simp [awant]) tab23 (by simp; exact ⟨rfl, rfl⟩) (by simp [upd]) ?_
  (repeat (first | with_reducible refine AW.seq ?_ | ((first | refine arun_knb 4 rfl (fun C hC => ?_) | refine arunD_kn 4 rfl (fun C hC => ?_)); (repeat ((conv => whnf); simp)); refine hC _ ?_; clear hC C; simp only [List.drop, Nat.reduceAdd]) | ((first | refine arun_knb 1 rfl (fun C hC => ?_) | refine arunD_kn 1 rfl (fun C hC => ?_)); (repeat ((conv => whnf); simp)); refine hC _ ?_; clear hC C; simp only [List.drop, Nat.reduceAdd]) | (refine arun_skip ?_ ?_; (focus (simp [awant]; done))) | (refine AW.regionK [] (fun K hK => ?_)) | (refine AW.regionDK [] (pcs [] []) (by kernel_rfl) (by kernel_rfl) (fun K hK => ?_)) | (refine AW.condT ?_ ?_; (focus (simp [aev]; done))) | (refine AW.condF ?_ ?_; (focus (simp [aev]; done))) | with_reducible refine AW.block ?_ | ((first | ((first | refine arun_nil ?_ | refine arunD_nil ?_); refine hK _ ?_; clear hK K) | refine AW.skip ?_ | refine AW.exit ?_ | refine AW.ret ?_); simp only [thenA_exit, inBlockA_exit, if_true, if_false, Nat.reduceEqDiff, thenA_normal, inBlockA_normal, reduceIte, thenA_ret, inBlockA_ret, endQ_ret, endR_ret, endG_ret, endQ_normal, endR_normal, endG_normal])))
  refine arun_ownSlice 9 rfl (by simp [awant]) tab109 (by simp; exact ⟨rfl, rfl⟩) (by simp [upd]) ?_
  (repeat (first | with_reducible refine AW.seq ?_ | ((first | refine arun_knb 4 rfl (fun C hC => ?_) | refine arunD_kn 4 rfl (fun C hC => ?_)); (repeat ((conv => whnf); simp)); refine hC _ ?_; clear hC C; simp only [List.drop, Nat.reduceAdd]) | ((first | refine arun_knb 1 rfl (fun C hC => ?_) | refine arunD_kn 1 rfl (fun C hC => ?_)); (repeat ((conv => whnf); simp)); refine hC _ ?_; clear hC C; simp only [List.drop, Nat.reduceAdd]) | (refine arun_skip ?_ ?_; (focus (simp [awant]; done))) | (refine AW.regionK [] (fun K hK => ?_)) | (refine AW.regionDK [] (pcs [] []) (by kernel_rfl) (by kernel_rfl) (fun K hK => ?_)) | (refine AW.condT ?_ ?_; (focus (simp [aev]; done))) | (refine AW.condF ?_ ?_; (focus (simp [aev]; done))) | with_reducible refine AW.block ?_ | ((first | ((first | refine arun_nil ?_ | refine arunD_nil ?_); refine hK _ ?_; clear hK K) | refine AW.skip ?_ | refine AW.exit ?_ | refine AW.ret ?_); simp only [thenA_exit, inBlockA_exit, if_true, if_false, Nat.reduceEqDiff, thenA_normal, inBlockA_normal, reduceIte, thenA_ret, inBlockA_ret, endQ_ret, endR_ret, endG_ret, endQ_normal, endR_normal, endG_normal])))
  refine AW.hold 8 ?_
  refine AW.loopS (fun (x : Nat × List (List ByteArray)) => mkSt (slots 0 50 [(1, .ptr true 5 1 1 0 0), (3, .own 9 x.2.length), (4, .int .i64 x.1)]) [(1, ⟨true, 30, 5, [nodeL n]⟩), (9, pathsR x.2)] [1, 9] (rd0.map fun _ => 0)) (fun x => n.kids.length - x.1) (fun x => x.1 ≤ n.kids.length ∧ x.2 ++ allL n.kind n.names (n.kids.drop x.1) x.1 = allS n) (0, [[]]) ?_ ⟨Nat.zero_le _, by rw [allS_eq]; simp⟩ ?_
  · have hp0 : pathsE [[]] = [[AV.view .loose 1 []]] := rfl
    dsimp only
    rw [nodeL_eq]
    exact (less_of (by simp [lessL, mkSt, slots, ASt.hold, pathsR, hp0, AV.subL, AV.sub, Row.sub, rowsOf_nil]) (by simp [upd, mkSt, rowsOf_cons, ASt.hold, pathsR, hp0, AV.subL, AV.sub, Row.sub, rowsOf_nil]) (by simp [upd, mkSt, usedOf_cons, ASt.hold, pathsR, hp0, AV.subL, AV.sub, Row.sub, rowsOf_nil]) (by first | exact rd_less (by omega) | simp [mkSt, ASt.hold, pathsR, hp0, AV.subL, AV.sub, Row.sub, rowsOf_nil]) (by simp [slots, in_any, in_int, in_bool, in_str, in_ptr, in_own, in_agg, in_vnil, in_rdr, usedOf_cons, usedOf_nil, strs_in, ints_in, nodes_in, in_tup, ASt.hold, pathsR, hp0, AV.subL, AV.sub, Row.sub, rowsOf_nil]) (by simp only [List.forall_mem_cons, List.not_mem_nil, false_implies, implies_true, and_true, true_and, ASt.hold, pathsR, hp0, AV.subL, AV.sub, Row.sub, rowsOf_nil]; (repeat (first | with_reducible exact trivial | with_reducible refine And.intro ?_ ?_ | with_reducible exact in_int | with_reducible exact in_str | with_reducible exact in_bool | with_reducible exact strs_in _ | with_reducible exact nodes_in _ | with_reducible exact items_in _ | with_reducible exact in_vnil | with_reducible exact in_any | exact hin _ | with_reducible refine take_in ?_ | with_reducible exact strsE_in _ | with_reducible exact nodesE_in _ | with_reducible exact nodeL_in _ | with_reducible exact itemsE_in _ | with_reducible exact itemL_in _ | with_reducible refine app_in ?_ ?_ | with_reducible refine sing_in ?_ | (focus (simp [in_any, in_int, in_bool, in_str, in_ptr, in_own, in_agg, in_vnil, in_rdr, usedOf_cons, usedOf_nil, strs_in, ints_in, nodes_in, ASt.hold, pathsR, hp0, AV.subL, AV.sub, Row.sub, rowsOf_nil]; done)))); done))
  · rintro ⟨i, L⟩ ⟨hi, hf⟩
    dsimp only at hi hf ⊢
    have hlen := congrArg List.length hf
    simp only [List.length_append, allL_len, allS_len] at hlen
    rw [nodeL_eq]
    by_cases hlt : i < n.kids.length
    · have hw : IntKind.i64.wrap ((i : Int) + 1) = (i : Int) + 1 := i64_nat (by omega) (by omega)
      have hmem := List.getElem_mem hlt
      have hcm := count_mem (show n.kids[i] ∈ n.kids.drop i by rw [List.drop_eq_getElem_cons hlt]; exact List.mem_cons_self)
      have hkl := allS_len n.kids[i]
      have hdm := depth_mem hmem
      have pk := ih n.kids[i] hmem (by omega) (by omega)
      have hB : ∀ b ∈ allS n.kids[i], b.length ≤ 500 := fun b hb => by have := allS_short _ b hb; omega
      have pd := decimal_AC i (by omega)
      rw [allL_drop hlt, ← List.append_assoc] at hf
      unfold nodeA at pk
      rw [nodeL_eq] at pk
      have hLb : L.length + (allS n.kids[i]).length ≤ 2000 := by omega
      generalize allS n.kids[i] = B at *
      by_cases hk : n.kind = 4
      · have hnl := hn.names hk
        have hni : i < n.names.length := by omega
        have hst : stp n.kind n.names i = n.names[i] := by unfold stp; rw [if_pos hk, List.getElem?_eq_getElem hni]; rfl
        rw [hst] at hf
        (repeat (first | with_reducible refine AW.seq ?_ | ((first | refine arun_kn 4 rfl (fun C hC => ?_) | refine arunD_kn 4 rfl (fun C hC => ?_)); (repeat ((conv => whnf); simp [hlt, hk, hni])); refine hC _ ?_; clear hC C; simp only [List.drop, Nat.reduceAdd]) | ((first | refine arun_kn 1 rfl (fun C hC => ?_) | refine arunD_kn 1 rfl (fun C hC => ?_)); (repeat ((conv => whnf); simp [hlt, hk, hni])); refine hC _ ?_; clear hC C; simp only [List.drop, Nat.reduceAdd]) | (refine arun_skip ?_ ?_; (focus (simp [awant, hlt, hk, hni]; done))) | (refine arun_c0 (pd) ?_; rintro _ rfl) | (refine arun_c0 (pk) ?_; rintro _ rfl) | (refine AW.regionK [] (fun K hK => ?_)) | (refine AW.regionDK [] (pcs [] []) (by kernel_rfl) (by kernel_rfl) (fun K hK => ?_)) | (refine AW.condT ?_ ?_; (focus (simp [aev, hlt, hk, hni]; done))) | (refine AW.condF ?_ ?_; (focus (simp [aev, hlt, hk, hni]; done))) | with_reducible refine AW.block ?_ | ((first | ((first | refine arun_nil ?_ | refine arunD_nil ?_); refine hK _ ?_; clear hK K) | refine AW.skip ?_ | refine AW.exit ?_ | refine AW.ret ?_); simp only [thenA_exit, inBlockA_exit, if_true, if_false, Nat.reduceEqDiff, thenA_normal, inBlockA_normal, reduceIte, thenA_ret, inBlockA_ret, endQ_ret, endR_ret, endG_ret, endQ_normal, endR_normal, endG_normal])))
        refine AW.loopS (fun (y : Nat × List (List ByteArray)) => mkSt (slots 0 50 [(1, .ptr true 5 1 1 0 0), (3, .own 9 y.2.length), (4, .int .i64 i), (5, .str n.names[i]), (6, .view .loose 1 (pathsE B)), (7, .int .i64 y.1)]) [(1, ⟨true, 30, 5, [[.int .i64 n.kind, .int .i64 n.num, .str n.text, .view .loose 1 (strsE n.names), .view .loose 5 (n.kids.map nodeL)]]⟩), (9, pathsR y.2)] [1, 9] (rd0.map fun _ => 0)) (fun y => B.length - y.1) (fun y => y.1 ≤ B.length ∧ y.2 ++ (B.drop y.1).map (n.names[i] :: ·) = L ++ B.map (n.names[i] :: ·)) (0, L) ?_ ⟨Nat.zero_le _, rfl⟩ ?_
        · have hin := hin L
          exact (less_of (by simp [lessL, mkSt, slots, in_paths, pathsR, hk]) (by simp [upd, mkSt, rowsOf_cons, in_paths, pathsR, hk]) (by simp [upd, mkSt, usedOf_cons, in_paths, pathsR, hk]) (by first | exact rd_less (by omega) | simp [mkSt, in_paths, pathsR, hk]) (by simp [slots, in_any, in_int, in_bool, in_str, in_ptr, in_own, in_agg, in_vnil, in_rdr, usedOf_cons, usedOf_nil, strs_in, ints_in, nodes_in, in_tup, in_paths, pathsR, hk]) (by simp only [List.forall_mem_cons, List.not_mem_nil, false_implies, implies_true, and_true, true_and, in_paths, pathsR, hk]; (repeat (first | with_reducible exact trivial | with_reducible refine And.intro ?_ ?_ | with_reducible exact in_int | with_reducible exact in_str | with_reducible exact in_bool | with_reducible exact strs_in _ | with_reducible exact nodes_in _ | with_reducible exact items_in _ | with_reducible exact in_vnil | with_reducible exact in_any | exact hin _ | with_reducible refine take_in ?_ | with_reducible exact strsE_in _ | with_reducible exact nodesE_in _ | with_reducible exact nodeL_in _ | with_reducible exact itemsE_in _ | with_reducible exact itemL_in _ | with_reducible refine app_in ?_ ?_ | with_reducible refine sing_in ?_ | (focus (simp [in_any, in_int, in_bool, in_str, in_ptr, in_own, in_agg, in_vnil, in_rdr, usedOf_cons, usedOf_nil, strs_in, ints_in, nodes_in, in_paths, pathsR, hk]; done)))); done))
        · rintro ⟨j, M⟩ ⟨hj, hg⟩
          dsimp only at hj hg ⊢
          have hgl := congrArg List.length hg
          simp only [List.length_append, List.length_map, List.length_drop] at hgl
          by_cases hjt : j < B.length
          · have hjw : IntKind.i64.wrap ((j : Int) + 1) = (j : Int) + 1 := i64_nat (by omega) (by omega)
            have hbl := hB _ (List.getElem_mem hjt)
            have hb1 : (M.length + 1) * 24 ≤ 140737488355328 := by omega
            have hb2 : M.length + 1 ≤ 140737488355328 := by omega
            have hb3 : (1 + B[j].length) * 16 ≤ 140737488355328 := by omega
            have hb4 : 1 + B[j].length ≤ 140737488355328 := by omega
            rw [List.drop_eq_getElem_cons hjt, List.map_cons, List.append_cons] at hg
            (repeat (first | with_reducible refine AW.seq ?_ | ((first | refine arun_knb 4 rfl (fun C hC => ?_) | refine arunD_kn 4 rfl (fun C hC => ?_)); (repeat ((conv => whnf); simp [hjt, pathsE_len, pathsE_get, pathsE_at])); refine hC _ ?_; clear hC C; simp only [List.drop, Nat.reduceAdd]) | ((first | refine arun_knb 1 rfl (fun C hC => ?_) | refine arunD_kn 1 rfl (fun C hC => ?_)); (repeat ((conv => whnf); simp [hjt, pathsE_len, pathsE_get, pathsE_at])); refine hC _ ?_; clear hC C; simp only [List.drop, Nat.reduceAdd]) | (refine arun_skip ?_ ?_; (focus (simp [awant, hjt, pathsE_len, pathsE_get, pathsE_at]; done))) | (refine AW.regionK [] (fun K hK => ?_)) | (refine AW.regionDK [] (pcs [] []) (by kernel_rfl) (by kernel_rfl) (fun K hK => ?_)) | (refine AW.condT ?_ ?_; (focus (simp [aev, hjt, pathsE_len, pathsE_get, pathsE_at]; done))) | (refine AW.condF ?_ ?_; (focus (simp [aev, hjt, pathsE_len, pathsE_get, pathsE_at]; done))) | with_reducible refine AW.block ?_ | ((first | ((first | refine arun_nil ?_ | refine arunD_nil ?_); refine hK _ ?_; clear hK K) | refine AW.skip ?_ | refine AW.exit ?_ | refine AW.ret ?_); simp only [thenA_exit, inBlockA_exit, if_true, if_false, Nat.reduceEqDiff, thenA_normal, inBlockA_normal, reduceIte, thenA_ret, inBlockA_ret, endQ_ret, endR_ret, endG_ret, endQ_normal, endR_normal, endG_normal])))
            refine arun_ownSlice 41 rfl (by simp [awant]) tab23 (by simp; exact ⟨rfl, rfl⟩) (by simp [upd, usedOf_cons, usedOf_nil]) ?_
            (repeat (first | with_reducible refine AW.seq ?_ | ((first | refine arun_kn 4 rfl (fun C hC => ?_) | refine arunD_kn 4 rfl (fun C hC => ?_)); (repeat ((conv => whnf); simp [hjt, hjw, pathsE_len, pathsE_get, pathsE_at, strsE_len, hb1, hb2, hb3, hb4, pathsR])); refine hC _ ?_; clear hC C; simp only [List.drop, Nat.reduceAdd]) | ((first | refine arun_kn 1 rfl (fun C hC => ?_) | refine arunD_kn 1 rfl (fun C hC => ?_)); (repeat ((conv => whnf); simp [hjt, hjw, pathsE_len, pathsE_get, pathsE_at, strsE_len, hb1, hb2, hb3, hb4, pathsR])); refine hC _ ?_; clear hC C; simp only [List.drop, Nat.reduceAdd]) | (refine arun_skip ?_ ?_; (focus (simp [awant, hjt, hjw, pathsE_len, pathsE_get, pathsE_at, strsE_len, hb1, hb2, hb3, hb4, pathsR]; done))) | (refine AW.regionK [] (fun K hK => ?_)) | (refine AW.regionDK [] (pcs [] []) (by kernel_rfl) (by kernel_rfl) (fun K hK => ?_)) | (refine AW.condT ?_ ?_; (focus (simp [aev, hjt, hjw, pathsE_len, pathsE_get, pathsE_at, strsE_len, hb1, hb2, hb3, hb4, pathsR]; done))) | (refine AW.condF ?_ ?_; (focus (simp [aev, hjt, hjw, pathsE_len, pathsE_get, pathsE_at, strsE_len, hb1, hb2, hb3, hb4, pathsR]; done))) | with_reducible refine AW.block ?_ | ((first | ((first | refine arun_nil ?_ | refine arunD_nil ?_); refine hK _ ?_; clear hK K) | refine AW.skip ?_ | refine AW.exit ?_ | refine AW.ret ?_); simp only [thenA_exit, inBlockA_exit, if_true, if_false, Nat.reduceEqDiff, thenA_normal, inBlockA_normal, reduceIte, thenA_ret, inBlockA_ret, endQ_ret, endR_ret, endG_ret, endQ_normal, endR_normal, endG_normal])))
            refine ⟨(j + 1, M ++ [n.names[i] :: B[j]]), by dsimp only; omega, ⟨by dsimp only; omega, hg⟩, ?_⟩
            have hsn : pathsE (M ++ [n.names[i] :: B[j]]) = pathsE M ++ [[.view .loose 1 ([.str n.names[i]] :: strsE B[j])]] := by rw [← paths_snoc]; rfl
            have hin := hin (M ++ [n.names[i] :: B[j]])
            have hml : (M ++ [n.names[i] :: B[j]]).length = M.length + 1 := by simp
            dsimp only
            rw [hml]
            rw [hsn] at hin
            refine Less.trans (Less.hold 41) (less_of (by simp [lessL, mkSt, slots, ASt.hold, in_paths, pathsR, hk, hsn, pathsE_sub, AV.subL, AV.sub, Row.sub, rowsOf_nil, strsE_len]) (by simp [upd, mkSt, rowsOf_cons, ASt.hold, in_paths, pathsR, hk, hsn, pathsE_sub, AV.subL, AV.sub, Row.sub, rowsOf_nil, strsE_len]) (by simp [upd, mkSt, usedOf_cons, ASt.hold, in_paths, pathsR, hk, hsn, pathsE_sub, AV.subL, AV.sub, Row.sub, rowsOf_nil, strsE_len]) (by first | exact rd_less (by omega) | simp [mkSt, ASt.hold, in_paths, pathsR, hk, hsn, pathsE_sub, AV.subL, AV.sub, Row.sub, rowsOf_nil, strsE_len]) (by simp [slots, in_any, in_int, in_bool, in_str, in_ptr, in_own, in_agg, in_vnil, in_rdr, usedOf_cons, usedOf_nil, strs_in, ints_in, nodes_in, in_tup, ASt.hold, in_paths, pathsR, hk, hsn, pathsE_sub, AV.subL, AV.sub, Row.sub, rowsOf_nil, strsE_len]) (by simp only [List.forall_mem_cons, List.not_mem_nil, false_implies, implies_true, and_true, true_and, ASt.hold, in_paths, pathsR, hk, hsn, pathsE_sub, AV.subL, AV.sub, Row.sub, rowsOf_nil, strsE_len]; (repeat (first | with_reducible exact trivial | with_reducible refine And.intro ?_ ?_ | with_reducible exact in_int | with_reducible exact in_str | with_reducible exact in_bool | with_reducible exact strs_in _ | with_reducible exact nodes_in _ | with_reducible exact items_in _ | with_reducible exact in_vnil | with_reducible exact in_any | exact hin _ | with_reducible refine take_in ?_ | with_reducible exact strsE_in _ | with_reducible exact nodesE_in _ | with_reducible exact nodeL_in _ | with_reducible exact itemsE_in _ | with_reducible exact itemL_in _ | with_reducible refine app_in ?_ ?_ | with_reducible refine sing_in ?_ | (focus (simp [in_any, in_int, in_bool, in_str, in_ptr, in_own, in_agg, in_vnil, in_rdr, usedOf_cons, usedOf_nil, strs_in, ints_in, nodes_in, ASt.hold, in_paths, pathsR, hk, hsn, pathsE_sub, AV.subL, AV.sub, Row.sub, rowsOf_nil, strsE_len]; done)))); done))
          · rw [List.drop_eq_nil_of_le (by omega), List.map_nil, List.append_nil] at hg
            (repeat (first | with_reducible refine AW.seq ?_ | ((first | refine arun_kn 4 rfl (fun C hC => ?_) | refine arunD_kn 4 rfl (fun C hC => ?_)); (repeat ((conv => whnf); simp [hjt, pathsE_len, hw])); refine hC _ ?_; clear hC C; simp only [List.drop, Nat.reduceAdd]) | ((first | refine arun_kn 1 rfl (fun C hC => ?_) | refine arunD_kn 1 rfl (fun C hC => ?_)); (repeat ((conv => whnf); simp [hjt, pathsE_len, hw])); refine hC _ ?_; clear hC C; simp only [List.drop, Nat.reduceAdd]) | (refine arun_skip ?_ ?_; (focus (simp [awant, hjt, pathsE_len, hw]; done))) | (refine AW.regionK [] (fun K hK => ?_)) | (refine AW.regionDK [] (pcs [] []) (by kernel_rfl) (by kernel_rfl) (fun K hK => ?_)) | (refine AW.condT ?_ ?_; (focus (simp [aev, hjt, pathsE_len, hw]; done))) | (refine AW.condF ?_ ?_; (focus (simp [aev, hjt, pathsE_len, hw]; done))) | with_reducible refine AW.block ?_ | ((first | ((first | refine arun_nil ?_ | refine arunD_nil ?_); refine hK _ ?_; clear hK K) | refine AW.skip ?_ | refine AW.exit ?_ | refine AW.ret ?_); simp only [thenA_exit, inBlockA_exit, if_true, if_false, Nat.reduceEqDiff, thenA_normal, inBlockA_normal, reduceIte, thenA_ret, inBlockA_ret, endQ_ret, endR_ret, endG_ret, endQ_normal, endR_normal, endG_normal])))
            refine ⟨(i + 1, M), by dsimp only; omega, ⟨by dsimp only; omega, by dsimp only; rw [hg]; exact hf⟩, ?_⟩
            have hin := hin M
            exact (less_of (by simp [lessL, mkSt, slots, in_paths, pathsR, hk]) (by simp [upd, mkSt, rowsOf_cons, in_paths, pathsR, hk]) (by simp [upd, mkSt, usedOf_cons, in_paths, pathsR, hk]) (by first | exact rd_less (by omega) | simp [mkSt, in_paths, pathsR, hk]) (by simp [slots, in_any, in_int, in_bool, in_str, in_ptr, in_own, in_agg, in_vnil, in_rdr, usedOf_cons, usedOf_nil, strs_in, ints_in, nodes_in, in_tup, in_paths, pathsR, hk]) (by simp only [List.forall_mem_cons, List.not_mem_nil, false_implies, implies_true, and_true, true_and, in_paths, pathsR, hk]; (repeat (first | with_reducible exact trivial | with_reducible refine And.intro ?_ ?_ | with_reducible exact in_int | with_reducible exact in_str | with_reducible exact in_bool | with_reducible exact strs_in _ | with_reducible exact nodes_in _ | with_reducible exact items_in _ | with_reducible exact in_vnil | with_reducible exact in_any | exact hin _ | with_reducible refine take_in ?_ | with_reducible exact strsE_in _ | with_reducible exact nodesE_in _ | with_reducible exact nodeL_in _ | with_reducible exact itemsE_in _ | with_reducible exact itemL_in _ | with_reducible refine app_in ?_ ?_ | with_reducible refine sing_in ?_ | (focus (simp [in_any, in_int, in_bool, in_str, in_ptr, in_own, in_agg, in_vnil, in_rdr, usedOf_cons, usedOf_nil, strs_in, ints_in, nodes_in, in_paths, pathsR, hk]; done)))); done))
      · have hk' : (n.kind == 4) = false := by simpa using hk
        have hst : stp n.kind n.names i = txt (dig1 i) := by unfold stp; rw [if_neg hk]
        rw [hst] at hf
        generalize txt (dig1 i) = st at *
        (repeat (first | with_reducible refine AW.seq ?_ | ((first | refine arun_kn 4 rfl (fun C hC => ?_) | refine arunD_kn 4 rfl (fun C hC => ?_)); (repeat ((conv => whnf); simp [hlt, hk, hk'])); refine hC _ ?_; clear hC C; simp only [List.drop, Nat.reduceAdd]) | ((first | refine arun_kn 1 rfl (fun C hC => ?_) | refine arunD_kn 1 rfl (fun C hC => ?_)); (repeat ((conv => whnf); simp [hlt, hk, hk'])); refine hC _ ?_; clear hC C; simp only [List.drop, Nat.reduceAdd]) | (refine arun_skip ?_ ?_; (focus (simp [awant, hlt, hk, hk']; done))) | (refine arun_c0 (pd) ?_; rintro _ rfl) | (refine arun_c0 (pk) ?_; rintro _ rfl) | (refine AW.regionK [] (fun K hK => ?_)) | (refine AW.regionDK [] (pcs [] []) (by kernel_rfl) (by kernel_rfl) (fun K hK => ?_)) | (refine AW.condT ?_ ?_; (focus (simp [aev, hlt, hk, hk']; done))) | (refine AW.condF ?_ ?_; (focus (simp [aev, hlt, hk, hk']; done))) | with_reducible refine AW.block ?_ | ((first | ((first | refine arun_nil ?_ | refine arunD_nil ?_); refine hK _ ?_; clear hK K) | refine AW.skip ?_ | refine AW.exit ?_ | refine AW.ret ?_); simp only [thenA_exit, inBlockA_exit, if_true, if_false, Nat.reduceEqDiff, thenA_normal, inBlockA_normal, reduceIte, thenA_ret, inBlockA_ret, endQ_ret, endR_ret, endG_ret, endQ_normal, endR_normal, endG_normal])))
        refine AW.loopS (fun (y : Nat × List (List ByteArray)) => mkSt (slots 0 50 [(1, .ptr true 5 1 1 0 0), (3, .own 9 y.2.length), (4, .int .i64 i), (5, .str st), (6, .view .loose 1 (pathsE B)), (7, .int .i64 y.1)]) [(1, ⟨true, 30, 5, [[.int .i64 n.kind, .int .i64 n.num, .str n.text, .view .loose 1 (strsE n.names), .view .loose 5 (n.kids.map nodeL)]]⟩), (9, pathsR y.2)] [1, 9] (rd0.map fun _ => 0)) (fun y => B.length - y.1) (fun y => y.1 ≤ B.length ∧ y.2 ++ (B.drop y.1).map (st :: ·) = L ++ B.map (st :: ·)) (0, L) ?_ ⟨Nat.zero_le _, rfl⟩ ?_
        · have hin := hin L
          exact (less_of (by simp [lessL, mkSt, slots, in_paths, pathsR, hk]) (by simp [upd, mkSt, rowsOf_cons, in_paths, pathsR, hk]) (by simp [upd, mkSt, usedOf_cons, in_paths, pathsR, hk]) (by first | exact rd_less (by omega) | simp [mkSt, in_paths, pathsR, hk]) (by simp [slots, in_any, in_int, in_bool, in_str, in_ptr, in_own, in_agg, in_vnil, in_rdr, usedOf_cons, usedOf_nil, strs_in, ints_in, nodes_in, in_tup, in_paths, pathsR, hk]) (by simp only [List.forall_mem_cons, List.not_mem_nil, false_implies, implies_true, and_true, true_and, in_paths, pathsR, hk]; (repeat (first | with_reducible exact trivial | with_reducible refine And.intro ?_ ?_ | with_reducible exact in_int | with_reducible exact in_str | with_reducible exact in_bool | with_reducible exact strs_in _ | with_reducible exact nodes_in _ | with_reducible exact items_in _ | with_reducible exact in_vnil | with_reducible exact in_any | exact hin _ | with_reducible refine take_in ?_ | with_reducible exact strsE_in _ | with_reducible exact nodesE_in _ | with_reducible exact nodeL_in _ | with_reducible exact itemsE_in _ | with_reducible exact itemL_in _ | with_reducible refine app_in ?_ ?_ | with_reducible refine sing_in ?_ | (focus (simp [in_any, in_int, in_bool, in_str, in_ptr, in_own, in_agg, in_vnil, in_rdr, usedOf_cons, usedOf_nil, strs_in, ints_in, nodes_in, in_paths, pathsR, hk]; done)))); done))
        · rintro ⟨j, M⟩ ⟨hj, hg⟩
          dsimp only at hj hg ⊢
          have hgl := congrArg List.length hg
          simp only [List.length_append, List.length_map, List.length_drop] at hgl
          by_cases hjt : j < B.length
          · have hjw : IntKind.i64.wrap ((j : Int) + 1) = (j : Int) + 1 := i64_nat (by omega) (by omega)
            have hbl := hB _ (List.getElem_mem hjt)
            have hb1 : (M.length + 1) * 24 ≤ 140737488355328 := by omega
            have hb2 : M.length + 1 ≤ 140737488355328 := by omega
            have hb3 : (1 + B[j].length) * 16 ≤ 140737488355328 := by omega
            have hb4 : 1 + B[j].length ≤ 140737488355328 := by omega
            rw [List.drop_eq_getElem_cons hjt, List.map_cons, List.append_cons] at hg
            (repeat (first | with_reducible refine AW.seq ?_ | ((first | refine arun_knb 4 rfl (fun C hC => ?_) | refine arunD_kn 4 rfl (fun C hC => ?_)); (repeat ((conv => whnf); simp [hjt, pathsE_len, pathsE_get, pathsE_at])); refine hC _ ?_; clear hC C; simp only [List.drop, Nat.reduceAdd]) | ((first | refine arun_knb 1 rfl (fun C hC => ?_) | refine arunD_kn 1 rfl (fun C hC => ?_)); (repeat ((conv => whnf); simp [hjt, pathsE_len, pathsE_get, pathsE_at])); refine hC _ ?_; clear hC C; simp only [List.drop, Nat.reduceAdd]) | (refine arun_skip ?_ ?_; (focus (simp [awant, hjt, pathsE_len, pathsE_get, pathsE_at]; done))) | (refine AW.regionK [] (fun K hK => ?_)) | (refine AW.regionDK [] (pcs [] []) (by kernel_rfl) (by kernel_rfl) (fun K hK => ?_)) | (refine AW.condT ?_ ?_; (focus (simp [aev, hjt, pathsE_len, pathsE_get, pathsE_at]; done))) | (refine AW.condF ?_ ?_; (focus (simp [aev, hjt, pathsE_len, pathsE_get, pathsE_at]; done))) | with_reducible refine AW.block ?_ | ((first | ((first | refine arun_nil ?_ | refine arunD_nil ?_); refine hK _ ?_; clear hK K) | refine AW.skip ?_ | refine AW.exit ?_ | refine AW.ret ?_); simp only [thenA_exit, inBlockA_exit, if_true, if_false, Nat.reduceEqDiff, thenA_normal, inBlockA_normal, reduceIte, thenA_ret, inBlockA_ret, endQ_ret, endR_ret, endG_ret, endQ_normal, endR_normal, endG_normal])))
            refine arun_ownSlice 41 rfl (by simp [awant]) tab23 (by simp; exact ⟨rfl, rfl⟩) (by simp [upd, usedOf_cons, usedOf_nil]) ?_
            (repeat (first | with_reducible refine AW.seq ?_ | ((first | refine arun_kn 4 rfl (fun C hC => ?_) | refine arunD_kn 4 rfl (fun C hC => ?_)); (repeat ((conv => whnf); simp [hjt, hjw, pathsE_len, pathsE_get, pathsE_at, strsE_len, hb1, hb2, hb3, hb4, pathsR])); refine hC _ ?_; clear hC C; simp only [List.drop, Nat.reduceAdd]) | ((first | refine arun_kn 1 rfl (fun C hC => ?_) | refine arunD_kn 1 rfl (fun C hC => ?_)); (repeat ((conv => whnf); simp [hjt, hjw, pathsE_len, pathsE_get, pathsE_at, strsE_len, hb1, hb2, hb3, hb4, pathsR])); refine hC _ ?_; clear hC C; simp only [List.drop, Nat.reduceAdd]) | (refine arun_skip ?_ ?_; (focus (simp [awant, hjt, hjw, pathsE_len, pathsE_get, pathsE_at, strsE_len, hb1, hb2, hb3, hb4, pathsR]; done))) | (refine AW.regionK [] (fun K hK => ?_)) | (refine AW.regionDK [] (pcs [] []) (by kernel_rfl) (by kernel_rfl) (fun K hK => ?_)) | (refine AW.condT ?_ ?_; (focus (simp [aev, hjt, hjw, pathsE_len, pathsE_get, pathsE_at, strsE_len, hb1, hb2, hb3, hb4, pathsR]; done))) | (refine AW.condF ?_ ?_; (focus (simp [aev, hjt, hjw, pathsE_len, pathsE_get, pathsE_at, strsE_len, hb1, hb2, hb3, hb4, pathsR]; done))) | with_reducible refine AW.block ?_ | ((first | ((first | refine arun_nil ?_ | refine arunD_nil ?_); refine hK _ ?_; clear hK K) | refine AW.skip ?_ | refine AW.exit ?_ | refine AW.ret ?_); simp only [thenA_exit, inBlockA_exit, if_true, if_false, Nat.reduceEqDiff, thenA_normal, inBlockA_normal, reduceIte, thenA_ret, inBlockA_ret, endQ_ret, endR_ret, endG_ret, endQ_normal, endR_normal, endG_normal])))
            refine ⟨(j + 1, M ++ [st :: B[j]]), by dsimp only; omega, ⟨by dsimp only; omega, hg⟩, ?_⟩
            have hsn : pathsE (M ++ [st :: B[j]]) = pathsE M ++ [[.view .loose 1 ([.str st] :: strsE B[j])]] := by rw [← paths_snoc]; rfl
            have hin := hin (M ++ [st :: B[j]])
            have hml : (M ++ [st :: B[j]]).length = M.length + 1 := by simp
            dsimp only
            rw [hml]
            rw [hsn] at hin
            refine Less.trans (Less.hold 41) (less_of (by simp [lessL, mkSt, slots, ASt.hold, in_paths, pathsR, hk, hsn, pathsE_sub, AV.subL, AV.sub, Row.sub, rowsOf_nil, strsE_len]) (by simp [upd, mkSt, rowsOf_cons, ASt.hold, in_paths, pathsR, hk, hsn, pathsE_sub, AV.subL, AV.sub, Row.sub, rowsOf_nil, strsE_len]) (by simp [upd, mkSt, usedOf_cons, ASt.hold, in_paths, pathsR, hk, hsn, pathsE_sub, AV.subL, AV.sub, Row.sub, rowsOf_nil, strsE_len]) (by first | exact rd_less (by omega) | simp [mkSt, ASt.hold, in_paths, pathsR, hk, hsn, pathsE_sub, AV.subL, AV.sub, Row.sub, rowsOf_nil, strsE_len]) (by simp [slots, in_any, in_int, in_bool, in_str, in_ptr, in_own, in_agg, in_vnil, in_rdr, usedOf_cons, usedOf_nil, strs_in, ints_in, nodes_in, in_tup, ASt.hold, in_paths, pathsR, hk, hsn, pathsE_sub, AV.subL, AV.sub, Row.sub, rowsOf_nil, strsE_len]) (by simp only [List.forall_mem_cons, List.not_mem_nil, false_implies, implies_true, and_true, true_and, ASt.hold, in_paths, pathsR, hk, hsn, pathsE_sub, AV.subL, AV.sub, Row.sub, rowsOf_nil, strsE_len]; (repeat (first | with_reducible exact trivial | with_reducible refine And.intro ?_ ?_ | with_reducible exact in_int | with_reducible exact in_str | with_reducible exact in_bool | with_reducible exact strs_in _ | with_reducible exact nodes_in _ | with_reducible exact items_in _ | with_reducible exact in_vnil | with_reducible exact in_any | exact hin _ | with_reducible refine take_in ?_ | with_reducible exact strsE_in _ | with_reducible exact nodesE_in _ | with_reducible exact nodeL_in _ | with_reducible exact itemsE_in _ | with_reducible exact itemL_in _ | with_reducible refine app_in ?_ ?_ | with_reducible refine sing_in ?_ | (focus (simp [in_any, in_int, in_bool, in_str, in_ptr, in_own, in_agg, in_vnil, in_rdr, usedOf_cons, usedOf_nil, strs_in, ints_in, nodes_in, ASt.hold, in_paths, pathsR, hk, hsn, pathsE_sub, AV.subL, AV.sub, Row.sub, rowsOf_nil, strsE_len]; done)))); done))
          · rw [List.drop_eq_nil_of_le (by omega), List.map_nil, List.append_nil] at hg
            (repeat (first | with_reducible refine AW.seq ?_ | ((first | refine arun_kn 4 rfl (fun C hC => ?_) | refine arunD_kn 4 rfl (fun C hC => ?_)); (repeat ((conv => whnf); simp [hjt, pathsE_len, hw])); refine hC _ ?_; clear hC C; simp only [List.drop, Nat.reduceAdd]) | ((first | refine arun_kn 1 rfl (fun C hC => ?_) | refine arunD_kn 1 rfl (fun C hC => ?_)); (repeat ((conv => whnf); simp [hjt, pathsE_len, hw])); refine hC _ ?_; clear hC C; simp only [List.drop, Nat.reduceAdd]) | (refine arun_skip ?_ ?_; (focus (simp [awant, hjt, pathsE_len, hw]; done))) | (refine AW.regionK [] (fun K hK => ?_)) | (refine AW.regionDK [] (pcs [] []) (by kernel_rfl) (by kernel_rfl) (fun K hK => ?_)) | (refine AW.condT ?_ ?_; (focus (simp [aev, hjt, pathsE_len, hw]; done))) | (refine AW.condF ?_ ?_; (focus (simp [aev, hjt, pathsE_len, hw]; done))) | with_reducible refine AW.block ?_ | ((first | ((first | refine arun_nil ?_ | refine arunD_nil ?_); refine hK _ ?_; clear hK K) | refine AW.skip ?_ | refine AW.exit ?_ | refine AW.ret ?_); simp only [thenA_exit, inBlockA_exit, if_true, if_false, Nat.reduceEqDiff, thenA_normal, inBlockA_normal, reduceIte, thenA_ret, inBlockA_ret, endQ_ret, endR_ret, endG_ret, endQ_normal, endR_normal, endG_normal])))
            refine ⟨(i + 1, M), by dsimp only; omega, ⟨by dsimp only; omega, by dsimp only; rw [hg]; exact hf⟩, ?_⟩
            have hin := hin M
            exact (less_of (by simp [lessL, mkSt, slots, in_paths, pathsR, hk]) (by simp [upd, mkSt, rowsOf_cons, in_paths, pathsR, hk]) (by simp [upd, mkSt, usedOf_cons, in_paths, pathsR, hk]) (by first | exact rd_less (by omega) | simp [mkSt, in_paths, pathsR, hk]) (by simp [slots, in_any, in_int, in_bool, in_str, in_ptr, in_own, in_agg, in_vnil, in_rdr, usedOf_cons, usedOf_nil, strs_in, ints_in, nodes_in, in_tup, in_paths, pathsR, hk]) (by simp only [List.forall_mem_cons, List.not_mem_nil, false_implies, implies_true, and_true, true_and, in_paths, pathsR, hk]; (repeat (first | with_reducible exact trivial | with_reducible refine And.intro ?_ ?_ | with_reducible exact in_int | with_reducible exact in_str | with_reducible exact in_bool | with_reducible exact strs_in _ | with_reducible exact nodes_in _ | with_reducible exact items_in _ | with_reducible exact in_vnil | with_reducible exact in_any | exact hin _ | with_reducible refine take_in ?_ | with_reducible exact strsE_in _ | with_reducible exact nodesE_in _ | with_reducible exact nodeL_in _ | with_reducible exact itemsE_in _ | with_reducible exact itemL_in _ | with_reducible refine app_in ?_ ?_ | with_reducible refine sing_in ?_ | (focus (simp [in_any, in_int, in_bool, in_str, in_ptr, in_own, in_agg, in_vnil, in_rdr, usedOf_cons, usedOf_nil, strs_in, ints_in, nodes_in, in_paths, pathsR, hk]; done)))); done))
    · rw [allL_end hlt, List.append_nil] at hf
      subst hf
      (repeat (first | with_reducible refine AW.seq ?_ | ((first | refine arun_kn 4 rfl (fun C hC => ?_) | refine arunD_kn 4 rfl (fun C hC => ?_)); (repeat ((conv => whnf); simp [hlt])); refine hC _ ?_; clear hC C; simp only [List.drop, Nat.reduceAdd]) | ((first | refine arun_kn 1 rfl (fun C hC => ?_) | refine arunD_kn 1 rfl (fun C hC => ?_)); (repeat ((conv => whnf); simp [hlt])); refine hC _ ?_; clear hC C; simp only [List.drop, Nat.reduceAdd]) | (refine arun_skip ?_ ?_; (focus (simp [awant, hlt]; done))) | (refine AW.regionK [] (fun K hK => ?_)) | (refine AW.regionDK [] (pcs [] []) (by kernel_rfl) (by kernel_rfl) (fun K hK => ?_)) | (refine AW.condT ?_ ?_; (focus (simp [aev, hlt]; done))) | (refine AW.condF ?_ ?_; (focus (simp [aev, hlt]; done))) | with_reducible refine AW.block ?_ | ((first | ((first | refine arun_nil ?_ | refine arunD_nil ?_); refine hK _ ?_; clear hK K) | refine AW.skip ?_ | refine AW.exit ?_ | refine AW.ret ?_); simp only [thenA_exit, inBlockA_exit, if_true, if_false, Nat.reduceEqDiff, thenA_normal, inBlockA_normal, reduceIte, thenA_ret, inBlockA_ret, endQ_ret, endR_ret, endG_ret, endQ_normal, endR_normal, endG_normal])))
      exact ⟨.own 9 (allS n).length, by simp [ares, aresL], .inr ⟨fun id => .own id (allS n).length, 9, pathsR (allS n), rfl, by simp [upd, rowsOf_cons], Res1.own _ _, pathsE_pur _, rfl, rfl⟩⟩
theorem all_AC : ∀ n, Way n → n.count ≤ 1000 → n.depth ≤ 500 → AC Try.prog 102 [nodeA n] 0 (fun r => r = .view .loose 1 (pathsE (allS n))) :=
  Nd.ind' _ (fun n ih hw hc hd => AC.ofPaths (allW_step n hw hc hd (fun k hk h1 h2 => ih k hk (hw.kid k hk) h1 h2)))
end Go.Proofs.Ytiobnaielfeeaaa.Eng
namespace Go.Proofs.Ytiobnaielfeeaaa.Eng
open Go Go.RowKit
inductive Dst : Nd → Prop where
  | mk (n : Nd) (h1 : ∀ i j, i < j → j < n.kids.length → stp n.kind n.names i ≠ stp n.kind n.names j) (h2 : ∀ k ∈ n.kids, Dst k) : Dst n
theorem Dst.step {n : Nd} : Dst n → ∀ i j, i < j → j < n.kids.length → stp n.kind n.names i ≠ stp n.kind n.names j | .mk _ h _ => h
theorem Dst.kid {n : Nd} : Dst n → ∀ k ∈ n.kids, Dst k | .mk _ _ h => h
end Go.Proofs.Ytiobnaielfeeaaa.Eng
namespace Go.Proofs.Ytiobnaielfeeaaa
open Go.RowKit
end Go.Proofs.Ytiobnaielfeeaaa
namespace Go.Proofs.Ytiobnaielfeeaaa.Eng
open Go Go.RowKit
theorem placeF_cases (n : Nd) (st : ByteArray) : ∀ f k, (placeF n st f k = -1 ∧ ∀ j, k ≤ j → j < k + f → hitP n st j = false) ∨ (∃ j, k ≤ j ∧ j < k + f ∧ placeF n st f k = (j : Int) ∧ hitP n st j = true)
  | 0, k => .inl ⟨rfl, fun j h1 h2 => by omega⟩
  | f + 1, k => by
    rw [placeF]
    cases hb : hitP n st k
    · rcases placeF_cases n st f (k + 1) with ⟨h1, h2⟩ | ⟨j, h1, h2, h3, h4⟩
      · refine .inl ⟨by simpa using h1, fun j h3 h4 => ?_⟩
        rcases Nat.eq_or_lt_of_le h3 with rfl | h5
        · exact hb
        · exact h2 j (by omega) (by omega)
      · exact .inr ⟨j, by omega, by omega, by simpa using h3, h4⟩
    · exact .inr ⟨k, Nat.le_refl _, by omega, by simp, hb⟩
theorem placeI_cases (n : Nd) (st : ByteArray) : (placeI n st = -1 ∧ ∀ j, j < n.kids.length → hitP n st j = false) ∨ (∃ j, j < n.kids.length ∧ placeI n st = (j : Int) ∧ hitP n st j = true) := by
  rcases placeF_cases n st n.kids.length 0 with ⟨h1, h2⟩ | ⟨j, h1, h2, h3, h4⟩
  · exact .inl ⟨h1, fun j hj => h2 j (Nat.zero_le _) (by omega)⟩
  · exact .inr ⟨j, by omega, h3, h4⟩
def Shp (n : Nd) : Prop := ∃ d, shapeB n d = true
theorem Shp.kid {n : Nd} (h : Shp n) {k : Nd} (hk : k ∈ n.kids) : Shp k := by
  obtain ⟨d, h⟩ := h
  rw [shapeB_eq] at h
  simp only [Bool.and_eq_true] at h
  exact ⟨d - 1, shapeL_mem h.2 k hk⟩
theorem Shp.parts {n : Nd} (h : Shp n) : partsB n = true := by
  obtain ⟨d, h⟩ := h
  rw [shapeB_eq] at h
  simp only [Bool.and_eq_true] at h
  exact h.1.2
theorem Shp.kids {n : Nd} (h : Shp n) : n.kids.length ≤ 6 := partsB_kids h.parts
theorem Shp.map {n : Nd} (h : Shp n) (h4 : n.kind = 4) : areNamesB n.names = true ∧ n.kids.length = n.names.length := by
  have hp := h.parts
  unfold partsB at hp
  simp only [Bool.and_eq_true] at hp
  have hp := hp.2
  rw [h4] at hp
  simp at hp
  exact hp
theorem Shp.plc {n : Nd} (h : Shp n) : Plc n := ⟨fun h4 => by have := (h.map h4).2; omega, fun _ => by have := h.kids; omega⟩
theorem Shp.of {n : Nd} (h : validB n = true) : Shp n := by
  unfold validB at h
  rw [Bool.and_eq_true] at h
  exact ⟨5, h.1⟩
theorem Shp.sml {n : Nd} (h : Shp n) : Sml n := shape_sml n _ h.choose_spec
def getS : Nd → List ByteArray → Option Nd
  | n, [] => some n
  | n, s :: p => if 0 ≤ placeI n s then getS ((n.kids[(placeI n s).toNat]?).getD Nd.zero) p else none
theorem getS_no {n : Nd} {s : ByteArray} (p : List ByteArray) (h : placeI n s = -1) : getS n (s :: p) = none := by
  rw [getS, if_neg (by omega)]
theorem getS_yes {n : Nd} {s : ByteArray} (p : List ByteArray) {k : Nat} (hk : k < n.kids.length) (h : placeI n s = (k : Int)) : getS n (s :: p) = getS n.kids[k] p := by
  rw [getS, h, if_pos (by omega)]
  simp [hk]
theorem getS_shp : ∀ (p : List ByteArray) (n m : Nd), Shp n → getS n p = some m → Shp m
  | [], n, m, h, e => by rw [getS] at e; cases e; exact h
  | s :: p, n, m, h, e => by
    rcases placeI_cases n s with ⟨h1, _⟩ | ⟨j, h1, h2, _⟩
    · rw [getS_no p h1] at e; cases e
    · rw [getS_yes p h1 h2] at e
      exact getS_shp p _ m (h.kid (List.getElem_mem h1)) e
end Go.Proofs.Ytiobnaielfeeaaa.Eng
namespace Go.Proofs.Ytiobnaielfeeaaa.Eng
open Go Go.RowKit
attribute [local simp] big size_mk ASt.pay Option.map_map Function.comp_def awant aop acall ado aev ofVal ofVal0 ASt.put ASt.add ASt.turn ASt.kill abox aalloc astore aload ASt.at cellsTo afieldAddr afield aindexAddr aindex alen abin aint acmp astr aun apick aextract anil aslice abound abuild afill abuildSlice asCells aps avCells over upd aappend asrc amax amin aconv mkSt slots rowsOf_cons rowsOf_nil usedOf_cons usedOf_nil ZK.av List.replicate ASt.back ASt.addL ASt.killL nodeA nodeT nodeTL_eq nodeL_eq strsE_get strsE_len intsE_get intsE_len strsE_at intsE_at tab2 tab3 tab4 tab5 tab6 tab7 tab8 tab9 tab10 tab11 tab12 tab13 tab14 tab15 tab16 tab17 tab18 tab19 tab21 tab22 tab23 tab24 tab25 tab26 tab27 tab28 tab29 tab30 tab48 tab51 tab52 tab59 tab77 tab78 tab79 tab91 tab95 tab96 tab97 tab109 tab116 tab132 tab133 tab138 tab139 tab144 tab145 tab146 tab148 tab149 tab150
def optA (o : Option Nd) : AV := .tup [nodeA (o.getD Nd.zero), .bool o.isSome]
theorem zero_wk : Wk (node0 0 0 ⟨#[]⟩) (nodeA Nd.zero) := by
  unfold node0 nodeA
  rw [nodeL_eq]
  exact Wk.agg (.cons (Wk.refl _) (.cons (Wk.refl _) (.cons (Wk.refl _) (.cons (Wk.nil (fun h => by cases h)) (.cons (Wk.nil (fun h => by cases h)) .nil)))))
theorem tup2_wk' {a b a' b' : AV} (h1 : Wk a a') (h2 : Wk b b') : Wk (.tup [a, b]) (.tup [a', b']) := Wk.tup (.cons h1 (.cons h2 .nil))
theorem none_end : Pur (.tup [node0 0 0 ⟨#[]⟩, .bool false]) ∧ Wk (.tup [node0 0 0 ⟨#[]⟩, .bool false]) (.tup [nodeA Nd.zero, .bool false]) := ⟨tup2_pur (node0_pur 0 0 ⟨#[]⟩) pur_bool, tup2_wk' zero_wk (Wk.refl _)⟩
theorem zeroA : nodeL Nd.zero = [.int .i64 0, .int .i64 0, .str ⟨#[]⟩, .view .loose 1 [], .view .loose 5 []] := by rw [nodeL_eq]; rfl
theorem at_AC (t : VC) (n : Nd) (p : List ByteArray) (h : Shp n) (hp : p.length ≤ 1000) : AC Try.prog 121 [nodeA n, .view t 1 (strsE p)] 0 (fun r => r = optA (getS n p)) := by
  refine AC.weak ?_
  unfold nodeA
  rw [nodeL_eq]
  refine AC.of tab_ok mixed_ok Try.func121 (by rfl) (by kernel_rfl) ?_; rintro ⟨P, T, hT, hm, w0, S0, rd0, k0⟩ hP hTT; dsimp only at hP hTT; subst hP hTT; unfold initSt; rw [Try.ntmps121]
  (repeat (first | with_reducible refine AW.seq ?_ | ((first | refine arun_kn 4 rfl (fun C hC => ?_) | refine arunD_kn 4 rfl (fun C hC => ?_)); (repeat ((conv => whnf); simp [strsE_len])); refine hC _ ?_; clear hC C; simp only [List.drop, Nat.reduceAdd]) | ((first | refine arun_kn 1 rfl (fun C hC => ?_) | refine arunD_kn 1 rfl (fun C hC => ?_)); (repeat ((conv => whnf); simp [strsE_len])); refine hC _ ?_; clear hC C; simp only [List.drop, Nat.reduceAdd]) | (refine arun_skip ?_ ?_; (focus (simp [awant, strsE_len]; done))) | (refine AW.regionK [] (fun K hK => ?_)) | (refine AW.regionDK [] (pcs [] []) (by kernel_rfl) (by kernel_rfl) (fun K hK => ?_)) | (refine AW.condT ?_ ?_; (focus (simp [aev, strsE_len]; done))) | (refine AW.condF ?_ ?_; (focus (simp [aev, strsE_len]; done))) | with_reducible refine AW.block ?_ | ((first | ((first | refine arun_nil ?_ | refine arunD_nil ?_); refine hK _ ?_; clear hK K) | refine AW.skip ?_ | refine AW.exit ?_ | refine AW.ret ?_); simp only [thenA_exit, inBlockA_exit, if_true, if_false, Nat.reduceEqDiff, thenA_normal, inBlockA_normal, reduceIte, thenA_ret, inBlockA_ret, endQ_ret, endR_ret, endG_ret, endQ_normal, endR_normal, endG_normal])))
  refine AW.loopS (fun (x : Nat × Nd) => mkSt (slots 0 30 [(1, .view t 1 (strsE p)), (2, .ptr true 5 1 2 0 0), (4, .ptr true 5 1 4 0 0), (5, .bool false), (6, .int .i64 x.1)]) [(2, ⟨true, 30, 5, [nodeL x.2]⟩), (4, ⟨true, 30, 5, [[.int .i64 0, .int .i64 0, .str ⟨#[]⟩, .view .tight 0 [], .view .tight 0 []]]⟩)] [2, 4] (rd0.map fun _ => 0)) (fun x => p.length - x.1) (fun x => x.1 ≤ p.length ∧ Shp x.2 ∧ getS n p = getS x.2 (p.drop x.1)) (0, n) ?_ ⟨Nat.zero_le _, h, rfl⟩ ?_
  · dsimp only
    rw [nodeL_eq]
    exact less_a
  · rintro ⟨i, m⟩ ⟨hi, hm, hf⟩
    dsimp only at hi hm hf ⊢
    by_cases hlt : i < p.length
    · have hw : IntKind.i64.wrap ((i : Int) + 1) = (i : Int) + 1 := i64_nat (by omega) (by omega)
      rw [List.drop_eq_getElem_cons hlt] at hf
      have pk := place_ok .loose m p[i] hm.plc
      unfold nodeT at pk
      rw [nodeTL_eq] at pk
      rw [nodeL_eq]
      rcases placeI_cases m p[i] with ⟨h1, _⟩ | ⟨k, h1, h2, _⟩
      · rw [getS_no _ h1] at hf
        rw [h1] at pk
        (repeat (first | with_reducible refine AW.seq ?_ | ((first | refine arun_kn 4 rfl (fun C hC => ?_) | refine arunD_kn 4 rfl (fun C hC => ?_)); (repeat ((conv => whnf); simp [hlt, strsE_len])); refine hC _ ?_; clear hC C; simp only [List.drop, Nat.reduceAdd]) | ((first | refine arun_kn 1 rfl (fun C hC => ?_) | refine arunD_kn 1 rfl (fun C hC => ?_)); (repeat ((conv => whnf); simp [hlt, strsE_len])); refine hC _ ?_; clear hC C; simp only [List.drop, Nat.reduceAdd]) | (refine arun_skip ?_ ?_; (focus (simp [awant, hlt, strsE_len]; done))) | (refine arun_c0 (pk) ?_; rintro _ rfl) | (refine arunD_c (0) (pk) ?_; rintro _ rfl; intro _) | (refine AW.regionK [] (fun K hK => ?_)) | (refine AW.regionDK [] (pcs [(5, 0, fun r => r = .int .i64 (-1))] []) (by kernel_rfl) (by kernel_rfl) (fun K hK => ?_)) | (refine AW.condT ?_ ?_; (focus (simp [aev, hlt, strsE_len]; done))) | (refine AW.condF ?_ ?_; (focus (simp [aev, hlt, strsE_len]; done))) | with_reducible refine AW.block ?_ | ((first | ((first | refine arun_nil ?_ | refine arunD_nil ?_); refine hK _ ?_; clear hK K) | refine AW.skip ?_ | refine AW.exit ?_ | refine AW.ret ?_); simp only [thenA_exit, inBlockA_exit, if_true, if_false, Nat.reduceEqDiff, thenA_normal, inBlockA_normal, reduceIte, thenA_ret, inBlockA_ret, endQ_ret, endR_ret, endG_ret, endQ_normal, endR_normal, endG_normal])))
        refine ⟨.tup [node0 0 0 ⟨#[]⟩, .bool false], by simp [node0, ares, aresL, upd, rowsOf_cons], none_end.1, _, none_end.2, by rw [hf]; rfl⟩
      · rw [getS_yes _ h1 h2] at hf
        rw [h2] at pk
        have hk0 : ¬ ((k : Int) < 0) := by omega
        (repeat (first | with_reducible refine AW.seq ?_ | ((first | refine arun_kn 4 rfl (fun C hC => ?_) | refine arunD_kn 4 rfl (fun C hC => ?_)); (repeat ((conv => whnf); simp [hlt, hw, h1, hk0, strsE_len])); refine hC _ ?_; clear hC C; simp only [List.drop, Nat.reduceAdd]) | ((first | refine arun_kn 1 rfl (fun C hC => ?_) | refine arunD_kn 1 rfl (fun C hC => ?_)); (repeat ((conv => whnf); simp [hlt, hw, h1, hk0, strsE_len])); refine hC _ ?_; clear hC C; simp only [List.drop, Nat.reduceAdd]) | (refine arun_skip ?_ ?_; (focus (simp [awant, hlt, hw, h1, hk0, strsE_len]; done))) | (refine arun_c0 (pk) ?_; rintro _ rfl) | (refine arunD_c (0) (pk) ?_; rintro _ rfl; intro _) | (refine AW.regionK [] (fun K hK => ?_)) | (refine AW.regionDK [] (pcs [(5, 0, fun r => r = .int .i64 (k : Int))] []) (by kernel_rfl) (by kernel_rfl) (fun K hK => ?_)) | (refine AW.condT ?_ ?_; (focus (simp [aev, hlt, hw, h1, hk0, strsE_len]; done))) | (refine AW.condF ?_ ?_; (focus (simp [aev, hlt, hw, h1, hk0, strsE_len]; done))) | with_reducible refine AW.block ?_ | ((first | ((first | refine arun_nil ?_ | refine arunD_nil ?_); refine hK _ ?_; clear hK K) | refine AW.skip ?_ | refine AW.exit ?_ | refine AW.ret ?_); simp only [thenA_exit, inBlockA_exit, if_true, if_false, Nat.reduceEqDiff, thenA_normal, inBlockA_normal, reduceIte, thenA_ret, inBlockA_ret, endQ_ret, endR_ret, endG_ret, endQ_normal, endR_normal, endG_normal])))
        refine ⟨(i + 1, m.kids[k]), by dsimp only; omega, ⟨by dsimp only; omega, hm.kid (List.getElem_mem h1), hf⟩, ?_⟩
        dsimp only
        exact less_a
    · rw [List.drop_eq_nil_of_le (by omega), getS] at hf
      have p4 := copyNode_AC m hm.sml .loose
      unfold nodeT at p4
      rw [nodeTL_eq] at p4
      rw [nodeL_eq]
      (repeat (first | with_reducible refine AW.seq ?_ | ((first | refine arun_kn 4 rfl (fun C hC => ?_) | refine arunD_kn 4 rfl (fun C hC => ?_)); (repeat ((conv => whnf); simp [hlt, strsE_len])); refine hC _ ?_; clear hC C; simp only [List.drop, Nat.reduceAdd]) | ((first | refine arun_kn 1 rfl (fun C hC => ?_) | refine arunD_kn 1 rfl (fun C hC => ?_)); (repeat ((conv => whnf); simp [hlt, strsE_len])); refine hC _ ?_; clear hC C; simp only [List.drop, Nat.reduceAdd]) | (refine arun_skip ?_ ?_; (focus (simp [awant, hlt, strsE_len]; done))) | (refine arun_c0 (p4) ?_; rintro _ rfl) | (refine AW.regionK [] (fun K hK => ?_)) | (refine AW.regionDK [] (pcs [] []) (by kernel_rfl) (by kernel_rfl) (fun K hK => ?_)) | (refine AW.condT ?_ ?_; (focus (simp [aev, hlt, strsE_len]; done))) | (refine AW.condF ?_ ?_; (focus (simp [aev, hlt, strsE_len]; done))) | with_reducible refine AW.block ?_ | ((first | ((first | refine arun_nil ?_ | refine arunD_nil ?_); refine hK _ ?_; clear hK K) | refine AW.skip ?_ | refine AW.exit ?_ | refine AW.ret ?_); simp only [thenA_exit, inBlockA_exit, if_true, if_false, Nat.reduceEqDiff, thenA_normal, inBlockA_normal, reduceIte, thenA_ret, inBlockA_ret, endQ_ret, endR_ret, endG_ret, endQ_normal, endR_normal, endG_normal])))
      exact ⟨.tup [nodeA m, .bool true], by simp [nodeA, nodeL_eq, ares, aresL, upd, rowsOf_cons], tup2_pur (node_pur m) pur_bool, _, Wk.refl _, by rw [hf]; rfl⟩
end Go.Proofs.Ytiobnaielfeeaaa.Eng
namespace Go.Proofs.Ytiobnaielfeeaaa.Eng
open Go Go.RowKit
def setK (n : Nd) (k : Nat) (v : Nd) : Nd := ⟨n.kind, n.num, n.text, n.names, n.kids.set k v⟩
def setS : Nd → List ByteArray → Nd → Option Nd
  | _, [], v => some v
  | n, s :: p, v => if 0 ≤ placeI n s then (setS ((n.kids[(placeI n s).toNat]?).getD Nd.zero) p v).map (setK n (placeI n s).toNat) else none
theorem setS_no {n v : Nd} {s : ByteArray} (p : List ByteArray) (h : placeI n s = -1) : setS n (s :: p) v = none := by
  rw [setS, if_neg (by omega)]
theorem setS_yes {n v : Nd} {s : ByteArray} (p : List ByteArray) {k : Nat} (hk : k < n.kids.length) (h : placeI n s = (k : Int)) : setS n (s :: p) v = (setS n.kids[k] p v).map (setK n k) := by
  rw [setS, h, if_pos (by omega)]
  simp [hk]
theorem setK_sml {n v : Nd} {k : Nat} (hn : Sml n) (hv : Sml v) : Sml (setK n k v) :=
  .mk _ hn.names (by simp only [setK, List.length_set]; exact hn.kids) (fun x hx => by
    rcases List.mem_or_eq_of_mem_set hx with h | rfl
    · exact hn.kid h
    · exact hv)
theorem setS_sml : ∀ (p : List ByteArray) (n v m : Nd), Shp n → Sml v → setS n p v = some m → Sml m
  | [], n, v, m, _, hv, h => by rw [setS] at h; cases h; exact hv
  | s :: p, n, v, m, hn, hv, h => by
    rcases placeI_cases n s with ⟨h1, _⟩ | ⟨k, h1, h2, _⟩
    · rw [setS_no p h1] at h; cases h
    · rw [setS_yes p h1 h2] at h
      obtain ⟨x, hx, rfl⟩ := Option.map_eq_some_iff.1 h
      exact setK_sml hn.sml (setS_sml p _ v x (hn.kid (List.getElem_mem h1)) hv hx)
def delK (n : Nd) (k : Nat) : Nd := ⟨n.kind, 0, ⟨#[]⟩, if n.kind = 4 then n.names.take k ++ n.names.drop (k + 1) else [], n.kids.take k ++ n.kids.drop (k + 1)⟩
theorem delK_sml {n : Nd} {k : Nat} (hn : Sml n) : Sml (delK n k) :=
  .mk _ (by
    have := hn.names
    unfold delK
    dsimp only
    split
    · simp only [List.length_append, List.length_take, List.length_drop]; omega
    · simp) (by
    have := hn.kids
    simp only [delK, List.length_append, List.length_take, List.length_drop]; omega) (fun x hx => by
    simp only [delK, List.mem_append] at hx
    rcases hx with h | h
    · exact hn.kid (List.mem_of_mem_take h)
    · exact hn.kid (List.mem_of_mem_drop h))
def remS (n : Nd) (p : List ByteArray) : Option Nd :=
  match p.getLast? with
  | none => none
  | some s => (getS n p.dropLast).bind (fun m => if 0 ≤ placeI m s then setS n p.dropLast (delK m (placeI m s).toNat) else none)
def nmI (st : ByteArray) : List ByteArray → Nat
  | [] => 0
  | x :: xs => if lts st x then 0 else nmI st xs + 1
theorem nmI_le (st : ByteArray) : ∀ l : List ByteArray, nmI st l ≤ l.length
  | [] => Nat.le_refl _
  | x :: xs => by
    rw [nmI]
    split
    · exact Nat.zero_le _
    · have := nmI_le st xs; simp; omega
theorem nmI_drop {st : ByteArray} {l : List ByteArray} {i : Nat} (hi : i < l.length) (h : lts st l[i] = false) : nmI st (l.drop i) + i = nmI st (l.drop (i + 1)) + (i + 1) := by
  rw [List.drop_eq_getElem_cons hi, nmI, h]
  simp only [Bool.false_eq_true, if_false]; omega
theorem nmI_at {st : ByteArray} {l : List ByteArray} {i : Nat} (hi : i < l.length) (h : lts st l[i] = true) : nmI st (l.drop i) = 0 := by
  rw [List.drop_eq_getElem_cons hi, nmI, h]; rfl
def insL {α : Type} (l : List α) (i : Nat) (x : α) : List α := l.take i ++ [x] ++ l.drop i
def insKid (n : Nd) (i : Nat) (st : ByteArray) (v : Nd) : Nd := ⟨n.kind, 0, ⟨#[]⟩, if n.kind = 4 then insL n.names i st else [], insL n.kids i v⟩
theorem insKid_sml {n v : Nd} {i : Nat} {st : ByteArray} (hn : Shp n) (hv : Sml v) : Sml (insKid n i st v) := by
  have h6 := hn.kids
  have hs := hn.sml
  have hnm := hs.names
  refine .mk _ ?_ ?_ (fun x hx => ?_)
  · unfold insKid
    dsimp only
    split
    · rename_i h4
      have := (hn.map h4).2
      simp only [insL, List.length_append, List.length_take, List.length_drop, List.length_cons, List.length_nil]; omega
    · simp
  · simp only [insKid, insL, List.length_append, List.length_take, List.length_drop, List.length_cons, List.length_nil]; omega
  · simp only [insKid, insL, List.mem_append, List.mem_singleton] at hx
    rcases hx with (h | rfl) | h
    · exact hs.kid (List.mem_of_mem_take h)
    · exact hv
    · exact hs.kid (List.mem_of_mem_drop h)
def dash : ByteArray := ⟨#[45]⟩
def slotS (n : Nd) (st : ByteArray) : Option (Nat × Bool) :=
  if 0 ≤ placeI n st then some ((placeI n st).toNat, decide (n.kind = 4))
  else if n.kind = 3 ∧ (eqs st dash || eqs st (txt (dig1 n.kids.length))) = true then some (n.kids.length, false)
  else if n.kind = 4 then some (nmI st n.names, false) else none
def addK (n : Nd) (st : ByteArray) (v : Nd) : Option Nd :=
  (slotS n st).map (fun x => if x.2 then setK n x.1 v else insKid n x.1 st v)
structure Slt (n : Nd) : Prop where
  map : n.kind = 4 → n.names.length = n.kids.length
  lst : n.kind = 3 → n.kids.length ≤ 6
  sml : Sml n
theorem Slt.plc {n : Nd} (h : Slt n) : Plc n := ⟨fun h4 => by have := h.map h4; omega, fun h3 => by have := h.lst h3; omega⟩
theorem Shp.slt {n : Nd} (h : Shp n) : Slt n := ⟨fun h4 => ((h.map h4).2).symm, fun _ => h.kids, h.sml⟩
theorem slotS_lt {n : Nd} {st : ByteArray} (h : Slt n) {i : Nat} {b : Bool} (he : slotS n st = some (i, b)) : (b = true → n.kind = 4 ∧ i < n.kids.length) ∧ (b = false → (n.kind = 3 ∨ n.kind = 4) ∧ i ≤ n.kids.length) := by
  unfold slotS at he
  rcases placeI_cases n st with ⟨h1, _⟩ | ⟨k, h1, h2, h3⟩
  · rw [h1, if_neg (by omega)] at he
    split at he
    · rename_i h3
      cases he
      exact ⟨fun h => (by cases h), fun _ => ⟨.inl h3.1, Nat.le_refl _⟩⟩
    · split at he
      · rename_i h4
        cases he
        refine ⟨fun h => (by cases h), fun _ => ⟨.inr h4, ?_⟩⟩
        rw [← h.map h4]
        exact nmI_le _ _
      · cases he
  · rw [h2, if_pos (by omega), Int.toNat_natCast] at he
    cases he
    refine ⟨fun h => ⟨by simpa using h, h1⟩, fun h4 => ⟨.inl ?_, by omega⟩⟩
    simp at h4
    simp [hitP, h4] at h3
    exact h3.1
theorem addK_sml {n v m : Nd} {st : ByteArray} (hn : Shp n) (hv : Sml v) (h : addK n st v = some m) : Sml m := by
  obtain ⟨⟨i, b⟩, _, rfl⟩ := Option.map_eq_some_iff.1 h
  dsimp only
  split
  · exact setK_sml hn.sml hv
  · exact insKid_sml hn hv
def addS (n : Nd) (p : List ByteArray) (v : Nd) : Option Nd :=
  match p.getLast? with
  | none => some v
  | some s => (getS n p.dropLast).bind (fun m => (addK m s v).bind (fun x => setS n p.dropLast x))
theorem remS_sml {n m : Nd} {p : List ByteArray} (hn : Shp n) (h : remS n p = some m) : Sml m := by
  unfold remS at h
  split at h
  · cases h
  · obtain ⟨x, hx, h⟩ := Option.bind_eq_some_iff.1 h
    split at h
    · exact setS_sml _ _ _ _ hn (delK_sml (getS_shp _ _ _ hn hx).sml) h
    · cases h
theorem addS_sml {n m v : Nd} {p : List ByteArray} (hn : Shp n) (hv : Sml v) (h : addS n p v = some m) : Sml m := by
  unfold addS at h
  split at h
  · cases h; exact hv
  · obtain ⟨x, hx, h⟩ := Option.bind_eq_some_iff.1 h
    obtain ⟨y, hy, h⟩ := Option.bind_eq_some_iff.1 h
    exact setS_sml _ _ _ _ hn (addK_sml (getS_shp _ _ _ hn hx) hv hy) h
end Go.Proofs.Ytiobnaielfeeaaa.Eng
-- EV: rows
namespace Go.Proofs.Ytiobnaielfeeaaa.Eng
open Go Go.RowKit
attribute [local simp] big size_mk ASt.pay Option.map_map Function.comp_def awant aop acall ado aev ofVal ofVal0 ASt.put ASt.add ASt.turn ASt.kill abox aalloc astore aload ASt.at cellsTo afieldAddr afield aindexAddr aindex alen abin aint acmp astr aun apick aextract anil aslice abound abuild afill abuildSlice asCells aps avCells over upd aappend asrc amax amin aconv mkSt slots rowsOf_cons rowsOf_nil usedOf_cons usedOf_nil ZK.av List.replicate ASt.back ASt.addL ASt.killL nodeA nodeT nodeTL_eq nodeL_eq strsE_get strsE_len intsE_get intsE_len strsE_at intsE_at nodeN namesRow nodeO kidsRow tab2 tab3 tab4 tab5 tab6 tab7 tab8 tab9 tab10 tab11 tab12 tab13 tab14 tab15 tab16 tab17 tab18 tab19 tab21 tab22 tab23 tab24 tab25 tab26 tab27 tab28 tab29 tab30 tab48 tab51 tab52 tab59 tab77 tab78 tab79 tab91 tab95 tab96 tab97 tab109 tab116 tab132 tab133 tab138 tab139 tab144 tab145 tab146 tab148 tab149 tab150
theorem nodeO_res (n : Nd) (id0 : Nat) : Res1 id0 (nodeO n) := Res1.agg [fun _ => .int .i64 n.kind, fun _ => .int .i64 n.num, fun _ => .str n.text, fun _ => .view .loose 1 (strsE n.names), fun id => .own id n.kids.length] (by
  simp only [List.forall_mem_cons, List.not_mem_nil, false_implies, implies_true, and_true]
  exact ⟨Res1.pur _ pur_int, Res1.pur _ pur_int, Res1.pur _ pur_str, Res1.pur _ (strs_pur _ (by decide)), Res1.own _ _⟩)
theorem optA_in (o : Option Nd) : NoId (optA o) := by
  unfold optA NoId
  have h := node_in (U := fun _ => false) (o.getD Nd.zero)
  unfold nodeA at h
  rw [nodeL_eq] at h
  simp [in_tup, in_bool]
  exact h
def optL (o : Option Nd) : AV := .tup [.agg [.int .i64 (o.getD Nd.zero).kind, .int .i64 (o.getD Nd.zero).num, .str (o.getD Nd.zero).text, .view .loose 1 (strsE (o.getD Nd.zero).names), .view .loose 5 ((o.getD Nd.zero).kids.map nodeL)], .bool o.isSome]
theorem optA_eq (o : Option Nd) : optA o = optL o := by unfold optA optL nodeA; rw [nodeL_eq]
theorem optL_in (o : Option Nd) : NoId (optL o) := by rw [← optA_eq]; exact optA_in o
theorem optA_pur (o : Option Nd) : Pur (optA o) := tup2_pur (node_pur _) pur_bool
theorem optN_in : NoId (.tup [.agg [.int .i64 0, .int .i64 0, .str ⟨#[]⟩, .view .loose 1 [], .view .loose 5 []], .bool false]) := by
  have h := optA_in none
  unfold optA nodeA at h
  rw [show nodeL ((none : Option Nd).getD Nd.zero) = nodeL Nd.zero from rfl, zeroA] at h
  exact h
theorem optS_in (m : Nd) : NoId (.tup [.agg [.int .i64 m.kind, .int .i64 m.num, .str m.text, .view .loose 1 (strsE m.names), .view .loose 5 (m.kids.map nodeL)], .bool true]) := by
  have h := optA_in (some m)
  unfold optA nodeA at h
  rw [show nodeL ((some m : Option Nd).getD Nd.zero) = nodeL m from rfl, nodeL_eq] at h
  exact h
theorem kids_set (n v : Nd) (k : Nat) : (setK n k v).kids.map nodeL = (n.kids.map nodeL).set k (nodeL v) := by simp [setK, List.map_set]
theorem withKid_ACR (n v : Nd) (k : Nat) (hn : Sml n) (hv : Sml v) (hk : k < n.kids.length) : ACR Try.prog 93 [nodeA n, .int .i64 k, nodeA v] 0 (fun _ => False) (fun f R => f = nodeO (setK n k v) ∧ R = kidsRow (setK n k v)) := by
  unfold nodeA
  rw [nodeL_eq n, nodeL_eq v]
  refine ACR.of tab_ok mixed_ok Try.func93 (by rfl) (by kernel_rfl) ?_; rintro ⟨P, T, hT, hm, w0, S0, rd0, k0⟩ hP hTT; dsimp only at hP hTT; subst hP hTT; unfold initSt; rw [Try.ntmps93]
  (repeat (first | with_reducible refine AW.seq ?_ | ((first | refine arun_kn 4 rfl (fun C hC => ?_) | refine arunD_kn 4 rfl (fun C hC => ?_)); (repeat ((conv => whnf); simp [hk])); refine hC _ ?_; clear hC C; simp only [List.drop, Nat.reduceAdd]) | ((first | refine arun_kn 1 rfl (fun C hC => ?_) | refine arunD_kn 1 rfl (fun C hC => ?_)); (repeat ((conv => whnf); simp [hk])); refine hC _ ?_; clear hC C; simp only [List.drop, Nat.reduceAdd]) | (refine arun_skip ?_ ?_; (focus (simp [awant, hk]; done))) | (refine arun_cR (0) 30 (copyNode_ACR n hn .loose) ?_; (rintro _ _ ⟨rfl, rfl⟩; unfold nodeO kidsRow)) | (refine arun_c0 (copyNode_AC v hv .loose) ?_; rintro _ rfl) | (refine arunD_c (0) (copyNode_AC v hv .loose) ?_; rintro _ rfl; intro _) | (refine AW.regionK [] (fun K hK => ?_)) | (refine AW.regionDK [] (pcs [(4, 0, fun r => r = nodeA v)] []) (by kernel_rfl) (by kernel_rfl) (fun K hK => ?_)) | (refine AW.condT ?_ ?_; (focus (simp [aev, hk]; done))) | (refine AW.condF ?_ ?_; (focus (simp [aev, hk]; done))) | with_reducible refine AW.block ?_ | ((first | ((first | refine arun_nil ?_ | refine arunD_nil ?_); refine hK _ ?_; clear hK K) | refine AW.skip ?_ | refine AW.exit ?_ | refine AW.ret ?_); simp only [thenA_exit, inBlockA_exit, if_true, if_false, Nat.reduceEqDiff, thenA_normal, inBlockA_normal, reduceIte, thenA_ret, inBlockA_ret, endQ_ret, endR_ret, endG_ret, endQ_normal, endR_normal, endG_normal])))
  exact ⟨nodeO (setK n k v) 30, by simp [nodeO, setK, ares, aresL, upd, rowsOf_cons], .inr ⟨nodeO (setK n k v), 30, kidsRow (setK n k v), rfl, by unfold kidsRow; rw [kids_set]; simp [upd, kidsRow, nodeL_eq], nodeO_res _ 30, nodesE_pur _, rfl, rfl⟩⟩
theorem withKid_AC (n v : Nd) (k : Nat) (hn : Sml n) (hv : Sml v) (hk : k < n.kids.length) : AC Try.prog 93 [nodeA n, .int .i64 k, nodeA v] 0 (fun r => r = nodeA (setK n k v)) := by
  refine (AC.ofR (withKid_ACR n v k hn hv hk) ?_).mono ?_
  · rintro r R ⟨rfl, rfl⟩
    rw [nodeO_sub]
    exact node_in _
  · rintro r (h | ⟨f, R, ⟨rfl, rfl⟩, rfl⟩)
    · exact h.elim
    · exact nodeO_sub _
theorem setAt_AC (t' : VC) : ∀ (p : List ByteArray) (n v : Nd) (t : VC), Shp n → Sml v → AC Try.prog 105 [nodeA n, .view t 1 (strsE p), nodeT t' v] 0 (fun r => r = optA (setS n p v))
  | [], n, v, t, hn, hv => by
    have p1 := copyNode_AC v hv t'
    refine AC.weak ?_
    unfold nodeA
    unfold nodeT at p1 ⊢
    rw [nodeTL_eq] at p1 ⊢
    rw [nodeL_eq]
    refine AC.of tab_ok mixed_ok Try.func105 (by rfl) (by kernel_rfl) ?_; rintro ⟨P, T, hT, hm, w0, S0, rd0, k0⟩ hP hTT; dsimp only at hP hTT; subst hP hTT; unfold initSt; rw [Try.ntmps105]
    (repeat (first | with_reducible refine AW.seq ?_ | ((first | refine arun_kn 4 rfl (fun C hC => ?_) | refine arunD_kn 4 rfl (fun C hC => ?_)); (repeat ((conv => whnf); simp [strsE_len])); refine hC _ ?_; clear hC C; simp only [List.drop, Nat.reduceAdd]) | ((first | refine arun_kn 1 rfl (fun C hC => ?_) | refine arunD_kn 1 rfl (fun C hC => ?_)); (repeat ((conv => whnf); simp [strsE_len])); refine hC _ ?_; clear hC C; simp only [List.drop, Nat.reduceAdd]) | (refine arun_skip ?_ ?_; (focus (simp [awant, strsE_len]; done))) | (refine arun_c0 (p1) ?_; rintro _ rfl) | (refine AW.regionK [] (fun K hK => ?_)) | (refine AW.regionDK [] (pcs [] []) (by kernel_rfl) (by kernel_rfl) (fun K hK => ?_)) | (refine AW.condT ?_ ?_; (focus (simp [aev, strsE_len]; done))) | (refine AW.condF ?_ ?_; (focus (simp [aev, strsE_len]; done))) | with_reducible refine AW.block ?_ | ((first | ((first | refine arun_nil ?_ | refine arunD_nil ?_); refine hK _ ?_; clear hK K) | refine AW.skip ?_ | refine AW.exit ?_ | refine AW.ret ?_); simp only [thenA_exit, inBlockA_exit, if_true, if_false, Nat.reduceEqDiff, thenA_normal, inBlockA_normal, reduceIte, thenA_ret, inBlockA_ret, endQ_ret, endR_ret, endG_ret, endQ_normal, endR_normal, endG_normal])))
    exact ⟨.tup [nodeA v, .bool true], by simp [ares, aresL, upd, rowsOf_cons], tup2_pur (node_pur v) pur_bool, _, Wk.refl _, rfl⟩
  | s :: q, n, v, t, hn, hv => by
    have e1 : strsE (s :: q) = [.str s] :: strsE q := rfl
    have pk := place_ok .loose n s hn.plc
    refine AC.weak ?_
    unfold nodeT at pk
    rw [nodeTL_eq] at pk
    unfold nodeA nodeT
    rw [nodeL_eq, nodeTL_eq, e1]
    have hlz : ((q.length + 1 : Nat) : Int) ≠ 0 := by omega
    have htk : (strsE q).take q.length = strsE q := List.take_of_length_le (by rw [strsE_len]; exact Nat.le_refl _)
    have hlo1 : ¬ (q.length : Int) + 1 < 1 := by omega
    have hlo2 : 1 ≤ q.length + 1 := by omega
    have hlo3 : (1 : Int) ≤ (q.length : Int) + 1 := by omega
    have hlz' : (((q.length : Int) + 1) == 0) = false := beq_false_of_ne (by omega)
    refine AC.of tab_ok mixed_ok Try.func105 (by rfl) (by kernel_rfl) ?_; rintro ⟨P, T, hT, hm, w0, S0, rd0, k0⟩ hP hTT; dsimp only at hP hTT; subst hP hTT; unfold initSt; rw [Try.ntmps105]
    rcases placeI_cases n s with ⟨h1, _⟩ | ⟨k, h1, h2, _⟩
    · rw [h1] at pk
      rw [setS_no q h1]
      (repeat (first | with_reducible refine AW.seq ?_ | ((first | refine arun_kn 4 rfl (fun C hC => ?_) | refine arunD_kn 4 rfl (fun C hC => ?_)); (repeat ((conv => whnf); simp [strsE_len, hlz, hlz'])); refine hC _ ?_; clear hC C; simp only [List.drop, Nat.reduceAdd]) | ((first | refine arun_kn 1 rfl (fun C hC => ?_) | refine arunD_kn 1 rfl (fun C hC => ?_)); (repeat ((conv => whnf); simp [strsE_len, hlz, hlz'])); refine hC _ ?_; clear hC C; simp only [List.drop, Nat.reduceAdd]) | (refine arun_skip ?_ ?_; (focus (simp [awant, strsE_len, hlz, hlz']; done))) | (refine arun_c0 (pk) ?_; rintro _ rfl) | (refine arunD_c (0) (pk) ?_; rintro _ rfl; intro _) | (refine AW.regionK [] (fun K hK => ?_)) | (refine AW.regionDK [] (pcs [(4, 0, fun r => r = .int .i64 (-1))] []) (by kernel_rfl) (by kernel_rfl) (fun K hK => ?_)) | (refine AW.condT ?_ ?_; (focus (simp [aev, strsE_len, hlz, hlz']; done))) | (refine AW.condF ?_ ?_; (focus (simp [aev, strsE_len, hlz, hlz']; done))) | with_reducible refine AW.block ?_ | ((first | ((first | refine arun_nil ?_ | refine arunD_nil ?_); refine hK _ ?_; clear hK K) | refine AW.skip ?_ | refine AW.exit ?_ | refine AW.ret ?_); simp only [thenA_exit, inBlockA_exit, if_true, if_false, Nat.reduceEqDiff, thenA_normal, inBlockA_normal, reduceIte, thenA_ret, inBlockA_ret, endQ_ret, endR_ret, endG_ret, endQ_normal, endR_normal, endG_normal])))
      refine ⟨.tup [node0 0 0 ⟨#[]⟩, .bool false], by simp [node0, ares, aresL, upd, rowsOf_cons], none_end.1, _, none_end.2, rfl⟩
    · rw [h2] at pk
      rw [setS_yes q h1 h2]
      have hk0 : ¬ ((k : Int) < 0) := by omega
      have hkid := hn.kid (List.getElem_mem h1)
      have ih := setAt_AC t' q n.kids[k] v t.cut hkid hv
      cases hg : setS n.kids[k] q v with
      | none =>
        rw [hg] at ih
        unfold optA nodeT nodeA at ih
        have hz : nodeL ((none : Option Nd).getD Nd.zero) = nodeL Nd.zero := rfl
        rw [hz, zeroA, nodeTL_eq, nodeL_eq, Option.isSome_none] at ih
        (repeat (first | with_reducible refine AW.seq ?_ | ((first | refine arun_kn 4 rfl (fun C hC => ?_) | refine arunD_kn 4 rfl (fun C hC => ?_)); (repeat ((conv => whnf); simp [strsE_len, hlz, hlz', h1, hk0, hlo1, hlo2, hlo3, htk])); refine hC _ ?_; clear hC C; simp only [List.drop, Nat.reduceAdd]) | ((first | refine arun_kn 1 rfl (fun C hC => ?_) | refine arunD_kn 1 rfl (fun C hC => ?_)); (repeat ((conv => whnf); simp [strsE_len, hlz, hlz', h1, hk0, hlo1, hlo2, hlo3, htk])); refine hC _ ?_; clear hC C; simp only [List.drop, Nat.reduceAdd]) | (refine arun_skip ?_ ?_; (focus (simp [awant, strsE_len, hlz, hlz', h1, hk0, hlo1, hlo2, hlo3, htk]; done))) | (refine arun_c0 (pk) ?_; rintro _ rfl) | (refine arun_c0 (ih) ?_; rintro _ rfl) | (refine arunD_c (0) (pk) ?_; rintro _ rfl; intro _) | (refine arunD_cE (0) (ih) (by exact ⟨_, rfl, optN_in⟩) ?_; rintro _ rfl; intro _) | (refine AW.regionK [] (fun K hK => ?_)) | (refine AW.regionDK [] (pcs [(4, 0, fun r => r = .int .i64 (k : Int)), (8, 0, fun r => r = .tup [.agg [.int .i64 0, .int .i64 0, .str ⟨#[]⟩, .view .loose 1 [], .view .loose 5 []], .bool false])] []) (by kernel_rfl) (by kernel_rfl) (fun K hK => ?_)) | (refine AW.condT ?_ ?_; (focus (simp [aev, strsE_len, hlz, hlz', h1, hk0, hlo1, hlo2, hlo3, htk]; done))) | (refine AW.condF ?_ ?_; (focus (simp [aev, strsE_len, hlz, hlz', h1, hk0, hlo1, hlo2, hlo3, htk]; done))) | with_reducible refine AW.block ?_ | ((first | ((first | refine arun_nil ?_ | refine arunD_nil ?_); refine hK _ ?_; clear hK K) | refine AW.skip ?_ | refine AW.exit ?_ | refine AW.ret ?_); simp only [thenA_exit, inBlockA_exit, if_true, if_false, Nat.reduceEqDiff, thenA_normal, inBlockA_normal, reduceIte, thenA_ret, inBlockA_ret, endQ_ret, endR_ret, endG_ret, endQ_normal, endR_normal, endG_normal])))
        refine ⟨.tup [node0 0 0 ⟨#[]⟩, .bool false], by simp [node0, ares, aresL, upd, rowsOf_cons], none_end.1, _, none_end.2, rfl⟩
      | some m =>
        rw [hg] at ih
        have hm := setS_sml _ _ _ _ hkid hv hg
        have pw := withKid_AC n m k hn.sml hm h1
        unfold optA nodeT nodeA at ih
        unfold nodeA at pw
        have hz : nodeL ((some m : Option Nd).getD Nd.zero) = nodeL m := rfl
        rw [hz, nodeTL_eq, nodeL_eq n.kids[k], nodeL_eq m, Option.isSome_some] at ih
        rw [nodeL_eq n, nodeL_eq m] at pw
        (repeat (first | with_reducible refine AW.seq ?_ | ((first | refine arun_kn 4 rfl (fun C hC => ?_) | refine arunD_kn 4 rfl (fun C hC => ?_)); (repeat ((conv => whnf); simp [strsE_len, hlz, hlz', h1, hk0, hlo1, hlo2, hlo3, htk])); refine hC _ ?_; clear hC C; simp only [List.drop, Nat.reduceAdd]) | ((first | refine arun_kn 1 rfl (fun C hC => ?_) | refine arunD_kn 1 rfl (fun C hC => ?_)); (repeat ((conv => whnf); simp [strsE_len, hlz, hlz', h1, hk0, hlo1, hlo2, hlo3, htk])); refine hC _ ?_; clear hC C; simp only [List.drop, Nat.reduceAdd]) | (refine arun_skip ?_ ?_; (focus (simp [awant, strsE_len, hlz, hlz', h1, hk0, hlo1, hlo2, hlo3, htk]; done))) | (refine arun_c0 (pk) ?_; rintro _ rfl) | (refine arun_c0 (ih) ?_; rintro _ rfl) | (refine arun_c0 (pw) ?_; rintro _ rfl) | (refine arunD_c (0) (pk) ?_; rintro _ rfl; intro _) | (refine arunD_cE (0) (ih) (by exact ⟨_, rfl, optS_in m⟩) ?_; rintro _ rfl; intro _) | (refine arunD_c (0) (pw) ?_; rintro _ rfl; intro _) | (refine AW.regionK [] (fun K hK => ?_)) | (refine AW.regionDK [] (pcs [(4, 0, fun r => r = .int .i64 (k : Int)), (8, 0, fun r => r = .tup [.agg [.int .i64 m.kind, .int .i64 m.num, .str m.text, .view .loose 1 (strsE m.names), .view .loose 5 (m.kids.map nodeL)], .bool true])] []) (by kernel_rfl) (by kernel_rfl) (fun K hK => ?_)) | (refine AW.condT ?_ ?_; (focus (simp [aev, strsE_len, hlz, hlz', h1, hk0, hlo1, hlo2, hlo3, htk]; done))) | (refine AW.condF ?_ ?_; (focus (simp [aev, strsE_len, hlz, hlz', h1, hk0, hlo1, hlo2, hlo3, htk]; done))) | with_reducible refine AW.block ?_ | ((first | ((first | refine arun_nil ?_ | refine arunD_nil ?_); refine hK _ ?_; clear hK K) | refine AW.skip ?_ | refine AW.exit ?_ | refine AW.ret ?_); simp only [thenA_exit, inBlockA_exit, if_true, if_false, Nat.reduceEqDiff, thenA_normal, inBlockA_normal, reduceIte, thenA_ret, inBlockA_ret, endQ_ret, endR_ret, endG_ret, endQ_normal, endR_normal, endG_normal])))
        exact ⟨.tup [nodeA (setK n k m), .bool true], by simp [setK, ares, aresL, upd, rowsOf_cons], tup2_pur (node_pur _) pur_bool, _, Wk.refl _, rfl⟩
end Go.Proofs.Ytiobnaielfeeaaa.Eng
-- EV: rows
namespace Go.Proofs.Ytiobnaielfeeaaa.Eng
open Go Go.RowKit
attribute [local simp] big size_mk ASt.pay Option.map_map Function.comp_def awant aop acall ado aev ofVal ofVal0 ASt.put ASt.add ASt.turn ASt.kill abox aalloc astore aload ASt.at cellsTo afieldAddr afield aindexAddr aindex alen abin aint acmp astr aun apick aextract anil aslice abound abuild afill abuildSlice asCells aps avCells over upd aappend asrc amax amin aconv mkSt slots rowsOf_cons rowsOf_nil usedOf_cons usedOf_nil ZK.av List.replicate ASt.back ASt.addL ASt.killL nodeA nodeT nodeTL_eq nodeL_eq strsE_get strsE_len intsE_get intsE_len strsE_at intsE_at nodeN namesRow nodeO kidsRow tab2 tab3 tab4 tab5 tab6 tab7 tab8 tab9 tab10 tab11 tab12 tab13 tab14 tab15 tab16 tab17 tab18 tab19 tab21 tab22 tab23 tab24 tab25 tab26 tab27 tab28 tab29 tab30 tab48 tab51 tab52 tab59 tab77 tab78 tab79 tab91 tab95 tab96 tab97 tab109 tab116 tab132 tab133 tab138 tab139 tab144 tab145 tab146 tab148 tab149 tab150
theorem strs_snoc (q : List ByteArray) (s : ByteArray) : strsE (q ++ [s]) = strsE q ++ [[.str s]] := by simp [strsE]
theorem snoc_cases (p : List ByteArray) : p = [] ∨ ∃ q s, p = q ++ [s] := by
  rcases List.eq_nil_or_concat p with h | ⟨q, s, h⟩
  · exact .inl h
  · exact .inr ⟨q, s, by rw [h]; simp⟩
theorem remS_snoc (n : Nd) (q : List ByteArray) (s : ByteArray) : remS n (q ++ [s]) = (getS n q).bind (fun m => if 0 ≤ placeI m s then setS n q (delK m (placeI m s).toNat) else none) := by
  unfold remS
  simp
theorem removeAt_AC (n : Nd) (p : List ByteArray) (t : VC) (hn : Shp n) (hp : p.length ≤ 1000) : AC Try.prog 92 [nodeA n, .view t 1 (strsE p)] 0 (fun r => r = optA (remS n p)) := by
  rcases snoc_cases p with rfl | ⟨q, s, rfl⟩
  · refine AC.weak ?_
    unfold nodeA
    rw [nodeL_eq]
    refine AC.of tab_ok mixed_ok Try.func92 (by rfl) (by kernel_rfl) ?_; rintro ⟨P, T, hT, hm, w0, S0, rd0, k0⟩ hP hTT; dsimp only at hP hTT; subst hP hTT; unfold initSt; rw [Try.ntmps92]
    have hw : IntKind.i64.wrap (-1) = -1 := by decide
    (repeat (first | with_reducible refine AW.seq ?_ | ((first | refine arun_kn 4 rfl (fun C hC => ?_) | refine arunD_kn 4 rfl (fun C hC => ?_)); (repeat ((conv => whnf); simp [strsE_len, hw])); refine hC _ ?_; clear hC C; simp only [List.drop, Nat.reduceAdd]) | ((first | refine arun_kn 1 rfl (fun C hC => ?_) | refine arunD_kn 1 rfl (fun C hC => ?_)); (repeat ((conv => whnf); simp [strsE_len, hw])); refine hC _ ?_; clear hC C; simp only [List.drop, Nat.reduceAdd]) | (refine arun_skip ?_ ?_; (focus (simp [awant, strsE_len, hw]; done))) | (refine AW.regionK [] (fun K hK => ?_)) | (refine AW.regionDK [] (pcs [] []) (by kernel_rfl) (by kernel_rfl) (fun K hK => ?_)) | (refine AW.condT ?_ ?_; (focus (simp [aev, strsE_len, hw]; done))) | (refine AW.condF ?_ ?_; (focus (simp [aev, strsE_len, hw]; done))) | with_reducible refine AW.block ?_ | ((first | ((first | refine arun_nil ?_ | refine arunD_nil ?_); refine hK _ ?_; clear hK K) | refine AW.skip ?_ | refine AW.exit ?_ | refine AW.ret ?_); simp only [thenA_exit, inBlockA_exit, if_true, if_false, Nat.reduceEqDiff, thenA_normal, inBlockA_normal, reduceIte, thenA_ret, inBlockA_ret, endQ_ret, endR_ret, endG_ret, endQ_normal, endR_normal, endG_normal])))
    exact ⟨.tup [node0 0 0 ⟨#[]⟩, .bool false], by simp [node0, ares, aresL, upd, rowsOf_cons], none_end.1, _, none_end.2, rfl⟩
  · rw [remS_snoc]
    refine AC.weak ?_
    have hlen : q.length ≤ 999 := by simp at hp; omega
    have hw : IntKind.i64.wrap (q.length : Int) = (q.length : Int) := i64_nat (by omega) (by omega)
    have htk : (strsE q ++ [[AV.str s]]).take q.length = strsE q := by rw [List.take_append_of_le_length (by rw [strsE_len]; exact Nat.le_refl _), List.take_of_length_le (by rw [strsE_len]; exact Nat.le_refl _)]
    have hget : (strsE q ++ [[AV.str s]])[q.length]? = some [AV.str s] := by rw [List.getElem?_append_right (by rw [strsE_len]; exact Nat.le_refl _), strsE_len]; simp
    have hget' : ∀ h, (strsE q ++ [[AV.str s]])[q.length]'h = [AV.str s] := fun h => by rw [List.getElem?_eq_getElem h] at hget; exact Option.some.inj hget
    have hlt : q.length < q.length + 1 := by omega
    have hle : q.length ≤ q.length + 1 := by omega
    have hle' : (q.length : Int) ≤ (q.length : Int) + 1 := by omega
    have hlt' : (q.length : Int) < (q.length : Int) + 1 := by omega
    have hn0 : ¬ (q.length : Int) < 0 := by omega
    have pa := at_AC t.cut n q hn (by omega)
    unfold nodeA at pa ⊢
    rw [nodeL_eq] at pa ⊢
    rw [strs_snoc]
    refine AC.of tab_ok mixed_ok Try.func92 (by rfl) (by kernel_rfl) ?_; rintro ⟨P, T, hT, hm, w0, S0, rd0, k0⟩ hP hTT; dsimp only at hP hTT; subst hP hTT; unfold initSt; rw [Try.ntmps92]
    cases hg : getS n q with
    | none =>
      rw [hg] at pa
      unfold optA nodeA at pa
      rw [show nodeL ((none : Option Nd).getD Nd.zero) = nodeL Nd.zero from rfl, zeroA, Option.isSome_none] at pa
      (repeat (first | with_reducible refine AW.seq ?_ | ((first | refine arun_kn 4 rfl (fun C hC => ?_) | refine arunD_kn 4 rfl (fun C hC => ?_)); (repeat ((conv => whnf); simp [strsE_len, hw, htk, hlt, hle, hle', hlt', hn0])); refine hC _ ?_; clear hC C; simp only [List.drop, Nat.reduceAdd]) | ((first | refine arun_kn 1 rfl (fun C hC => ?_) | refine arunD_kn 1 rfl (fun C hC => ?_)); (repeat ((conv => whnf); simp [strsE_len, hw, htk, hlt, hle, hle', hlt', hn0])); refine hC _ ?_; clear hC C; simp only [List.drop, Nat.reduceAdd]) | (refine arun_skip ?_ ?_; (focus (simp [awant, strsE_len, hw, htk, hlt, hle, hle', hlt', hn0]; done))) | (refine arun_c0 (pa) ?_; rintro _ rfl) | (refine arunD_cE (0) (pa) (by exact ⟨_, rfl, optN_in⟩) ?_; rintro _ rfl; intro _) | (refine AW.regionK [] (fun K hK => ?_)) | (refine AW.regionDK [] (pcs [(4, 0, fun r => r = .tup [.agg [.int .i64 0, .int .i64 0, .str ⟨#[]⟩, .view .loose 1 [], .view .loose 5 []], .bool false])] []) (by kernel_rfl) (by kernel_rfl) (fun K hK => ?_)) | (refine AW.condT ?_ ?_; (focus (simp [aev, strsE_len, hw, htk, hlt, hle, hle', hlt', hn0]; done))) | (refine AW.condF ?_ ?_; (focus (simp [aev, strsE_len, hw, htk, hlt, hle, hle', hlt', hn0]; done))) | with_reducible refine AW.block ?_ | ((first | ((first | refine arun_nil ?_ | refine arunD_nil ?_); refine hK _ ?_; clear hK K) | refine AW.skip ?_ | refine AW.exit ?_ | refine AW.ret ?_); simp only [thenA_exit, inBlockA_exit, if_true, if_false, Nat.reduceEqDiff, thenA_normal, inBlockA_normal, reduceIte, thenA_ret, inBlockA_ret, endQ_ret, endR_ret, endG_ret, endQ_normal, endR_normal, endG_normal])))
      exact ⟨.tup [node0 0 0 ⟨#[]⟩, .bool false], by simp [node0, ares, aresL, upd, rowsOf_cons], none_end.1, _, none_end.2, rfl⟩
    | some m =>
      have hm := getS_shp q n m hn hg
      have pk := place_ok .loose m s hm.plc
      rw [hg] at pa
      unfold optA nodeA at pa
      rw [show nodeL ((some m : Option Nd).getD Nd.zero) = nodeL m from rfl, nodeL_eq m, Option.isSome_some] at pa
      unfold nodeT at pk
      rw [nodeTL_eq] at pk
      rw [Option.bind_some]
      rcases placeI_cases m s with ⟨h1, _⟩ | ⟨k, h1, h2, _⟩
      · rw [h1] at pk ⊢
        rw [if_neg (by omega)]
        (repeat (first | with_reducible refine AW.seq ?_ | ((first | refine arun_kn 4 rfl (fun C hC => ?_) | refine arunD_kn 4 rfl (fun C hC => ?_)); (repeat ((conv => whnf); simp [strsE_len, hw, htk, hget, hget', hlt, hle, hle', hlt', hn0])); refine hC _ ?_; clear hC C; simp only [List.drop, Nat.reduceAdd]) | ((first | refine arun_kn 1 rfl (fun C hC => ?_) | refine arunD_kn 1 rfl (fun C hC => ?_)); (repeat ((conv => whnf); simp [strsE_len, hw, htk, hget, hget', hlt, hle, hle', hlt', hn0])); refine hC _ ?_; clear hC C; simp only [List.drop, Nat.reduceAdd]) | (refine arun_skip ?_ ?_; (focus (simp [awant, strsE_len, hw, htk, hget, hget', hlt, hle, hle', hlt', hn0]; done))) | (refine arun_c0 (pa) ?_; rintro _ rfl) | (refine arun_c0 (pk) ?_; rintro _ rfl) | (refine arunD_cE (0) (pa) (by exact ⟨_, rfl, optS_in m⟩) ?_; rintro _ rfl; intro _) | (refine arunD_c (0) (pk) ?_; rintro _ rfl; intro _) | (refine AW.regionK [] (fun K hK => ?_)) | (refine AW.regionDK [] (pcs [(4, 0, fun r => r = .tup [.agg [.int .i64 m.kind, .int .i64 m.num, .str m.text, .view .loose 1 (strsE m.names), .view .loose 5 (m.kids.map nodeL)], .bool true]), (5, 0, fun r => r = .int .i64 (-1))] []) (by kernel_rfl) (by kernel_rfl) (fun K hK => ?_)) | (refine AW.condT ?_ ?_; (focus (simp [aev, strsE_len, hw, htk, hget, hget', hlt, hle, hle', hlt', hn0]; done))) | (refine AW.condF ?_ ?_; (focus (simp [aev, strsE_len, hw, htk, hget, hget', hlt, hle, hle', hlt', hn0]; done))) | with_reducible refine AW.block ?_ | ((first | ((first | refine arun_nil ?_ | refine arunD_nil ?_); refine hK _ ?_; clear hK K) | refine AW.skip ?_ | refine AW.exit ?_ | refine AW.ret ?_); simp only [thenA_exit, inBlockA_exit, if_true, if_false, Nat.reduceEqDiff, thenA_normal, inBlockA_normal, reduceIte, thenA_ret, inBlockA_ret, endQ_ret, endR_ret, endG_ret, endQ_normal, endR_normal, endG_normal])))
        exact ⟨.tup [node0 0 0 ⟨#[]⟩, .bool false], by simp [node0, ares, aresL, upd, rowsOf_cons], none_end.1, _, none_end.2, rfl⟩
      · rw [h2] at pk ⊢
        rw [if_pos (by omega), Int.toNat_natCast]
        have hk0 : ¬ ((k : Int) < 0) := by omega
        have h6 := hm.kids
        have hwk : IntKind.i64.wrap ((k : Int) + 1) = (k : Int) + 1 := i64_nat (by omega) (by omega)
        have hb0 : k ≤ m.kids.length := by omega
        have hb1 : k + 1 ≤ m.kids.length := by omega
        have hb1' : (k : Int) + 1 ≤ (m.kids.length : Int) := by omega
        have hl1 : ((m.kids.map nodeL).take k).length = k := by rw [List.length_take, List.length_map]; omega
        have hl2 : ((m.kids.map nodeL).drop (k + 1)).length = m.kids.length - (k + 1) := by rw [List.length_drop, List.length_map]
        have htm : (m.kids.map nodeL).take m.kids.length = m.kids.map nodeL := List.take_of_length_le (by rw [List.length_map]; exact Nat.le_refl _)
        have hs1 : k * 80 ≤ 140737488355328 := by omega
        have hs2 : k ≤ 140737488355328 := by omega
        have hs3 : (k + (m.kids.length - (k + 1))) * 80 ≤ 140737488355328 := by omega
        have hs4 : k + (m.kids.length - (k + 1)) ≤ 140737488355328 := by omega
        (repeat (first | with_reducible refine AW.seq ?_ | ((first | refine arun_kn 4 rfl (fun C hC => ?_) | refine arunD_kn 4 rfl (fun C hC => ?_)); (repeat ((conv => whnf); simp [strsE_len, hw, htk, hget, hget', hlt, hle, hle', hlt', hn0, hk0, hwk, hb0, hb1, hb1', hl1, hl2, htm, hs1, hs2, hs3, hs4])); refine hC _ ?_; clear hC C; simp only [List.drop, Nat.reduceAdd]) | ((first | refine arun_kn 1 rfl (fun C hC => ?_) | refine arunD_kn 1 rfl (fun C hC => ?_)); (repeat ((conv => whnf); simp [strsE_len, hw, htk, hget, hget', hlt, hle, hle', hlt', hn0, hk0, hwk, hb0, hb1, hb1', hl1, hl2, htm, hs1, hs2, hs3, hs4])); refine hC _ ?_; clear hC C; simp only [List.drop, Nat.reduceAdd]) | (refine arun_skip ?_ ?_; (focus (simp [awant, strsE_len, hw, htk, hget, hget', hlt, hle, hle', hlt', hn0, hk0, hwk, hb0, hb1, hb1', hl1, hl2, htm, hs1, hs2, hs3, hs4]; done))) | (refine arun_c0 (pa) ?_; rintro _ rfl) | (refine arun_c0 (pk) ?_; rintro _ rfl) | (refine arunD_cE (0) (pa) (by exact ⟨_, rfl, optS_in m⟩) ?_; rintro _ rfl; intro _) | (refine arunD_c (0) (pk) ?_; rintro _ rfl; intro _) | (refine AW.regionK [] (fun K hK => ?_)) | (refine AW.regionDK [] (pcs [(4, 0, fun r => r = .tup [.agg [.int .i64 m.kind, .int .i64 m.num, .str m.text, .view .loose 1 (strsE m.names), .view .loose 5 (m.kids.map nodeL)], .bool true]), (5, 0, fun r => r = .int .i64 (k : Int))] []) (by kernel_rfl) (by kernel_rfl) (fun K hK => ?_)) | (refine AW.condT ?_ ?_; (focus (simp [aev, strsE_len, hw, htk, hget, hget', hlt, hle, hle', hlt', hn0, hk0, hwk, hb0, hb1, hb1', hl1, hl2, htm, hs1, hs2, hs3, hs4]; done))) | (refine AW.condF ?_ ?_; (focus (simp [aev, strsE_len, hw, htk, hget, hget', hlt, hle, hle', hlt', hn0, hk0, hwk, hb0, hb1, hb1', hl1, hl2, htm, hs1, hs2, hs3, hs4]; done))) | with_reducible refine AW.block ?_ | ((first | ((first | refine arun_nil ?_ | refine arunD_nil ?_); refine hK _ ?_; clear hK K) | refine AW.skip ?_ | refine AW.exit ?_ | refine AW.ret ?_); simp only [thenA_exit, inBlockA_exit, if_true, if_false, Nat.reduceEqDiff, thenA_normal, inBlockA_normal, reduceIte, thenA_ret, inBlockA_ret, endQ_ret, endR_ret, endG_ret, endQ_normal, endR_normal, endG_normal])))
        have hkl : (m.kids.map nodeL).take k ++ (m.kids.map nodeL).drop (k + 1) = (delK m k).kids.map nodeL := by simp [delK, List.map_take, List.map_drop]
        have hkn : k + (m.kids.length - (k + 1)) = (delK m k).kids.length := by simp [delK]; omega
        have hmin : min k m.kids.length = k := Nat.min_eq_left hb0
        have hdk : (delK m k).kind = m.kind := rfl
        have hdn : (delK m k).num = 0 := rfl
        have hdt : (delK m k).text = ⟨#[]⟩ := rfl
        have hsml := delK_sml (k := k) hm.sml
        refine AW.hold 43 ?_
        by_cases h4 : m.kind = 4
        · have hnl := (hm.map h4).2
          have hn1 : k ≤ m.names.length := by omega
          have hn2 : k + 1 ≤ m.names.length := by omega
          have hn2' : (k : Int) + 1 ≤ (m.names.length : Int) := by omega
          have hl3 : ((strsE m.names).take k).length = k := by rw [List.length_take, strsE_len]; omega
          have hl4 : ((strsE m.names).drop (k + 1)).length = m.names.length - (k + 1) := by rw [List.length_drop, strsE_len]
          have htn : (strsE m.names).take m.names.length = strsE m.names := List.take_of_length_le (by rw [strsE_len]; exact Nat.le_refl _)
          have hs5 : k * 16 ≤ 140737488355328 := by omega
          have hs6 : (k + (m.names.length - (k + 1))) * 16 ≤ 140737488355328 := by omega
          have hs7 : k + (m.names.length - (k + 1)) ≤ 140737488355328 := by omega
          have hnn : (strsE m.names).take k ++ (strsE m.names).drop (k + 1) = strsE (delK m k).names := by simp [delK, h4, strsE, List.map_take, List.map_drop]
          have hnk : k + (m.names.length - (k + 1)) = (delK m k).names.length := by simp [delK, h4]; omega
          have hminn : min k m.names.length = k := Nat.min_eq_left hn1
          have ps := setAt_AC .loose q n (delK m k) t.cut hn hsml
          refine AW.condT (by simp [aev, ASt.hold, AV.subL, AV.sub, h4]) ?_
          have hclo := nodeT_clo .loose (delK m k)
          unfold nodeA nodeT at ps
          unfold nodeT at hclo
          rw [nodeTL_eq, hdk, hdn, hdt] at hclo
          rw [nodeTL_eq, nodeL_eq, hdk, hdn, hdt, optA_eq] at ps
          (refine AW.regionDK [] (pcs [] []) (by kernel_rfl) (by kernel_rfl) (fun K hK => ?_); (repeat (refine arunD_ks 4 rfl (fun C hC => ?_); (repeat ((conv => whnf); simp [ASt.hold, upd, hmin, AV.subL, AV.sub, rowsOf_cons, Row.sub, strsE_len, hwk, hn1, hn2, hn2', hl3, hl4, htn, hs5, hs2, hs6, hs7])); refine hC _ ?_; clear hC C; simp only [List.drop_succ_cons, List.drop_zero, List.drop_nil, Nat.reduceAdd])); refine arunD_nil ?_; refine hK _ ?_; clear hK K; simp only [thenA_normal, inBlockA_normal, endQ_normal, endR_normal])
          refine AW.hold 59 ?_
          (repeat (first | with_reducible refine AW.seq ?_ | ((first | refine arun_kn 4 rfl (fun C hC => ?_) | refine arunD_kn 4 rfl (fun C hC => ?_)); (repeat ((conv => whnf); simp [ASt.hold, upd, AV.subL, AV.sub, rowsOf_cons, Row.sub, hmin, hminn, hkl, hnn, hkn, hnk, htk, hle, hle', optL])); refine hC _ ?_; clear hC C; simp only [List.drop, Nat.reduceAdd]) | ((first | refine arun_kn 1 rfl (fun C hC => ?_) | refine arunD_kn 1 rfl (fun C hC => ?_)); (repeat ((conv => whnf); simp [ASt.hold, upd, AV.subL, AV.sub, rowsOf_cons, Row.sub, hmin, hminn, hkl, hnn, hkn, hnk, htk, hle, hle', optL])); refine hC _ ?_; clear hC C; simp only [List.drop, Nat.reduceAdd]) | (refine arun_skip ?_ ?_; (focus (simp [awant, ASt.hold, upd, AV.subL, AV.sub, rowsOf_cons, Row.sub, hmin, hminn, hkl, hnn, hkn, hnk, htk, hle, hle', optL]; done))) | (refine arun_c0 (ps) ?_; rintro _ rfl) | (refine arunD_cE (0) (ps) (by exact ⟨_, rfl, optL_in _⟩) ?_; rintro _ rfl; intro _) | (refine AW.regionK [] (fun K hK => ?_)) | (refine AW.regionDK [] (pcs [(9, 0, fun r => r = optL (setS n q (delK m k)))] []) (by kernel_rfl) (by kernel_rfl) (fun K hK => ?_)) | (refine AW.condT ?_ ?_; (focus (simp [aev, ASt.hold, upd, AV.subL, AV.sub, rowsOf_cons, Row.sub, hmin, hminn, hkl, hnn, hkn, hnk, htk, hle, hle', optL]; done))) | (refine AW.condF ?_ ?_; (focus (simp [aev, ASt.hold, upd, AV.subL, AV.sub, rowsOf_cons, Row.sub, hmin, hminn, hkl, hnn, hkn, hnk, htk, hle, hle', optL]; done))) | with_reducible refine AW.block ?_ | ((first | ((first | refine arun_nil ?_ | refine arunD_nil ?_); refine hK _ ?_; clear hK K) | refine AW.skip ?_ | refine AW.exit ?_ | refine AW.ret ?_); simp only [thenA_exit, inBlockA_exit, if_true, if_false, Nat.reduceEqDiff, thenA_normal, inBlockA_normal, reduceIte, thenA_ret, inBlockA_ret, endQ_ret, endR_ret, endG_ret, endQ_normal, endR_normal, endG_normal])))
          exact ⟨optA (setS n q (delK m k)), by rw [optA_eq]; simp [optL, ares, aresL, upd, rowsOf_cons, AV.subL, AV.sub, Row.sub], optA_pur _, _, Wk.refl _, rfl⟩
        · have hnn : strsE (delK m k).names = [] := by simp [delK, h4, strsE]
          have ps := setAt_AC .tight q n (delK m k) t.cut hn hsml
          have hclo := nodeT_clo .tight (delK m k)
          unfold nodeA nodeT at ps
          unfold nodeT at hclo
          rw [nodeTL_eq, hnn, hdk, hdn, hdt] at hclo
          rw [nodeTL_eq, nodeL_eq, hnn, hdk, hdn, hdt, optA_eq] at ps
          (repeat (first | with_reducible refine AW.seq ?_ | ((first | refine arun_kn 4 rfl (fun C hC => ?_) | refine arunD_kn 4 rfl (fun C hC => ?_)); (repeat ((conv => whnf); simp [h4, ASt.hold, upd, AV.subL, AV.sub, rowsOf_cons, Row.sub, hmin, hkl, hkn, htk, hle, hle', optL])); refine hC _ ?_; clear hC C; simp only [List.drop, Nat.reduceAdd]) | ((first | refine arun_kn 1 rfl (fun C hC => ?_) | refine arunD_kn 1 rfl (fun C hC => ?_)); (repeat ((conv => whnf); simp [h4, ASt.hold, upd, AV.subL, AV.sub, rowsOf_cons, Row.sub, hmin, hkl, hkn, htk, hle, hle', optL])); refine hC _ ?_; clear hC C; simp only [List.drop, Nat.reduceAdd]) | (refine arun_skip ?_ ?_; (focus (simp [awant, h4, ASt.hold, upd, AV.subL, AV.sub, rowsOf_cons, Row.sub, hmin, hkl, hkn, htk, hle, hle', optL]; done))) | (refine arun_c0 (ps) ?_; rintro _ rfl) | (refine arunD_cE (0) (ps) (by exact ⟨_, rfl, optL_in _⟩) ?_; rintro _ rfl; intro _) | (refine AW.regionK [] (fun K hK => ?_)) | (refine AW.regionDK [] (pcs [(9, 0, fun r => r = optL (setS n q (delK m k)))] []) (by kernel_rfl) (by kernel_rfl) (fun K hK => ?_)) | (refine AW.condT ?_ ?_; (focus (simp [aev, h4, ASt.hold, upd, AV.subL, AV.sub, rowsOf_cons, Row.sub, hmin, hkl, hkn, htk, hle, hle', optL]; done))) | (refine AW.condF ?_ ?_; (focus (simp [aev, h4, ASt.hold, upd, AV.subL, AV.sub, rowsOf_cons, Row.sub, hmin, hkl, hkn, htk, hle, hle', optL]; done))) | with_reducible refine AW.block ?_ | ((first | ((first | refine arun_nil ?_ | refine arunD_nil ?_); refine hK _ ?_; clear hK K) | refine AW.skip ?_ | refine AW.exit ?_ | refine AW.ret ?_); simp only [thenA_exit, inBlockA_exit, if_true, if_false, Nat.reduceEqDiff, thenA_normal, inBlockA_normal, reduceIte, thenA_ret, inBlockA_ret, endQ_ret, endR_ret, endG_ret, endQ_normal, endR_normal, endG_normal])))
          exact ⟨optA (setS n q (delK m k)), by rw [optA_eq]; simp [optL, ares, aresL, upd, rowsOf_cons, AV.subL, AV.sub, Row.sub], optA_pur _, _, Wk.refl _, rfl⟩
end Go.Proofs.Ytiobnaielfeeaaa.Eng
-- EV: rows skip
namespace Go.Proofs.Ytiobnaielfeeaaa.Eng
open Go Go.RowKit
attribute [local simp] big size_mk ASt.pay Option.map_map Function.comp_def awant aop acall ado aev ofVal ofVal0 ASt.put ASt.add ASt.turn ASt.kill abox aalloc astore aload ASt.at cellsTo afieldAddr afield aindexAddr aindex alen abin aint acmp astr aun apick aextract anil aslice abound abuild afill abuildSlice asCells aps avCells over upd aappend asrc amax amin aconv mkSt slots rowsOf_cons rowsOf_nil usedOf_cons usedOf_nil ZK.av List.replicate ASt.back ASt.addL ASt.killL nodeA nodeT nodeTL_eq nodeL_eq strsE_get strsE_len intsE_get intsE_len strsE_at intsE_at nodeN namesRow nodeO kidsRow tab2 tab3 tab4 tab5 tab6 tab7 tab8 tab9 tab10 tab11 tab12 tab13 tab14 tab15 tab16 tab17 tab18 tab19 tab21 tab22 tab23 tab24 tab25 tab26 tab27 tab28 tab29 tab30 tab48 tab51 tab52 tab59 tab77 tab78 tab79 tab91 tab95 tab96 tab97 tab109 tab116 tab132 tab133 tab138 tab139 tab144 tab145 tab146 tab148 tab149 tab150
def slotA (o : Option (Nat × Bool)) : AV := match o with
  | none => .tup [.int .i64 (-1), .bool false]
  | some x => .tup [.int .i64 (x.1 : Nat), .bool x.2]
theorem slotG_AC (n : Nd) (st : ByteArray) (hn : Slt n) : AC Try.prog 122 [nodeA n, .str st] 0 (fun r => r = slotA (slotS n st)) := by
  have h6 := hn.sml.kids
  have pk := place_ok .loose n st hn.plc
  unfold nodeT at pk
  rw [nodeTL_eq] at pk
  unfold nodeA
  rw [nodeL_eq]
  refine AC.of tab_ok mixed_ok Try.func122 (by rfl) (by kernel_rfl) ?_; rintro ⟨P, T, hT, hm, w0, S0, rd0, k0⟩ hP hTT; dsimp only at hP hTT; subst hP hTT; unfold initSt; rw [Try.ntmps122]
  rcases placeI_cases n st with ⟨h1, _⟩ | ⟨k, h1, h2, _⟩
  · rw [h1] at pk
    by_cases h3 : n.kind = 3
    · have h4 : (n.kind == 4) = false := by rw [h3]; rfl
      have pd := decimal_AC n.kids.length (by have := hn.lst h3; omega)
      cases e1 : eqs st ⟨#[45]⟩
      · cases e2 : eqs st (txt (dig1 n.kids.length))
        · have e : slotS n st = none := by unfold slotS dash; rw [h1, if_neg (by omega), if_neg (by rw [e1, e2]; simp), if_neg (by omega)]
          generalize txt (dig1 n.kids.length) = dd at *
          (repeat (first | with_reducible refine AW.seq ?_ | ((first | refine arun_kn 4 rfl (fun C hC => ?_) | refine arunD_kn 4 rfl (fun C hC => ?_)); (repeat ((conv => whnf); simp [h3, e1, e2])); refine hC _ ?_; clear hC C; simp only [List.drop, Nat.reduceAdd]) | ((first | refine arun_kn 1 rfl (fun C hC => ?_) | refine arunD_kn 1 rfl (fun C hC => ?_)); (repeat ((conv => whnf); simp [h3, e1, e2])); refine hC _ ?_; clear hC C; simp only [List.drop, Nat.reduceAdd]) | (refine arun_skip ?_ ?_; (focus (simp [awant, h3, e1, e2]; done))) | (refine arun_c0 (hx := by (simp [h3, e1, e2] <;> fail)) (pk) ?_; rintro _ rfl) | (refine arun_c0 (pd) ?_; rintro _ rfl) | (refine arunD_skip ?_ ?_; (focus (simp [awant, h3, e1, e2]; done))) | (refine AW.regionK [] (fun K hK => ?_)) | (refine AW.regionDK [] (pcs [] []) (by kernel_rfl) (by kernel_rfl) (fun K hK => ?_)) | (refine AW.condT ?_ ?_; (focus (simp [aev, h3, e1, e2]; done))) | (refine AW.condF ?_ ?_; (focus (simp [aev, h3, e1, e2]; done))) | with_reducible refine AW.block ?_ | ((first | ((first | refine arun_nil ?_ | refine arunD_nil ?_); refine hK _ ?_; clear hK K) | refine AW.skip ?_ | refine AW.exit ?_ | refine AW.ret ?_); simp only [thenA_exit, inBlockA_exit, if_true, if_false, Nat.reduceEqDiff, thenA_normal, inBlockA_normal, reduceIte, thenA_ret, inBlockA_ret, endQ_ret, endR_ret, endG_ret, endQ_normal, endR_normal, endG_normal])))
          refine AW.loopS (fun (i : Nat) => mkSt (slots 0 62 [(1, .str st), (2, .ptr true 5 1 2 0 0), (7, .int .i64 i)]) [(2, ⟨true, 30, 5, [nodeL n]⟩)] [2] (rd0.map fun _ => 0)) (fun i => 0) (fun i => i = 0) 0 ?_ rfl ?_
          · rw [nodeL_eq]
            exact (less_of (by simp [lessL, mkSt, slots, h3, nodeN, namesRow, nodeO, kidsRow]) (by simp [upd, mkSt, rowsOf_cons, h3, nodeN, namesRow, nodeO, kidsRow]) (by simp [upd, mkSt, usedOf_cons, h3, nodeN, namesRow, nodeO, kidsRow]) (by first | exact rd_less (by omega) | simp [mkSt, h3, nodeN, namesRow, nodeO, kidsRow]) (by simp [slots, in_any, in_int, in_bool, in_str, in_ptr, in_own, in_agg, in_vnil, in_rdr, usedOf_cons, usedOf_nil, strs_in, ints_in, nodes_in, in_tup, h3, nodeN, namesRow, nodeO, kidsRow]) (by simp only [List.forall_mem_cons, List.not_mem_nil, false_implies, implies_true, and_true, true_and, h3, nodeN, namesRow, nodeO, kidsRow]; (repeat (first | with_reducible exact trivial | with_reducible refine And.intro ?_ ?_ | with_reducible exact in_int | with_reducible exact in_str | with_reducible exact in_bool | with_reducible exact strs_in _ | with_reducible exact nodes_in _ | with_reducible exact items_in _ | with_reducible exact in_vnil | with_reducible exact in_any | exact hin _ | with_reducible refine take_in ?_ | with_reducible exact strsE_in _ | with_reducible exact nodesE_in _ | with_reducible exact nodeL_in _ | with_reducible exact itemsE_in _ | with_reducible exact itemL_in _ | with_reducible refine app_in ?_ ?_ | with_reducible refine sing_in ?_ | (focus (simp [in_any, in_int, in_bool, in_str, in_ptr, in_own, in_agg, in_vnil, in_rdr, usedOf_cons, usedOf_nil, strs_in, ints_in, nodes_in, h3, nodeN, namesRow, nodeO, kidsRow]; done)))); done))
          · rintro i rfl
            rw [nodeL_eq]
            (repeat (first | with_reducible refine AW.seq ?_ | ((first | refine arun_kn 4 rfl (fun C hC => ?_) | refine arunD_kn 4 rfl (fun C hC => ?_)); (repeat ((conv => whnf); simp [h3])); refine hC _ ?_; clear hC C; simp only [List.drop, Nat.reduceAdd]) | ((first | refine arun_kn 1 rfl (fun C hC => ?_) | refine arunD_kn 1 rfl (fun C hC => ?_)); (repeat ((conv => whnf); simp [h3])); refine hC _ ?_; clear hC C; simp only [List.drop, Nat.reduceAdd]) | (refine arun_skip ?_ ?_; (focus (simp [awant, h3]; done))) | (refine arunD_skip ?_ ?_; (focus (simp [awant, h3]; done))) | (refine AW.regionK [] (fun K hK => ?_)) | (refine AW.regionDK [] (pcs [] []) (by kernel_rfl) (by kernel_rfl) (fun K hK => ?_)) | (refine AW.condT ?_ ?_; (focus (simp [aev, h3]; done))) | (refine AW.condF ?_ ?_; (focus (simp [aev, h3]; done))) | with_reducible refine AW.block ?_ | ((first | ((first | refine arun_nil ?_ | refine arunD_nil ?_); refine hK _ ?_; clear hK K) | refine AW.skip ?_ | refine AW.exit ?_ | refine AW.ret ?_); simp only [thenA_exit, inBlockA_exit, if_true, if_false, Nat.reduceEqDiff, thenA_normal, inBlockA_normal, reduceIte, thenA_ret, inBlockA_ret, endQ_ret, endR_ret, endG_ret, endQ_normal, endR_normal, endG_normal])))
            exact ⟨.tup [.int .i64 (-1), .bool false], by simp [ares, aresL], tup2_pur pur_int pur_bool, by rw [e]; rfl⟩
        · have e : slotS n st = some (n.kids.length, false) := by unfold slotS dash; rw [h1, if_neg (by omega), if_pos ⟨h3, by rw [e2]; simp⟩]
          generalize txt (dig1 n.kids.length) = dd at *
          (repeat (first | with_reducible refine AW.seq ?_ | ((first | refine arun_kn 4 rfl (fun C hC => ?_) | refine arunD_kn 4 rfl (fun C hC => ?_)); (repeat ((conv => whnf); simp [h3, e1, e2])); refine hC _ ?_; clear hC C; simp only [List.drop, Nat.reduceAdd]) | ((first | refine arun_kn 1 rfl (fun C hC => ?_) | refine arunD_kn 1 rfl (fun C hC => ?_)); (repeat ((conv => whnf); simp [h3, e1, e2])); refine hC _ ?_; clear hC C; simp only [List.drop, Nat.reduceAdd]) | (refine arun_skip ?_ ?_; (focus (simp [awant, h3, e1, e2]; done))) | (refine arun_c0 (hx := by (simp [h3, e1, e2] <;> fail)) (pk) ?_; rintro _ rfl) | (refine arun_c0 (pd) ?_; rintro _ rfl) | (refine arunD_skip ?_ ?_; (focus (simp [awant, h3, e1, e2]; done))) | (refine AW.regionK [] (fun K hK => ?_)) | (refine AW.regionDK [] (pcs [] []) (by kernel_rfl) (by kernel_rfl) (fun K hK => ?_)) | (refine AW.condT ?_ ?_; (focus (simp [aev, h3, e1, e2]; done))) | (refine AW.condF ?_ ?_; (focus (simp [aev, h3, e1, e2]; done))) | with_reducible refine AW.block ?_ | ((first | ((first | refine arun_nil ?_ | refine arunD_nil ?_); refine hK _ ?_; clear hK K) | refine AW.skip ?_ | refine AW.exit ?_ | refine AW.ret ?_); simp only [thenA_exit, inBlockA_exit, if_true, if_false, Nat.reduceEqDiff, thenA_normal, inBlockA_normal, reduceIte, thenA_ret, inBlockA_ret, endQ_ret, endR_ret, endG_ret, endQ_normal, endR_normal, endG_normal])))
          exact ⟨.tup [.int .i64 n.kids.length, .bool false], by simp [ares, aresL], tup2_pur pur_int pur_bool, by rw [e]; rfl⟩
      · have e : slotS n st = some (n.kids.length, false) := by unfold slotS dash; rw [h1, if_neg (by omega), if_pos ⟨h3, by rw [e1]; simp⟩]
        (repeat (first | with_reducible refine AW.seq ?_ | ((first | refine arun_kn 4 rfl (fun C hC => ?_) | refine arunD_kn 4 rfl (fun C hC => ?_)); (repeat ((conv => whnf); simp [h3, e1])); refine hC _ ?_; clear hC C; simp only [List.drop, Nat.reduceAdd]) | ((first | refine arun_kn 1 rfl (fun C hC => ?_) | refine arunD_kn 1 rfl (fun C hC => ?_)); (repeat ((conv => whnf); simp [h3, e1])); refine hC _ ?_; clear hC C; simp only [List.drop, Nat.reduceAdd]) | (refine arun_skip ?_ ?_; (focus (simp [awant, h3, e1]; done))) | (refine arun_c0 (hx := by (simp [h3, e1] <;> fail)) (pk) ?_; rintro _ rfl) | (refine arun_c0 (pd) ?_; rintro _ rfl) | (refine arunD_skip ?_ ?_; (focus (simp [awant, h3, e1]; done))) | (refine AW.regionK [] (fun K hK => ?_)) | (refine AW.regionDK [] (pcs [] []) (by kernel_rfl) (by kernel_rfl) (fun K hK => ?_)) | (refine AW.condT ?_ ?_; (focus (simp [aev, h3, e1]; done))) | (refine AW.condF ?_ ?_; (focus (simp [aev, h3, e1]; done))) | with_reducible refine AW.block ?_ | ((first | ((first | refine arun_nil ?_ | refine arunD_nil ?_); refine hK _ ?_; clear hK K) | refine AW.skip ?_ | refine AW.exit ?_ | refine AW.ret ?_); simp only [thenA_exit, inBlockA_exit, if_true, if_false, Nat.reduceEqDiff, thenA_normal, inBlockA_normal, reduceIte, thenA_ret, inBlockA_ret, endQ_ret, endR_ret, endG_ret, endQ_normal, endR_normal, endG_normal])))
        exact ⟨.tup [.int .i64 n.kids.length, .bool false], by simp [ares, aresL], tup2_pur pur_int pur_bool, by rw [e]; rfl⟩
    · have h3' : (n.kind == 3) = false := by simpa using h3
      by_cases h4 : n.kind = 4
      · have hnl := hn.map h4
        have e : slotS n st = some (nmI st n.names, false) := by unfold slotS; rw [h1, if_neg (by omega), if_neg (by simp [h3]), if_pos h4]
        (repeat (first | with_reducible refine AW.seq ?_ | ((first | refine arun_kn 4 rfl (fun C hC => ?_) | refine arunD_kn 4 rfl (fun C hC => ?_)); (repeat ((conv => whnf); simp [h4, h3, h3'])); refine hC _ ?_; clear hC C; simp only [List.drop, Nat.reduceAdd]) | ((first | refine arun_kn 1 rfl (fun C hC => ?_) | refine arunD_kn 1 rfl (fun C hC => ?_)); (repeat ((conv => whnf); simp [h4, h3, h3'])); refine hC _ ?_; clear hC C; simp only [List.drop, Nat.reduceAdd]) | (refine arun_skip ?_ ?_; (focus (simp [awant, h4, h3, h3']; done))) | (refine arun_c0 (hx := by (simp [h4, h3, h3'] <;> fail)) (pk) ?_; rintro _ rfl) | (refine arunD_skip ?_ ?_; (focus (simp [awant, h4, h3, h3']; done))) | (refine AW.regionK [] (fun K hK => ?_)) | (refine AW.regionDK [] (pcs [] []) (by kernel_rfl) (by kernel_rfl) (fun K hK => ?_)) | (refine AW.condT ?_ ?_; (focus (simp [aev, h4, h3, h3']; done))) | (refine AW.condF ?_ ?_; (focus (simp [aev, h4, h3, h3']; done))) | with_reducible refine AW.block ?_ | ((first | ((first | refine arun_nil ?_ | refine arunD_nil ?_); refine hK _ ?_; clear hK K) | refine AW.skip ?_ | refine AW.exit ?_ | refine AW.ret ?_); simp only [thenA_exit, inBlockA_exit, if_true, if_false, Nat.reduceEqDiff, thenA_normal, inBlockA_normal, reduceIte, thenA_ret, inBlockA_ret, endQ_ret, endR_ret, endG_ret, endQ_normal, endR_normal, endG_normal])))
        refine AW.loopS (fun (i : Nat) => mkSt (slots 0 62 [(1, .str st), (2, .ptr true 5 1 2 0 0), (7, .int .i64 i)]) [(2, ⟨true, 30, 5, [nodeL n]⟩)] [2] (rd0.map fun _ => 0)) (fun i => n.kids.length - i) (fun i => i ≤ n.kids.length ∧ nmI st n.names = nmI st (n.names.drop i) + i) 0 ?_ ⟨Nat.zero_le _, rfl⟩ ?_
        · rw [nodeL_eq]
          exact (less_of (by simp [lessL, mkSt, slots, h4, nodeN, namesRow, nodeO, kidsRow]) (by simp [upd, mkSt, rowsOf_cons, h4, nodeN, namesRow, nodeO, kidsRow]) (by simp [upd, mkSt, usedOf_cons, h4, nodeN, namesRow, nodeO, kidsRow]) (by first | exact rd_less (by omega) | simp [mkSt, h4, nodeN, namesRow, nodeO, kidsRow]) (by simp [slots, in_any, in_int, in_bool, in_str, in_ptr, in_own, in_agg, in_vnil, in_rdr, usedOf_cons, usedOf_nil, strs_in, ints_in, nodes_in, in_tup, h4, nodeN, namesRow, nodeO, kidsRow]) (by simp only [List.forall_mem_cons, List.not_mem_nil, false_implies, implies_true, and_true, true_and, h4, nodeN, namesRow, nodeO, kidsRow]; (repeat (first | with_reducible exact trivial | with_reducible refine And.intro ?_ ?_ | with_reducible exact in_int | with_reducible exact in_str | with_reducible exact in_bool | with_reducible exact strs_in _ | with_reducible exact nodes_in _ | with_reducible exact items_in _ | with_reducible exact in_vnil | with_reducible exact in_any | exact hin _ | with_reducible refine take_in ?_ | with_reducible exact strsE_in _ | with_reducible exact nodesE_in _ | with_reducible exact nodeL_in _ | with_reducible exact itemsE_in _ | with_reducible exact itemL_in _ | with_reducible refine app_in ?_ ?_ | with_reducible refine sing_in ?_ | (focus (simp [in_any, in_int, in_bool, in_str, in_ptr, in_own, in_agg, in_vnil, in_rdr, usedOf_cons, usedOf_nil, strs_in, ints_in, nodes_in, h4, nodeN, namesRow, nodeO, kidsRow]; done)))); done))
        · rintro i ⟨hi, hf⟩
          rw [nodeL_eq]
          have hi' : (i : Int) ≤ (n.kids.length : Int) := by omega
          by_cases hlt : i < n.kids.length
          · have hni : i < n.names.length := by omega
            have hw : IntKind.i64.wrap ((i : Int) + 1) = (i : Int) + 1 := i64_nat (by omega) (by omega)
            have hne : ¬ i = n.kids.length := by omega
            have hbi : ((i : Int) == (n.kids.length : Int)) = false := beq_false_of_ne (by omega)
            cases hb : lts st n.names[i]
            · rw [nmI_drop hni hb] at hf
              (repeat (first | with_reducible refine AW.seq ?_ | ((first | refine arun_kn 4 rfl (fun C hC => ?_) | refine arunD_kn 4 rfl (fun C hC => ?_)); (repeat ((conv => whnf); simp [h4, hi', hi, hne, hbi, hni, hb, hw])); refine hC _ ?_; clear hC C; simp only [List.drop, Nat.reduceAdd]) | ((first | refine arun_kn 1 rfl (fun C hC => ?_) | refine arunD_kn 1 rfl (fun C hC => ?_)); (repeat ((conv => whnf); simp [h4, hi', hi, hne, hbi, hni, hb, hw])); refine hC _ ?_; clear hC C; simp only [List.drop, Nat.reduceAdd]) | (refine arun_skip ?_ ?_; (focus (simp [awant, h4, hi', hi, hne, hbi, hni, hb, hw]; done))) | (refine arunD_skip ?_ ?_; (focus (simp [awant, h4, hi', hi, hne, hbi, hni, hb, hw]; done))) | (refine AW.regionK [] (fun K hK => ?_)) | (refine AW.regionDK [] (pcs [] []) (by kernel_rfl) (by kernel_rfl) (fun K hK => ?_)) | (refine AW.condT ?_ ?_; (focus (simp [aev, h4, hi', hi, hne, hbi, hni, hb, hw]; done))) | (refine AW.condF ?_ ?_; (focus (simp [aev, h4, hi', hi, hne, hbi, hni, hb, hw]; done))) | with_reducible refine AW.block ?_ | ((first | ((first | refine arun_nil ?_ | refine arunD_nil ?_); refine hK _ ?_; clear hK K) | refine AW.skip ?_ | refine AW.exit ?_ | refine AW.ret ?_); simp only [thenA_exit, inBlockA_exit, if_true, if_false, Nat.reduceEqDiff, thenA_normal, inBlockA_normal, reduceIte, thenA_ret, inBlockA_ret, endQ_ret, endR_ret, endG_ret, endQ_normal, endR_normal, endG_normal])))
              exact ⟨i + 1, by omega, ⟨by omega, hf⟩, (less_of (by simp [lessL, mkSt, slots, h4, nodeN, namesRow, nodeO, kidsRow]) (by simp [upd, mkSt, rowsOf_cons, h4, nodeN, namesRow, nodeO, kidsRow]) (by simp [upd, mkSt, usedOf_cons, h4, nodeN, namesRow, nodeO, kidsRow]) (by first | exact rd_less (by omega) | simp [mkSt, h4, nodeN, namesRow, nodeO, kidsRow]) (by simp [slots, in_any, in_int, in_bool, in_str, in_ptr, in_own, in_agg, in_vnil, in_rdr, usedOf_cons, usedOf_nil, strs_in, ints_in, nodes_in, in_tup, h4, nodeN, namesRow, nodeO, kidsRow]) (by simp only [List.forall_mem_cons, List.not_mem_nil, false_implies, implies_true, and_true, true_and, h4, nodeN, namesRow, nodeO, kidsRow]; (repeat (first | with_reducible exact trivial | with_reducible refine And.intro ?_ ?_ | with_reducible exact in_int | with_reducible exact in_str | with_reducible exact in_bool | with_reducible exact strs_in _ | with_reducible exact nodes_in _ | with_reducible exact items_in _ | with_reducible exact in_vnil | with_reducible exact in_any | exact hin _ | with_reducible refine take_in ?_ | with_reducible exact strsE_in _ | with_reducible exact nodesE_in _ | with_reducible exact nodeL_in _ | with_reducible exact itemsE_in _ | with_reducible exact itemL_in _ | with_reducible refine app_in ?_ ?_ | with_reducible refine sing_in ?_ | (focus (simp [in_any, in_int, in_bool, in_str, in_ptr, in_own, in_agg, in_vnil, in_rdr, usedOf_cons, usedOf_nil, strs_in, ints_in, nodes_in, h4, nodeN, namesRow, nodeO, kidsRow]; done)))); done))⟩
            · rw [nmI_at hni hb] at hf
              (repeat (first | with_reducible refine AW.seq ?_ | ((first | refine arun_kn 4 rfl (fun C hC => ?_) | refine arunD_kn 4 rfl (fun C hC => ?_)); (repeat ((conv => whnf); simp [h4, hi', hi, hne, hbi, hni, hb, hw])); refine hC _ ?_; clear hC C; simp only [List.drop, Nat.reduceAdd]) | ((first | refine arun_kn 1 rfl (fun C hC => ?_) | refine arunD_kn 1 rfl (fun C hC => ?_)); (repeat ((conv => whnf); simp [h4, hi', hi, hne, hbi, hni, hb, hw])); refine hC _ ?_; clear hC C; simp only [List.drop, Nat.reduceAdd]) | (refine arun_skip ?_ ?_; (focus (simp [awant, h4, hi', hi, hne, hbi, hni, hb, hw]; done))) | (refine arunD_skip ?_ ?_; (focus (simp [awant, h4, hi', hi, hne, hbi, hni, hb, hw]; done))) | (refine AW.regionK [] (fun K hK => ?_)) | (refine AW.regionDK [] (pcs [] []) (by kernel_rfl) (by kernel_rfl) (fun K hK => ?_)) | (refine AW.condT ?_ ?_; (focus (simp [aev, h4, hi', hi, hne, hbi, hni, hb, hw]; done))) | (refine AW.condF ?_ ?_; (focus (simp [aev, h4, hi', hi, hne, hbi, hni, hb, hw]; done))) | with_reducible refine AW.block ?_ | ((first | ((first | refine arun_nil ?_ | refine arunD_nil ?_); refine hK _ ?_; clear hK K) | refine AW.skip ?_ | refine AW.exit ?_ | refine AW.ret ?_); simp only [thenA_exit, inBlockA_exit, if_true, if_false, Nat.reduceEqDiff, thenA_normal, inBlockA_normal, reduceIte, thenA_ret, inBlockA_ret, endQ_ret, endR_ret, endG_ret, endQ_normal, endR_normal, endG_normal])))
              exact ⟨.tup [.int .i64 i, .bool false], by simp [ares, aresL], tup2_pur pur_int pur_bool, by rw [e, hf, Nat.zero_add]; rfl⟩
          · obtain rfl : i = n.kids.length := by omega
            rw [List.drop_eq_nil_of_le (by omega), nmI, Nat.zero_add] at hf
            (repeat (first | with_reducible refine AW.seq ?_ | ((first | refine arun_kn 4 rfl (fun C hC => ?_) | refine arunD_kn 4 rfl (fun C hC => ?_)); (repeat ((conv => whnf); simp [h4])); refine hC _ ?_; clear hC C; simp only [List.drop, Nat.reduceAdd]) | ((first | refine arun_kn 1 rfl (fun C hC => ?_) | refine arunD_kn 1 rfl (fun C hC => ?_)); (repeat ((conv => whnf); simp [h4])); refine hC _ ?_; clear hC C; simp only [List.drop, Nat.reduceAdd]) | (refine arun_skip ?_ ?_; (focus (simp [awant, h4]; done))) | (refine arunD_skip ?_ ?_; (focus (simp [awant, h4]; done))) | (refine AW.regionK [] (fun K hK => ?_)) | (refine AW.regionDK [] (pcs [] []) (by kernel_rfl) (by kernel_rfl) (fun K hK => ?_)) | (refine AW.condT ?_ ?_; (focus (simp [aev, h4]; done))) | (refine AW.condF ?_ ?_; (focus (simp [aev, h4]; done))) | with_reducible refine AW.block ?_ | ((first | ((first | refine arun_nil ?_ | refine arunD_nil ?_); refine hK _ ?_; clear hK K) | refine AW.skip ?_ | refine AW.exit ?_ | refine AW.ret ?_); simp only [thenA_exit, inBlockA_exit, if_true, if_false, Nat.reduceEqDiff, thenA_normal, inBlockA_normal, reduceIte, thenA_ret, inBlockA_ret, endQ_ret, endR_ret, endG_ret, endQ_normal, endR_normal, endG_normal])))
            exact ⟨.tup [.int .i64 n.kids.length, .bool false], by simp [ares, aresL], tup2_pur pur_int pur_bool, by rw [e, hf]; rfl⟩
      · have h4' : (n.kind == 4) = false := by simpa using h4
        have e : slotS n st = none := by unfold slotS; rw [h1, if_neg (by omega), if_neg (by simp [h3]), if_neg h4]
        (repeat (first | with_reducible refine AW.seq ?_ | ((first | refine arun_kn 4 rfl (fun C hC => ?_) | refine arunD_kn 4 rfl (fun C hC => ?_)); (repeat ((conv => whnf); simp [h4', h3'])); refine hC _ ?_; clear hC C; simp only [List.drop, Nat.reduceAdd]) | ((first | refine arun_kn 1 rfl (fun C hC => ?_) | refine arunD_kn 1 rfl (fun C hC => ?_)); (repeat ((conv => whnf); simp [h4', h3'])); refine hC _ ?_; clear hC C; simp only [List.drop, Nat.reduceAdd]) | (refine arun_skip ?_ ?_; (focus (simp [awant, h4', h3']; done))) | (refine arun_c0 (hx := by (simp [h4', h3'] <;> fail)) (pk) ?_; rintro _ rfl) | (refine arunD_skip ?_ ?_; (focus (simp [awant, h4', h3']; done))) | (refine AW.regionK [] (fun K hK => ?_)) | (refine AW.regionDK [] (pcs [] []) (by kernel_rfl) (by kernel_rfl) (fun K hK => ?_)) | (refine AW.condT ?_ ?_; (focus (simp [aev, h4', h3']; done))) | (refine AW.condF ?_ ?_; (focus (simp [aev, h4', h3']; done))) | with_reducible refine AW.block ?_ | ((first | ((first | refine arun_nil ?_ | refine arunD_nil ?_); refine hK _ ?_; clear hK K) | refine AW.skip ?_ | refine AW.exit ?_ | refine AW.ret ?_); simp only [thenA_exit, inBlockA_exit, if_true, if_false, Nat.reduceEqDiff, thenA_normal, inBlockA_normal, reduceIte, thenA_ret, inBlockA_ret, endQ_ret, endR_ret, endG_ret, endQ_normal, endR_normal, endG_normal])))
        refine AW.loopS (fun (i : Nat) => mkSt (slots 0 62 [(1, .str st), (2, .ptr true 5 1 2 0 0), (7, .int .i64 i)]) [(2, ⟨true, 30, 5, [nodeL n]⟩)] [2] (rd0.map fun _ => 0)) (fun i => 0) (fun i => i = 0) 0 ?_ rfl ?_
        · rw [nodeL_eq]
          exact less_a
        · rintro i rfl
          rw [nodeL_eq]
          (repeat (first | with_reducible refine AW.seq ?_ | ((first | refine arun_kn 4 rfl (fun C hC => ?_) | refine arunD_kn 4 rfl (fun C hC => ?_)); (repeat ((conv => whnf); simp [h4'])); refine hC _ ?_; clear hC C; simp only [List.drop, Nat.reduceAdd]) | ((first | refine arun_kn 1 rfl (fun C hC => ?_) | refine arunD_kn 1 rfl (fun C hC => ?_)); (repeat ((conv => whnf); simp [h4'])); refine hC _ ?_; clear hC C; simp only [List.drop, Nat.reduceAdd]) | (refine arun_skip ?_ ?_; (focus (simp [awant, h4']; done))) | (refine arunD_skip ?_ ?_; (focus (simp [awant, h4']; done))) | (refine AW.regionK [] (fun K hK => ?_)) | (refine AW.regionDK [] (pcs [] []) (by kernel_rfl) (by kernel_rfl) (fun K hK => ?_)) | (refine AW.condT ?_ ?_; (focus (simp [aev, h4']; done))) | (refine AW.condF ?_ ?_; (focus (simp [aev, h4']; done))) | with_reducible refine AW.block ?_ | ((first | ((first | refine arun_nil ?_ | refine arunD_nil ?_); refine hK _ ?_; clear hK K) | refine AW.skip ?_ | refine AW.exit ?_ | refine AW.ret ?_); simp only [thenA_exit, inBlockA_exit, if_true, if_false, Nat.reduceEqDiff, thenA_normal, inBlockA_normal, reduceIte, thenA_ret, inBlockA_ret, endQ_ret, endR_ret, endG_ret, endQ_normal, endR_normal, endG_normal])))
          exact ⟨.tup [.int .i64 (-1), .bool false], by simp [ares, aresL], tup2_pur pur_int pur_bool, by rw [e]; rfl⟩
  · rw [h2] at pk
    have hk0 : (0 : Int) ≤ (k : Int) := by omega
    by_cases h4 : n.kind = 4
    · have e : slotS n st = some (k, true) := by unfold slotS; rw [h2, if_pos hk0, Int.toNat_natCast, decide_eq_true h4]
      (repeat (first | with_reducible refine AW.seq ?_ | ((first | refine arun_kn 4 rfl (fun C hC => ?_) | refine arunD_kn 4 rfl (fun C hC => ?_)); (repeat ((conv => whnf); simp [h4, hk0])); refine hC _ ?_; clear hC C; simp only [List.drop, Nat.reduceAdd]) | ((first | refine arun_kn 1 rfl (fun C hC => ?_) | refine arunD_kn 1 rfl (fun C hC => ?_)); (repeat ((conv => whnf); simp [h4, hk0])); refine hC _ ?_; clear hC C; simp only [List.drop, Nat.reduceAdd]) | (refine arun_skip ?_ ?_; (focus (simp [awant, h4, hk0]; done))) | (refine arun_c0 (hx := by (simp [h4, hk0] <;> fail)) (pk) ?_; rintro _ rfl) | (refine arunD_skip ?_ ?_; (focus (simp [awant, h4, hk0]; done))) | (refine AW.regionK [] (fun K hK => ?_)) | (refine AW.regionDK [] (pcs [] []) (by kernel_rfl) (by kernel_rfl) (fun K hK => ?_)) | (refine AW.condT ?_ ?_; (focus (simp [aev, h4, hk0]; done))) | (refine AW.condF ?_ ?_; (focus (simp [aev, h4, hk0]; done))) | with_reducible refine AW.block ?_ | ((first | ((first | refine arun_nil ?_ | refine arunD_nil ?_); refine hK _ ?_; clear hK K) | refine AW.skip ?_ | refine AW.exit ?_ | refine AW.ret ?_); simp only [thenA_exit, inBlockA_exit, if_true, if_false, Nat.reduceEqDiff, thenA_normal, inBlockA_normal, reduceIte, thenA_ret, inBlockA_ret, endQ_ret, endR_ret, endG_ret, endQ_normal, endR_normal, endG_normal])))
      exact ⟨.tup [.int .i64 k, .bool true], by simp [ares, aresL], tup2_pur pur_int pur_bool, by rw [e]; rfl⟩
    · have h4' : (n.kind == 4) = false := by simpa using h4
      have e : slotS n st = some (k, false) := by unfold slotS; rw [h2, if_pos hk0, Int.toNat_natCast, decide_eq_false h4]
      (repeat (first | with_reducible refine AW.seq ?_ | ((first | refine arun_kn 4 rfl (fun C hC => ?_) | refine arunD_kn 4 rfl (fun C hC => ?_)); (repeat ((conv => whnf); simp [h4, h4', hk0])); refine hC _ ?_; clear hC C; simp only [List.drop, Nat.reduceAdd]) | ((first | refine arun_kn 1 rfl (fun C hC => ?_) | refine arunD_kn 1 rfl (fun C hC => ?_)); (repeat ((conv => whnf); simp [h4, h4', hk0])); refine hC _ ?_; clear hC C; simp only [List.drop, Nat.reduceAdd]) | (refine arun_skip ?_ ?_; (focus (simp [awant, h4, h4', hk0]; done))) | (refine arun_c0 (hx := by (simp [h4, h4', hk0] <;> fail)) (pk) ?_; rintro _ rfl) | (refine arunD_skip ?_ ?_; (focus (simp [awant, h4, h4', hk0]; done))) | (refine AW.regionK [] (fun K hK => ?_)) | (refine AW.regionDK [] (pcs [] []) (by kernel_rfl) (by kernel_rfl) (fun K hK => ?_)) | (refine AW.condT ?_ ?_; (focus (simp [aev, h4, h4', hk0]; done))) | (refine AW.condF ?_ ?_; (focus (simp [aev, h4, h4', hk0]; done))) | with_reducible refine AW.block ?_ | ((first | ((first | refine arun_nil ?_ | refine arunD_nil ?_); refine hK _ ?_; clear hK K) | refine AW.skip ?_ | refine AW.exit ?_ | refine AW.ret ?_); simp only [thenA_exit, inBlockA_exit, if_true, if_false, Nat.reduceEqDiff, thenA_normal, inBlockA_normal, reduceIte, thenA_ret, inBlockA_ret, endQ_ret, endR_ret, endG_ret, endQ_normal, endR_normal, endG_normal])))
      exact ⟨.tup [.int .i64 k, .bool false], by simp [ares, aresL], tup2_pur pur_int pur_bool, by rw [e]; rfl⟩
theorem insKid_kids (n v : Nd) (i : Nat) (st : ByteArray) : (insKid n i st v).kids.map nodeL = (n.kids.map nodeL).take i ++ nodeL v :: (n.kids.map nodeL).drop i := by
  simp [insKid, insL, List.map_take, List.map_drop]
theorem insKid_names (n v : Nd) (i : Nat) (st : ByteArray) (h4 : n.kind = 4) : strsE (insKid n i st v).names = (strsE n.names).take i ++ [.str st] :: (strsE n.names).drop i := by
  simp [insKid, insL, h4, strsE, List.map_take, List.map_drop]
theorem insKid_klen {n v : Nd} {i : Nat} {st : ByteArray} (h : i ≤ n.kids.length) : (insKid n i st v).kids.length = i + (n.kids.length - i + 1) := by
  simp [insKid, insL]; omega
theorem ins3_pur (n : Nd) (ks : List Nd) : Pur (.tup [.agg [.int .i64 n.kind, .int .i64 0, .str ⟨#[]⟩, .view .tight 1 [], .view .loose 5 (ks.map nodeL)], .bool true]) := tup2_pur (pur_agg (by
  simp only [List.forall_mem_cons, List.not_mem_nil, false_implies, implies_true, and_true]
  exact ⟨pur_int, pur_int, pur_str, pur_view (by decide) (fun e he => by cases he), nodes_pur _ (by decide)⟩)) pur_bool
theorem ins3_wk {n v : Nd} {i : Nat} {st : ByteArray} (h : (insKid n i st v).names = []) : Wk (.tup [.agg [.int .i64 n.kind, .int .i64 0, .str ⟨#[]⟩, .view .tight 1 [], .view .loose 5 ((insKid n i st v).kids.map nodeL)], .bool true]) (optA (some (insKid n i st v))) := by
  rw [optA_eq]
  unfold optL
  dsimp only [Option.getD_some, Option.isSome_some]
  rw [h]
  exact tup2_wk' (Wk.agg (.cons (Wk.refl _) (.cons (Wk.refl _) (.cons (Wk.refl _) (.cons (Wk.nil (fun h => by cases h)) (.cons (Wk.refl _) .nil)))))) (Wk.refl _)
theorem addHereG_AC (n v : Nd) (st : ByteArray) (hn : Slt n) (hv : Sml v) : AC Try.prog 94 [nodeA n, .str st, nodeA v] 0 (fun r => r = optA (addK n st v)) := by
  have hs1 := hn.sml.names
  have hs2 := hn.sml.kids
  have psl := slotG_AC n st hn
  refine AC.weak ?_
  cases hs : slotS n st with
  | none =>
    have e : addK n st v = none := by unfold addK; rw [hs]; rfl
    rw [hs] at psl
    dsimp only [slotA] at psl
    unfold nodeA at psl ⊢
    rw [nodeL_eq] at psl
    rw [nodeL_eq n, nodeL_eq v]
    refine AC.of tab_ok mixed_ok Try.func94 (by rfl) (by kernel_rfl) ?_; rintro ⟨P, T, hT, hm, w0, S0, rd0, k0⟩ hP hTT; dsimp only at hP hTT; subst hP hTT; unfold initSt; rw [Try.ntmps94]
    (repeat (first | with_reducible refine AW.seq ?_ | ((first | refine arun_kn 4 rfl (fun C hC => ?_) | refine arunD_kn 4 rfl (fun C hC => ?_)); (repeat ((conv => whnf); simp)); refine hC _ ?_; clear hC C; simp only [List.drop, Nat.reduceAdd]) | ((first | refine arun_kn 1 rfl (fun C hC => ?_) | refine arunD_kn 1 rfl (fun C hC => ?_)); (repeat ((conv => whnf); simp)); refine hC _ ?_; clear hC C; simp only [List.drop, Nat.reduceAdd]) | (refine arun_skip ?_ ?_; (focus (simp [awant]; done))) | (refine arun_c0 (psl) ?_; rintro _ rfl) | (refine arunD_skip ?_ ?_; (focus (simp [awant]; done))) | (refine AW.regionK [] (fun K hK => ?_)) | (refine AW.regionDK [] (pcs [] []) (by kernel_rfl) (by kernel_rfl) (fun K hK => ?_)) | (refine AW.condT ?_ ?_; (focus (simp [aev]; done))) | (refine AW.condF ?_ ?_; (focus (simp [aev]; done))) | with_reducible refine AW.block ?_ | ((first | ((first | refine arun_nil ?_ | refine arunD_nil ?_); refine hK _ ?_; clear hK K) | refine AW.skip ?_ | refine AW.exit ?_ | refine AW.ret ?_); simp only [thenA_exit, inBlockA_exit, if_true, if_false, Nat.reduceEqDiff, thenA_normal, inBlockA_normal, reduceIte, thenA_ret, inBlockA_ret, endQ_ret, endR_ret, endG_ret, endQ_normal, endR_normal, endG_normal])))
    exact ⟨.tup [node0 0 0 ⟨#[]⟩, .bool false], by simp [node0, ares, aresL, upd, rowsOf_cons], none_end.1, _, none_end.2, by rw [e]; rfl⟩
  | some x =>
    obtain ⟨i, b⟩ := x
    have hlt := slotS_lt hn hs
    rw [hs] at psl
    dsimp only [slotA] at psl
    have hi0 : ¬ ((i : Int) < 0) := by omega
    cases b
    · obtain ⟨hk, hi⟩ := hlt.2 rfl
      have e : addK n st v = some (insKid n i st v) := by unfold addK; rw [hs]; rfl
      have pc := copyNode_AC n hn.sml .loose
      have pv := copyNode_AC v hv .loose
      unfold nodeT at pc pv
      rw [nodeTL_eq] at pc pv
      unfold nodeA at psl pc pv ⊢
      rw [nodeL_eq] at psl pc pv
      rw [nodeL_eq n, nodeL_eq v]
      have hl1 : ((n.kids.map nodeL).take i).length = i := by rw [List.length_take, List.length_map]; omega
      have hl2 : ((n.kids.map nodeL).drop i).length = n.kids.length - i := by rw [List.length_drop, List.length_map]
      have hb1 : i * 80 ≤ 140737488355328 := by omega
      have hb2 : i ≤ 140737488355328 := by omega
      have hb3 : (i + 1) * 80 ≤ 140737488355328 := by omega
      have hb4 : i + 1 ≤ 140737488355328 := by omega
      have hb5 : (i + 1 + (n.kids.length - i)) * 80 ≤ 140737488355328 := by omega
      have hb6 : i + 1 + (n.kids.length - i) ≤ 140737488355328 := by omega
      have htk1 : (n.kids.map nodeL).take n.kids.length = n.kids.map nodeL := List.take_of_length_le (by rw [List.length_map]; exact Nat.le_refl _)
      have hkl := insKid_kids n v i st
      rw [nodeL_eq v] at hkl
      have hkn := insKid_klen (v := v) (st := st) hi
      have q1 : (insKid n i st v).kind = n.kind := rfl
      have q2 : (insKid n i st v).num = 0 := rfl
      have q3 : (insKid n i st v).text = ⟨#[]⟩ := rfl
      refine AC.of tab_ok mixed_ok Try.func94 (by rfl) (by kernel_rfl) ?_; rintro ⟨P, T, hT, hm, w0, S0, rd0, k0⟩ hP hTT; dsimp only at hP hTT; subst hP hTT; unfold initSt; rw [Try.ntmps94]
      (repeat (first | with_reducible refine AW.seq ?_ | ((first | refine arun_kn 4 rfl (fun C hC => ?_) | refine arunD_kn 4 rfl (fun C hC => ?_)); (repeat ((conv => whnf); simp [hi0, hi, hl1, hl2, hb1, hb2, hb3, hb4, hb5, hb6, htk1])); refine hC _ ?_; clear hC C; simp only [List.drop, Nat.reduceAdd]) | ((first | refine arun_kn 1 rfl (fun C hC => ?_) | refine arunD_kn 1 rfl (fun C hC => ?_)); (repeat ((conv => whnf); simp [hi0, hi, hl1, hl2, hb1, hb2, hb3, hb4, hb5, hb6, htk1])); refine hC _ ?_; clear hC C; simp only [List.drop, Nat.reduceAdd]) | (refine arun_skip ?_ ?_; (focus (simp [awant, hi0, hi, hl1, hl2, hb1, hb2, hb3, hb4, hb5, hb6, htk1]; done))) | (refine arun_c0 (psl) ?_; rintro _ rfl) | (refine arun_c0 (pc) ?_; rintro _ rfl) | (refine arun_c0 (pv) ?_; rintro _ rfl) | (refine arunD_skip ?_ ?_; (focus (simp [awant, hi0, hi, hl1, hl2, hb1, hb2, hb3, hb4, hb5, hb6, htk1]; done))) | (refine arunD_c (0) (psl) ?_; rintro _ rfl; intro _) | (refine arunD_c (0) (pc) ?_; rintro _ rfl; intro _) | (refine arunD_c (0) (pv) ?_; rintro _ rfl; intro _) | (refine AW.regionK [] (fun K hK => ?_)) | (refine AW.regionDK [] (pcs [(7, 0, fun r => r = .agg [.int .i64 v.kind, .int .i64 v.num, .str v.text, .view .loose 1 (strsE v.names), .view .loose 5 (v.kids.map nodeL)])] []) (by kernel_rfl) (by kernel_rfl) (fun K hK => ?_)) | (refine AW.condT ?_ ?_; (focus (simp [aev, hi0, hi, hl1, hl2, hb1, hb2, hb3, hb4, hb5, hb6, htk1]; done))) | (refine AW.condF ?_ ?_; (focus (simp [aev, hi0, hi, hl1, hl2, hb1, hb2, hb3, hb4, hb5, hb6, htk1]; done))) | with_reducible refine AW.block ?_ | ((first | ((first | refine arun_nil ?_ | refine arunD_nil ?_); refine hK _ ?_; clear hK K) | refine AW.skip ?_ | refine AW.exit ?_ | refine AW.ret ?_); simp only [thenA_exit, inBlockA_exit, if_true, if_false, Nat.reduceEqDiff, thenA_normal, inBlockA_normal, reduceIte, thenA_ret, inBlockA_ret, endQ_ret, endR_ret, endG_ret, endQ_normal, endR_normal, endG_normal])))
      refine AW.hold 34 ?_
      rcases hk with h3 | h4
      · have q4 : (insKid n i st v).names = [] := by simp [insKid, h3]
        (repeat (first | with_reducible refine AW.seq ?_ | ((first | refine arun_kn 4 rfl (fun C hC => ?_) | refine arunD_kn 4 rfl (fun C hC => ?_)); (repeat ((conv => whnf); simp [h3, ASt.hold, upd, AV.subL, AV.sub, rowsOf_cons, Row.sub, hl1, hl2])); refine hC _ ?_; clear hC C; simp only [List.drop, Nat.reduceAdd]) | ((first | refine arun_kn 1 rfl (fun C hC => ?_) | refine arunD_kn 1 rfl (fun C hC => ?_)); (repeat ((conv => whnf); simp [h3, ASt.hold, upd, AV.subL, AV.sub, rowsOf_cons, Row.sub, hl1, hl2])); refine hC _ ?_; clear hC C; simp only [List.drop, Nat.reduceAdd]) | (refine arun_skip ?_ ?_; (focus (simp [awant, h3, ASt.hold, upd, AV.subL, AV.sub, rowsOf_cons, Row.sub, hl1, hl2]; done))) | (refine arunD_skip ?_ ?_; (focus (simp [awant, h3, ASt.hold, upd, AV.subL, AV.sub, rowsOf_cons, Row.sub, hl1, hl2]; done))) | (refine AW.regionK [] (fun K hK => ?_)) | (refine AW.regionDK [] (pcs [] []) (by kernel_rfl) (by kernel_rfl) (fun K hK => ?_)) | (refine AW.condT ?_ ?_; (focus (simp [aev, h3, ASt.hold, upd, AV.subL, AV.sub, rowsOf_cons, Row.sub, hl1, hl2]; done))) | (refine AW.condF ?_ ?_; (focus (simp [aev, h3, ASt.hold, upd, AV.subL, AV.sub, rowsOf_cons, Row.sub, hl1, hl2]; done))) | with_reducible refine AW.block ?_ | ((first | ((first | refine arun_nil ?_ | refine arunD_nil ?_); refine hK _ ?_; clear hK K) | refine AW.skip ?_ | refine AW.exit ?_ | refine AW.ret ?_); simp only [thenA_exit, inBlockA_exit, if_true, if_false, Nat.reduceEqDiff, thenA_normal, inBlockA_normal, reduceIte, thenA_ret, inBlockA_ret, endQ_ret, endR_ret, endG_ret, endQ_normal, endR_normal, endG_normal])))
        exact ⟨.tup [.agg [.int .i64 n.kind, .int .i64 0, .str ⟨#[]⟩, .view .tight 1 [], .view .loose 5 ((insKid n i st v).kids.map nodeL)], .bool true], by rw [hkl]; simp [ares, aresL, h3], ins3_pur n _, _, ins3_wk q4, by rw [e]⟩
      · have hl3 : ((strsE n.names).take i).length = i := by rw [List.length_take, strsE_len]; have := hn.map h4; omega
        have hl4 : ((strsE n.names).drop i).length = n.kids.length - i := by rw [List.length_drop, strsE_len]; have := hn.map h4; omega
        have hin : i ≤ n.names.length := by have := hn.map h4; omega
        have hb7 : i * 16 ≤ 140737488355328 := by omega
        have hb8 : (i + 1) * 16 ≤ 140737488355328 := by omega
        have hb9 : (i + 1 + (n.kids.length - i)) * 16 ≤ 140737488355328 := by omega
        have htk2 : (strsE n.names).take n.names.length = strsE n.names := List.take_of_length_le (by rw [strsE_len]; exact Nat.le_refl _)
        have hnn := insKid_names n v i st h4
        have hmin : min i n.kids.length = i := Nat.min_eq_left hi
        refine AW.condF (by simp [aev, ASt.hold, upd, AV.subL, AV.sub, h4]) ?_
        refine AW.skip ?_
        simp only [thenA_normal]
        repeat refine AW.seq ?_
        (refine AW.regionK [] (fun K hK => ?_); (repeat (refine arun_ks 4 rfl (fun C hC => ?_); (repeat ((conv => whnf); simp [hmin, ASt.hold, upd, AV.subL, AV.sub, rowsOf_cons, Row.sub, hin, hl3, strsE_len, hb7, hb8, hb2, hb4])); refine hC _ ?_; clear hC C; simp only [List.drop_succ_cons, List.drop_zero, List.drop_nil])); refine arun_nil ?_; refine hK _ ?_; clear hK K; simp only [thenA_normal, inBlockA_normal, endQ_normal, endR_normal])
        repeat refine AW.seq ?_
        (refine AW.regionK [] (fun K hK => ?_); (repeat (refine arun_ks 4 rfl (fun C hC => ?_); (repeat ((conv => whnf); simp [hmin, ASt.hold, upd, AV.subL, AV.sub, rowsOf_cons, Row.sub, hin, hl3, hl4, strsE_len, hb9, hb6, htk2])); refine hC _ ?_; clear hC C; simp only [List.drop_succ_cons, List.drop_zero, List.drop_nil])); refine arun_nil ?_; refine hK _ ?_; clear hK K; simp only [thenA_normal, inBlockA_normal, endQ_normal, endR_normal])
        refine AW.hold 58 ?_
        (repeat (first | with_reducible refine AW.seq ?_ | ((first | refine arun_kn 4 rfl (fun C hC => ?_) | refine arunD_kn 4 rfl (fun C hC => ?_)); (repeat ((conv => whnf); simp [h4, hmin, ASt.hold, upd, AV.subL, AV.sub, rowsOf_cons, Row.sub, hl1, hl2, hl3, hl4, strsE_len])); refine hC _ ?_; clear hC C; simp only [List.drop, Nat.reduceAdd]) | ((first | refine arun_kn 1 rfl (fun C hC => ?_) | refine arunD_kn 1 rfl (fun C hC => ?_)); (repeat ((conv => whnf); simp [h4, hmin, ASt.hold, upd, AV.subL, AV.sub, rowsOf_cons, Row.sub, hl1, hl2, hl3, hl4, strsE_len])); refine hC _ ?_; clear hC C; simp only [List.drop, Nat.reduceAdd]) | (refine arun_skip ?_ ?_; (focus (simp [awant, h4, hmin, ASt.hold, upd, AV.subL, AV.sub, rowsOf_cons, Row.sub, hl1, hl2, hl3, hl4, strsE_len]; done))) | (refine arunD_skip ?_ ?_; (focus (simp [awant, h4, hmin, ASt.hold, upd, AV.subL, AV.sub, rowsOf_cons, Row.sub, hl1, hl2, hl3, hl4, strsE_len]; done))) | (refine AW.regionK [] (fun K hK => ?_)) | (refine AW.regionDK [] (pcs [] []) (by kernel_rfl) (by kernel_rfl) (fun K hK => ?_)) | (refine AW.condT ?_ ?_; (focus (simp [aev, h4, hmin, ASt.hold, upd, AV.subL, AV.sub, rowsOf_cons, Row.sub, hl1, hl2, hl3, hl4, strsE_len]; done))) | (refine AW.condF ?_ ?_; (focus (simp [aev, h4, hmin, ASt.hold, upd, AV.subL, AV.sub, rowsOf_cons, Row.sub, hl1, hl2, hl3, hl4, strsE_len]; done))) | with_reducible refine AW.block ?_ | ((first | ((first | refine arun_nil ?_ | refine arunD_nil ?_); refine hK _ ?_; clear hK K) | refine AW.skip ?_ | refine AW.exit ?_ | refine AW.ret ?_); simp only [thenA_exit, inBlockA_exit, if_true, if_false, Nat.reduceEqDiff, thenA_normal, inBlockA_normal, reduceIte, thenA_ret, inBlockA_ret, endQ_ret, endR_ret, endG_ret, endQ_normal, endR_normal, endG_normal])))
        exact ⟨optA (some (insKid n i st v)), by rw [optA_eq]; simp [optL, ares, aresL, q1, q2, q3, hkl, hnn, h4], optA_pur _, _, Wk.refl _, by rw [e]⟩
    · obtain ⟨h4, hi⟩ := hlt.1 rfl
      have e : addK n st v = some (setK n i v) := by unfold addK; rw [hs]; rfl
      have pw := withKid_AC n v i hn.sml hv hi
      unfold nodeA at psl pw ⊢
      rw [nodeL_eq] at psl
      rw [nodeL_eq n, nodeL_eq v] at pw
      rw [nodeL_eq n, nodeL_eq v]
      refine AC.of tab_ok mixed_ok Try.func94 (by rfl) (by kernel_rfl) ?_; rintro ⟨P, T, hT, hm, w0, S0, rd0, k0⟩ hP hTT; dsimp only at hP hTT; subst hP hTT; unfold initSt; rw [Try.ntmps94]
      (repeat (first | with_reducible refine AW.seq ?_ | ((first | refine arun_kn 4 rfl (fun C hC => ?_) | refine arunD_kn 4 rfl (fun C hC => ?_)); (repeat ((conv => whnf); simp [hi0])); refine hC _ ?_; clear hC C; simp only [List.drop, Nat.reduceAdd]) | ((first | refine arun_kn 1 rfl (fun C hC => ?_) | refine arunD_kn 1 rfl (fun C hC => ?_)); (repeat ((conv => whnf); simp [hi0])); refine hC _ ?_; clear hC C; simp only [List.drop, Nat.reduceAdd]) | (refine arun_skip ?_ ?_; (focus (simp [awant, hi0]; done))) | (refine arun_c0 (psl) ?_; rintro _ rfl) | (refine arun_c0 (pw) ?_; rintro _ rfl) | (refine arunD_skip ?_ ?_; (focus (simp [awant, hi0]; done))) | (refine AW.regionK [] (fun K hK => ?_)) | (refine AW.regionDK [] (pcs [] []) (by kernel_rfl) (by kernel_rfl) (fun K hK => ?_)) | (refine AW.condT ?_ ?_; (focus (simp [aev, hi0]; done))) | (refine AW.condF ?_ ?_; (focus (simp [aev, hi0]; done))) | with_reducible refine AW.block ?_ | ((first | ((first | refine arun_nil ?_ | refine arunD_nil ?_); refine hK _ ?_; clear hK K) | refine AW.skip ?_ | refine AW.exit ?_ | refine AW.ret ?_); simp only [thenA_exit, inBlockA_exit, if_true, if_false, Nat.reduceEqDiff, thenA_normal, inBlockA_normal, reduceIte, thenA_ret, inBlockA_ret, endQ_ret, endR_ret, endG_ret, endQ_normal, endR_normal, endG_normal])))
      exact ⟨.tup [nodeA (setK n i v), .bool true], by simp [setK, ares, aresL, upd, rowsOf_cons], tup2_pur (node_pur _) pur_bool, _, Wk.refl _, by rw [e]; rfl⟩
end Go.Proofs.Ytiobnaielfeeaaa.Eng
-- EV: rows
namespace Go.Proofs.Ytiobnaielfeeaaa.Eng
open Go Go.RowKit
attribute [local simp] big size_mk ASt.pay Option.map_map Function.comp_def awant aop acall ado aev ofVal ofVal0 ASt.put ASt.add ASt.turn ASt.kill abox aalloc astore aload ASt.at cellsTo afieldAddr afield aindexAddr aindex alen abin aint acmp astr aun apick aextract anil aslice abound abuild afill abuildSlice asCells aps avCells over upd aappend asrc amax amin aconv mkSt slots rowsOf_cons rowsOf_nil usedOf_cons usedOf_nil ZK.av List.replicate ASt.back ASt.addL ASt.killL nodeA nodeT nodeTL_eq nodeL_eq strsE_get strsE_len intsE_get intsE_len strsE_at intsE_at nodeN namesRow nodeO kidsRow tab2 tab3 tab4 tab5 tab6 tab7 tab8 tab9 tab10 tab11 tab12 tab13 tab14 tab15 tab16 tab17 tab18 tab19 tab21 tab22 tab23 tab24 tab25 tab26 tab27 tab28 tab29 tab30 tab48 tab51 tab52 tab59 tab77 tab78 tab79 tab91 tab95 tab96 tab97 tab109 tab116 tab132 tab133 tab138 tab139 tab144 tab145 tab146 tab148 tab149 tab150
theorem addS_snoc (n : Nd) (q : List ByteArray) (s : ByteArray) (v : Nd) : addS n (q ++ [s]) v = (getS n q).bind (fun m => (addK m s v).bind (fun x => setS n q x)) := by
  unfold addS
  simp
theorem opt_none : optL none = .tup [.agg [.int .i64 0, .int .i64 0, .str ⟨#[]⟩, .view .loose 1 [], .view .loose 5 []], .bool false] := rfl
theorem opt_some (m : Nd) : optL (some m) = .tup [.agg [.int .i64 m.kind, .int .i64 m.num, .str m.text, .view .loose 1 (strsE m.names), .view .loose 5 (m.kids.map nodeL)], .bool true] := rfl
theorem addAt_AC (n v : Nd) (p : List ByteArray) (t : VC) (hn : Shp n) (hv : Sml v) (hp : p.length ≤ 1000) : AC Try.prog 103 [nodeA n, .view t 1 (strsE p), nodeA v] 0 (fun r => r = optA (addS n p v)) := by
  rcases snoc_cases p with rfl | ⟨q, s, rfl⟩
  · have p1 := copyNode_AC v hv .loose
    refine AC.weak ?_
    unfold nodeT at p1
    rw [nodeTL_eq] at p1
    unfold nodeA at p1 ⊢
    rw [nodeL_eq] at p1
    rw [nodeL_eq, nodeL_eq]
    refine AC.of tab_ok mixed_ok Try.func103 (by rfl) (by kernel_rfl) ?_; rintro ⟨P, T, hT, hm, w0, S0, rd0, k0⟩ hP hTT; dsimp only at hP hTT; subst hP hTT; unfold initSt; rw [Try.ntmps103]
    (repeat (first | with_reducible refine AW.seq ?_ | ((first | refine arun_kn 4 rfl (fun C hC => ?_) | refine arunD_kn 4 rfl (fun C hC => ?_)); (repeat ((conv => whnf); simp [strsE_len])); refine hC _ ?_; clear hC C; simp only [List.drop, Nat.reduceAdd]) | ((first | refine arun_kn 1 rfl (fun C hC => ?_) | refine arunD_kn 1 rfl (fun C hC => ?_)); (repeat ((conv => whnf); simp [strsE_len])); refine hC _ ?_; clear hC C; simp only [List.drop, Nat.reduceAdd]) | (refine arun_skip ?_ ?_; (focus (simp [awant, strsE_len]; done))) | (refine arun_c0 (p1) ?_; rintro _ rfl) | (refine AW.regionK [] (fun K hK => ?_)) | (refine AW.regionDK [] (pcs [] []) (by kernel_rfl) (by kernel_rfl) (fun K hK => ?_)) | (refine AW.condT ?_ ?_; (focus (simp [aev, strsE_len]; done))) | (refine AW.condF ?_ ?_; (focus (simp [aev, strsE_len]; done))) | with_reducible refine AW.block ?_ | ((first | ((first | refine arun_nil ?_ | refine arunD_nil ?_); refine hK _ ?_; clear hK K) | refine AW.skip ?_ | refine AW.exit ?_ | refine AW.ret ?_); simp only [thenA_exit, inBlockA_exit, if_true, if_false, Nat.reduceEqDiff, thenA_normal, inBlockA_normal, reduceIte, thenA_ret, inBlockA_ret, endQ_ret, endR_ret, endG_ret, endQ_normal, endR_normal, endG_normal])))
    exact ⟨.tup [nodeA v, .bool true], by simp [ares, aresL, upd, rowsOf_cons], tup2_pur (node_pur v) pur_bool, _, Wk.refl _, rfl⟩
  · rw [addS_snoc]
    refine AC.weak ?_
    have hlen : q.length ≤ 999 := by simp at hp; omega
    have hw : IntKind.i64.wrap (q.length : Int) = (q.length : Int) := i64_nat (by omega) (by omega)
    have htk : (strsE q ++ [[AV.str s]]).take q.length = strsE q := by rw [List.take_append_of_le_length (by rw [strsE_len]; exact Nat.le_refl _), List.take_of_length_le (by rw [strsE_len]; exact Nat.le_refl _)]
    have hget : (strsE q ++ [[AV.str s]])[q.length]? = some [AV.str s] := by rw [List.getElem?_append_right (by rw [strsE_len]; exact Nat.le_refl _), strsE_len]; simp
    have hget' : ∀ h, (strsE q ++ [[AV.str s]])[q.length]'h = [AV.str s] := fun h => by rw [List.getElem?_eq_getElem h] at hget; exact Option.some.inj hget
    have hlt : q.length < q.length + 1 := by omega
    have hle : q.length ≤ q.length + 1 := by omega
    have hle' : (q.length : Int) ≤ (q.length : Int) + 1 := by omega
    have hlt' : (q.length : Int) < (q.length : Int) + 1 := by omega
    have hn0 : ¬ (q.length : Int) < 0 := by omega
    have hz0 : ((q.length : Int) + 1 == 0) = false := by simp; omega
    have hz1 : ¬ (q.length : Int) + 1 = 0 := by omega
    have pa := at_AC t.cut n q hn (by omega)
    unfold nodeA at pa ⊢
    rw [nodeL_eq, optA_eq] at pa
    rw [nodeL_eq n, nodeL_eq v]
    rw [strs_snoc]
    refine AC.of tab_ok mixed_ok Try.func103 (by rfl) (by kernel_rfl) ?_; rintro ⟨P, T, hT, hm, w0, S0, rd0, k0⟩ hP hTT; dsimp only at hP hTT; subst hP hTT; unfold initSt; rw [Try.ntmps103]
    cases hg : getS n q with
    | none =>
      rw [hg] at pa
      (repeat (first | with_reducible refine AW.seq ?_ | ((first | refine arun_kn 4 rfl (fun C hC => ?_) | refine arunD_kn 4 rfl (fun C hC => ?_)); (repeat ((conv => whnf); simp [strsE_len, hw, htk, hlt, hle, hle', hlt', hn0, hz0, hz1, opt_none, opt_some])); refine hC _ ?_; clear hC C; simp only [List.drop, Nat.reduceAdd]) | ((first | refine arun_kn 1 rfl (fun C hC => ?_) | refine arunD_kn 1 rfl (fun C hC => ?_)); (repeat ((conv => whnf); simp [strsE_len, hw, htk, hlt, hle, hle', hlt', hn0, hz0, hz1, opt_none, opt_some])); refine hC _ ?_; clear hC C; simp only [List.drop, Nat.reduceAdd]) | (refine arun_skip ?_ ?_; (focus (simp [awant, strsE_len, hw, htk, hlt, hle, hle', hlt', hn0, hz0, hz1, opt_none, opt_some]; done))) | (refine arun_c0 (pa) ?_; rintro _ rfl) | (refine arunD_cE (0) (pa) (by exact ⟨_, rfl, optL_in _⟩) ?_; rintro _ rfl; intro _) | (refine AW.regionK [] (fun K hK => ?_)) | (refine AW.regionDK [] (pcs [(4, 0, fun r => r = optL none)] []) (by kernel_rfl) (by kernel_rfl) (fun K hK => ?_)) | (refine AW.condT ?_ ?_; (focus (simp [aev, strsE_len, hw, htk, hlt, hle, hle', hlt', hn0, hz0, hz1, opt_none, opt_some]; done))) | (refine AW.condF ?_ ?_; (focus (simp [aev, strsE_len, hw, htk, hlt, hle, hle', hlt', hn0, hz0, hz1, opt_none, opt_some]; done))) | with_reducible refine AW.block ?_ | ((first | ((first | refine arun_nil ?_ | refine arunD_nil ?_); refine hK _ ?_; clear hK K) | refine AW.skip ?_ | refine AW.exit ?_ | refine AW.ret ?_); simp only [thenA_exit, inBlockA_exit, if_true, if_false, Nat.reduceEqDiff, thenA_normal, inBlockA_normal, reduceIte, thenA_ret, inBlockA_ret, endQ_ret, endR_ret, endG_ret, endQ_normal, endR_normal, endG_normal])))
      exact ⟨.tup [node0 0 0 ⟨#[]⟩, .bool false], by simp [node0, ares, aresL, upd, rowsOf_cons], none_end.1, _, none_end.2, rfl⟩
    | some m =>
      have hm := getS_shp q n m hn hg
      have ph := addHereG_AC m v s hm.slt hv
      rw [hg] at pa
      rw [Option.bind_some]
      unfold nodeA at ph
      rw [nodeL_eq m, nodeL_eq v, optA_eq] at ph
      cases ha : addK m s v with
      | none =>
        rw [ha] at ph
        (repeat (first | with_reducible refine AW.seq ?_ | ((first | refine arun_kn 4 rfl (fun C hC => ?_) | refine arunD_kn 4 rfl (fun C hC => ?_)); (repeat ((conv => whnf); simp [strsE_len, hw, htk, hget, hget', hlt, hle, hle', hlt', hn0, hz0, hz1, opt_none, opt_some])); refine hC _ ?_; clear hC C; simp only [List.drop, Nat.reduceAdd]) | ((first | refine arun_kn 1 rfl (fun C hC => ?_) | refine arunD_kn 1 rfl (fun C hC => ?_)); (repeat ((conv => whnf); simp [strsE_len, hw, htk, hget, hget', hlt, hle, hle', hlt', hn0, hz0, hz1, opt_none, opt_some])); refine hC _ ?_; clear hC C; simp only [List.drop, Nat.reduceAdd]) | (refine arun_skip ?_ ?_; (focus (simp [awant, strsE_len, hw, htk, hget, hget', hlt, hle, hle', hlt', hn0, hz0, hz1, opt_none, opt_some]; done))) | (refine arun_c0 (pa) ?_; rintro _ rfl) | (refine arun_c0 (ph) ?_; rintro _ rfl) | (refine arunD_cE (0) (pa) (by exact ⟨_, rfl, optL_in _⟩) ?_; rintro _ rfl; intro _) | (refine arunD_cE (0) (ph) (by exact ⟨_, rfl, optL_in _⟩) ?_; rintro _ rfl; intro _) | (refine AW.regionK [] (fun K hK => ?_)) | (refine AW.regionDK [] (pcs [(4, 0, fun r => r = optL (some m)), (6, 0, fun r => r = optL none)] []) (by kernel_rfl) (by kernel_rfl) (fun K hK => ?_)) | (refine AW.condT ?_ ?_; (focus (simp [aev, strsE_len, hw, htk, hget, hget', hlt, hle, hle', hlt', hn0, hz0, hz1, opt_none, opt_some]; done))) | (refine AW.condF ?_ ?_; (focus (simp [aev, strsE_len, hw, htk, hget, hget', hlt, hle, hle', hlt', hn0, hz0, hz1, opt_none, opt_some]; done))) | with_reducible refine AW.block ?_ | ((first | ((first | refine arun_nil ?_ | refine arunD_nil ?_); refine hK _ ?_; clear hK K) | refine AW.skip ?_ | refine AW.exit ?_ | refine AW.ret ?_); simp only [thenA_exit, inBlockA_exit, if_true, if_false, Nat.reduceEqDiff, thenA_normal, inBlockA_normal, reduceIte, thenA_ret, inBlockA_ret, endQ_ret, endR_ret, endG_ret, endQ_normal, endR_normal, endG_normal])))
        exact ⟨.tup [node0 0 0 ⟨#[]⟩, .bool false], by simp [node0, ares, aresL, upd, rowsOf_cons], none_end.1, _, none_end.2, rfl⟩
      | some x =>
        have hx := addK_sml hm hv ha
        have ps := setAt_AC .loose q n x t.cut hn hx
        unfold nodeA nodeT at ps
        rw [nodeTL_eq, nodeL_eq n, optA_eq] at ps
        rw [ha] at ph
        rw [Option.bind_some]
        (repeat (first | with_reducible refine AW.seq ?_ | ((first | refine arun_kn 4 rfl (fun C hC => ?_) | refine arunD_kn 4 rfl (fun C hC => ?_)); (repeat ((conv => whnf); simp [strsE_len, hw, htk, hget, hget', hlt, hle, hle', hlt', hn0, hz0, hz1, opt_none, opt_some])); refine hC _ ?_; clear hC C; simp only [List.drop, Nat.reduceAdd]) | ((first | refine arun_kn 1 rfl (fun C hC => ?_) | refine arunD_kn 1 rfl (fun C hC => ?_)); (repeat ((conv => whnf); simp [strsE_len, hw, htk, hget, hget', hlt, hle, hle', hlt', hn0, hz0, hz1, opt_none, opt_some])); refine hC _ ?_; clear hC C; simp only [List.drop, Nat.reduceAdd]) | (refine arun_skip ?_ ?_; (focus (simp [awant, strsE_len, hw, htk, hget, hget', hlt, hle, hle', hlt', hn0, hz0, hz1, opt_none, opt_some]; done))) | (refine arun_c0 (pa) ?_; rintro _ rfl) | (refine arun_c0 (ph) ?_; rintro _ rfl) | (refine arun_c0 (ps) ?_; rintro _ rfl) | (refine arunD_cE (0) (pa) (by exact ⟨_, rfl, optL_in _⟩) ?_; rintro _ rfl; intro _) | (refine arunD_cE (0) (ph) (by exact ⟨_, rfl, optL_in _⟩) ?_; rintro _ rfl; intro _) | (refine arunD_cE (0) (ps) (by exact ⟨_, rfl, optL_in _⟩) ?_; rintro _ rfl; intro _) | (refine AW.regionK [] (fun K hK => ?_)) | (refine AW.regionDK [] (pcs [(4, 0, fun r => r = optL (some m)), (6, 0, fun r => r = optL (some x)), (5, 0, fun r => r = optL (setS n q x))] []) (by kernel_rfl) (by kernel_rfl) (fun K hK => ?_)) | (refine AW.condT ?_ ?_; (focus (simp [aev, strsE_len, hw, htk, hget, hget', hlt, hle, hle', hlt', hn0, hz0, hz1, opt_none, opt_some]; done))) | (refine AW.condF ?_ ?_; (focus (simp [aev, strsE_len, hw, htk, hget, hget', hlt, hle, hle', hlt', hn0, hz0, hz1, opt_none, opt_some]; done))) | with_reducible refine AW.block ?_ | ((first | ((first | refine arun_nil ?_ | refine arunD_nil ?_); refine hK _ ?_; clear hK K) | refine AW.skip ?_ | refine AW.exit ?_ | refine AW.ret ?_); simp only [thenA_exit, inBlockA_exit, if_true, if_false, Nat.reduceEqDiff, thenA_normal, inBlockA_normal, reduceIte, thenA_ret, inBlockA_ret, endQ_ret, endR_ret, endG_ret, endQ_normal, endR_normal, endG_normal])))
        exact ⟨optA (setS n q x), by rw [optA_eq]; simp [optL, ares, aresL, upd, rowsOf_cons], optA_pur _, _, Wk.refl _, rfl⟩
end Go.Proofs.Ytiobnaielfeeaaa.Eng
-- EV: rows skip
namespace Go.Proofs.Ytiobnaielfeeaaa.Eng
open Go Go.RowKit
attribute [local simp] big size_mk ASt.pay Option.map_map Function.comp_def awant aop acall ado aev ofVal ofVal0 ASt.put ASt.add ASt.turn ASt.kill abox aalloc astore aload ASt.at cellsTo afieldAddr afield aindexAddr aindex alen abin aint acmp astr aun apick aextract anil aslice abound abuild afill abuildSlice asCells aps avCells over upd aappend asrc amax amin aconv mkSt slots rowsOf_cons rowsOf_nil usedOf_cons usedOf_nil ZK.av List.replicate ASt.back ASt.addL ASt.killL nodeA nodeT nodeTL_eq nodeL_eq strsE_get strsE_len intsE_get intsE_len strsE_at intsE_at nodeN namesRow nodeO kidsRow tab2 tab3 tab4 tab5 tab6 tab7 tab8 tab9 tab10 tab11 tab12 tab13 tab14 tab15 tab16 tab17 tab18 tab19 tab21 tab22 tab23 tab24 tab25 tab26 tab27 tab28 tab29 tab30 tab48 tab51 tab52 tab59 tab77 tab78 tab79 tab91 tab95 tab96 tab97 tab109 tab116 tab132 tab133 tab138 tab139 tab144 tab145 tab146 tab148 tab149 tab150
theorem AC.toR {P : Program} {f : FuncId} {args : List AV} {c : Nat} {Q : AV → Prop} (h : AC P f args c Q) : ACR P f args c Q (fun _ _ => False) :=
  ⟨h.1, fun w L S rb k vs h0 h1 h2 h3 => (h.2 w L S rb k vs h0 h1 h2 h3).mono fun _ _ ⟨v, r, S', k1, k2, k3, k4, k5, k6, k7⟩ => ⟨v, S', k1, k2, k3, k4, k5, .inl ⟨r, k6, k7⟩⟩⟩
theorem someNodeA_AC : AC Try.prog 69 [.rdr] (nC 3 + 10 + 4 * nC 2) rNodeA := by
  refine (AC.ofR someNode_ACR ?_).mono ?_
  · rintro r R ⟨n, _, rfl, rfl⟩
    rw [nodeN_sub]; exact node_in n
  · rintro r (h | ⟨f, R, ⟨n, h1, rfl, rfl⟩, rfl⟩)
    · exact h.elim
    · rw [nodeN_sub]; exact ⟨n, h1.1, rfl⟩
theorem rNodeA_ex : ∃ r, rNodeA r ∧ NoId r := ⟨_, ⟨_, sml_leaf 0 0 ⟨#[]⟩, rfl⟩, node_in _⟩
def tupL (m : Nd) (b : Bool) : AV := .tup [.agg [.int .i64 m.kind, .int .i64 m.num, .str m.text, .view .loose 1 (strsE m.names), .view .loose 5 (m.kids.map nodeL)], .bool b]
def rOpt (r : AV) : Prop := ∃ m b, Sml m ∧ r = tupL m b
theorem rOpt_ex : ∃ r, rOpt r ∧ NoId r := ⟨_, ⟨Nd.zero, false, sml_leaf 0 0 ⟨#[]⟩, rfl⟩, optL_in none⟩
theorem rOpt_of {f : FuncId} {args : List AV} {o : Option Nd} (h : AC Try.prog f args 0 (fun r => r = optA o)) (hs : ∀ m, o = some m → Sml m) : AC Try.prog f args 0 rOpt := h.mono (fun r hr => by
  rw [optA_eq] at hr
  cases o with
  | none => exact ⟨Nd.zero, false, sml_leaf 0 0 ⟨#[]⟩, hr⟩
  | some m => exact ⟨m, true, hs m rfl, hr⟩)
def rStr (r : AV) : Prop := ∃ x : ByteArray, r = .str x
theorem rStr_ex : ∃ r, rStr r ∧ NoId r := ⟨_, ⟨⟨#[]⟩, rfl⟩, in_str⟩
def wC : Nat := 3 + (nC 3 + 10 + 4 * nC 2) + nC 2
theorem snoc_clo (p : List ByteArray) (x : ByteArray) : ∀ e ∈ strsE p ++ [[AV.str x]], ∀ c ∈ e, Clo c := by
  rw [← strs_snoc]; exact strsE_clo _
theorem near_AC (n : Nd) (hv : validB n = true) : AC Try.prog 78 [.rdr, nodeA n] wC rNodeA := by
  have hn := Shp.of hv
  obtain ⟨hw, hd, hc⟩ := valid_way hv
  have pall := all_AC n hw (by omega) (by omega)
  have hlen := allS_len n
  have hpos : 0 < (allS n).length := by rw [hlen, Nd.count_eq]; omega
  have hsh := allS_short n
  have hclo : Clo (.view .loose 1 (pathsE (allS n))) := paths_clo (allS n)
  have hcnt : (allS n).length ≤ 1000 := by omega
  have hS := someNodeA_AC
  have hR : AC Try.prog 96 [.rdr, .int .i64 2] (nC 2) rNodeA := randomNode_AC 2 (by omega)
  have hof : AC Try.prog 104 [.rdr, .view .tight 1 [[.str ⟨#[97]⟩], [.str ⟨#[48]⟩], [.str ⟨#[45]⟩], [.str ⟨#[122]⟩]]] 1 rStr := (of_AC .tight [⟨#[97]⟩, ⟨#[48]⟩, ⟨#[45]⟩, ⟨#[122]⟩] (by simp) (by simp)).mono (fun r ⟨x, _, hx⟩ => ⟨x, hx⟩)
  have hwC : wC = 3 + (nC 3 + 10 + 4 * nC 2) + nC 2 := rfl
  generalize wC = W at *
  generalize nC 3 + 10 + 4 * nC 2 = A at *
  generalize nC 2 = B at *
  subst hwC
  generalize allS n = P at *
  have hpos' : (0 : Int) < (P.length : Int) := by omega
  unfold nodeA at pall ⊢
  rw [nodeL_eq] at pall ⊢
  refine AC.of tab_ok mixed_ok Try.func78 (by rfl) (by kernel_rfl) ?_; rintro ⟨P, T, hT, hm, w0, S0, rd0, k0⟩ hP hTT; dsimp only at hP hTT; subst hP hTT; unfold initSt; rw [Try.ntmps78]
  (repeat (first | with_reducible refine AW.seq ?_ | ((first | refine arun_kn 4 rfl (fun C hC => ?_) | refine arunD_kn 4 rfl (fun C hC => ?_)); (repeat ((conv => whnf); simp [pathsE_len, hpos, hpos'])); refine hC _ ?_; clear hC C; simp only [List.drop, Nat.reduceAdd]) | ((first | refine arun_kn 1 rfl (fun C hC => ?_) | refine arunD_kn 1 rfl (fun C hC => ?_)); (repeat ((conv => whnf); simp [pathsE_len, hpos, hpos'])); refine hC _ ?_; clear hC C; simp only [List.drop, Nat.reduceAdd]) | (refine arun_skip ?_ ?_; (focus (simp [awant, pathsE_len, hpos, hpos']; done))) | (refine arun_c0 (pall) ?_; rintro _ rfl) | (refine arun_c (1) (pick_AC P.length (by omega) (by omega)) ?_; (rintro _ ⟨u, rfl, hu⟩; obtain ⟨u0, u1⟩ := hu.1 (by omega); obtain ⟨k, rfl⟩ := Int.eq_ofNat_of_zero_le u0)) | (refine arunD_skip ?_ ?_; (focus (simp [awant, pathsE_len, hpos, hpos']; done))) | (refine AW.regionK [] (fun K hK => ?_)) | (refine AW.regionDK [] (pcs [] []) (by kernel_rfl) (by kernel_rfl) (fun K hK => ?_)) | (refine AW.condT ?_ ?_; (focus (simp [aev, pathsE_len, hpos, hpos']; done))) | (refine AW.condF ?_ ?_; (focus (simp [aev, pathsE_len, hpos, hpos']; done))) | with_reducible refine AW.block ?_ | ((first | ((first | refine arun_nil ?_ | refine arunD_nil ?_); refine hK _ ?_; clear hK K) | refine AW.skip ?_ | refine AW.exit ?_ | refine AW.ret ?_); simp only [thenA_exit, inBlockA_exit, if_true, if_false, Nat.reduceEqDiff, thenA_normal, inBlockA_normal, reduceIte, thenA_ret, inBlockA_ret, endQ_ret, endR_ret, endG_ret, endQ_normal, endR_normal, endG_normal])))
  have hk : k < P.length := by omega
  have hpl := hsh _ (List.getElem_mem hk)
  (repeat (first | with_reducible refine AW.seq ?_ | ((first | refine arun_kn 4 rfl (fun C hC => ?_) | refine arunD_kn 4 rfl (fun C hC => ?_)); (repeat ((conv => whnf); simp [pathsE_len, hk, pathsE_get, pathsE_at])); refine hC _ ?_; clear hC C; simp only [List.drop, Nat.reduceAdd]) | ((first | refine arun_kn 1 rfl (fun C hC => ?_) | refine arunD_kn 1 rfl (fun C hC => ?_)); (repeat ((conv => whnf); simp [pathsE_len, hk, pathsE_get, pathsE_at])); refine hC _ ?_; clear hC C; simp only [List.drop, Nat.reduceAdd]) | (refine arun_skip ?_ ?_; (focus (simp [awant, pathsE_len, hk, pathsE_get, pathsE_at]; done))) | (refine arun_c0 (copyNode_AC n hn.sml .loose) ?_; rintro _ rfl) | (refine arun_c (1) (pick_AC 5 (by omega) (by omega)) ?_; (rintro _ ⟨v, rfl, -⟩)) | (refine arunD_skip ?_ ?_; (focus (simp [awant, pathsE_len, hk, pathsE_get, pathsE_at]; done))) | (refine AW.regionK [] (fun K hK => ?_)) | (refine AW.regionDK [] (pcs [] []) (by kernel_rfl) (by kernel_rfl) (fun K hK => ?_)) | (refine AW.condT ?_ ?_; (focus (simp [aev, pathsE_len, hk, pathsE_get, pathsE_at]; done))) | (refine AW.condF ?_ ?_; (focus (simp [aev, pathsE_len, hk, pathsE_get, pathsE_at]; done))) | with_reducible refine AW.block ?_ | ((first | ((first | refine arun_nil ?_ | refine arunD_nil ?_); refine hK _ ?_; clear hK K) | refine AW.skip ?_ | refine AW.exit ?_ | refine AW.ret ?_); simp only [thenA_exit, inBlockA_exit, if_true, if_false, Nat.reduceEqDiff, thenA_normal, inBlockA_normal, reduceIte, thenA_ret, inBlockA_ret, endQ_ret, endR_ret, endG_ret, endQ_normal, endR_normal, endG_normal])))
  generalize P[k] = p at *
  have h4 : v = 0 ∨ v = 1 ∨ v = 2 ∨ v = 3 ∨ ((v == 0) = false ∧ (v == 1) = false ∧ (v == 2) = false ∧ (v == 3) = false) := by
    by_cases h0 : v = 0; · simp [h0]
    by_cases h1 : v = 1; · simp [h1]
    by_cases h2 : v = 2; · simp [h2]
    by_cases h3 : v = 3; · simp [h3]
    simp [h0, h1, h2, h3]
  rcases h4 with rfl | rfl | rfl | rfl | ⟨e0, e1, e2, e3⟩
  · have pr := rOpt_of (removeAt_AC n p .loose hn (by omega)) (fun m h => remS_sml hn h)
    unfold nodeA at pr
    rw [nodeL_eq] at pr
    (repeat (first | with_reducible refine AW.seq ?_ | ((first | refine arun_kn 4 rfl (fun C hC => ?_) | refine arunD_kn 4 rfl (fun C hC => ?_)); (repeat ((conv => whnf); simp [tupL])); refine hC _ ?_; clear hC C; simp only [List.drop, Nat.reduceAdd]) | ((first | refine arun_kn 1 rfl (fun C hC => ?_) | refine arunD_kn 1 rfl (fun C hC => ?_)); (repeat ((conv => whnf); simp [tupL])); refine hC _ ?_; clear hC C; simp only [List.drop, Nat.reduceAdd]) | (refine arun_skip ?_ ?_; (focus (simp [awant, tupL]; done))) | (refine arun_c0 (pr) ?_; (rintro _ ⟨m, b, hm, rfl⟩)) | (refine arunD_skip ?_ ?_; (focus (simp [awant, tupL]; done))) | (refine AW.regionK [] (fun K hK => ?_)) | (refine AW.regionDK [] (pcs [] []) (by kernel_rfl) (by kernel_rfl) (fun K hK => ?_)) | (refine AW.condT ?_ ?_; (focus (simp [aev, tupL]; done))) | (refine AW.condF ?_ ?_; (focus (simp [aev, tupL]; done))) | with_reducible refine AW.block ?_ | ((first | ((first | refine arun_nil ?_ | refine arunD_nil ?_); refine hK _ ?_; clear hK K) | refine AW.skip ?_ | refine AW.exit ?_ | refine AW.ret ?_); simp only [thenA_exit, inBlockA_exit, if_true, if_false, Nat.reduceEqDiff, thenA_normal, inBlockA_normal, reduceIte, thenA_ret, inBlockA_ret, endQ_ret, endR_ret, endG_ret, endQ_normal, endR_normal, endG_normal])))
    have e9 : Sml n := hn.sml
    cases b
    · (repeat (first | with_reducible refine AW.seq ?_ | ((first | refine arun_kn 4 rfl (fun C hC => ?_) | refine arunD_kn 4 rfl (fun C hC => ?_)); (repeat ((conv => whnf); simp [tupL])); refine hC _ ?_; clear hC C; simp only [List.drop, Nat.reduceAdd]) | ((first | refine arun_kn 1 rfl (fun C hC => ?_) | refine arunD_kn 1 rfl (fun C hC => ?_)); (repeat ((conv => whnf); simp [tupL])); refine hC _ ?_; clear hC C; simp only [List.drop, Nat.reduceAdd]) | (refine arun_skip ?_ ?_; (focus (simp [awant, tupL]; done))) | (refine arun_c0 (copyNode_AC n e9 .loose) ?_; rintro _ rfl) | (refine arunD_skip ?_ ?_; (focus (simp [awant, tupL]; done))) | (refine AW.regionK [] (fun K hK => ?_)) | (refine AW.regionDK [] (pcs [] []) (by kernel_rfl) (by kernel_rfl) (fun K hK => ?_)) | (refine AW.condT ?_ ?_; (focus (simp [aev, tupL]; done))) | (refine AW.condF ?_ ?_; (focus (simp [aev, tupL]; done))) | with_reducible refine AW.block ?_ | ((first | ((first | refine arun_nil ?_ | refine arunD_nil ?_); refine hK _ ?_; clear hK K) | refine AW.skip ?_ | refine AW.exit ?_ | refine AW.ret ?_); simp only [thenA_exit, inBlockA_exit, if_true, if_false, Nat.reduceEqDiff, thenA_normal, inBlockA_normal, reduceIte, thenA_ret, inBlockA_ret, endQ_ret, endR_ret, endG_ret, endQ_normal, endR_normal, endG_normal])))
      exact ⟨nodeA n, by simp [ares, aresL], node_pur n, n, e9, rfl⟩
    · have pv := validNode_AC m .loose
      cases hb : validB m
      · rw [hb] at pv
        (repeat (first | with_reducible refine AW.seq ?_ | ((first | refine arun_kn 4 rfl (fun C hC => ?_) | refine arunD_kn 4 rfl (fun C hC => ?_)); (repeat ((conv => whnf); simp [tupL])); refine hC _ ?_; clear hC C; simp only [List.drop, Nat.reduceAdd]) | ((first | refine arun_kn 1 rfl (fun C hC => ?_) | refine arunD_kn 1 rfl (fun C hC => ?_)); (repeat ((conv => whnf); simp [tupL])); refine hC _ ?_; clear hC C; simp only [List.drop, Nat.reduceAdd]) | (refine arun_skip ?_ ?_; (focus (simp [awant, tupL]; done))) | (refine arun_c0 (pv) ?_; rintro _ rfl) | (refine arun_c0 (copyNode_AC n e9 .loose) ?_; rintro _ rfl) | (refine arunD_skip ?_ ?_; (focus (simp [awant, tupL]; done))) | (refine AW.regionK [] (fun K hK => ?_)) | (refine AW.regionDK [] (pcs [] []) (by kernel_rfl) (by kernel_rfl) (fun K hK => ?_)) | (refine AW.condT ?_ ?_; (focus (simp [aev, tupL]; done))) | (refine AW.condF ?_ ?_; (focus (simp [aev, tupL]; done))) | with_reducible refine AW.block ?_ | ((first | ((first | refine arun_nil ?_ | refine arunD_nil ?_); refine hK _ ?_; clear hK K) | refine AW.skip ?_ | refine AW.exit ?_ | refine AW.ret ?_); simp only [thenA_exit, inBlockA_exit, if_true, if_false, Nat.reduceEqDiff, thenA_normal, inBlockA_normal, reduceIte, thenA_ret, inBlockA_ret, endQ_ret, endR_ret, endG_ret, endQ_normal, endR_normal, endG_normal])))
        exact ⟨nodeA n, by simp [ares, aresL], node_pur n, n, e9, rfl⟩
      · rw [hb] at pv
        (repeat (first | with_reducible refine AW.seq ?_ | ((first | refine arun_kn 4 rfl (fun C hC => ?_) | refine arunD_kn 4 rfl (fun C hC => ?_)); (repeat ((conv => whnf); simp [tupL])); refine hC _ ?_; clear hC C; simp only [List.drop, Nat.reduceAdd]) | ((first | refine arun_kn 1 rfl (fun C hC => ?_) | refine arunD_kn 1 rfl (fun C hC => ?_)); (repeat ((conv => whnf); simp [tupL])); refine hC _ ?_; clear hC C; simp only [List.drop, Nat.reduceAdd]) | (refine arun_skip ?_ ?_; (focus (simp [awant, tupL]; done))) | (refine arun_c0 (pv) ?_; rintro _ rfl) | (refine arunD_skip ?_ ?_; (focus (simp [awant, tupL]; done))) | (refine AW.regionK [] (fun K hK => ?_)) | (refine AW.regionDK [] (pcs [] []) (by kernel_rfl) (by kernel_rfl) (fun K hK => ?_)) | (refine AW.condT ?_ ?_; (focus (simp [aev, tupL]; done))) | (refine AW.condF ?_ ?_; (focus (simp [aev, tupL]; done))) | with_reducible refine AW.block ?_ | ((first | ((first | refine arun_nil ?_ | refine arunD_nil ?_); refine hK _ ?_; clear hK K) | refine AW.skip ?_ | refine AW.exit ?_ | refine AW.ret ?_); simp only [thenA_exit, inBlockA_exit, if_true, if_false, Nat.reduceEqDiff, thenA_normal, inBlockA_normal, reduceIte, thenA_ret, inBlockA_ret, endQ_ret, endR_ret, endG_ret, endQ_normal, endR_normal, endG_normal])))
        exact ⟨nodeA m, by simp [ares, aresL], node_pur m, m, hm, rfl⟩
  · have pa : ∀ x y, Sml y → AC Try.prog 103 [nodeA n, .view .lent 1 (strsE (p ++ [x])), nodeA y] 0 rOpt := fun x y hy => rOpt_of (addAt_AC n y (p ++ [x]) .lent hn hy (by simp; omega)) (fun m h => addS_sml hn hy h)
    unfold nodeA at pa
    rw [nodeL_eq] at pa
    simp only [strs_snoc] at pa
    have hb1 : p.length * 16 ≤ 140737488355328 := by omega
    have hb2 : p.length ≤ 140737488355328 := by omega
    have hb3 : (p.length + 1) * 16 ≤ 140737488355328 := by omega
    have hb4 : p.length + 1 ≤ 140737488355328 := by omega
    (repeat (first | with_reducible refine AW.seq ?_ | ((first | refine arun_kn 4 rfl (fun C hC => ?_) | refine arunD_kn 4 rfl (fun C hC => ?_)); (repeat ((conv => whnf); simp [tupL, strsE_len, hb1, hb2, hb3, hb4])); refine hC _ ?_; clear hC C; simp only [List.drop, Nat.reduceAdd]) | ((first | refine arun_kn 1 rfl (fun C hC => ?_) | refine arunD_kn 1 rfl (fun C hC => ?_)); (repeat ((conv => whnf); simp [tupL, strsE_len, hb1, hb2, hb3, hb4])); refine hC _ ?_; clear hC C; simp only [List.drop, Nat.reduceAdd]) | (refine arun_skip ?_ ?_; (focus (simp [awant, tupL, strsE_len, hb1, hb2, hb3, hb4]; done))) | (refine arun_c (1) (hof) ?_; (rintro _ ⟨x, rfl⟩; have hcx := snoc_clo p x)) | (refine arun_c (B) (hR) ?_; (rintro _ ⟨y, hy, rfl⟩)) | (refine arunD_skip ?_ ?_; (focus (simp [awant, tupL, strsE_len, hb1, hb2, hb3, hb4]; done))) | (refine arunD_cE (1) (hof) (by exact rStr_ex) ?_; (rintro _ ⟨x, rfl⟩; have hcx := snoc_clo p x); intro _) | (refine arunD_cE (B) (hR) (by exact rNodeA_ex) ?_; (rintro _ ⟨y, hy, rfl⟩); intro _) | (refine arunD_sE (0) ((pa x y hy).toR) (by exact rOpt_ex) ?_ ?_; (rintro _ ⟨m, b, hm, rfl⟩ -)) | (refine AW.regionK [] (fun K hK => ?_)) | (refine AW.regionDK [] (pcs [(6, 1, rStr), (10, B, rNodeA)] [11]) (by kernel_rfl) (by kernel_rfl) (fun K hK => ?_)) | (refine AW.condT ?_ ?_; (focus (simp [aev, tupL, strsE_len, hb1, hb2, hb3, hb4]; done))) | (refine AW.condF ?_ ?_; (focus (simp [aev, tupL, strsE_len, hb1, hb2, hb3, hb4]; done))) | with_reducible refine AW.block ?_ | ((first | ((first | refine arun_nil ?_ | refine arunD_nil ?_); refine hK _ ?_; clear hK K) | refine AW.skip ?_ | refine AW.exit ?_ | refine AW.ret ?_); simp only [thenA_exit, inBlockA_exit, if_true, if_false, Nat.reduceEqDiff, thenA_normal, inBlockA_normal, reduceIte, thenA_ret, inBlockA_ret, endQ_ret, endR_ret, endG_ret, endQ_normal, endR_normal, endG_normal])))
    · skip
      have e9 : Sml n := hn.sml
      cases b
      · (repeat (first | with_reducible refine AW.seq ?_ | ((first | refine arun_kn 4 rfl (fun C hC => ?_) | refine arunD_kn 4 rfl (fun C hC => ?_)); (repeat ((conv => whnf); simp [tupL])); refine hC _ ?_; clear hC C; simp only [List.drop, Nat.reduceAdd]) | ((first | refine arun_kn 1 rfl (fun C hC => ?_) | refine arunD_kn 1 rfl (fun C hC => ?_)); (repeat ((conv => whnf); simp [tupL])); refine hC _ ?_; clear hC C; simp only [List.drop, Nat.reduceAdd]) | (refine arun_skip ?_ ?_; (focus (simp [awant, tupL]; done))) | (refine arun_c0 (copyNode_AC n e9 .loose) ?_; rintro _ rfl) | (refine arunD_skip ?_ ?_; (focus (simp [awant, tupL]; done))) | (refine AW.regionK [] (fun K hK => ?_)) | (refine AW.regionDK [] (pcs [] []) (by kernel_rfl) (by kernel_rfl) (fun K hK => ?_)) | (refine AW.condT ?_ ?_; (focus (simp [aev, tupL]; done))) | (refine AW.condF ?_ ?_; (focus (simp [aev, tupL]; done))) | with_reducible refine AW.block ?_ | ((first | ((first | refine arun_nil ?_ | refine arunD_nil ?_); refine hK _ ?_; clear hK K) | refine AW.skip ?_ | refine AW.exit ?_ | refine AW.ret ?_); simp only [thenA_exit, inBlockA_exit, if_true, if_false, Nat.reduceEqDiff, thenA_normal, inBlockA_normal, reduceIte, thenA_ret, inBlockA_ret, endQ_ret, endR_ret, endG_ret, endQ_normal, endR_normal, endG_normal])))
        exact ⟨nodeA n, by simp [ares, aresL], node_pur n, n, e9, rfl⟩
      · have pv := validNode_AC m .loose
        cases hb : validB m
        · rw [hb] at pv
          (repeat (first | with_reducible refine AW.seq ?_ | ((first | refine arun_kn 4 rfl (fun C hC => ?_) | refine arunD_kn 4 rfl (fun C hC => ?_)); (repeat ((conv => whnf); simp [tupL])); refine hC _ ?_; clear hC C; simp only [List.drop, Nat.reduceAdd]) | ((first | refine arun_kn 1 rfl (fun C hC => ?_) | refine arunD_kn 1 rfl (fun C hC => ?_)); (repeat ((conv => whnf); simp [tupL])); refine hC _ ?_; clear hC C; simp only [List.drop, Nat.reduceAdd]) | (refine arun_skip ?_ ?_; (focus (simp [awant, tupL]; done))) | (refine arun_c0 (pv) ?_; rintro _ rfl) | (refine arun_c0 (copyNode_AC n e9 .loose) ?_; rintro _ rfl) | (refine arunD_skip ?_ ?_; (focus (simp [awant, tupL]; done))) | (refine AW.regionK [] (fun K hK => ?_)) | (refine AW.regionDK [] (pcs [] []) (by kernel_rfl) (by kernel_rfl) (fun K hK => ?_)) | (refine AW.condT ?_ ?_; (focus (simp [aev, tupL]; done))) | (refine AW.condF ?_ ?_; (focus (simp [aev, tupL]; done))) | with_reducible refine AW.block ?_ | ((first | ((first | refine arun_nil ?_ | refine arunD_nil ?_); refine hK _ ?_; clear hK K) | refine AW.skip ?_ | refine AW.exit ?_ | refine AW.ret ?_); simp only [thenA_exit, inBlockA_exit, if_true, if_false, Nat.reduceEqDiff, thenA_normal, inBlockA_normal, reduceIte, thenA_ret, inBlockA_ret, endQ_ret, endR_ret, endG_ret, endQ_normal, endR_normal, endG_normal])))
          exact ⟨nodeA n, by simp [ares, aresL], node_pur n, n, e9, rfl⟩
        · rw [hb] at pv
          (repeat (first | with_reducible refine AW.seq ?_ | ((first | refine arun_kn 4 rfl (fun C hC => ?_) | refine arunD_kn 4 rfl (fun C hC => ?_)); (repeat ((conv => whnf); simp [tupL])); refine hC _ ?_; clear hC C; simp only [List.drop, Nat.reduceAdd]) | ((first | refine arun_kn 1 rfl (fun C hC => ?_) | refine arunD_kn 1 rfl (fun C hC => ?_)); (repeat ((conv => whnf); simp [tupL])); refine hC _ ?_; clear hC C; simp only [List.drop, Nat.reduceAdd]) | (refine arun_skip ?_ ?_; (focus (simp [awant, tupL]; done))) | (refine arun_c0 (pv) ?_; rintro _ rfl) | (refine arunD_skip ?_ ?_; (focus (simp [awant, tupL]; done))) | (refine AW.regionK [] (fun K hK => ?_)) | (refine AW.regionDK [] (pcs [] []) (by kernel_rfl) (by kernel_rfl) (fun K hK => ?_)) | (refine AW.condT ?_ ?_; (focus (simp [aev, tupL]; done))) | (refine AW.condF ?_ ?_; (focus (simp [aev, tupL]; done))) | with_reducible refine AW.block ?_ | ((first | ((first | refine arun_nil ?_ | refine arunD_nil ?_); refine hK _ ?_; clear hK K) | refine AW.skip ?_ | refine AW.exit ?_ | refine AW.ret ?_); simp only [thenA_exit, inBlockA_exit, if_true, if_false, Nat.reduceEqDiff, thenA_normal, inBlockA_normal, reduceIte, thenA_ret, inBlockA_ret, endQ_ret, endR_ret, endG_ret, endQ_normal, endR_normal, endG_normal])))
          exact ⟨nodeA m, by simp [ares, aresL], node_pur m, m, hm, rfl⟩
    · rintro _ _ h; exact h.elim
  · have ps : ∀ y, Sml y → AC Try.prog 105 [nodeA n, .view .loose 1 (strsE p), nodeT .loose y] 0 rOpt := fun y hy => rOpt_of (setAt_AC .loose p n y .loose hn hy) (fun m h => setS_sml p n y m hn hy h)
    unfold nodeA at ps
    rw [nodeL_eq] at ps
    (repeat (first | with_reducible refine AW.seq ?_ | ((first | refine arun_kn 4 rfl (fun C hC => ?_) | refine arunD_kn 4 rfl (fun C hC => ?_)); (repeat ((conv => whnf); simp [tupL])); refine hC _ ?_; clear hC C; simp only [List.drop, Nat.reduceAdd]) | ((first | refine arun_kn 1 rfl (fun C hC => ?_) | refine arunD_kn 1 rfl (fun C hC => ?_)); (repeat ((conv => whnf); simp [tupL])); refine hC _ ?_; clear hC C; simp only [List.drop, Nat.reduceAdd]) | (refine arun_skip ?_ ?_; (focus (simp [awant, tupL]; done))) | (refine arun_c (B) (hR) ?_; (rintro _ ⟨y, hy, rfl⟩)) | (refine arun_c0 (ps y hy) ?_; (rintro _ ⟨m, b, hm, rfl⟩)) | (refine arunD_skip ?_ ?_; (focus (simp [awant, tupL]; done))) | (refine arunD_cE (B) (hR) (by exact rNodeA_ex) ?_; (rintro _ ⟨y, hy, rfl⟩); intro _) | (refine arunD_cE (0) (ps y hy) (by exact rOpt_ex) ?_; (rintro _ ⟨m, b, hm, rfl⟩); intro _) | (refine AW.regionK [] (fun K hK => ?_)) | (refine AW.regionDK [] (pcs [(3, B, rNodeA), (4, 0, rOpt)] []) (by kernel_rfl) (by kernel_rfl) (fun K hK => ?_)) | (refine AW.condT ?_ ?_; (focus (simp [aev, tupL]; done))) | (refine AW.condF ?_ ?_; (focus (simp [aev, tupL]; done))) | with_reducible refine AW.block ?_ | ((first | ((first | refine arun_nil ?_ | refine arunD_nil ?_); refine hK _ ?_; clear hK K) | refine AW.skip ?_ | refine AW.exit ?_ | refine AW.ret ?_); simp only [thenA_exit, inBlockA_exit, if_true, if_false, Nat.reduceEqDiff, thenA_normal, inBlockA_normal, reduceIte, thenA_ret, inBlockA_ret, endQ_ret, endR_ret, endG_ret, endQ_normal, endR_normal, endG_normal])))
    have e9 : Sml n := hn.sml
    cases b
    · (repeat (first | with_reducible refine AW.seq ?_ | ((first | refine arun_kn 4 rfl (fun C hC => ?_) | refine arunD_kn 4 rfl (fun C hC => ?_)); (repeat ((conv => whnf); simp [tupL])); refine hC _ ?_; clear hC C; simp only [List.drop, Nat.reduceAdd]) | ((first | refine arun_kn 1 rfl (fun C hC => ?_) | refine arunD_kn 1 rfl (fun C hC => ?_)); (repeat ((conv => whnf); simp [tupL])); refine hC _ ?_; clear hC C; simp only [List.drop, Nat.reduceAdd]) | (refine arun_skip ?_ ?_; (focus (simp [awant, tupL]; done))) | (refine arun_c0 (copyNode_AC n e9 .loose) ?_; rintro _ rfl) | (refine arunD_skip ?_ ?_; (focus (simp [awant, tupL]; done))) | (refine AW.regionK [] (fun K hK => ?_)) | (refine AW.regionDK [] (pcs [] []) (by kernel_rfl) (by kernel_rfl) (fun K hK => ?_)) | (refine AW.condT ?_ ?_; (focus (simp [aev, tupL]; done))) | (refine AW.condF ?_ ?_; (focus (simp [aev, tupL]; done))) | with_reducible refine AW.block ?_ | ((first | ((first | refine arun_nil ?_ | refine arunD_nil ?_); refine hK _ ?_; clear hK K) | refine AW.skip ?_ | refine AW.exit ?_ | refine AW.ret ?_); simp only [thenA_exit, inBlockA_exit, if_true, if_false, Nat.reduceEqDiff, thenA_normal, inBlockA_normal, reduceIte, thenA_ret, inBlockA_ret, endQ_ret, endR_ret, endG_ret, endQ_normal, endR_normal, endG_normal])))
      exact ⟨nodeA n, by simp [ares, aresL], node_pur n, n, e9, rfl⟩
    · have pv := validNode_AC m .loose
      cases hb : validB m
      · rw [hb] at pv
        (repeat (first | with_reducible refine AW.seq ?_ | ((first | refine arun_kn 4 rfl (fun C hC => ?_) | refine arunD_kn 4 rfl (fun C hC => ?_)); (repeat ((conv => whnf); simp [tupL])); refine hC _ ?_; clear hC C; simp only [List.drop, Nat.reduceAdd]) | ((first | refine arun_kn 1 rfl (fun C hC => ?_) | refine arunD_kn 1 rfl (fun C hC => ?_)); (repeat ((conv => whnf); simp [tupL])); refine hC _ ?_; clear hC C; simp only [List.drop, Nat.reduceAdd]) | (refine arun_skip ?_ ?_; (focus (simp [awant, tupL]; done))) | (refine arun_c0 (pv) ?_; rintro _ rfl) | (refine arun_c0 (copyNode_AC n e9 .loose) ?_; rintro _ rfl) | (refine arunD_skip ?_ ?_; (focus (simp [awant, tupL]; done))) | (refine AW.regionK [] (fun K hK => ?_)) | (refine AW.regionDK [] (pcs [] []) (by kernel_rfl) (by kernel_rfl) (fun K hK => ?_)) | (refine AW.condT ?_ ?_; (focus (simp [aev, tupL]; done))) | (refine AW.condF ?_ ?_; (focus (simp [aev, tupL]; done))) | with_reducible refine AW.block ?_ | ((first | ((first | refine arun_nil ?_ | refine arunD_nil ?_); refine hK _ ?_; clear hK K) | refine AW.skip ?_ | refine AW.exit ?_ | refine AW.ret ?_); simp only [thenA_exit, inBlockA_exit, if_true, if_false, Nat.reduceEqDiff, thenA_normal, inBlockA_normal, reduceIte, thenA_ret, inBlockA_ret, endQ_ret, endR_ret, endG_ret, endQ_normal, endR_normal, endG_normal])))
        exact ⟨nodeA n, by simp [ares, aresL], node_pur n, n, e9, rfl⟩
      · rw [hb] at pv
        (repeat (first | with_reducible refine AW.seq ?_ | ((first | refine arun_kn 4 rfl (fun C hC => ?_) | refine arunD_kn 4 rfl (fun C hC => ?_)); (repeat ((conv => whnf); simp [tupL])); refine hC _ ?_; clear hC C; simp only [List.drop, Nat.reduceAdd]) | ((first | refine arun_kn 1 rfl (fun C hC => ?_) | refine arunD_kn 1 rfl (fun C hC => ?_)); (repeat ((conv => whnf); simp [tupL])); refine hC _ ?_; clear hC C; simp only [List.drop, Nat.reduceAdd]) | (refine arun_skip ?_ ?_; (focus (simp [awant, tupL]; done))) | (refine arun_c0 (pv) ?_; rintro _ rfl) | (refine arunD_skip ?_ ?_; (focus (simp [awant, tupL]; done))) | (refine AW.regionK [] (fun K hK => ?_)) | (refine AW.regionDK [] (pcs [] []) (by kernel_rfl) (by kernel_rfl) (fun K hK => ?_)) | (refine AW.condT ?_ ?_; (focus (simp [aev, tupL]; done))) | (refine AW.condF ?_ ?_; (focus (simp [aev, tupL]; done))) | with_reducible refine AW.block ?_ | ((first | ((first | refine arun_nil ?_ | refine arunD_nil ?_); refine hK _ ?_; clear hK K) | refine AW.skip ?_ | refine AW.exit ?_ | refine AW.ret ?_); simp only [thenA_exit, inBlockA_exit, if_true, if_false, Nat.reduceEqDiff, thenA_normal, inBlockA_normal, reduceIte, thenA_ret, inBlockA_ret, endQ_ret, endR_ret, endG_ret, endQ_normal, endR_normal, endG_normal])))
        exact ⟨nodeA m, by simp [ares, aresL], node_pur m, m, hm, rfl⟩
  · (repeat (first | with_reducible refine AW.seq ?_ | ((first | refine arun_kn 4 rfl (fun C hC => ?_) | refine arunD_kn 4 rfl (fun C hC => ?_)); (repeat ((conv => whnf); simp)); refine hC _ ?_; clear hC C; simp only [List.drop, Nat.reduceAdd]) | ((first | refine arun_kn 1 rfl (fun C hC => ?_) | refine arunD_kn 1 rfl (fun C hC => ?_)); (repeat ((conv => whnf); simp)); refine hC _ ?_; clear hC C; simp only [List.drop, Nat.reduceAdd]) | (refine arun_skip ?_ ?_; (focus (simp [awant]; done))) | (refine arun_c (A) (hS) ?_; (rintro _ ⟨m, hm, rfl⟩)) | (refine arunD_skip ?_ ?_; (focus (simp [awant]; done))) | (refine AW.regionK [] (fun K hK => ?_)) | (refine AW.regionDK [] (pcs [] []) (by kernel_rfl) (by kernel_rfl) (fun K hK => ?_)) | (refine AW.condT ?_ ?_; (focus (simp [aev]; done))) | (refine AW.condF ?_ ?_; (focus (simp [aev]; done))) | with_reducible refine AW.block ?_ | ((first | ((first | refine arun_nil ?_ | refine arunD_nil ?_); refine hK _ ?_; clear hK K) | refine AW.skip ?_ | refine AW.exit ?_ | refine AW.ret ?_); simp only [thenA_exit, inBlockA_exit, if_true, if_false, Nat.reduceEqDiff, thenA_normal, inBlockA_normal, reduceIte, thenA_ret, inBlockA_ret, endQ_ret, endR_ret, endG_ret, endQ_normal, endR_normal, endG_normal])))
    exact ⟨nodeA m, by simp [ares, aresL], node_pur m, m, hm, rfl⟩
  · have pv := validNode_AC n .loose
    rw [hv] at pv
    (repeat (first | with_reducible refine AW.seq ?_ | ((first | refine arun_kn 4 rfl (fun C hC => ?_) | refine arunD_kn 4 rfl (fun C hC => ?_)); (repeat ((conv => whnf); simp [e0, e1, e2, e3])); refine hC _ ?_; clear hC C; simp only [List.drop, Nat.reduceAdd]) | ((first | refine arun_kn 1 rfl (fun C hC => ?_) | refine arunD_kn 1 rfl (fun C hC => ?_)); (repeat ((conv => whnf); simp [e0, e1, e2, e3])); refine hC _ ?_; clear hC C; simp only [List.drop, Nat.reduceAdd]) | (refine arun_skip ?_ ?_; (focus (simp [awant, e0, e1, e2, e3]; done))) | (refine arun_c0 (pv) ?_; rintro _ rfl) | (refine arunD_skip ?_ ?_; (focus (simp [awant, e0, e1, e2, e3]; done))) | (refine AW.regionK [] (fun K hK => ?_)) | (refine AW.regionDK [] (pcs [] []) (by kernel_rfl) (by kernel_rfl) (fun K hK => ?_)) | (refine AW.condT ?_ ?_; (focus (simp [aev, e0, e1, e2, e3]; done))) | (refine AW.condF ?_ ?_; (focus (simp [aev, e0, e1, e2, e3]; done))) | with_reducible refine AW.block ?_ | ((first | ((first | refine arun_nil ?_ | refine arunD_nil ?_); refine hK _ ?_; clear hK K) | refine AW.skip ?_ | refine AW.exit ?_ | refine AW.ret ?_); simp only [thenA_exit, inBlockA_exit, if_true, if_false, Nat.reduceEqDiff, thenA_normal, inBlockA_normal, reduceIte, thenA_ret, inBlockA_ret, endQ_ret, endR_ret, endG_ret, endQ_normal, endR_normal, endG_normal])))
    exact ⟨nodeA n, by simp [ares, aresL], node_pur n, n, hn.sml, rfl⟩
end Go.Proofs.Ytiobnaielfeeaaa.Eng
-- EV: rows skip
namespace Go.Proofs.Ytiobnaielfeeaaa.Eng
open Go Go.RowKit
attribute [local simp] big size_mk ASt.pay Option.map_map Function.comp_def awant aop acall ado aev ofVal ofVal0 ASt.put ASt.add ASt.turn ASt.kill abox aalloc astore aload ASt.at cellsTo afieldAddr afield aindexAddr aindex alen abin aint acmp astr aun apick aextract anil aslice abound abuild afill abuildSlice asCells aps avCells over upd aappend asrc amax amin aconv mkSt slots rowsOf_cons rowsOf_nil usedOf_cons usedOf_nil ZK.av List.replicate ASt.back ASt.addL ASt.killL nodeA nodeT nodeTL_eq nodeL_eq strsE_get strsE_len intsE_get intsE_len strsE_at intsE_at nodeN namesRow nodeO kidsRow tab2 tab3 tab4 tab5 tab6 tab7 tab8 tab9 tab10 tab11 tab12 tab13 tab14 tab15 tab16 tab17 tab18 tab19 tab21 tab22 tab23 tab24 tab25 tab26 tab27 tab28 tab29 tab30 tab48 tab51 tab52 tab59 tab77 tab78 tab79 tab91 tab95 tab96 tab97 tab109 tab116 tab132 tab133 tab138 tab139 tab144 tab145 tab146 tab148 tab149 tab150
def rPair (r : AV) : Prop := ∃ a b : Nd, Sml a ∧ Sml b ∧ r = .tup [nodeA a, nodeA b]
def pC : Nat := cN + 1 + wC + cN
theorem anyPair_AC : AC Try.prog 47 [.rdr] pC rPair := by
  have hN : AC Try.prog 51 [.rdr] cN rNodeA := anyNode_AC
  have hR := near_AC
  have hpC : pC = cN + 1 + wC + cN := rfl
  generalize pC = D at *
  generalize cN = M at *
  generalize wC = W at *
  subst hpC
  refine AC.of tab_ok mixed_ok Try.func47 (by rfl) (by kernel_rfl) ?_; rintro ⟨P, T, hT, hm, w0, S0, rd0, k0⟩ hP hTT; dsimp only at hP hTT; subst hP hTT; unfold initSt; rw [Try.ntmps47]
  (repeat (first | with_reducible refine AW.seq ?_ | ((first | refine arun_kn 4 rfl (fun C hC => ?_) | refine arunD_kn 4 rfl (fun C hC => ?_)); (repeat ((conv => whnf); simp)); refine hC _ ?_; clear hC C; simp only [List.drop, Nat.reduceAdd]) | ((first | refine arun_kn 1 rfl (fun C hC => ?_) | refine arunD_kn 1 rfl (fun C hC => ?_)); (repeat ((conv => whnf); simp)); refine hC _ ?_; clear hC C; simp only [List.drop, Nat.reduceAdd]) | (refine arun_skip ?_ ?_; (focus (simp [awant]; done))) | (refine arun_c (M) (hN) ?_; (rintro _ ⟨a, ha, rfl⟩)) | (refine arunD_skip ?_ ?_; (focus (simp [awant]; done))) | (refine AW.regionK [] (fun K hK => ?_)) | (refine AW.regionDK [] (pcs [] []) (by kernel_rfl) (by kernel_rfl) (fun K hK => ?_)) | (refine AW.condT ?_ ?_; (focus (simp [aev]; done))) | (refine AW.condF ?_ ?_; (focus (simp [aev]; done))) | with_reducible refine AW.block ?_ | ((first | ((first | refine arun_nil ?_ | refine arunD_nil ?_); refine hK _ ?_; clear hK K) | refine AW.skip ?_ | refine AW.exit ?_ | refine AW.ret ?_); simp only [thenA_exit, inBlockA_exit, if_true, if_false, Nat.reduceEqDiff, thenA_normal, inBlockA_normal, reduceIte, thenA_ret, inBlockA_ret, endQ_ret, endR_ret, endG_ret, endQ_normal, endR_normal, endG_normal])))
  have pv := validNode_AC a .loose
  cases hb : validB a
  · rw [hb] at pv
    (repeat (first | with_reducible refine AW.seq ?_ | ((first | refine arun_kn 4 rfl (fun C hC => ?_) | refine arunD_kn 4 rfl (fun C hC => ?_)); (repeat ((conv => whnf); simp)); refine hC _ ?_; clear hC C; simp only [List.drop, Nat.reduceAdd]) | ((first | refine arun_kn 1 rfl (fun C hC => ?_) | refine arunD_kn 1 rfl (fun C hC => ?_)); (repeat ((conv => whnf); simp)); refine hC _ ?_; clear hC C; simp only [List.drop, Nat.reduceAdd]) | (refine arun_skip ?_ ?_; (focus (simp [awant]; done))) | (refine arun_c0 (pv) ?_; rintro _ rfl) | (refine arun_c (M) (hN) ?_; (rintro _ ⟨b, hb, rfl⟩)) | (refine arunD_skip ?_ ?_; (focus (simp [awant]; done))) | (refine arunD_c (0) (pv) ?_; rintro _ rfl; intro _) | (refine arunD_cE (M) (hN) (by exact rNodeA_ex) ?_; (rintro _ ⟨b, hb, rfl⟩); intro _) | (refine AW.regionK [] (fun K hK => ?_)) | (refine AW.regionDK [] (pcs [(2, M, rNodeA)] []) (by kernel_rfl) (by kernel_rfl) (fun K hK => ?_)) | (refine AW.condT ?_ ?_; (focus (simp [aev]; done))) | (refine AW.condF ?_ ?_; (focus (simp [aev]; done))) | with_reducible refine AW.block ?_ | ((first | ((first | refine arun_nil ?_ | refine arunD_nil ?_); refine hK _ ?_; clear hK K) | refine AW.skip ?_ | refine AW.exit ?_ | refine AW.ret ?_); simp only [thenA_exit, inBlockA_exit, if_true, if_false, Nat.reduceEqDiff, thenA_normal, inBlockA_normal, reduceIte, thenA_ret, inBlockA_ret, endQ_ret, endR_ret, endG_ret, endQ_normal, endR_normal, endG_normal])))
    exact ⟨.tup [nodeA a, nodeA b], by simp [ares, aresL, upd, rowsOf_cons], tup2_pur (node_pur a) (node_pur b), a, b, ha, hb, rfl⟩
  · rw [hb] at pv
    have hRa := hR a hb
    unfold nodeA at hRa
    rw [nodeL_eq] at hRa
    (repeat (first | with_reducible refine AW.seq ?_ | ((first | refine arun_kn 4 rfl (fun C hC => ?_) | refine arunD_kn 4 rfl (fun C hC => ?_)); (repeat ((conv => whnf); simp)); refine hC _ ?_; clear hC C; simp only [List.drop, Nat.reduceAdd]) | ((first | refine arun_kn 1 rfl (fun C hC => ?_) | refine arunD_kn 1 rfl (fun C hC => ?_)); (repeat ((conv => whnf); simp)); refine hC _ ?_; clear hC C; simp only [List.drop, Nat.reduceAdd]) | (refine arun_skip ?_ ?_; (focus (simp [awant]; done))) | (refine arun_c0 (pv) ?_; rintro _ rfl) | (refine arun_c (1) (pick_AC 3 (by omega) (by omega)) ?_; (rintro _ ⟨u, rfl, -⟩)) | (refine arunD_skip ?_ ?_; (focus (simp [awant]; done))) | (refine AW.regionK [] (fun K hK => ?_)) | (refine AW.regionDK [] (pcs [] []) (by kernel_rfl) (by kernel_rfl) (fun K hK => ?_)) | (refine AW.condT ?_ ?_; (focus (simp [aev]; done))) | (refine AW.condF ?_ ?_; (focus (simp [aev]; done))) | with_reducible refine AW.block ?_ | ((first | ((first | refine arun_nil ?_ | refine arunD_nil ?_); refine hK _ ?_; clear hK K) | refine AW.skip ?_ | refine AW.exit ?_ | refine AW.ret ?_); simp only [thenA_exit, inBlockA_exit, if_true, if_false, Nat.reduceEqDiff, thenA_normal, inBlockA_normal, reduceIte, thenA_ret, inBlockA_ret, endQ_ret, endR_ret, endG_ret, endQ_normal, endR_normal, endG_normal])))
    rcases Int.lt_or_le 0 u with h0 | h0
    · (repeat (first | with_reducible refine AW.seq ?_ | ((first | refine arun_kn 4 rfl (fun C hC => ?_) | refine arunD_kn 4 rfl (fun C hC => ?_)); (repeat ((conv => whnf); simp [h0])); refine hC _ ?_; clear hC C; simp only [List.drop, Nat.reduceAdd]) | ((first | refine arun_kn 1 rfl (fun C hC => ?_) | refine arunD_kn 1 rfl (fun C hC => ?_)); (repeat ((conv => whnf); simp [h0])); refine hC _ ?_; clear hC C; simp only [List.drop, Nat.reduceAdd]) | (refine arun_skip ?_ ?_; (focus (simp [awant, h0]; done))) | (refine arun_c (W) (hRa) ?_; (rintro _ ⟨b, hb, rfl⟩)) | (refine arunD_skip ?_ ?_; (focus (simp [awant, h0]; done))) | (refine arunD_cE (W) (hRa) (by exact rNodeA_ex) ?_; (rintro _ ⟨b, hb, rfl⟩); intro _) | (refine AW.regionK [] (fun K hK => ?_)) | (refine AW.regionDK [] (pcs [(3, W, rNodeA)] []) (by kernel_rfl) (by kernel_rfl) (fun K hK => ?_)) | (refine AW.condT ?_ ?_; (focus (simp [aev, h0]; done))) | (refine AW.condF ?_ ?_; (focus (simp [aev, h0]; done))) | with_reducible refine AW.block ?_ | ((first | ((first | refine arun_nil ?_ | refine arunD_nil ?_); refine hK _ ?_; clear hK K) | refine AW.skip ?_ | refine AW.exit ?_ | refine AW.ret ?_); simp only [thenA_exit, inBlockA_exit, if_true, if_false, Nat.reduceEqDiff, thenA_normal, inBlockA_normal, reduceIte, thenA_ret, inBlockA_ret, endQ_ret, endR_ret, endG_ret, endQ_normal, endR_normal, endG_normal])))
      exact ⟨.tup [nodeA a, nodeA b], by simp [ares, aresL, upd, rowsOf_cons], tup2_pur (node_pur a) (node_pur b), a, b, ha, hb, rfl⟩
    · have h0' : ¬ 0 < u := by omega
      (repeat (first | with_reducible refine AW.seq ?_ | ((first | refine arun_kn 4 rfl (fun C hC => ?_) | refine arunD_kn 4 rfl (fun C hC => ?_)); (repeat ((conv => whnf); simp [h0'])); refine hC _ ?_; clear hC C; simp only [List.drop, Nat.reduceAdd]) | ((first | refine arun_kn 1 rfl (fun C hC => ?_) | refine arunD_kn 1 rfl (fun C hC => ?_)); (repeat ((conv => whnf); simp [h0'])); refine hC _ ?_; clear hC C; simp only [List.drop, Nat.reduceAdd]) | (refine arun_skip ?_ ?_; (focus (simp [awant, h0']; done))) | (refine arun_c (M) (hN) ?_; (rintro _ ⟨b, hb, rfl⟩)) | (refine arunD_skip ?_ ?_; (focus (simp [awant, h0']; done))) | (refine arunD_cE (M) (hN) (by exact rNodeA_ex) ?_; (rintro _ ⟨b, hb, rfl⟩); intro _) | (refine AW.regionK [] (fun K hK => ?_)) | (refine AW.regionDK [] (pcs [(2, M, rNodeA)] []) (by kernel_rfl) (by kernel_rfl) (fun K hK => ?_)) | (refine AW.condT ?_ ?_; (focus (simp [aev, h0']; done))) | (refine AW.condF ?_ ?_; (focus (simp [aev, h0']; done))) | with_reducible refine AW.block ?_ | ((first | ((first | refine arun_nil ?_ | refine arunD_nil ?_); refine hK _ ?_; clear hK K) | refine AW.skip ?_ | refine AW.exit ?_ | refine AW.ret ?_); simp only [thenA_exit, inBlockA_exit, if_true, if_false, Nat.reduceEqDiff, thenA_normal, inBlockA_normal, reduceIte, thenA_ret, inBlockA_ret, endQ_ret, endR_ret, endG_ret, endQ_normal, endR_normal, endG_normal])))
      exact ⟨.tup [nodeA a, nodeA b], by simp [ares, aresL, upd, rowsOf_cons], tup2_pur (node_pur a) (node_pur b), a, b, ha, hb, rfl⟩
theorem pC_le : pC ≤ 1000000 := by decide +kernel
theorem drawCompare_AC0 (zs : List Int) (hl : zs.length ≤ 1048576) (hb : ByteL zs) : AC0 Try.prog 19 [.view .loose 1 (bytesE zs)] rPair := by
  have hc := pC_le
  have hP := anyPair_AC
  generalize pC = M at *
  refine AC0.of tab_ok mixed_ok Try.func19 (by rfl) (by kernel_rfl) ?_; rintro ⟨P, T, hT, hm, w0, S0, rd0, k0⟩ hP hTT hk0; dsimp only at hP hTT hk0; subst hP hTT hk0; unfold initSt; rw [Try.ntmps19]
  (repeat (first | with_reducible refine AW.seq ?_ | ((first | refine arun_kn 4 rfl (fun C hC => ?_) | refine arunD_kn 4 rfl (fun C hC => ?_)); (repeat ((conv => whnf); simp)); refine hC _ ?_; clear hC C; simp only [List.drop, Nat.reduceAdd]) | ((first | refine arun_kn 1 rfl (fun C hC => ?_) | refine arunD_kn 1 rfl (fun C hC => ?_)); (repeat ((conv => whnf); simp)); refine hC _ ?_; clear hC C; simp only [List.drop, Nat.reduceAdd]) | (refine arun_skip ?_ ?_; (focus (simp [awant]; done))) | (refine arun_cN M (newReader_ACN zs (0 + M) hl (by omega) hb) ?_) | (refine arun_c (M) (hP) ?_; (rintro _ ⟨a, b, ha, hb, rfl⟩)) | (refine arunD_skip ?_ ?_; (focus (simp [awant]; done))) | (refine AW.regionK [] (fun K hK => ?_)) | (refine AW.regionDK [] (pcs [] []) (by kernel_rfl) (by kernel_rfl) (fun K hK => ?_)) | (refine AW.condT ?_ ?_; (focus (simp [aev]; done))) | (refine AW.condF ?_ ?_; (focus (simp [aev]; done))) | with_reducible refine AW.block ?_ | ((first | ((first | refine arun_nil ?_ | refine arunD_nil ?_); refine hK _ ?_; clear hK K) | refine AW.skip ?_ | refine AW.exit ?_ | refine AW.ret ?_); simp only [thenA_exit, inBlockA_exit, if_true, if_false, Nat.reduceEqDiff, thenA_normal, inBlockA_normal, reduceIte, thenA_ret, inBlockA_ret, endQ_ret, endR_ret, endG_ret, endQ_normal, endR_normal, endG_normal])))
  exact ⟨.tup [nodeA a, nodeA b], by simp [ares, aresL, upd, rowsOf_cons], tup2_pur (node_pur a) (node_pur b), a, b, ha, hb, rfl⟩
end Go.Proofs.Ytiobnaielfeeaaa.Eng
