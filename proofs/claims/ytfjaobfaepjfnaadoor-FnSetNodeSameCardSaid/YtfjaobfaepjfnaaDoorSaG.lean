/-
  Texts of this claim, joined.
-/
import Derived.Laws.CopyRow
import Derived.Laws.CopyOwn
import Derived.Laws.IdiomCopy
import Derived.Laws.AppendOwn
import Derived.Lib.AppendZerosOnto
import Derived.Lib.Overlaps
import Derived.Deep.RegionLaw
import Derived.Shelf.RegionOpenPlain
import Derived.Test.YtfjaobfaepjfnaaDoorSaF

set_option linter.unusedSimpArgs false
set_option linter.unusedVariables false
set_option linter.unnecessarySimpa false
set_option maxRecDepth 100000
set_option maxHeartbeats 16000000
namespace Go.Proofs.YtfjaobfaepjfnaaDoor.Eng
open Go Go.RowKit
attribute [local simp] big size_mk ASt.pay Option.map_map Function.comp_def awant aop acall ado aev ofVal ofVal0 ASt.put ASt.add ASt.turn ASt.kill abox aalloc astore aload aloadD astoreD idOf ASt.at cellsTo afieldAddr afield aindexAddr aindex alen abin aint acmp astr aun apick aextract anil aslice abound abuild afill abuildSlice asCells aps avCells over upd aappend asrc amax amin aconv mkSt slots rowsOf_cons rowsOf_nil usedOf_cons usedOf_nil ZK.av List.replicate ASt.back ASt.addL ASt.killL nodeA nodeT nodeTL_eq nodeL_eq strsE_get strsE_len intsE_get intsE_len strsE_at intsE_at tab2 tab3 tab4 tab5 tab6 tab7 tab8 tab9 tab10 tab11 tab12 tab13 tab14 tab15 tab16 tab17 tab18 tab19 tab21 tab22 tab23 tab24 tab25 tab26 tab28 tab29 tab30 tab31 tab42 tab43 tab44 tab46 tab63 tab64 tab67 tab68 tab75 tab98 tab100 tab101 tab105 tab106 tab107 tab122 tab123 tab125 tab128 tab138 tab144 tab151 tab152 tab157 tab158 tab160 tab161 tab162
theorem Less.hold {s : ASt} (id : Nat) : Less s (s.hold id) := fun _ _ _ _ _ _ _ _ hs => by
  obtain ⟨ρ', h, _⟩ := SR.held hs id
  exact ⟨ρ', h⟩
theorem allL_mem {k : Int} {ns : List ByteArray} {b : List ByteArray} : ∀ {ks : List Nd} {i : Nat}, b ∈ allL k ns ks i → ∃ x ∈ ks, ∃ c ∈ allS x, ∃ j, b = stp k ns j :: c
  | [], _, h => by rw [allL] at h; cases h
  | x :: xs, i, h => by
    rw [allL, List.mem_append] at h
    rcases h with h | h
    · obtain ⟨c, hc, rfl⟩ := List.mem_map.1 h
      exact ⟨x, by simp, c, hc, i, rfl⟩
    · obtain ⟨y, hy, c, hc, j, rfl⟩ := allL_mem h
      exact ⟨y, by simp [hy], c, hc, j, rfl⟩
theorem allS_short : ∀ n : Nd, ∀ b ∈ allS n, b.length < n.depth := Nd.ind' _ (fun n ih b hb => by
  rw [allS_eq] at hb
  have hd := n.depth_eq
  rcases List.mem_cons.1 hb with rfl | hb
  · simp; omega
  · obtain ⟨x, hx, c, hc, j, rfl⟩ := allL_mem hb
    have h1 := ih x hx c hc
    have h2 := depth_mem hx
    rw [List.length_cons]; omega)
theorem allW_step (n : Nd) (hn : Way n) (hc : n.count ≤ 1000) (hd : n.depth ≤ 500) (ih : ∀ k ∈ n.kids, k.count ≤ 1000 → k.depth ≤ 500 → AC Tryd.prog 66 [nodeA k] 0 (fun r => r = .view .loose 1 (pathsE (allS k)))) : ACR Tryd.prog 66 [nodeA n] 0 (fun _ => False) (fun f R => f = (fun id => .own id (allS n).length) ∧ R = pathsR (allS n)) := by
  have hcnt := n.count_eq
  have hdep := n.depth_eq
  have hk6 := hn.kids
  have hin : ∀ (L : List (List ByteArray)) (U : Nat → Bool), ∀ e ∈ pathsE L, ∀ c ∈ e, AV.In U c := fun L U => pathsE_in L
  unfold nodeA
  rw [nodeL_eq]
  refine ACR.of tab_ok mixed_ok Tryd.func66 (by rfl) (by kernel_rfl) ?_; rintro ⟨P, T, hT, hm, w0, S0, rd0, k0⟩ hP hTT; dsimp only at hP hTT; subst hP hTT; unfold initSt; rw [Tryd.ntmps66]
  (repeat (first | with_reducible refine AW.seq ?_ | ((first | refine arun_knb 4 rfl (fun C hC => ?_) | refine arunD_kn 4 rfl (fun C hC => ?_)); (repeat ((conv => whnf); simp)); refine hC _ ?_; clear hC C; simp only [List.drop, Nat.reduceAdd]) | ((first | refine arun_knb 1 rfl (fun C hC => ?_) | refine arunD_kn 1 rfl (fun C hC => ?_)); (repeat ((conv => whnf); simp)); refine hC _ ?_; clear hC C; simp only [List.drop, Nat.reduceAdd]) | (refine arun_skip ?_ ?_; (focus (simp [awant]; done))) | (refine AW.regionK [] (fun K hK => ?_)) | (refine AW.regionDK [] (pcs [] []) (by kernel_rfl) (by kernel_rfl) (fun K hK => ?_)) | (refine AW.condT ?_ ?_; (focus (simp [aev]; done))) | (refine AW.condF ?_ ?_; (focus (simp [aev]; done))) | with_reducible refine AW.block ?_ | ((first | ((first | refine arun_nil ?_ | refine arunD_nil ?_); refine hK _ ?_; clear hK K) | refine AW.skip ?_ | refine AW.exit ?_ | refine AW.ret ?_); simp only [thenA_exit, inBlockA_exit, if_true, if_false, Nat.reduceEqDiff, thenA_normal, inBlockA_normal, reduceIte, thenA_ret, inBlockA_ret, endQ_ret, endR_ret, endG_ret, endQ_normal, endR_normal, endG_normal])))
  refine arun_ownSlice 8 rfl (by simp [awant]) tab23 (by simp; exact ⟨rfl, rfl⟩) (by simp [upd]) ?_
  (repeat (first | with_reducible refine AW.seq ?_ | ((first | refine arun_knb 4 rfl (fun C hC => ?_) | refine arunD_kn 4 rfl (fun C hC => ?_)); (repeat ((conv => whnf); simp)); refine hC _ ?_; clear hC C; simp only [List.drop, Nat.reduceAdd]) | ((first | refine arun_knb 1 rfl (fun C hC => ?_) | refine arunD_kn 1 rfl (fun C hC => ?_)); (repeat ((conv => whnf); simp)); refine hC _ ?_; clear hC C; simp only [List.drop, Nat.reduceAdd]) | (refine arun_skip ?_ ?_; (focus (simp [awant]; done))) | (refine AW.regionK [] (fun K hK => ?_)) | (refine AW.regionDK [] (pcs [] []) (by kernel_rfl) (by kernel_rfl) (fun K hK => ?_)) | (refine AW.condT ?_ ?_; (focus (simp [aev]; done))) | (refine AW.condF ?_ ?_; (focus (simp [aev]; done))) | with_reducible refine AW.block ?_ | ((first | ((first | refine arun_nil ?_ | refine arunD_nil ?_); refine hK _ ?_; clear hK K) | refine AW.skip ?_ | refine AW.exit ?_ | refine AW.ret ?_); simp only [thenA_exit, inBlockA_exit, if_true, if_false, Nat.reduceEqDiff, thenA_normal, inBlockA_normal, reduceIte, thenA_ret, inBlockA_ret, endQ_ret, endR_ret, endG_ret, endQ_normal, endR_normal, endG_normal])))
  refine arun_ownSlice 9 rfl (by simp [awant]) tab46 (by simp; exact ⟨rfl, rfl⟩) (by simp [upd]) ?_
  (repeat (first | with_reducible refine AW.seq ?_ | ((first | refine arun_knb 4 rfl (fun C hC => ?_) | refine arunD_kn 4 rfl (fun C hC => ?_)); (repeat ((conv => whnf); simp)); refine hC _ ?_; clear hC C; simp only [List.drop, Nat.reduceAdd]) | ((first | refine arun_knb 1 rfl (fun C hC => ?_) | refine arunD_kn 1 rfl (fun C hC => ?_)); (repeat ((conv => whnf); simp)); refine hC _ ?_; clear hC C; simp only [List.drop, Nat.reduceAdd]) | (refine arun_skip ?_ ?_; (focus (simp [awant]; done))) | (refine AW.regionK [] (fun K hK => ?_)) | (refine AW.regionDK [] (pcs [] []) (by kernel_rfl) (by kernel_rfl) (fun K hK => ?_)) | (refine AW.condT ?_ ?_; (focus (simp [aev]; done))) | (refine AW.condF ?_ ?_; (focus (simp [aev]; done))) | with_reducible refine AW.block ?_ | ((first | ((first | refine arun_nil ?_ | refine arunD_nil ?_); refine hK _ ?_; clear hK K) | refine AW.skip ?_ | refine AW.exit ?_ | refine AW.ret ?_); simp only [thenA_exit, inBlockA_exit, if_true, if_false, Nat.reduceEqDiff, thenA_normal, inBlockA_normal, reduceIte, thenA_ret, inBlockA_ret, endQ_ret, endR_ret, endG_ret, endQ_normal, endR_normal, endG_normal])))
  refine AW.hold 8 ?_
  refine AW.loopS (fun (x : Nat × List (List ByteArray)) => mkSt (slots 0 50 [(1, .ptr true 5 1 1 0 0), (3, .own 9 x.2.length), (4, .int .i64 x.1)]) [(1, ⟨true, 26, 5, [nodeL n]⟩), (9, pathsR x.2)] [1, 9] (rd0.map fun _ => 0)) (fun x => n.kids.length - x.1) (fun x => x.1 ≤ n.kids.length ∧ x.2 ++ allL n.kind n.names (n.kids.drop x.1) x.1 = allS n) (0, [[]]) ?_ ⟨Nat.zero_le _, by rw [allS_eq]; simp⟩ ?_
  · have hp0 : pathsE [[]] = [[AV.view .loose 1 []]] := rfl
    dsimp only
    rw [nodeL_eq]
    exact (less_of (by simp [lessL, mkSt, slots, ASt.hold, pathsR, hp0, AV.subL, AV.sub, Row.sub, rowsOf_nil]) (by simp [upd, mkSt, rowsOf_cons, ASt.hold, pathsR, hp0, AV.subL, AV.sub, Row.sub, rowsOf_nil]) (by simp [upd, mkSt, usedOf_cons, ASt.hold, pathsR, hp0, AV.subL, AV.sub, Row.sub, rowsOf_nil]) (by first | exact rd_less (by omega) | simp [mkSt, ASt.hold, pathsR, hp0, AV.subL, AV.sub, Row.sub, rowsOf_nil]) (by simp [slots, in_any, in_int, in_bool, in_str, in_ptr, in_own, in_agg, in_vnil, in_rdr, usedOf_cons, usedOf_nil, strs_in, ints_in, nodes_in, in_tup, ASt.hold, pathsR, hp0, AV.subL, AV.sub, Row.sub, rowsOf_nil]) (by simp only [List.forall_mem_cons, List.not_mem_nil, false_implies, implies_true, and_true, true_and, ASt.hold, pathsR, hp0, AV.subL, AV.sub, Row.sub, rowsOf_nil]; (repeat (first | with_reducible exact trivial | with_reducible refine And.intro ?_ ?_ | with_reducible exact in_int | with_reducible exact in_str | with_reducible exact in_bool | with_reducible exact strs_in _ | with_reducible exact nodes_in _ | with_reducible exact items_in _ | with_reducible exact in_vnil | with_reducible exact in_any | exact hin _ | with_reducible refine take_in ?_ | with_reducible exact strsE_in _ | with_reducible exact nodesE_in _ | with_reducible exact nodeL_in _ | with_reducible exact itemsE_in _ | with_reducible exact itemL_in _ | with_reducible refine app_in ?_ ?_ | with_reducible refine sing_in ?_ | (focus (simp [in_any, in_int, in_bool, in_str, in_ptr, in_own, in_agg, in_vnil, in_rdr, usedOf_cons, usedOf_nil, strs_in, ints_in, nodes_in, ASt.hold, pathsR, hp0, AV.subL, AV.sub, Row.sub, rowsOf_nil]; done)))); done))
  · rintro ⟨i, L⟩ ⟨hi, hf⟩
    dsimp only at hi hf ⊢
    have hlen := congrArg List.length hf
    simp only [List.length_append, allL_len, allS_len] at hlen
    rw [nodeL_eq]
    by_cases hlt : i < n.kids.length
    · have hw : IntKind.i64.wrap ((i : Int) + 1) = (i : Int) + 1 := i64_nat (by omega) (by omega)
      have hmem := List.getElem_mem hlt
      have hcm := count_mem (show n.kids[i] ∈ n.kids.drop i by rw [List.drop_eq_getElem_cons hlt]; exact List.mem_cons_self)
      have hkl := allS_len n.kids[i]
      have hdm := depth_mem hmem
      have pk := ih n.kids[i] hmem (by omega) (by omega)
      have hB : ∀ b ∈ allS n.kids[i], b.length ≤ 500 := fun b hb => by have := allS_short _ b hb; omega
      have pd := decimal_AC i (by omega)
      rw [allL_drop hlt, ← List.append_assoc] at hf
      unfold nodeA at pk
      rw [nodeL_eq] at pk
      have hLb : L.length + (allS n.kids[i]).length ≤ 2000 := by omega
      generalize allS n.kids[i] = B at *
      by_cases hk : n.kind = 4
      · have hnl := hn.names hk
        have hni : i < n.names.length := by omega
        have hst : stp n.kind n.names i = n.names[i] := by unfold stp; rw [if_pos hk, List.getElem?_eq_getElem hni]; rfl
        rw [hst] at hf
        (repeat (first | with_reducible refine AW.seq ?_ | ((first | refine arun_kn 4 rfl (fun C hC => ?_) | refine arunD_kn 4 rfl (fun C hC => ?_)); (repeat ((conv => whnf); simp [hlt, hk, hni])); refine hC _ ?_; clear hC C; simp only [List.drop, Nat.reduceAdd]) | ((first | refine arun_kn 1 rfl (fun C hC => ?_) | refine arunD_kn 1 rfl (fun C hC => ?_)); (repeat ((conv => whnf); simp [hlt, hk, hni])); refine hC _ ?_; clear hC C; simp only [List.drop, Nat.reduceAdd]) | (refine arun_skip ?_ ?_; (focus (simp [awant, hlt, hk, hni]; done))) | (refine arun_c0 (pd) ?_; rintro _ rfl) | (refine arun_c0 (pk) ?_; rintro _ rfl) | (refine AW.regionK [] (fun K hK => ?_)) | (refine AW.regionDK [] (pcs [] []) (by kernel_rfl) (by kernel_rfl) (fun K hK => ?_)) | (refine AW.condT ?_ ?_; (focus (simp [aev, hlt, hk, hni]; done))) | (refine AW.condF ?_ ?_; (focus (simp [aev, hlt, hk, hni]; done))) | with_reducible refine AW.block ?_ | ((first | ((first | refine arun_nil ?_ | refine arunD_nil ?_); refine hK _ ?_; clear hK K) | refine AW.skip ?_ | refine AW.exit ?_ | refine AW.ret ?_); simp only [thenA_exit, inBlockA_exit, if_true, if_false, Nat.reduceEqDiff, thenA_normal, inBlockA_normal, reduceIte, thenA_ret, inBlockA_ret, endQ_ret, endR_ret, endG_ret, endQ_normal, endR_normal, endG_normal])))
        refine AW.loopS (fun (y : Nat × List (List ByteArray)) => mkSt (slots 0 50 [(1, .ptr true 5 1 1 0 0), (3, .own 9 y.2.length), (4, .int .i64 i), (5, .str n.names[i]), (6, .view .loose 1 (pathsE B)), (7, .int .i64 y.1)]) [(1, ⟨true, 26, 5, [[.int .i64 n.kind, .int .i64 n.num, .str n.text, .view .loose 1 (strsE n.names), .view .loose 5 (n.kids.map nodeL)]]⟩), (9, pathsR y.2)] [1, 9] (rd0.map fun _ => 0)) (fun y => B.length - y.1) (fun y => y.1 ≤ B.length ∧ y.2 ++ (B.drop y.1).map (n.names[i] :: ·) = L ++ B.map (n.names[i] :: ·)) (0, L) ?_ ⟨Nat.zero_le _, rfl⟩ ?_
        · have hin := hin L
          exact (less_of (by simp [lessL, mkSt, slots, in_paths, pathsR, hk]) (by simp [upd, mkSt, rowsOf_cons, in_paths, pathsR, hk]) (by simp [upd, mkSt, usedOf_cons, in_paths, pathsR, hk]) (by first | exact rd_less (by omega) | simp [mkSt, in_paths, pathsR, hk]) (by simp [slots, in_any, in_int, in_bool, in_str, in_ptr, in_own, in_agg, in_vnil, in_rdr, usedOf_cons, usedOf_nil, strs_in, ints_in, nodes_in, in_tup, in_paths, pathsR, hk]) (by simp only [List.forall_mem_cons, List.not_mem_nil, false_implies, implies_true, and_true, true_and, in_paths, pathsR, hk]; (repeat (first | with_reducible exact trivial | with_reducible refine And.intro ?_ ?_ | with_reducible exact in_int | with_reducible exact in_str | with_reducible exact in_bool | with_reducible exact strs_in _ | with_reducible exact nodes_in _ | with_reducible exact items_in _ | with_reducible exact in_vnil | with_reducible exact in_any | exact hin _ | with_reducible refine take_in ?_ | with_reducible exact strsE_in _ | with_reducible exact nodesE_in _ | with_reducible exact nodeL_in _ | with_reducible exact itemsE_in _ | with_reducible exact itemL_in _ | with_reducible refine app_in ?_ ?_ | with_reducible refine sing_in ?_ | (focus (simp [in_any, in_int, in_bool, in_str, in_ptr, in_own, in_agg, in_vnil, in_rdr, usedOf_cons, usedOf_nil, strs_in, ints_in, nodes_in, in_paths, pathsR, hk]; done)))); done))
        · rintro ⟨j, M⟩ ⟨hj, hg⟩
          dsimp only at hj hg ⊢
          have hgl := congrArg List.length hg
          simp only [List.length_append, List.length_map, List.length_drop] at hgl
          by_cases hjt : j < B.length
          · have hjw : IntKind.i64.wrap ((j : Int) + 1) = (j : Int) + 1 := i64_nat (by omega) (by omega)
            have hbl := hB _ (List.getElem_mem hjt)
            have hb1 : (M.length + 1) * 24 ≤ 140737488355328 := by omega
            have hb2 : M.length + 1 ≤ 140737488355328 := by omega
            have hb3 : (1 + B[j].length) * 16 ≤ 140737488355328 := by omega
            have hb4 : 1 + B[j].length ≤ 140737488355328 := by omega
            rw [List.drop_eq_getElem_cons hjt, List.map_cons, List.append_cons] at hg
            (repeat (first | with_reducible refine AW.seq ?_ | ((first | refine arun_knb 4 rfl (fun C hC => ?_) | refine arunD_kn 4 rfl (fun C hC => ?_)); (repeat ((conv => whnf); simp [hjt, pathsE_len, pathsE_get, pathsE_at])); refine hC _ ?_; clear hC C; simp only [List.drop, Nat.reduceAdd]) | ((first | refine arun_knb 1 rfl (fun C hC => ?_) | refine arunD_kn 1 rfl (fun C hC => ?_)); (repeat ((conv => whnf); simp [hjt, pathsE_len, pathsE_get, pathsE_at])); refine hC _ ?_; clear hC C; simp only [List.drop, Nat.reduceAdd]) | (refine arun_skip ?_ ?_; (focus (simp [awant, hjt, pathsE_len, pathsE_get, pathsE_at]; done))) | (refine AW.regionK [] (fun K hK => ?_)) | (refine AW.regionDK [] (pcs [] []) (by kernel_rfl) (by kernel_rfl) (fun K hK => ?_)) | (refine AW.condT ?_ ?_; (focus (simp [aev, hjt, pathsE_len, pathsE_get, pathsE_at]; done))) | (refine AW.condF ?_ ?_; (focus (simp [aev, hjt, pathsE_len, pathsE_get, pathsE_at]; done))) | with_reducible refine AW.block ?_ | ((first | ((first | refine arun_nil ?_ | refine arunD_nil ?_); refine hK _ ?_; clear hK K) | refine AW.skip ?_ | refine AW.exit ?_ | refine AW.ret ?_); simp only [thenA_exit, inBlockA_exit, if_true, if_false, Nat.reduceEqDiff, thenA_normal, inBlockA_normal, reduceIte, thenA_ret, inBlockA_ret, endQ_ret, endR_ret, endG_ret, endQ_normal, endR_normal, endG_normal])))
            refine arun_ownSlice 41 rfl (by simp [awant]) tab23 (by simp; exact ⟨rfl, rfl⟩) (by simp [upd, usedOf_cons, usedOf_nil]) ?_
            (repeat (first | with_reducible refine AW.seq ?_ | ((first | refine arun_kn 4 rfl (fun C hC => ?_) | refine arunD_kn 4 rfl (fun C hC => ?_)); (repeat ((conv => whnf); simp [hjt, hjw, pathsE_len, pathsE_get, pathsE_at, strsE_len, hb1, hb2, hb3, hb4, pathsR])); refine hC _ ?_; clear hC C; simp only [List.drop, Nat.reduceAdd]) | ((first | refine arun_kn 1 rfl (fun C hC => ?_) | refine arunD_kn 1 rfl (fun C hC => ?_)); (repeat ((conv => whnf); simp [hjt, hjw, pathsE_len, pathsE_get, pathsE_at, strsE_len, hb1, hb2, hb3, hb4, pathsR])); refine hC _ ?_; clear hC C; simp only [List.drop, Nat.reduceAdd]) | (refine arun_skip ?_ ?_; (focus (simp [awant, hjt, hjw, pathsE_len, pathsE_get, pathsE_at, strsE_len, hb1, hb2, hb3, hb4, pathsR]; done))) | (refine AW.regionK [] (fun K hK => ?_)) | (refine AW.regionDK [] (pcs [] []) (by kernel_rfl) (by kernel_rfl) (fun K hK => ?_)) | (refine AW.condT ?_ ?_; (focus (simp [aev, hjt, hjw, pathsE_len, pathsE_get, pathsE_at, strsE_len, hb1, hb2, hb3, hb4, pathsR]; done))) | (refine AW.condF ?_ ?_; (focus (simp [aev, hjt, hjw, pathsE_len, pathsE_get, pathsE_at, strsE_len, hb1, hb2, hb3, hb4, pathsR]; done))) | with_reducible refine AW.block ?_ | ((first | ((first | refine arun_nil ?_ | refine arunD_nil ?_); refine hK _ ?_; clear hK K) | refine AW.skip ?_ | refine AW.exit ?_ | refine AW.ret ?_); simp only [thenA_exit, inBlockA_exit, if_true, if_false, Nat.reduceEqDiff, thenA_normal, inBlockA_normal, reduceIte, thenA_ret, inBlockA_ret, endQ_ret, endR_ret, endG_ret, endQ_normal, endR_normal, endG_normal])))
            refine ⟨(j + 1, M ++ [n.names[i] :: B[j]]), by dsimp only; omega, ⟨by dsimp only; omega, hg⟩, ?_⟩
            have hsn : pathsE (M ++ [n.names[i] :: B[j]]) = pathsE M ++ [[.view .loose 1 ([.str n.names[i]] :: strsE B[j])]] := by rw [← paths_snoc]; rfl
            have hin := hin (M ++ [n.names[i] :: B[j]])
            have hml : (M ++ [n.names[i] :: B[j]]).length = M.length + 1 := by simp
            dsimp only
            rw [hml]
            rw [hsn] at hin
            refine Less.trans (Less.hold 41) (less_of (by simp [lessL, mkSt, slots, ASt.hold, in_paths, pathsR, hk, hsn, pathsE_sub, AV.subL, AV.sub, Row.sub, rowsOf_nil, strsE_len]) (by simp [upd, mkSt, rowsOf_cons, ASt.hold, in_paths, pathsR, hk, hsn, pathsE_sub, AV.subL, AV.sub, Row.sub, rowsOf_nil, strsE_len]) (by simp [upd, mkSt, usedOf_cons, ASt.hold, in_paths, pathsR, hk, hsn, pathsE_sub, AV.subL, AV.sub, Row.sub, rowsOf_nil, strsE_len]) (by first | exact rd_less (by omega) | simp [mkSt, ASt.hold, in_paths, pathsR, hk, hsn, pathsE_sub, AV.subL, AV.sub, Row.sub, rowsOf_nil, strsE_len]) (by simp [slots, in_any, in_int, in_bool, in_str, in_ptr, in_own, in_agg, in_vnil, in_rdr, usedOf_cons, usedOf_nil, strs_in, ints_in, nodes_in, in_tup, ASt.hold, in_paths, pathsR, hk, hsn, pathsE_sub, AV.subL, AV.sub, Row.sub, rowsOf_nil, strsE_len]) (by simp only [List.forall_mem_cons, List.not_mem_nil, false_implies, implies_true, and_true, true_and, ASt.hold, in_paths, pathsR, hk, hsn, pathsE_sub, AV.subL, AV.sub, Row.sub, rowsOf_nil, strsE_len]; (repeat (first | with_reducible exact trivial | with_reducible refine And.intro ?_ ?_ | with_reducible exact in_int | with_reducible exact in_str | with_reducible exact in_bool | with_reducible exact strs_in _ | with_reducible exact nodes_in _ | with_reducible exact items_in _ | with_reducible exact in_vnil | with_reducible exact in_any | exact hin _ | with_reducible refine take_in ?_ | with_reducible exact strsE_in _ | with_reducible exact nodesE_in _ | with_reducible exact nodeL_in _ | with_reducible exact itemsE_in _ | with_reducible exact itemL_in _ | with_reducible refine app_in ?_ ?_ | with_reducible refine sing_in ?_ | (focus (simp [in_any, in_int, in_bool, in_str, in_ptr, in_own, in_agg, in_vnil, in_rdr, usedOf_cons, usedOf_nil, strs_in, ints_in, nodes_in, ASt.hold, in_paths, pathsR, hk, hsn, pathsE_sub, AV.subL, AV.sub, Row.sub, rowsOf_nil, strsE_len]; done)))); done))
          · rw [List.drop_eq_nil_of_le (by omega), List.map_nil, List.append_nil] at hg
            (repeat (first | with_reducible refine AW.seq ?_ | ((first | refine arun_kn 4 rfl (fun C hC => ?_) | refine arunD_kn 4 rfl (fun C hC => ?_)); (repeat ((conv => whnf); simp [hjt, pathsE_len, hw])); refine hC _ ?_; clear hC C; simp only [List.drop, Nat.reduceAdd]) | ((first | refine arun_kn 1 rfl (fun C hC => ?_) | refine arunD_kn 1 rfl (fun C hC => ?_)); (repeat ((conv => whnf); simp [hjt, pathsE_len, hw])); refine hC _ ?_; clear hC C; simp only [List.drop, Nat.reduceAdd]) | (refine arun_skip ?_ ?_; (focus (simp [awant, hjt, pathsE_len, hw]; done))) | (refine AW.regionK [] (fun K hK => ?_)) | (refine AW.regionDK [] (pcs [] []) (by kernel_rfl) (by kernel_rfl) (fun K hK => ?_)) | (refine AW.condT ?_ ?_; (focus (simp [aev, hjt, pathsE_len, hw]; done))) | (refine AW.condF ?_ ?_; (focus (simp [aev, hjt, pathsE_len, hw]; done))) | with_reducible refine AW.block ?_ | ((first | ((first | refine arun_nil ?_ | refine arunD_nil ?_); refine hK _ ?_; clear hK K) | refine AW.skip ?_ | refine AW.exit ?_ | refine AW.ret ?_); simp only [thenA_exit, inBlockA_exit, if_true, if_false, Nat.reduceEqDiff, thenA_normal, inBlockA_normal, reduceIte, thenA_ret, inBlockA_ret, endQ_ret, endR_ret, endG_ret, endQ_normal, endR_normal, endG_normal])))
            refine ⟨(i + 1, M), by dsimp only; omega, ⟨by dsimp only; omega, by dsimp only; rw [hg]; exact hf⟩, ?_⟩
            have hin := hin M
            exact (less_of (by simp [lessL, mkSt, slots, in_paths, pathsR, hk]) (by simp [upd, mkSt, rowsOf_cons, in_paths, pathsR, hk]) (by simp [upd, mkSt, usedOf_cons, in_paths, pathsR, hk]) (by first | exact rd_less (by omega) | simp [mkSt, in_paths, pathsR, hk]) (by simp [slots, in_any, in_int, in_bool, in_str, in_ptr, in_own, in_agg, in_vnil, in_rdr, usedOf_cons, usedOf_nil, strs_in, ints_in, nodes_in, in_tup, in_paths, pathsR, hk]) (by simp only [List.forall_mem_cons, List.not_mem_nil, false_implies, implies_true, and_true, true_and, in_paths, pathsR, hk]; (repeat (first | with_reducible exact trivial | with_reducible refine And.intro ?_ ?_ | with_reducible exact in_int | with_reducible exact in_str | with_reducible exact in_bool | with_reducible exact strs_in _ | with_reducible exact nodes_in _ | with_reducible exact items_in _ | with_reducible exact in_vnil | with_reducible exact in_any | exact hin _ | with_reducible refine take_in ?_ | with_reducible exact strsE_in _ | with_reducible exact nodesE_in _ | with_reducible exact nodeL_in _ | with_reducible exact itemsE_in _ | with_reducible exact itemL_in _ | with_reducible refine app_in ?_ ?_ | with_reducible refine sing_in ?_ | (focus (simp [in_any, in_int, in_bool, in_str, in_ptr, in_own, in_agg, in_vnil, in_rdr, usedOf_cons, usedOf_nil, strs_in, ints_in, nodes_in, in_paths, pathsR, hk]; done)))); done))
      · have hk' : (n.kind == 4) = false := by simpa using hk
        have hst : stp n.kind n.names i = txt (dig1 i) := by unfold stp; rw [if_neg hk]
        rw [hst] at hf
        generalize txt (dig1 i) = st at *
        (repeat (first | with_reducible refine AW.seq ?_ | ((first | refine arun_kn 4 rfl (fun C hC => ?_) | refine arunD_kn 4 rfl (fun C hC => ?_)); (repeat ((conv => whnf); simp [hlt, hk, hk'])); refine hC _ ?_; clear hC C; simp only [List.drop, Nat.reduceAdd]) | ((first | refine arun_kn 1 rfl (fun C hC => ?_) | refine arunD_kn 1 rfl (fun C hC => ?_)); (repeat ((conv => whnf); simp [hlt, hk, hk'])); refine hC _ ?_; clear hC C; simp only [List.drop, Nat.reduceAdd]) | (refine arun_skip ?_ ?_; (focus (simp [awant, hlt, hk, hk']; done))) | (refine arun_c0 (pd) ?_; rintro _ rfl) | (refine arun_c0 (pk) ?_; rintro _ rfl) | (refine AW.regionK [] (fun K hK => ?_)) | (refine AW.regionDK [] (pcs [] []) (by kernel_rfl) (by kernel_rfl) (fun K hK => ?_)) | (refine AW.condT ?_ ?_; (focus (simp [aev, hlt, hk, hk']; done))) | (refine AW.condF ?_ ?_; (focus (simp [aev, hlt, hk, hk']; done))) | with_reducible refine AW.block ?_ | ((first | ((first | refine arun_nil ?_ | refine arunD_nil ?_); refine hK _ ?_; clear hK K) | refine AW.skip ?_ | refine AW.exit ?_ | refine AW.ret ?_); simp only [thenA_exit, inBlockA_exit, if_true, if_false, Nat.reduceEqDiff, thenA_normal, inBlockA_normal, reduceIte, thenA_ret, inBlockA_ret, endQ_ret, endR_ret, endG_ret, endQ_normal, endR_normal, endG_normal])))
        refine AW.loopS (fun (y : Nat × List (List ByteArray)) => mkSt (slots 0 50 [(1, .ptr true 5 1 1 0 0), (3, .own 9 y.2.length), (4, .int .i64 i), (5, .str st), (6, .view .loose 1 (pathsE B)), (7, .int .i64 y.1)]) [(1, ⟨true, 26, 5, [[.int .i64 n.kind, .int .i64 n.num, .str n.text, .view .loose 1 (strsE n.names), .view .loose 5 (n.kids.map nodeL)]]⟩), (9, pathsR y.2)] [1, 9] (rd0.map fun _ => 0)) (fun y => B.length - y.1) (fun y => y.1 ≤ B.length ∧ y.2 ++ (B.drop y.1).map (st :: ·) = L ++ B.map (st :: ·)) (0, L) ?_ ⟨Nat.zero_le _, rfl⟩ ?_
        · have hin := hin L
          exact (less_of (by simp [lessL, mkSt, slots, in_paths, pathsR, hk]) (by simp [upd, mkSt, rowsOf_cons, in_paths, pathsR, hk]) (by simp [upd, mkSt, usedOf_cons, in_paths, pathsR, hk]) (by first | exact rd_less (by omega) | simp [mkSt, in_paths, pathsR, hk]) (by simp [slots, in_any, in_int, in_bool, in_str, in_ptr, in_own, in_agg, in_vnil, in_rdr, usedOf_cons, usedOf_nil, strs_in, ints_in, nodes_in, in_tup, in_paths, pathsR, hk]) (by simp only [List.forall_mem_cons, List.not_mem_nil, false_implies, implies_true, and_true, true_and, in_paths, pathsR, hk]; (repeat (first | with_reducible exact trivial | with_reducible refine And.intro ?_ ?_ | with_reducible exact in_int | with_reducible exact in_str | with_reducible exact in_bool | with_reducible exact strs_in _ | with_reducible exact nodes_in _ | with_reducible exact items_in _ | with_reducible exact in_vnil | with_reducible exact in_any | exact hin _ | with_reducible refine take_in ?_ | with_reducible exact strsE_in _ | with_reducible exact nodesE_in _ | with_reducible exact nodeL_in _ | with_reducible exact itemsE_in _ | with_reducible exact itemL_in _ | with_reducible refine app_in ?_ ?_ | with_reducible refine sing_in ?_ | (focus (simp [in_any, in_int, in_bool, in_str, in_ptr, in_own, in_agg, in_vnil, in_rdr, usedOf_cons, usedOf_nil, strs_in, ints_in, nodes_in, in_paths, pathsR, hk]; done)))); done))
        · rintro ⟨j, M⟩ ⟨hj, hg⟩
          dsimp only at hj hg ⊢
          have hgl := congrArg List.length hg
          simp only [List.length_append, List.length_map, List.length_drop] at hgl
          by_cases hjt : j < B.length
          · have hjw : IntKind.i64.wrap ((j : Int) + 1) = (j : Int) + 1 := i64_nat (by omega) (by omega)
            have hbl := hB _ (List.getElem_mem hjt)
            have hb1 : (M.length + 1) * 24 ≤ 140737488355328 := by omega
            have hb2 : M.length + 1 ≤ 140737488355328 := by omega
            have hb3 : (1 + B[j].length) * 16 ≤ 140737488355328 := by omega
            have hb4 : 1 + B[j].length ≤ 140737488355328 := by omega
            rw [List.drop_eq_getElem_cons hjt, List.map_cons, List.append_cons] at hg
            (repeat (first | with_reducible refine AW.seq ?_ | ((first | refine arun_knb 4 rfl (fun C hC => ?_) | refine arunD_kn 4 rfl (fun C hC => ?_)); (repeat ((conv => whnf); simp [hjt, pathsE_len, pathsE_get, pathsE_at])); refine hC _ ?_; clear hC C; simp only [List.drop, Nat.reduceAdd]) | ((first | refine arun_knb 1 rfl (fun C hC => ?_) | refine arunD_kn 1 rfl (fun C hC => ?_)); (repeat ((conv => whnf); simp [hjt, pathsE_len, pathsE_get, pathsE_at])); refine hC _ ?_; clear hC C; simp only [List.drop, Nat.reduceAdd]) | (refine arun_skip ?_ ?_; (focus (simp [awant, hjt, pathsE_len, pathsE_get, pathsE_at]; done))) | (refine AW.regionK [] (fun K hK => ?_)) | (refine AW.regionDK [] (pcs [] []) (by kernel_rfl) (by kernel_rfl) (fun K hK => ?_)) | (refine AW.condT ?_ ?_; (focus (simp [aev, hjt, pathsE_len, pathsE_get, pathsE_at]; done))) | (refine AW.condF ?_ ?_; (focus (simp [aev, hjt, pathsE_len, pathsE_get, pathsE_at]; done))) | with_reducible refine AW.block ?_ | ((first | ((first | refine arun_nil ?_ | refine arunD_nil ?_); refine hK _ ?_; clear hK K) | refine AW.skip ?_ | refine AW.exit ?_ | refine AW.ret ?_); simp only [thenA_exit, inBlockA_exit, if_true, if_false, Nat.reduceEqDiff, thenA_normal, inBlockA_normal, reduceIte, thenA_ret, inBlockA_ret, endQ_ret, endR_ret, endG_ret, endQ_normal, endR_normal, endG_normal])))
            refine arun_ownSlice 41 rfl (by simp [awant]) tab23 (by simp; exact ⟨rfl, rfl⟩) (by simp [upd, usedOf_cons, usedOf_nil]) ?_
            (repeat (first | with_reducible refine AW.seq ?_ | ((first | refine arun_kn 4 rfl (fun C hC => ?_) | refine arunD_kn 4 rfl (fun C hC => ?_)); (repeat ((conv => whnf); simp [hjt, hjw, pathsE_len, pathsE_get, pathsE_at, strsE_len, hb1, hb2, hb3, hb4, pathsR])); refine hC _ ?_; clear hC C; simp only [List.drop, Nat.reduceAdd]) | ((first | refine arun_kn 1 rfl (fun C hC => ?_) | refine arunD_kn 1 rfl (fun C hC => ?_)); (repeat ((conv => whnf); simp [hjt, hjw, pathsE_len, pathsE_get, pathsE_at, strsE_len, hb1, hb2, hb3, hb4, pathsR])); refine hC _ ?_; clear hC C; simp only [List.drop, Nat.reduceAdd]) | (refine arun_skip ?_ ?_; (focus (simp [awant, hjt, hjw, pathsE_len, pathsE_get, pathsE_at, strsE_len, hb1, hb2, hb3, hb4, pathsR]; done))) | (refine AW.regionK [] (fun K hK => ?_)) | (refine AW.regionDK [] (pcs [] []) (by kernel_rfl) (by kernel_rfl) (fun K hK => ?_)) | (refine AW.condT ?_ ?_; (focus (simp [aev, hjt, hjw, pathsE_len, pathsE_get, pathsE_at, strsE_len, hb1, hb2, hb3, hb4, pathsR]; done))) | (refine AW.condF ?_ ?_; (focus (simp [aev, hjt, hjw, pathsE_len, pathsE_get, pathsE_at, strsE_len, hb1, hb2, hb3, hb4, pathsR]; done))) | with_reducible refine AW.block ?_ | ((first | ((first | refine arun_nil ?_ | refine arunD_nil ?_); refine hK _ ?_; clear hK K) | refine AW.skip ?_ | refine AW.exit ?_ | refine AW.ret ?_); simp only [thenA_exit, inBlockA_exit, if_true, if_false, Nat.reduceEqDiff, thenA_normal, inBlockA_normal, reduceIte, thenA_ret, inBlockA_ret, endQ_ret, endR_ret, endG_ret, endQ_normal, endR_normal, endG_normal])))
            refine ⟨(j + 1, M ++ [st :: B[j]]), by dsimp only; omega, ⟨by dsimp only; omega, hg⟩, ?_⟩
            have hsn : pathsE (M ++ [st :: B[j]]) = pathsE M ++ [[.view .loose 1 ([.str st] :: strsE B[j])]] := by rw [← paths_snoc]; rfl
            have hin := hin (M ++ [st :: B[j]])
            have hml : (M ++ [st :: B[j]]).length = M.length + 1 := by simp
            dsimp only
            rw [hml]
            rw [hsn] at hin
            refine Less.trans (Less.hold 41) (less_of (by simp [lessL, mkSt, slots, ASt.hold, in_paths, pathsR, hk, hsn, pathsE_sub, AV.subL, AV.sub, Row.sub, rowsOf_nil, strsE_len]) (by simp [upd, mkSt, rowsOf_cons, ASt.hold, in_paths, pathsR, hk, hsn, pathsE_sub, AV.subL, AV.sub, Row.sub, rowsOf_nil, strsE_len]) (by simp [upd, mkSt, usedOf_cons, ASt.hold, in_paths, pathsR, hk, hsn, pathsE_sub, AV.subL, AV.sub, Row.sub, rowsOf_nil, strsE_len]) (by first | exact rd_less (by omega) | simp [mkSt, ASt.hold, in_paths, pathsR, hk, hsn, pathsE_sub, AV.subL, AV.sub, Row.sub, rowsOf_nil, strsE_len]) (by simp [slots, in_any, in_int, in_bool, in_str, in_ptr, in_own, in_agg, in_vnil, in_rdr, usedOf_cons, usedOf_nil, strs_in, ints_in, nodes_in, in_tup, ASt.hold, in_paths, pathsR, hk, hsn, pathsE_sub, AV.subL, AV.sub, Row.sub, rowsOf_nil, strsE_len]) (by simp only [List.forall_mem_cons, List.not_mem_nil, false_implies, implies_true, and_true, true_and, ASt.hold, in_paths, pathsR, hk, hsn, pathsE_sub, AV.subL, AV.sub, Row.sub, rowsOf_nil, strsE_len]; (repeat (first | with_reducible exact trivial | with_reducible refine And.intro ?_ ?_ | with_reducible exact in_int | with_reducible exact in_str | with_reducible exact in_bool | with_reducible exact strs_in _ | with_reducible exact nodes_in _ | with_reducible exact items_in _ | with_reducible exact in_vnil | with_reducible exact in_any | exact hin _ | with_reducible refine take_in ?_ | with_reducible exact strsE_in _ | with_reducible exact nodesE_in _ | with_reducible exact nodeL_in _ | with_reducible exact itemsE_in _ | with_reducible exact itemL_in _ | with_reducible refine app_in ?_ ?_ | with_reducible refine sing_in ?_ | (focus (simp [in_any, in_int, in_bool, in_str, in_ptr, in_own, in_agg, in_vnil, in_rdr, usedOf_cons, usedOf_nil, strs_in, ints_in, nodes_in, ASt.hold, in_paths, pathsR, hk, hsn, pathsE_sub, AV.subL, AV.sub, Row.sub, rowsOf_nil, strsE_len]; done)))); done))
          · rw [List.drop_eq_nil_of_le (by omega), List.map_nil, List.append_nil] at hg
            (repeat (first | with_reducible refine AW.seq ?_ | ((first | refine arun_kn 4 rfl (fun C hC => ?_) | refine arunD_kn 4 rfl (fun C hC => ?_)); (repeat ((conv => whnf); simp [hjt, pathsE_len, hw])); refine hC _ ?_; clear hC C; simp only [List.drop, Nat.reduceAdd]) | ((first | refine arun_kn 1 rfl (fun C hC => ?_) | refine arunD_kn 1 rfl (fun C hC => ?_)); (repeat ((conv => whnf); simp [hjt, pathsE_len, hw])); refine hC _ ?_; clear hC C; simp only [List.drop, Nat.reduceAdd]) | (refine arun_skip ?_ ?_; (focus (simp [awant, hjt, pathsE_len, hw]; done))) | (refine AW.regionK [] (fun K hK => ?_)) | (refine AW.regionDK [] (pcs [] []) (by kernel_rfl) (by kernel_rfl) (fun K hK => ?_)) | (refine AW.condT ?_ ?_; (focus (simp [aev, hjt, pathsE_len, hw]; done))) | (refine AW.condF ?_ ?_; (focus (simp [aev, hjt, pathsE_len, hw]; done))) | with_reducible refine AW.block ?_ | ((first | ((first | refine arun_nil ?_ | refine arunD_nil ?_); refine hK _ ?_; clear hK K) | refine AW.skip ?_ | refine AW.exit ?_ | refine AW.ret ?_); simp only [thenA_exit, inBlockA_exit, if_true, if_false, Nat.reduceEqDiff, thenA_normal, inBlockA_normal, reduceIte, thenA_ret, inBlockA_ret, endQ_ret, endR_ret, endG_ret, endQ_normal, endR_normal, endG_normal])))
            refine ⟨(i + 1, M), by dsimp only; omega, ⟨by dsimp only; omega, by dsimp only; rw [hg]; exact hf⟩, ?_⟩
            have hin := hin M
            exact (less_of (by simp [lessL, mkSt, slots, in_paths, pathsR, hk]) (by simp [upd, mkSt, rowsOf_cons, in_paths, pathsR, hk]) (by simp [upd, mkSt, usedOf_cons, in_paths, pathsR, hk]) (by first | exact rd_less (by omega) | simp [mkSt, in_paths, pathsR, hk]) (by simp [slots, in_any, in_int, in_bool, in_str, in_ptr, in_own, in_agg, in_vnil, in_rdr, usedOf_cons, usedOf_nil, strs_in, ints_in, nodes_in, in_tup, in_paths, pathsR, hk]) (by simp only [List.forall_mem_cons, List.not_mem_nil, false_implies, implies_true, and_true, true_and, in_paths, pathsR, hk]; (repeat (first | with_reducible exact trivial | with_reducible refine And.intro ?_ ?_ | with_reducible exact in_int | with_reducible exact in_str | with_reducible exact in_bool | with_reducible exact strs_in _ | with_reducible exact nodes_in _ | with_reducible exact items_in _ | with_reducible exact in_vnil | with_reducible exact in_any | exact hin _ | with_reducible refine take_in ?_ | with_reducible exact strsE_in _ | with_reducible exact nodesE_in _ | with_reducible exact nodeL_in _ | with_reducible exact itemsE_in _ | with_reducible exact itemL_in _ | with_reducible refine app_in ?_ ?_ | with_reducible refine sing_in ?_ | (focus (simp [in_any, in_int, in_bool, in_str, in_ptr, in_own, in_agg, in_vnil, in_rdr, usedOf_cons, usedOf_nil, strs_in, ints_in, nodes_in, in_paths, pathsR, hk]; done)))); done))
    · rw [allL_end hlt, List.append_nil] at hf
      subst hf
      (repeat (first | with_reducible refine AW.seq ?_ | ((first | refine arun_kn 4 rfl (fun C hC => ?_) | refine arunD_kn 4 rfl (fun C hC => ?_)); (repeat ((conv => whnf); simp [hlt])); refine hC _ ?_; clear hC C; simp only [List.drop, Nat.reduceAdd]) | ((first | refine arun_kn 1 rfl (fun C hC => ?_) | refine arunD_kn 1 rfl (fun C hC => ?_)); (repeat ((conv => whnf); simp [hlt])); refine hC _ ?_; clear hC C; simp only [List.drop, Nat.reduceAdd]) | (refine arun_skip ?_ ?_; (focus (simp [awant, hlt]; done))) | (refine AW.regionK [] (fun K hK => ?_)) | (refine AW.regionDK [] (pcs [] []) (by kernel_rfl) (by kernel_rfl) (fun K hK => ?_)) | (refine AW.condT ?_ ?_; (focus (simp [aev, hlt]; done))) | (refine AW.condF ?_ ?_; (focus (simp [aev, hlt]; done))) | with_reducible refine AW.block ?_ | ((first | ((first | refine arun_nil ?_ | refine arunD_nil ?_); refine hK _ ?_; clear hK K) | refine AW.skip ?_ | refine AW.exit ?_ | refine AW.ret ?_); simp only [thenA_exit, inBlockA_exit, if_true, if_false, Nat.reduceEqDiff, thenA_normal, inBlockA_normal, reduceIte, thenA_ret, inBlockA_ret, endQ_ret, endR_ret, endG_ret, endQ_normal, endR_normal, endG_normal])))
      exact ⟨.own 9 (allS n).length, by simp [ares, aresL], .inr ⟨fun id => .own id (allS n).length, 9, pathsR (allS n), rfl, by simp [upd, rowsOf_cons], Res1.own _ _, pathsE_pur _, rfl, rfl⟩⟩
theorem all_AC : ∀ n, Way n → n.count ≤ 1000 → n.depth ≤ 500 → AC Tryd.prog 66 [nodeA n] 0 (fun r => r = .view .loose 1 (pathsE (allS n))) :=
  Nd.ind' _ (fun n ih hw hc hd => AC.ofPaths (allW_step n hw hc hd (fun k hk h1 h2 => ih k hk (hw.kid k hk) h1 h2)))
theorem specAllPaths_yes (n : Nd) (h : validB n = true) : AC Tryd.prog 22 [nodeA n] 0 (fun r => r = .view .loose 1 (pathsE (allS n))) := by
  obtain ⟨hw, hd, hc⟩ := valid_way h
  have p1 := validNode_AC n .loose
  rw [h] at p1
  have p2 := all_AC n hw (by omega) (by omega)
  unfold nodeA at p2 ⊢
  rw [nodeL_eq] at p2 ⊢
  have hcl := paths_clo (t := .loose) (allS n)
  refine AC.of tab_ok mixed_ok Tryd.func22 (by rfl) (by kernel_rfl) ?_; rintro ⟨P, T, hT, hm, w0, S0, rd0, k0⟩ hP hTT; dsimp only at hP hTT; subst hP hTT; unfold initSt; rw [Tryd.ntmps22]
  (repeat (first | with_reducible refine AW.seq ?_ | ((first | refine arun_kn 4 rfl (fun C hC => ?_) | refine arunD_kn 4 rfl (fun C hC => ?_)); (repeat ((conv => whnf); simp)); refine hC _ ?_; clear hC C; simp only [List.drop, Nat.reduceAdd]) | ((first | refine arun_kn 1 rfl (fun C hC => ?_) | refine arunD_kn 1 rfl (fun C hC => ?_)); (repeat ((conv => whnf); simp)); refine hC _ ?_; clear hC C; simp only [List.drop, Nat.reduceAdd]) | (refine arun_skip ?_ ?_; (focus (simp [awant]; done))) | (refine arun_c0 (p1) ?_; rintro _ rfl) | (refine arun_c0 (p2) ?_; rintro _ rfl) | (refine AW.regionK [] (fun K hK => ?_)) | (refine AW.regionDK [] (pcs [] []) (by kernel_rfl) (by kernel_rfl) (fun K hK => ?_)) | (refine AW.condT ?_ ?_; (focus (simp [aev]; done))) | (refine AW.condF ?_ ?_; (focus (simp [aev]; done))) | with_reducible refine AW.block ?_ | ((first | ((first | refine arun_nil ?_ | refine arunD_nil ?_); refine hK _ ?_; clear hK K) | refine AW.skip ?_ | refine AW.exit ?_ | refine AW.ret ?_); simp only [thenA_exit, inBlockA_exit, if_true, if_false, Nat.reduceEqDiff, thenA_normal, inBlockA_normal, reduceIte, thenA_ret, inBlockA_ret, endQ_ret, endR_ret, endG_ret, endQ_normal, endR_normal, endG_normal])))
  exact ⟨.view .loose 1 (pathsE (allS n)), by simp [ares, aresL], paths_pur _ (by decide), rfl⟩
theorem specAllPaths_no (n : Nd) (h : validB n = false) : AC Tryd.prog 22 [nodeA n] 0 (fun r => r = .view .loose 1 (pathsE [])) := by
  have p1 := validNode_AC n .loose
  rw [h] at p1
  refine AC.weak ?_
  unfold nodeA
  rw [nodeL_eq]
  refine AC.of tab_ok mixed_ok Tryd.func22 (by rfl) (by kernel_rfl) ?_; rintro ⟨P, T, hT, hm, w0, S0, rd0, k0⟩ hP hTT; dsimp only at hP hTT; subst hP hTT; unfold initSt; rw [Tryd.ntmps22]
  (repeat (first | with_reducible refine AW.seq ?_ | ((first | refine arun_kn 4 rfl (fun C hC => ?_) | refine arunD_kn 4 rfl (fun C hC => ?_)); (repeat ((conv => whnf); simp)); refine hC _ ?_; clear hC C; simp only [List.drop, Nat.reduceAdd]) | ((first | refine arun_kn 1 rfl (fun C hC => ?_) | refine arunD_kn 1 rfl (fun C hC => ?_)); (repeat ((conv => whnf); simp)); refine hC _ ?_; clear hC C; simp only [List.drop, Nat.reduceAdd]) | (refine arun_skip ?_ ?_; (focus (simp [awant]; done))) | (refine arun_c0 (p1) ?_; rintro _ rfl) | (refine AW.regionK [] (fun K hK => ?_)) | (refine AW.regionDK [] (pcs [] []) (by kernel_rfl) (by kernel_rfl) (fun K hK => ?_)) | (refine AW.condT ?_ ?_; (focus (simp [aev]; done))) | (refine AW.condF ?_ ?_; (focus (simp [aev]; done))) | with_reducible refine AW.block ?_ | ((first | ((first | refine arun_nil ?_ | refine arunD_nil ?_); refine hK _ ?_; clear hK K) | refine AW.skip ?_ | refine AW.exit ?_ | refine AW.ret ?_); simp only [thenA_exit, inBlockA_exit, if_true, if_false, Nat.reduceEqDiff, thenA_normal, inBlockA_normal, reduceIte, thenA_ret, inBlockA_ret, endQ_ret, endR_ret, endG_ret, endQ_normal, endR_normal, endG_normal])))
  exact ⟨.view .tight 0 [], by simp [ares, aresL], pur_view (by decide) (fun e he => by cases he), _, Wk.nil (fun h => by cases h), rfl⟩
theorem specAllPaths_AC (n : Nd) : AC Tryd.prog 22 [nodeA n] 0 (fun r => r = .view .loose 1 (pathsE (wayS n))) := by
  cases h : validB n
  · have := specAllPaths_no n h
    unfold wayS; rw [h]; exact this
  · have := specAllPaths_yes n h
    unfold wayS; rw [h]; exact this
end Go.Proofs.YtfjaobfaepjfnaaDoor.Eng
namespace Go.Proofs.YtfjaobfaepjfnaaDoor.Eng
open Go Go.RowKit
inductive Dst : Nd → Prop where
  | mk (n : Nd) (h1 : ∀ i j, i < j → j < n.kids.length → stp n.kind n.names i ≠ stp n.kind n.names j) (h2 : ∀ k ∈ n.kids, Dst k) : Dst n
theorem Dst.step {n : Nd} : Dst n → ∀ i j, i < j → j < n.kids.length → stp n.kind n.names i ≠ stp n.kind n.names j | .mk _ h _ => h
theorem Dst.kid {n : Nd} : Dst n → ∀ k ∈ n.kids, Dst k | .mk _ _ h => h
end Go.Proofs.YtfjaobfaepjfnaaDoor.Eng
namespace Go.Proofs.YtfjaobfaepjfnaaDoor
open Go.RowKit
def pathB (p : List ByteArray) : Bool := decide (p.length ≤ 5) && p.all plainT
theorem allD_step {α : Type} {p : α → Bool} (xs : List α) (k : Nat) (h : k < xs.length) : (xs.drop k).all p = (p xs[k] && (xs.drop (k + 1)).all p) := by
  rw [drop_cons xs k h, List.all_cons]
theorem allD_end {α : Type} {p : α → Bool} (xs : List α) (k : Nat) (h : ¬ k < xs.length) : (xs.drop k).all p = true := by
  rw [List.drop_eq_nil_of_le (by omega)]; rfl
theorem isPath_ok (a : Option Addr) (c : Nat) (xs : List ByteArray) (w : World) (ha : StrsR w any a c xs) :
    Calls Tryd.prog 56 #[.slice a xs.length c] w fun e w' => e = .returned (.bool (pathB xs)) ∧ w = w' := by
  have hbig : xs.length ≤ 9223372036854775807 := ha.2.1
  have Ha := Lib.hid ha
  clear ha
  by_cases hl : 5 < xs.length
  · go_enter Tryd.func56, Tryd.ntmps56
    go_wp2
    go_ret
    exact ⟨by simp [pathB]; omega, rfl⟩
  · go_enter Tryd.func56, Tryd.ntmps56
    go_wp2
    go_loop [2, 4, 10] (fun n _ i => n = .bool false ∧ ∃ k : Nat, k ≤ xs.length ∧ i = .int .i64 k ∧ Hid (xs.all plainT = (xs.drop k).all plainT)) (fun _ _ i => xs.length - (intOf i).toNat)
    case atStart => exact ⟨rfl, 0, Nat.zero_le _, rfl, Lib.hid rfl⟩
    case round =>
      obtain ⟨rfl, k, hk, rfl, Hr⟩ := hrel
      by_cases hlt : k < xs.length
      · obtain ⟨_, _, hxs, ha4⟩ := Ha.out
        rcases ha4 with rfl | ⟨ba, oa, rfl, _, hca⟩
        · simp at hlt
        have hx := hca k hlt
        have hsz := hxs _ (List.getElem_mem hlt)
        have Hs := Lib.hid (allD_step (p := plainT) xs k hlt)
        clear hca Ha hxs
        cases hp : plainT xs[k]
        all_goals
          go_wp2_with (go_at_call 98; refine (isPlainText_ok _ _ hsz).mono ?_; rintro e w' ⟨rfl, rfl⟩)
        · go_ret
          exact ⟨by simp [pathB, Hr.out, Hs.out, hp], rfl⟩
        · go_round
          case rel => exact ⟨rfl, k + 1, by omega, by go_num, Lib.hid (by rw [Hr.out, Hs.out, hp, Bool.true_and])⟩
          case measure => simp [intOf]; omega
      · have Hs := Lib.hid (allD_end (p := plainT) xs k hlt)
        go_wp2
        go_ret
        exact ⟨by simp [pathB, Hr.out, Hs.out]; omega, rfl⟩
theorem validPath_ok (a : Option Addr) (c : Nat) (xs : List ByteArray) (w : World) (ha : StrsR w any a c xs) :
    Calls Tryd.prog 72 #[.slice a xs.length c] w fun e w' => e = .returned (.bool (pathB xs)) ∧ w = w' := by
  have hbig : xs.length ≤ 9223372036854775807 := ha.2.1
  have Ha := Lib.hid ha
  clear ha
  go_enter Tryd.func72, Tryd.ntmps72
  go_wp2
  go_loop [2, 3] (fun n i => n = .bool false ∧ ∃ k : Nat, k ≤ xs.length ∧ i = .int .i64 k ∧ Hid (xs.all plainT = (xs.drop k).all plainT)) (fun _ i => xs.length - (intOf i).toNat)
  case atStart => exact ⟨rfl, 0, Nat.zero_le _, rfl, Lib.hid rfl⟩
  case round =>
    obtain ⟨rfl, k, hk, rfl, Hr⟩ := hrel
    by_cases hlt : k < xs.length
    · obtain ⟨_, _, hxs, ha4⟩ := Ha.out
      rcases ha4 with rfl | ⟨ba, oa, rfl, _, hca⟩
      · simp at hlt
      have hx := hca k hlt
      have hsz := hxs _ (List.getElem_mem hlt)
      have Hs := Lib.hid (allD_step (p := plainT) xs k hlt)
      clear hca Ha hxs
      cases hp : plainT xs[k]
      all_goals
        go_wp2_with (go_at_call 106; refine (validText_ok _ _ hsz).mono ?_; rintro e w' ⟨rfl, rfl⟩)
      · go_ret
        exact ⟨by simp [pathB, Hr.out, Hs.out, hp], rfl⟩
      · go_round
        case rel => exact ⟨rfl, k + 1, by omega, by go_num, Lib.hid (by rw [Hr.out, Hs.out, hp, Bool.true_and])⟩
        case measure => simp [intOf]; omega
    · have Hs := Lib.hid (allD_end (p := plainT) xs k hlt)
      go_wp2
      go_ret
      exact ⟨by simp [pathB, Hr.out, Hs.out]; omega, rfl⟩
end Go.Proofs.YtfjaobfaepjfnaaDoor
namespace Go.Proofs.YtfjaobfaepjfnaaDoor.Eng
open Go Go.RowKit
theorem placeF_cases (n : Nd) (st : ByteArray) : ∀ f k, (placeF n st f k = -1 ∧ ∀ j, k ≤ j → j < k + f → hitP n st j = false) ∨ (∃ j, k ≤ j ∧ j < k + f ∧ placeF n st f k = (j : Int) ∧ hitP n st j = true)
  | 0, k => .inl ⟨rfl, fun j h1 h2 => by omega⟩
  | f + 1, k => by
    rw [placeF]
    cases hb : hitP n st k
    · rcases placeF_cases n st f (k + 1) with ⟨h1, h2⟩ | ⟨j, h1, h2, h3, h4⟩
      · refine .inl ⟨by simpa using h1, fun j h3 h4 => ?_⟩
        rcases Nat.eq_or_lt_of_le h3 with rfl | h5
        · exact hb
        · exact h2 j (by omega) (by omega)
      · exact .inr ⟨j, by omega, by omega, by simpa using h3, h4⟩
    · exact .inr ⟨k, Nat.le_refl _, by omega, by simp, hb⟩
theorem placeI_cases (n : Nd) (st : ByteArray) : (placeI n st = -1 ∧ ∀ j, j < n.kids.length → hitP n st j = false) ∨ (∃ j, j < n.kids.length ∧ placeI n st = (j : Int) ∧ hitP n st j = true) := by
  rcases placeF_cases n st n.kids.length 0 with ⟨h1, h2⟩ | ⟨j, h1, h2, h3, h4⟩
  · exact .inl ⟨h1, fun j hj => h2 j (Nat.zero_le _) (by omega)⟩
  · exact .inr ⟨j, by omega, h3, h4⟩
def Shp (n : Nd) : Prop := ∃ d, shapeB n d = true
theorem Shp.kid {n : Nd} (h : Shp n) {k : Nd} (hk : k ∈ n.kids) : Shp k := by
  obtain ⟨d, h⟩ := h
  rw [shapeB_eq] at h
  simp only [Bool.and_eq_true] at h
  exact ⟨d - 1, shapeL_mem h.2 k hk⟩
theorem Shp.parts {n : Nd} (h : Shp n) : partsB n = true := by
  obtain ⟨d, h⟩ := h
  rw [shapeB_eq] at h
  simp only [Bool.and_eq_true] at h
  exact h.1.2
theorem Shp.kids {n : Nd} (h : Shp n) : n.kids.length ≤ 6 := partsB_kids h.parts
theorem Shp.map {n : Nd} (h : Shp n) (h4 : n.kind = 4) : areNamesB n.names = true ∧ n.kids.length = n.names.length := by
  have hp := h.parts
  unfold partsB at hp
  simp only [Bool.and_eq_true] at hp
  have hp := hp.2
  rw [h4] at hp
  simp at hp
  exact hp
theorem Shp.leaf {n : Nd} (h : Shp n) (h4 : n.kind ≠ 4) (h3 : n.kind ≠ 3) : n.kids.length = 0 := by
  have hp := h.parts
  unfold partsB at hp
  simp only [Bool.and_eq_true] at hp
  have hp := hp.2
  split at hp
  · simpa using hp
  · split at hp
    · simp at hp; simp [hp]
    · split at hp
      · simp at hp; simp [hp]
      · simp [h3, h4] at hp
theorem Shp.asc {n : Nd} (h : Shp n) (h4 : n.kind = 4) : Asc n.names := by
  have := (h.map h4).1
  simp only [areNamesB, Bool.and_eq_true] at this
  exact namesB_asc this.2
theorem Shp.plc {n : Nd} (h : Shp n) : Plc n := ⟨fun h4 => by have := (h.map h4).2; omega, fun _ => by have := h.kids; omega⟩
theorem Shp.of {n : Nd} (h : validB n = true) : Shp n := by
  unfold validB at h
  rw [Bool.and_eq_true] at h
  exact ⟨5, h.1⟩
theorem Shp.sml {n : Nd} (h : Shp n) : Sml n := shape_sml n _ h.choose_spec
theorem lb_at {xs : List ByteArray} (ha : Asc xs) {j : Nat} (hj : j < xs.length) : lbound xs xs[j] = j :=
  lb_of (Nat.le_of_lt hj) (fun t ht htj => ha t j ht hj htj) (fun t ht hjt => by
    rcases Nat.eq_or_lt_of_le hjt with rfl | h
    · exact lt_irr _
    · exact bl_asymm _ _ (ha j t hj ht h))
theorem hit_map {n : Nd} {st : ByteArray} (h4 : n.kind = 4) {j : Nat} (hj : j < n.names.length) : hitP n st j = eqs n.names[j] st := by
  simp [hitP, h4, List.getElem?_eq_getElem hj]
theorem hit_list {n : Nd} {st : ByteArray} (h3 : n.kind = 3) {j : Nat} : hitP n st j = eqs (txt (dig1 j)) st := by
  simp [hitP, h3]
theorem place_map {n : Nd} (h : Shp n) (h4 : n.kind = 4) (st : ByteArray) : placeI n st = if mem n.names st then (lbound n.names st : Int) else -1 := by
  have hl := (h.map h4).2
  have ha := h.asc h4
  rcases placeI_cases n st with ⟨h1, h2⟩ | ⟨j, h1, h2, h3⟩
  · have : mem n.names st = false := mem_no (fun hm => by
      obtain ⟨i, hi, rfl⟩ := List.getElem_of_mem hm
      have := h2 i (by omega)
      rw [hit_map h4 hi, eqs_iff.2 rfl] at this
      cases this)
    rw [this, h1]; rfl
  · have hj : j < n.names.length := by omega
    rw [hit_map h4 hj, eqs_iff] at h3
    subst h3
    rw [lb_at ha hj, mem_iff.2 (List.getElem_mem hj), h2]; rfl
def kidI (n : Nd) (st : ByteArray) : Int := if n.kind = 4 then (lbound n.names st : Int) else if 0 ≤ placeI n st then placeI n st else 0
theorem kidI_eq {n : Nd} (h : Shp n) {st : ByteArray} (hp : 0 ≤ placeI n st) : kidI n st = placeI n st := by
  unfold kidI
  by_cases h4 : n.kind = 4
  · rw [if_pos h4]
    rw [place_map h h4] at hp ⊢
    split at hp
    · rename_i hm; rw [if_pos hm]
    · omega
  · rw [if_neg h4, if_pos hp]
theorem place_leaf {n : Nd} (h : Shp n) (h4 : n.kind ≠ 4) (h3 : n.kind ≠ 3) (st : ByteArray) : placeI n st = -1 := by
  unfold placeI; rw [h.leaf h4 h3]; rfl
def getS : Nd → List ByteArray → Option Nd
  | n, [] => some n
  | n, s :: p => if 0 ≤ placeI n s then getS ((n.kids[(placeI n s).toNat]?).getD Nd.zero) p else none
theorem getS_no {n : Nd} {s : ByteArray} (p : List ByteArray) (h : placeI n s = -1) : getS n (s :: p) = none := by
  rw [getS, if_neg (by omega)]
theorem getS_yes {n : Nd} {s : ByteArray} (p : List ByteArray) {k : Nat} (hk : k < n.kids.length) (h : placeI n s = (k : Int)) : getS n (s :: p) = getS n.kids[k] p := by
  rw [getS, h, if_pos (by omega)]
  simp [hk]
theorem getS_shp : ∀ (p : List ByteArray) (n m : Nd), Shp n → getS n p = some m → Shp m
  | [], n, m, h, e => by rw [getS] at e; cases e; exact h
  | s :: p, n, m, h, e => by
    rcases placeI_cases n s with ⟨h1, _⟩ | ⟨j, h1, h2, _⟩
    · rw [getS_no p h1] at e; cases e
    · rw [getS_yes p h1 h2] at e
      exact getS_shp p _ m (h.kid (List.getElem_mem h1)) e
theorem shape_up : ∀ n : Nd, ∀ d e, d ≤ e → shapeB n d = true → shapeB n e = true := Nd.ind' _ (fun n ih d e hde h => by
  rw [shapeB_eq] at h ⊢
  simp only [Bool.and_eq_true, decide_eq_true_eq] at h ⊢
  refine ⟨⟨by omega, h.1.2⟩, ?_⟩
  have h2 := h.2
  rw [shapeL_all, List.all_eq_true] at h2 ⊢
  exact fun k hk => ih k hk (d - 1) (e - 1) (by omega) (h2 k hk))
theorem getS_valid : ∀ (p : List ByteArray) (n m : Nd), validB n = true → getS n p = some m → validB m = true := by
  have key : ∀ (p : List ByteArray) (n m : Nd), shapeB n 5 = true → n.count ≤ 40 → getS n p = some m → shapeB m 5 = true ∧ m.count ≤ 40 := by
    intro p
    induction p with
    | nil => intro n m h1 h2 e; rw [getS] at e; cases e; exact ⟨h1, h2⟩
    | cons s p ih =>
      intro n m h1 h2 e
      rcases placeI_cases n s with ⟨h3, _⟩ | ⟨j, h3, h4, _⟩
      · rw [getS_no p h3] at e; cases e
      · rw [getS_yes p h3 h4] at e
        have hm := List.getElem_mem h3
        rw [shapeB_eq] at h1
        simp only [Bool.and_eq_true] at h1
        refine ih _ m (shape_up _ 4 5 (by omega) (shapeL_mem h1.2 _ hm)) ?_ e
        have := count_mem hm
        have := n.count_eq
        omega
  intro p n m h e
  unfold validB at h ⊢
  simp only [Bool.and_eq_true, decide_eq_true_eq] at h ⊢
  exact key p n m h.1 h.2 e
def natS (n : Nd) (p : List ByteArray) : Option Nd := if validB n && pathB p then getS n p else none
theorem natS_valid {n m : Nd} {p : List ByteArray} (h : natS n p = some m) : validB n = true ∧ validB m = true := by
  unfold natS at h
  split at h
  · rename_i hb
    rw [Bool.and_eq_true] at hb
    exact ⟨hb.1, getS_valid p n m hb.1 h⟩
  · cases h
end Go.Proofs.YtfjaobfaepjfnaaDoor.Eng
namespace Go.Proofs.YtfjaobfaepjfnaaDoor.Eng
open Go Go.RowKit
attribute [local simp] big size_mk ASt.pay Option.map_map Function.comp_def awant aop acall ado aev ofVal ofVal0 ASt.put ASt.add ASt.turn ASt.kill abox aalloc astore aload aloadD astoreD idOf ASt.at cellsTo afieldAddr afield aindexAddr aindex alen abin aint acmp astr aun apick aextract anil aslice abound abuild afill abuildSlice asCells aps avCells over upd aappend asrc amax amin aconv mkSt slots rowsOf_cons rowsOf_nil usedOf_cons usedOf_nil ZK.av List.replicate ASt.back ASt.addL ASt.killL nodeA nodeT nodeTL_eq nodeL_eq strsE_get strsE_len intsE_get intsE_len strsE_at intsE_at tab2 tab3 tab4 tab5 tab6 tab7 tab8 tab9 tab10 tab11 tab12 tab13 tab14 tab15 tab16 tab17 tab18 tab19 tab21 tab22 tab23 tab24 tab25 tab26 tab28 tab29 tab30 tab31 tab42 tab43 tab44 tab46 tab63 tab64 tab67 tab68 tab75 tab98 tab100 tab101 tab105 tab106 tab107 tab122 tab123 tab125 tab128 tab138 tab144 tab151 tab152 tab157 tab158 tab160 tab161 tab162
theorem isPath_AC (p : List ByteArray) (t : VC) : AC Tryd.prog 56 [.view t 1 (strsE p)] 0 (fun r => r = .bool (pathB p)) := by
  refine AC.ofGrow (enters_of Tryd.func56 (by kernel_rfl) (by kernel_rfl)) (fun w L S rb vs h => ?_)
  obtain ⟨v, rfl, h1⟩ := repL1_inv h
  obtain ⟨a, c, rfl, h2⟩ := strs_of_rep h1
  refine (isPath_ok a c p w h2).mono ?_
  rintro e w' ⟨rfl, rfl⟩
  exact ⟨_, _, rfl, Ext.refl _ _, rep_bool.2 rfl, rfl⟩
theorem validPath_AC (p : List ByteArray) (t : VC) : AC Tryd.prog 72 [.view t 1 (strsE p)] 0 (fun r => r = .bool (pathB p)) := by
  refine AC.ofGrow (enters_of Tryd.func72 (by kernel_rfl) (by kernel_rfl)) (fun w L S rb vs h => ?_)
  obtain ⟨v, rfl, h1⟩ := repL1_inv h
  obtain ⟨a, c, rfl, h2⟩ := strs_of_rep h1
  refine (validPath_ok a c p w h2).mono ?_
  rintro e w' ⟨rfl, rfl⟩
  exact ⟨_, _, rfl, Ext.refl _ _, rep_bool.2 rfl, rfl⟩
theorem bsearch_AC (xs : List ByteArray) (s : ByteArray) (t : VC) (ha : Asc xs) (hl : xs.length ≤ 1000) : AC Tryd.prog 99 [.view t 1 (strsE xs), .str s] 0 (fun r => r = .tup [.int .i64 (lbound xs s : Nat), .bool (mem xs s)]) := by
  refine AC.ofGrow (enters_of Tryd.func99 (by kernel_rfl) (by kernel_rfl)) (fun w L S rb vs h => ?_)
  obtain ⟨v, u, rfl, h1, h2⟩ := repL2_inv h
  obtain ⟨a, c, rfl, h3⟩ := strs_of_rep h1
  rw [rep_str] at h2
  obtain ⟨rfl, _⟩ := h2
  refine (bsearch_ok a c xs s w h3 ha (by omega)).mono ?_
  rintro e w' ⟨rfl, hg⟩
  exact ⟨_, .tup [.int .i64 (lbound xs s : Nat), .bool (mem xs s)], rfl, hg, rep_tup.2 ⟨[_, _], rfl, repL2 (rep_int.2 rfl) (rep_bool.2 rfl)⟩, rfl⟩
theorem kidIndex_AC (n : Nd) (st : ByteArray) (h : Shp n) : AC Tryd.prog 59 [nodeA n, .str st] 0 (fun r => r = .tup [.int .i64 (kidI n st), .bool (decide (0 ≤ placeI n st))]) := by
  have h6 := h.kids
  unfold nodeA
  rw [nodeL_eq]
  refine AC.of tab_ok mixed_ok Tryd.func59 (by rfl) (by kernel_rfl) ?_; rintro ⟨P, T, hT, hm, w0, S0, rd0, k0⟩ hP hTT; dsimp only at hP hTT; subst hP hTT; unfold initSt; rw [Tryd.ntmps59]
  by_cases h4 : n.kind = 4
  · have hm := h.map h4
    have hp := place_map h h4 st
    have pb := bsearch_AC n.names st .loose (h.asc h4) (by omega)
    (repeat (first | with_reducible refine AW.seq ?_ | ((first | refine arun_kn 4 rfl (fun C hC => ?_) | refine arunD_kn 4 rfl (fun C hC => ?_)); (repeat ((conv => whnf); simp [h4])); refine hC _ ?_; clear hC C; simp only [List.drop, Nat.reduceAdd]) | ((first | refine arun_kn 1 rfl (fun C hC => ?_) | refine arunD_kn 1 rfl (fun C hC => ?_)); (repeat ((conv => whnf); simp [h4])); refine hC _ ?_; clear hC C; simp only [List.drop, Nat.reduceAdd]) | (refine arun_skip ?_ ?_; (focus (simp [awant, h4]; done))) | (refine arun_c0 (pb) ?_; rintro _ rfl) | (refine AW.regionK [] (fun K hK => ?_)) | (refine AW.regionDK [] (pcs [] []) (by kernel_rfl) (by kernel_rfl) (fun K hK => ?_)) | (refine AW.condT ?_ ?_; (focus (simp [aev, h4]; done))) | (refine AW.condF ?_ ?_; (focus (simp [aev, h4]; done))) | with_reducible refine AW.block ?_ | ((first | ((first | refine arun_nil ?_ | refine arunD_nil ?_); refine hK _ ?_; clear hK K) | refine AW.skip ?_ | refine AW.exit ?_ | refine AW.ret ?_); simp only [thenA_exit, inBlockA_exit, if_true, if_false, Nat.reduceEqDiff, thenA_normal, inBlockA_normal, reduceIte, thenA_ret, inBlockA_ret, endQ_ret, endR_ret, endG_ret, endQ_normal, endR_normal, endG_normal])))
    refine ⟨.tup [.int .i64 (lbound n.names st : Nat), .bool (mem n.names st)], by simp [ares, aresL], tup2_pur pur_int pur_bool, ?_⟩
    unfold kidI
    rw [if_pos h4, hp]
    cases mem n.names st <;> simp
  · by_cases h3 : n.kind = 3
    · have e4 : (n.kind == 4) = false := by simpa using h4
      (repeat (first | with_reducible refine AW.seq ?_ | ((first | refine arun_kn 4 rfl (fun C hC => ?_) | refine arunD_kn 4 rfl (fun C hC => ?_)); (repeat ((conv => whnf); simp [h3, e4])); refine hC _ ?_; clear hC C; simp only [List.drop, Nat.reduceAdd]) | ((first | refine arun_kn 1 rfl (fun C hC => ?_) | refine arunD_kn 1 rfl (fun C hC => ?_)); (repeat ((conv => whnf); simp [h3, e4])); refine hC _ ?_; clear hC C; simp only [List.drop, Nat.reduceAdd]) | (refine arun_skip ?_ ?_; (focus (simp [awant, h3, e4]; done))) | (refine AW.regionK [] (fun K hK => ?_)) | (refine AW.regionDK [] (pcs [] []) (by kernel_rfl) (by kernel_rfl) (fun K hK => ?_)) | (refine AW.condT ?_ ?_; (focus (simp [aev, h3, e4]; done))) | (refine AW.condF ?_ ?_; (focus (simp [aev, h3, e4]; done))) | with_reducible refine AW.block ?_ | ((first | ((first | refine arun_nil ?_ | refine arunD_nil ?_); refine hK _ ?_; clear hK K) | refine AW.skip ?_ | refine AW.exit ?_ | refine AW.ret ?_); simp only [thenA_exit, inBlockA_exit, if_true, if_false, Nat.reduceEqDiff, thenA_normal, inBlockA_normal, reduceIte, thenA_ret, inBlockA_ret, endQ_ret, endR_ret, endG_ret, endQ_normal, endR_normal, endG_normal])))
      refine AW.loopS (fun (i : Nat) => mkSt (slots 0 31 [(1, .str st), (2, .ptr true 5 1 2 0 0), (4, .int .i64 0), (5, .bool false), (21, .int .i64 n.kids.length), (22, .int .i64 i)]) [(2, ⟨true, 26, 5, [nodeL n]⟩)] [2] (rd0.map fun _ => 0)) (fun i => n.kids.length - i) (fun i => i ≤ n.kids.length ∧ placeI n st = placeF n st (n.kids.length - i) i) 0 ?_ ⟨Nat.zero_le _, rfl⟩ ?_
      · rw [nodeL_eq]
        exact (less_of (by simp [lessL, mkSt, slots, h3]) (by simp [upd, mkSt, rowsOf_cons, h3]) (by simp [upd, mkSt, usedOf_cons, h3]) (by first | exact rd_less (by omega) | simp [mkSt, h3]) (by simp [slots, in_any, in_int, in_bool, in_str, in_ptr, in_own, in_agg, in_vnil, in_rdr, usedOf_cons, usedOf_nil, strs_in, ints_in, nodes_in, in_tup, h3]) (by simp only [List.forall_mem_cons, List.not_mem_nil, false_implies, implies_true, and_true, true_and, h3]; (repeat (first | with_reducible exact trivial | with_reducible refine And.intro ?_ ?_ | with_reducible exact in_int | with_reducible exact in_str | with_reducible exact in_bool | with_reducible exact strs_in _ | with_reducible exact nodes_in _ | with_reducible exact items_in _ | with_reducible exact in_vnil | with_reducible exact in_any | exact hin _ | with_reducible refine take_in ?_ | with_reducible exact strsE_in _ | with_reducible exact nodesE_in _ | with_reducible exact nodeL_in _ | with_reducible exact itemsE_in _ | with_reducible exact itemL_in _ | with_reducible refine app_in ?_ ?_ | with_reducible refine sing_in ?_ | (focus (simp [in_any, in_int, in_bool, in_str, in_ptr, in_own, in_agg, in_vnil, in_rdr, usedOf_cons, usedOf_nil, strs_in, ints_in, nodes_in, h3]; done)))); done))
      · rintro i ⟨hi, hf⟩
        rw [nodeL_eq]
        by_cases hlt : i < n.kids.length
        · have hw : IntKind.i64.wrap ((i : Int) + 1) = (i : Int) + 1 := i64_nat (by omega) (by omega)
          have hsub : n.kids.length - i = (n.kids.length - (i + 1)) + 1 := by omega
          rw [hsub, placeF, hit_list h3] at hf
          cases hb : eqs (txt (dig1 i)) st
          · rw [hb] at hf
            (repeat (first | with_reducible refine AW.seq ?_ | ((first | refine arun_kn 4 rfl (fun C hC => ?_) | refine arunD_kn 4 rfl (fun C hC => ?_)); (repeat ((conv => whnf); simp [hlt, hw, hb])); refine hC _ ?_; clear hC C; simp only [List.drop, Nat.reduceAdd]) | ((first | refine arun_kn 1 rfl (fun C hC => ?_) | refine arunD_kn 1 rfl (fun C hC => ?_)); (repeat ((conv => whnf); simp [hlt, hw, hb])); refine hC _ ?_; clear hC C; simp only [List.drop, Nat.reduceAdd]) | (refine arun_skip ?_ ?_; (focus (simp [awant, hlt, hw, hb]; done))) | (refine arun_c0 (Itoa_AC i (by omega)) ?_; rintro _ rfl) | (refine AW.regionK [] (fun K hK => ?_)) | (refine AW.regionDK [] (pcs [] []) (by kernel_rfl) (by kernel_rfl) (fun K hK => ?_)) | (refine AW.condT ?_ ?_; (focus (simp [aev, hlt, hw, hb]; done))) | (refine AW.condF ?_ ?_; (focus (simp [aev, hlt, hw, hb]; done))) | with_reducible refine AW.block ?_ | ((first | ((first | refine arun_nil ?_ | refine arunD_nil ?_); refine hK _ ?_; clear hK K) | refine AW.skip ?_ | refine AW.exit ?_ | refine AW.ret ?_); simp only [thenA_exit, inBlockA_exit, if_true, if_false, Nat.reduceEqDiff, thenA_normal, inBlockA_normal, reduceIte, thenA_ret, inBlockA_ret, endQ_ret, endR_ret, endG_ret, endQ_normal, endR_normal, endG_normal])))
            exact ⟨i + 1, by omega, ⟨by omega, by simpa using hf⟩, (less_of (by simp [lessL, mkSt, slots, h3]) (by simp [upd, mkSt, rowsOf_cons, h3]) (by simp [upd, mkSt, usedOf_cons, h3]) (by first | exact rd_less (by omega) | simp [mkSt, h3]) (by simp [slots, in_any, in_int, in_bool, in_str, in_ptr, in_own, in_agg, in_vnil, in_rdr, usedOf_cons, usedOf_nil, strs_in, ints_in, nodes_in, in_tup, h3]) (by simp only [List.forall_mem_cons, List.not_mem_nil, false_implies, implies_true, and_true, true_and, h3]; (repeat (first | with_reducible exact trivial | with_reducible refine And.intro ?_ ?_ | with_reducible exact in_int | with_reducible exact in_str | with_reducible exact in_bool | with_reducible exact strs_in _ | with_reducible exact nodes_in _ | with_reducible exact items_in _ | with_reducible exact in_vnil | with_reducible exact in_any | exact hin _ | with_reducible refine take_in ?_ | with_reducible exact strsE_in _ | with_reducible exact nodesE_in _ | with_reducible exact nodeL_in _ | with_reducible exact itemsE_in _ | with_reducible exact itemL_in _ | with_reducible refine app_in ?_ ?_ | with_reducible refine sing_in ?_ | (focus (simp [in_any, in_int, in_bool, in_str, in_ptr, in_own, in_agg, in_vnil, in_rdr, usedOf_cons, usedOf_nil, strs_in, ints_in, nodes_in, h3]; done)))); done))⟩
          · rw [hb] at hf
            have hf' : placeI n st = (i : Int) := by simpa using hf
            (repeat (first | with_reducible refine AW.seq ?_ | ((first | refine arun_kn 4 rfl (fun C hC => ?_) | refine arunD_kn 4 rfl (fun C hC => ?_)); (repeat ((conv => whnf); simp [hlt, hw, hb])); refine hC _ ?_; clear hC C; simp only [List.drop, Nat.reduceAdd]) | ((first | refine arun_kn 1 rfl (fun C hC => ?_) | refine arunD_kn 1 rfl (fun C hC => ?_)); (repeat ((conv => whnf); simp [hlt, hw, hb])); refine hC _ ?_; clear hC C; simp only [List.drop, Nat.reduceAdd]) | (refine arun_skip ?_ ?_; (focus (simp [awant, hlt, hw, hb]; done))) | (refine arun_c0 (Itoa_AC i (by omega)) ?_; rintro _ rfl) | (refine AW.regionK [] (fun K hK => ?_)) | (refine AW.regionDK [] (pcs [] []) (by kernel_rfl) (by kernel_rfl) (fun K hK => ?_)) | (refine AW.condT ?_ ?_; (focus (simp [aev, hlt, hw, hb]; done))) | (refine AW.condF ?_ ?_; (focus (simp [aev, hlt, hw, hb]; done))) | with_reducible refine AW.block ?_ | ((first | ((first | refine arun_nil ?_ | refine arunD_nil ?_); refine hK _ ?_; clear hK K) | refine AW.skip ?_ | refine AW.exit ?_ | refine AW.ret ?_); simp only [thenA_exit, inBlockA_exit, if_true, if_false, Nat.reduceEqDiff, thenA_normal, inBlockA_normal, reduceIte, thenA_ret, inBlockA_ret, endQ_ret, endR_ret, endG_ret, endQ_normal, endR_normal, endG_normal])))
            refine ⟨.tup [.int .i64 i, .bool true], by simp [ares, aresL], tup2_pur pur_int pur_bool, ?_⟩
            unfold kidI
            rw [if_neg h4, hf', if_pos (by omega)]
            simp
        · have hz : n.kids.length - i = 0 := by omega
          rw [hz, placeF] at hf
          (repeat (first | with_reducible refine AW.seq ?_ | ((first | refine arun_kn 4 rfl (fun C hC => ?_) | refine arunD_kn 4 rfl (fun C hC => ?_)); (repeat ((conv => whnf); simp [hlt])); refine hC _ ?_; clear hC C; simp only [List.drop, Nat.reduceAdd]) | ((first | refine arun_kn 1 rfl (fun C hC => ?_) | refine arunD_kn 1 rfl (fun C hC => ?_)); (repeat ((conv => whnf); simp [hlt])); refine hC _ ?_; clear hC C; simp only [List.drop, Nat.reduceAdd]) | (refine arun_skip ?_ ?_; (focus (simp [awant, hlt]; done))) | (refine AW.regionK [] (fun K hK => ?_)) | (refine AW.regionDK [] (pcs [] []) (by kernel_rfl) (by kernel_rfl) (fun K hK => ?_)) | (refine AW.condT ?_ ?_; (focus (simp [aev, hlt]; done))) | (refine AW.condF ?_ ?_; (focus (simp [aev, hlt]; done))) | with_reducible refine AW.block ?_ | ((first | ((first | refine arun_nil ?_ | refine arunD_nil ?_); refine hK _ ?_; clear hK K) | refine AW.skip ?_ | refine AW.exit ?_ | refine AW.ret ?_); simp only [thenA_exit, inBlockA_exit, if_true, if_false, Nat.reduceEqDiff, thenA_normal, inBlockA_normal, reduceIte, thenA_ret, inBlockA_ret, endQ_ret, endR_ret, endG_ret, endQ_normal, endR_normal, endG_normal])))
          refine ⟨.tup [.int .i64 0, .bool false], by simp [ares, aresL], tup2_pur pur_int pur_bool, ?_⟩
          unfold kidI
          rw [if_neg h4, hf]
          simp
    · have e4 : (n.kind == 4) = false := by simpa using h4
      have e3 : (n.kind == 3) = false := by simpa using h3
      (repeat (first | with_reducible refine AW.seq ?_ | ((first | refine arun_kn 4 rfl (fun C hC => ?_) | refine arunD_kn 4 rfl (fun C hC => ?_)); (repeat ((conv => whnf); simp [e3, e4])); refine hC _ ?_; clear hC C; simp only [List.drop, Nat.reduceAdd]) | ((first | refine arun_kn 1 rfl (fun C hC => ?_) | refine arunD_kn 1 rfl (fun C hC => ?_)); (repeat ((conv => whnf); simp [e3, e4])); refine hC _ ?_; clear hC C; simp only [List.drop, Nat.reduceAdd]) | (refine arun_skip ?_ ?_; (focus (simp [awant, e3, e4]; done))) | (refine AW.regionK [] (fun K hK => ?_)) | (refine AW.regionDK [] (pcs [] []) (by kernel_rfl) (by kernel_rfl) (fun K hK => ?_)) | (refine AW.condT ?_ ?_; (focus (simp [aev, e3, e4]; done))) | (refine AW.condF ?_ ?_; (focus (simp [aev, e3, e4]; done))) | with_reducible refine AW.block ?_ | ((first | ((first | refine arun_nil ?_ | refine arunD_nil ?_); refine hK _ ?_; clear hK K) | refine AW.skip ?_ | refine AW.exit ?_ | refine AW.ret ?_); simp only [thenA_exit, inBlockA_exit, if_true, if_false, Nat.reduceEqDiff, thenA_normal, inBlockA_normal, reduceIte, thenA_ret, inBlockA_ret, endQ_ret, endR_ret, endG_ret, endQ_normal, endR_normal, endG_normal])))
      refine ⟨.tup [.int .i64 0, .bool false], by simp [ares, aresL], tup2_pur pur_int pur_bool, ?_⟩
      unfold kidI
      rw [if_neg h4, place_leaf h h4 h3]
      simp
def optA (o : Option Nd) : AV := .tup [nodeA (o.getD Nd.zero), .bool o.isSome]
theorem zero_wk : Wk (node0 0 0 ⟨#[]⟩) (nodeA Nd.zero) := by
  unfold node0 nodeA
  rw [nodeL_eq]
  exact Wk.agg (.cons (Wk.refl _) (.cons (Wk.refl _) (.cons (Wk.refl _) (.cons (Wk.nil (fun h => by cases h)) (.cons (Wk.nil (fun h => by cases h)) .nil)))))
theorem tup2_wk' {a b a' b' : AV} (h1 : Wk a a') (h2 : Wk b b') : Wk (.tup [a, b]) (.tup [a', b']) := Wk.tup (.cons h1 (.cons h2 .nil))
theorem none_end : Pur (.tup [node0 0 0 ⟨#[]⟩, .bool false]) ∧ Wk (.tup [node0 0 0 ⟨#[]⟩, .bool false]) (.tup [nodeA Nd.zero, .bool false]) := ⟨tup2_pur (node0_pur 0 0 ⟨#[]⟩) pur_bool, tup2_wk' zero_wk (Wk.refl _)⟩
theorem zeroA : nodeL Nd.zero = [.int .i64 0, .int .i64 0, .str ⟨#[]⟩, .view .loose 1 [], .view .loose 5 []] := by rw [nodeL_eq]; rfl
theorem findNode_AC (t : VC) (n : Nd) (p : List ByteArray) (h : Shp n) (hp : p.length ≤ 1000) : AC Tryd.prog 74 [nodeA n, .view t 1 (strsE p)] 0 (fun r => r = optA (getS n p)) := by
  refine AC.weak ?_
  unfold nodeA
  rw [nodeL_eq]
  refine AC.of tab_ok mixed_ok Tryd.func74 (by rfl) (by kernel_rfl) ?_; rintro ⟨P, T, hT, hm, w0, S0, rd0, k0⟩ hP hTT; dsimp only at hP hTT; subst hP hTT; unfold initSt; rw [Tryd.ntmps74]
  (repeat (first | with_reducible refine AW.seq ?_ | ((first | refine arun_kn 4 rfl (fun C hC => ?_) | refine arunD_kn 4 rfl (fun C hC => ?_)); (repeat ((conv => whnf); simp [strsE_len])); refine hC _ ?_; clear hC C; simp only [List.drop, Nat.reduceAdd]) | ((first | refine arun_kn 1 rfl (fun C hC => ?_) | refine arunD_kn 1 rfl (fun C hC => ?_)); (repeat ((conv => whnf); simp [strsE_len])); refine hC _ ?_; clear hC C; simp only [List.drop, Nat.reduceAdd]) | (refine arun_skip ?_ ?_; (focus (simp [awant, strsE_len]; done))) | (refine AW.regionK [] (fun K hK => ?_)) | (refine AW.regionDK [] (pcs [] []) (by kernel_rfl) (by kernel_rfl) (fun K hK => ?_)) | (refine AW.condT ?_ ?_; (focus (simp [aev, strsE_len]; done))) | (refine AW.condF ?_ ?_; (focus (simp [aev, strsE_len]; done))) | with_reducible refine AW.block ?_ | ((first | ((first | refine arun_nil ?_ | refine arunD_nil ?_); refine hK _ ?_; clear hK K) | refine AW.skip ?_ | refine AW.exit ?_ | refine AW.ret ?_); simp only [thenA_exit, inBlockA_exit, if_true, if_false, Nat.reduceEqDiff, thenA_normal, inBlockA_normal, reduceIte, thenA_ret, inBlockA_ret, endQ_ret, endR_ret, endG_ret, endQ_normal, endR_normal, endG_normal])))
  refine AW.loopS (fun (x : Nat × Nd) => mkSt (slots 0 32 [(1, .view t 1 (strsE p)), (2, .ptr true 5 1 2 0 0), (4, .ptr true 5 1 4 0 0), (5, .bool false), (10, .view t 1 (strsE p)), (11, .int .i64 p.length), (12, .int .i64 x.1)]) [(2, ⟨true, 26, 5, [nodeL x.2]⟩), (4, ⟨true, 26, 5, [[.int .i64 0, .int .i64 0, .str ⟨#[]⟩, .view .tight 0 [], .view .tight 0 []]]⟩)] [2, 4] (rd0.map fun _ => 0)) (fun x => p.length - x.1) (fun x => x.1 ≤ p.length ∧ Shp x.2 ∧ getS n p = getS x.2 (p.drop x.1)) (0, n) ?_ ⟨Nat.zero_le _, h, rfl⟩ ?_
  · dsimp only
    rw [nodeL_eq]
    exact less_a
  · rintro ⟨i, m⟩ ⟨hi, hm, hf⟩
    dsimp only at hi hm hf ⊢
    by_cases hlt : i < p.length
    · have hw : IntKind.i64.wrap ((i : Int) + 1) = (i : Int) + 1 := i64_nat (by omega) (by omega)
      rw [List.drop_eq_getElem_cons hlt] at hf
      have pk := kidIndex_AC m p[i] hm
      have hki := kidI_eq (st := p[i]) hm
      unfold nodeA at pk
      rw [nodeL_eq] at pk ⊢
      rcases placeI_cases m p[i] with ⟨h1, _⟩ | ⟨k, h1, h2, _⟩
      · rw [getS_no _ h1] at hf
        have hd : decide (0 ≤ placeI m p[i]) = false := by rw [h1]; rfl
        rw [hd] at pk
        (repeat (first | with_reducible refine AW.seq ?_ | ((first | refine arun_kn 4 rfl (fun C hC => ?_) | refine arunD_kn 4 rfl (fun C hC => ?_)); (repeat ((conv => whnf); simp [hlt, strsE_len])); refine hC _ ?_; clear hC C; simp only [List.drop, Nat.reduceAdd]) | ((first | refine arun_kn 1 rfl (fun C hC => ?_) | refine arunD_kn 1 rfl (fun C hC => ?_)); (repeat ((conv => whnf); simp [hlt, strsE_len])); refine hC _ ?_; clear hC C; simp only [List.drop, Nat.reduceAdd]) | (refine arun_skip ?_ ?_; (focus (simp [awant, hlt, strsE_len]; done))) | (refine arun_c0 (pk) ?_; rintro _ rfl) | (refine AW.regionK [] (fun K hK => ?_)) | (refine AW.regionDK [] (pcs [] []) (by kernel_rfl) (by kernel_rfl) (fun K hK => ?_)) | (refine AW.condT ?_ ?_; (focus (simp [aev, hlt, strsE_len]; done))) | (refine AW.condF ?_ ?_; (focus (simp [aev, hlt, strsE_len]; done))) | with_reducible refine AW.block ?_ | ((first | ((first | refine arun_nil ?_ | refine arunD_nil ?_); refine hK _ ?_; clear hK K) | refine AW.skip ?_ | refine AW.exit ?_ | refine AW.ret ?_); simp only [thenA_exit, inBlockA_exit, if_true, if_false, Nat.reduceEqDiff, thenA_normal, inBlockA_normal, reduceIte, thenA_ret, inBlockA_ret, endQ_ret, endR_ret, endG_ret, endQ_normal, endR_normal, endG_normal])))
        refine ⟨.tup [node0 0 0 ⟨#[]⟩, .bool false], by simp [node0, ares, aresL, upd, rowsOf_cons], none_end.1, _, none_end.2, by rw [hf]; rfl⟩
      · rw [getS_yes _ h1 h2] at hf
        have hd : decide (0 ≤ placeI m p[i]) = true := by rw [h2]; simp
        rw [hd, hki (by omega), h2] at pk
        (repeat (first | with_reducible refine AW.seq ?_ | ((first | refine arun_kn 4 rfl (fun C hC => ?_) | refine arunD_kn 4 rfl (fun C hC => ?_)); (repeat ((conv => whnf); simp [hlt, hw, h1, strsE_len])); refine hC _ ?_; clear hC C; simp only [List.drop, Nat.reduceAdd]) | ((first | refine arun_kn 1 rfl (fun C hC => ?_) | refine arunD_kn 1 rfl (fun C hC => ?_)); (repeat ((conv => whnf); simp [hlt, hw, h1, strsE_len])); refine hC _ ?_; clear hC C; simp only [List.drop, Nat.reduceAdd]) | (refine arun_skip ?_ ?_; (focus (simp [awant, hlt, hw, h1, strsE_len]; done))) | (refine arun_c0 (pk) ?_; rintro _ rfl) | (refine AW.regionK [] (fun K hK => ?_)) | (refine AW.regionDK [] (pcs [] []) (by kernel_rfl) (by kernel_rfl) (fun K hK => ?_)) | (refine AW.condT ?_ ?_; (focus (simp [aev, hlt, hw, h1, strsE_len]; done))) | (refine AW.condF ?_ ?_; (focus (simp [aev, hlt, hw, h1, strsE_len]; done))) | with_reducible refine AW.block ?_ | ((first | ((first | refine arun_nil ?_ | refine arunD_nil ?_); refine hK _ ?_; clear hK K) | refine AW.skip ?_ | refine AW.exit ?_ | refine AW.ret ?_); simp only [thenA_exit, inBlockA_exit, if_true, if_false, Nat.reduceEqDiff, thenA_normal, inBlockA_normal, reduceIte, thenA_ret, inBlockA_ret, endQ_ret, endR_ret, endG_ret, endQ_normal, endR_normal, endG_normal])))
        refine ⟨(i + 1, m.kids[k]), by dsimp only; omega, ⟨by dsimp only; omega, hm.kid (List.getElem_mem h1), hf⟩, ?_⟩
        dsimp only
        exact less_a
    · rw [List.drop_eq_nil_of_le (by omega), getS] at hf
      rw [nodeL_eq]
      (repeat (first | with_reducible refine AW.seq ?_ | ((first | refine arun_kn 4 rfl (fun C hC => ?_) | refine arunD_kn 4 rfl (fun C hC => ?_)); (repeat ((conv => whnf); simp [hlt, strsE_len])); refine hC _ ?_; clear hC C; simp only [List.drop, Nat.reduceAdd]) | ((first | refine arun_kn 1 rfl (fun C hC => ?_) | refine arunD_kn 1 rfl (fun C hC => ?_)); (repeat ((conv => whnf); simp [hlt, strsE_len])); refine hC _ ?_; clear hC C; simp only [List.drop, Nat.reduceAdd]) | (refine arun_skip ?_ ?_; (focus (simp [awant, hlt, strsE_len]; done))) | (refine AW.regionK [] (fun K hK => ?_)) | (refine AW.regionDK [] (pcs [] []) (by kernel_rfl) (by kernel_rfl) (fun K hK => ?_)) | (refine AW.condT ?_ ?_; (focus (simp [aev, hlt, strsE_len]; done))) | (refine AW.condF ?_ ?_; (focus (simp [aev, hlt, strsE_len]; done))) | with_reducible refine AW.block ?_ | ((first | ((first | refine arun_nil ?_ | refine arunD_nil ?_); refine hK _ ?_; clear hK K) | refine AW.skip ?_ | refine AW.exit ?_ | refine AW.ret ?_); simp only [thenA_exit, inBlockA_exit, if_true, if_false, Nat.reduceEqDiff, thenA_normal, inBlockA_normal, reduceIte, thenA_ret, inBlockA_ret, endQ_ret, endR_ret, endG_ret, endQ_normal, endR_normal, endG_normal])))
      exact ⟨.tup [nodeA m, .bool true], by simp [nodeA, nodeL_eq, ares, aresL, upd, rowsOf_cons], tup2_pur (node_pur m) pur_bool, _, Wk.refl _, by rw [hf]; rfl⟩
theorem NodeAt_AC (t : VC) (n : Nd) (p : List ByteArray) : AC Tryd.prog 33 [nodeA n, .view t 1 (strsE p)] 0 (fun r => r = optA (natS n p)) := by
  refine AC.weak ?_
  have p1 := ValidNode_AC n .loose
  have p2 := isPath_AC p t
  unfold nodeA
  rw [nodeL_eq]
  refine AC.of tab_ok mixed_ok Tryd.func33 (by rfl) (by kernel_rfl) ?_; rintro ⟨P, T, hT, hm, w0, S0, rd0, k0⟩ hP hTT; dsimp only at hP hTT; subst hP hTT; unfold initSt; rw [Tryd.ntmps33]
  cases hv : validB n <;> rw [hv] at p1
  · have e : natS n p = none := by unfold natS; rw [hv]; rfl
    (repeat (first | with_reducible refine AW.seq ?_ | ((first | refine arun_kn 4 rfl (fun C hC => ?_) | refine arunD_kn 4 rfl (fun C hC => ?_)); (repeat ((conv => whnf); simp)); refine hC _ ?_; clear hC C; simp only [List.drop, Nat.reduceAdd]) | ((first | refine arun_kn 1 rfl (fun C hC => ?_) | refine arunD_kn 1 rfl (fun C hC => ?_)); (repeat ((conv => whnf); simp)); refine hC _ ?_; clear hC C; simp only [List.drop, Nat.reduceAdd]) | (refine arun_skip ?_ ?_; (focus (simp [awant]; done))) | (refine arun_c0 (p1) ?_; rintro _ rfl) | (refine arun_c0 (p2) ?_; rintro _ rfl) | (refine AW.regionK [] (fun K hK => ?_)) | (refine AW.regionDK [] (pcs [] []) (by kernel_rfl) (by kernel_rfl) (fun K hK => ?_)) | (refine AW.condT ?_ ?_; (focus (simp [aev]; done))) | (refine AW.condF ?_ ?_; (focus (simp [aev]; done))) | with_reducible refine AW.block ?_ | ((first | ((first | refine arun_nil ?_ | refine arunD_nil ?_); refine hK _ ?_; clear hK K) | refine AW.skip ?_ | refine AW.exit ?_ | refine AW.ret ?_); simp only [thenA_exit, inBlockA_exit, if_true, if_false, Nat.reduceEqDiff, thenA_normal, inBlockA_normal, reduceIte, thenA_ret, inBlockA_ret, endQ_ret, endR_ret, endG_ret, endQ_normal, endR_normal, endG_normal])))
    refine ⟨.tup [node0 0 0 ⟨#[]⟩, .bool false], by simp [node0, ares, aresL, upd, rowsOf_cons], none_end.1, _, none_end.2, by rw [e]; rfl⟩
  · cases hb : pathB p <;> rw [hb] at p2
    · have e : natS n p = none := by unfold natS; rw [hv, hb]; rfl
      (repeat (first | with_reducible refine AW.seq ?_ | ((first | refine arun_kn 4 rfl (fun C hC => ?_) | refine arunD_kn 4 rfl (fun C hC => ?_)); (repeat ((conv => whnf); simp)); refine hC _ ?_; clear hC C; simp only [List.drop, Nat.reduceAdd]) | ((first | refine arun_kn 1 rfl (fun C hC => ?_) | refine arunD_kn 1 rfl (fun C hC => ?_)); (repeat ((conv => whnf); simp)); refine hC _ ?_; clear hC C; simp only [List.drop, Nat.reduceAdd]) | (refine arun_skip ?_ ?_; (focus (simp [awant]; done))) | (refine arun_c0 (p1) ?_; rintro _ rfl) | (refine arun_c0 (p2) ?_; rintro _ rfl) | (refine AW.regionK [] (fun K hK => ?_)) | (refine AW.regionDK [] (pcs [] []) (by kernel_rfl) (by kernel_rfl) (fun K hK => ?_)) | (refine AW.condT ?_ ?_; (focus (simp [aev]; done))) | (refine AW.condF ?_ ?_; (focus (simp [aev]; done))) | with_reducible refine AW.block ?_ | ((first | ((first | refine arun_nil ?_ | refine arunD_nil ?_); refine hK _ ?_; clear hK K) | refine AW.skip ?_ | refine AW.exit ?_ | refine AW.ret ?_); simp only [thenA_exit, inBlockA_exit, if_true, if_false, Nat.reduceEqDiff, thenA_normal, inBlockA_normal, reduceIte, thenA_ret, inBlockA_ret, endQ_ret, endR_ret, endG_ret, endQ_normal, endR_normal, endG_normal])))
      refine ⟨.tup [node0 0 0 ⟨#[]⟩, .bool false], by simp [node0, ares, aresL, upd, rowsOf_cons], none_end.1, _, none_end.2, by rw [e]; rfl⟩
    · have e : natS n p = getS n p := by unfold natS; rw [hv, hb]; rfl
      have hpl : p.length ≤ 1000 := by unfold pathB at hb; simp at hb; omega
      have p3 := findNode_AC t n p (Shp.of hv) hpl
      unfold nodeA at p3
      rw [nodeL_eq] at p3
      rw [e]
      cases hg : getS n p with
      | none =>
        rw [hg] at p3
        unfold optA at p3
        have hz : nodeA ((none : Option Nd).getD Nd.zero) = .agg (nodeL Nd.zero) := rfl
        rw [hz, zeroA, Option.isSome_none] at p3
        (repeat (first | with_reducible refine AW.seq ?_ | ((first | refine arun_kn 4 rfl (fun C hC => ?_) | refine arunD_kn 4 rfl (fun C hC => ?_)); (repeat ((conv => whnf); simp)); refine hC _ ?_; clear hC C; simp only [List.drop, Nat.reduceAdd]) | ((first | refine arun_kn 1 rfl (fun C hC => ?_) | refine arunD_kn 1 rfl (fun C hC => ?_)); (repeat ((conv => whnf); simp)); refine hC _ ?_; clear hC C; simp only [List.drop, Nat.reduceAdd]) | (refine arun_skip ?_ ?_; (focus (simp [awant]; done))) | (refine arun_c0 (p1) ?_; rintro _ rfl) | (refine arun_c0 (p2) ?_; rintro _ rfl) | (refine arun_c0 (p3) ?_; rintro _ rfl) | (refine AW.regionK [] (fun K hK => ?_)) | (refine AW.regionDK [] (pcs [] []) (by kernel_rfl) (by kernel_rfl) (fun K hK => ?_)) | (refine AW.condT ?_ ?_; (focus (simp [aev]; done))) | (refine AW.condF ?_ ?_; (focus (simp [aev]; done))) | with_reducible refine AW.block ?_ | ((first | ((first | refine arun_nil ?_ | refine arunD_nil ?_); refine hK _ ?_; clear hK K) | refine AW.skip ?_ | refine AW.exit ?_ | refine AW.ret ?_); simp only [thenA_exit, inBlockA_exit, if_true, if_false, Nat.reduceEqDiff, thenA_normal, inBlockA_normal, reduceIte, thenA_ret, inBlockA_ret, endQ_ret, endR_ret, endG_ret, endQ_normal, endR_normal, endG_normal])))
        refine ⟨.tup [node0 0 0 ⟨#[]⟩, .bool false], by simp [node0, ares, aresL, upd, rowsOf_cons], none_end.1, _, none_end.2, rfl⟩
      | some m =>
        rw [hg] at p3
        unfold optA at p3
        have p4 := implCopy_AC m (getS_shp p n m (Shp.of hv) hg).sml
        have hz : nodeA ((some m : Option Nd).getD Nd.zero) = .agg (nodeL m) := rfl
        rw [hz, nodeL_eq, Option.isSome_some] at p3
        unfold nodeA at p4
        rw [nodeL_eq] at p4
        (repeat (first | with_reducible refine AW.seq ?_ | ((first | refine arun_kn 4 rfl (fun C hC => ?_) | refine arunD_kn 4 rfl (fun C hC => ?_)); (repeat ((conv => whnf); simp)); refine hC _ ?_; clear hC C; simp only [List.drop, Nat.reduceAdd]) | ((first | refine arun_kn 1 rfl (fun C hC => ?_) | refine arunD_kn 1 rfl (fun C hC => ?_)); (repeat ((conv => whnf); simp)); refine hC _ ?_; clear hC C; simp only [List.drop, Nat.reduceAdd]) | (refine arun_skip ?_ ?_; (focus (simp [awant]; done))) | (refine arun_c0 (p1) ?_; rintro _ rfl) | (refine arun_c0 (p2) ?_; rintro _ rfl) | (refine arun_c0 (p3) ?_; rintro _ rfl) | (refine arun_c0 (p4) ?_; rintro _ rfl) | (refine AW.regionK [] (fun K hK => ?_)) | (refine AW.regionDK [] (pcs [] []) (by kernel_rfl) (by kernel_rfl) (fun K hK => ?_)) | (refine AW.condT ?_ ?_; (focus (simp [aev]; done))) | (refine AW.condF ?_ ?_; (focus (simp [aev]; done))) | with_reducible refine AW.block ?_ | ((first | ((first | refine arun_nil ?_ | refine arunD_nil ?_); refine hK _ ?_; clear hK K) | refine AW.skip ?_ | refine AW.exit ?_ | refine AW.ret ?_); simp only [thenA_exit, inBlockA_exit, if_true, if_false, Nat.reduceEqDiff, thenA_normal, inBlockA_normal, reduceIte, thenA_ret, inBlockA_ret, endQ_ret, endR_ret, endG_ret, endQ_normal, endR_normal, endG_normal])))
        exact ⟨.tup [nodeA m, .bool true], by simp [nodeA, nodeL_eq, ares, aresL, upd, rowsOf_cons], tup2_pur (node_pur m) pur_bool, _, Wk.refl _, rfl⟩
end Go.Proofs.YtfjaobfaepjfnaaDoor.Eng
namespace Go.Proofs.YtfjaobfaepjfnaaDoor.Eng
open Go Go.RowKit
def setK (n : Nd) (k : Nat) (v : Nd) : Nd := ⟨n.kind, n.num, n.text, n.names, n.kids.set k v⟩
def setS : Nd → List ByteArray → Nd → Option Nd
  | _, [], v => some v
  | n, s :: p, v => if 0 ≤ placeI n s then (setS ((n.kids[(placeI n s).toNat]?).getD Nd.zero) p v).map (setK n (placeI n s).toNat) else none
theorem setS_no {n v : Nd} {s : ByteArray} (p : List ByteArray) (h : placeI n s = -1) : setS n (s :: p) v = none := by
  rw [setS, if_neg (by omega)]
theorem setS_yes {n v : Nd} {s : ByteArray} (p : List ByteArray) {k : Nat} (hk : k < n.kids.length) (h : placeI n s = (k : Int)) : setS n (s :: p) v = (setS n.kids[k] p v).map (setK n k) := by
  rw [setS, h, if_pos (by omega)]
  simp [hk]
theorem setK_sml {n v : Nd} {k : Nat} (hn : Sml n) (hv : Sml v) : Sml (setK n k v) :=
  .mk _ hn.names (by simp only [setK, List.length_set]; exact hn.kids) (fun x hx => by
    rcases List.mem_or_eq_of_mem_set hx with h | rfl
    · exact hn.kid h
    · exact hv)
theorem setS_sml : ∀ (p : List ByteArray) (n v m : Nd), Shp n → Sml v → setS n p v = some m → Sml m
  | [], n, v, m, _, hv, h => by rw [setS] at h; cases h; exact hv
  | s :: p, n, v, m, hn, hv, h => by
    rcases placeI_cases n s with ⟨h1, _⟩ | ⟨k, h1, h2, _⟩
    · rw [setS_no p h1] at h; cases h
    · rw [setS_yes p h1 h2] at h
      obtain ⟨x, hx, rfl⟩ := Option.map_eq_some_iff.1 h
      exact setK_sml hn.sml (setS_sml p _ v x (hn.kid (List.getElem_mem h1)) hv hx)
structure Slt (n : Nd) : Prop where
  map : n.kind = 4 → n.names.length = n.kids.length
  lst : n.kind = 3 → n.kids.length ≤ 6
  sml : Sml n
theorem Slt.plc {n : Nd} (h : Slt n) : Plc n := ⟨fun h4 => by have := h.map h4; omega, fun h3 => by have := h.lst h3; omega⟩
end Go.Proofs.YtfjaobfaepjfnaaDoor.Eng
-- EV: fresh
namespace Go.Proofs.YtfjaobfaepjfnaaDoor.Eng
open Go Go.RowKit
attribute [local simp] big size_mk ASt.pay Option.map_map Function.comp_def awant aop acall ado aev ofVal ofVal0 ASt.put ASt.add ASt.turn ASt.kill abox aalloc astore aload aloadD astoreD idOf ASt.at cellsTo afieldAddr afield aindexAddr aindex alen abin aint acmp astr aun apick aextract anil aslice abound abuild afill abuildSlice asCells aps avCells over upd aappend asrc amax amin aconv mkSt slots rowsOf_cons rowsOf_nil usedOf_cons usedOf_nil ZK.av List.replicate ASt.back ASt.addL ASt.killL nodeA nodeT nodeTL_eq nodeL_eq strsE_get strsE_len intsE_get intsE_len strsE_at intsE_at tab2 tab3 tab4 tab5 tab6 tab7 tab8 tab9 tab10 tab11 tab12 tab13 tab14 tab15 tab16 tab17 tab18 tab19 tab21 tab22 tab23 tab24 tab25 tab26 tab28 tab29 tab30 tab31 tab42 tab43 tab44 tab46 tab63 tab64 tab67 tab68 tab75 tab98 tab100 tab101 tab105 tab106 tab107 tab122 tab123 tab125 tab128 tab138 tab144 tab151 tab152 tab157 tab158 tab160 tab161 tab162
def chgS : Nd → List ByteArray → (Nd → Option Nd) → Option Nd
  | n, [], g => g n
  | n, s :: p, g => if 0 ≤ placeI n s then (chgS ((n.kids[(placeI n s).toNat]?).getD Nd.zero) p g).map (setK n (placeI n s).toNat) else none
theorem chgS_no {n : Nd} {s : ByteArray} (p : List ByteArray) (g : Nd → Option Nd) (h : placeI n s = -1) : chgS n (s :: p) g = none := by
  rw [chgS, if_neg (by omega)]
theorem chgS_yes {n : Nd} {s : ByteArray} (p : List ByteArray) (g : Nd → Option Nd) {k : Nat} (hk : k < n.kids.length) (h : placeI n s = (k : Int)) : chgS n (s :: p) g = (chgS n.kids[k] p g).map (setK n k) := by
  rw [chgS, h, if_pos (by omega)]
  simp [hk]
theorem chgS_set : ∀ (p : List ByteArray) (n v : Nd), chgS n p (fun _ => some v) = setS n p v
  | [], n, v => by rw [chgS, setS]
  | s :: p, n, v => by
    rw [chgS, setS]
    split
    · rw [chgS_set p]
    · rfl
theorem cloL_mem : ∀ {l : List AV}, cloL l → ∀ x ∈ l, Clo x
  | [], _, x, hx => by cases hx
  | y :: l, h, x, hx => by
    rcases List.mem_cons.1 hx with rfl | hx
    · exact h.1
    · exact cloL_mem h.2 x hx
def rNBX (m : Nd) (b : Bool) (r : AV) : Prop := ∃ l : Lb, l.nd = m ∧ l.fp.Nodup ∧ r = .tup [.agg [.int .i64 l.kind, .int .i64 l.num, .str l.text, .view (.fr l.nb) 1 (strsE l.names), .view (.fr l.kb) 5 (l.kids.map labL)], .bool b]
theorem rNB_X {m : Nd} {b : Bool} {r : AV} (h : rNB m b r) : rNBX m b r := by
  obtain ⟨l, h1, h2, rfl⟩ := h
  exact ⟨l, h1, h2, by unfold labA; rw [labL_eq]⟩
theorem rNBX_ex (m : Nd) (b : Bool) {A : Nat → Prop} {N : Nat} (hN : ∀ b, A b → b < N) : ∃ r, (rNBX m b r ∧ ∀ b ∈ atB r, ¬ A b) ∧ NoId r := by
  obtain ⟨l, M, h1, h2, _, h4⟩ := lab_ex m N
  have hr : rNB m b (.tup [labA l, .bool b]) := ⟨l, h1, h2, rfl⟩
  exact ⟨_, ⟨rNB_X hr, fun b hb ha => by rw [at_tup2] at hb; have := (h4 b hb).1; have := hN b ha; omega⟩, in_tup.2 (by
    simp only [List.forall_mem_cons, List.not_mem_nil, false_implies, implies_true, and_true]
    exact ⟨lab_in l, in_bool⟩)⟩
theorem back_copyF {s : ASt} {n : Nd} {ks : List Lb} {A B : Nat} (hAB : A ≠ B) (uA : s.used A = false) (uB : s.used B = false) : Back s [] (fun _ => 0) (fun k => if k = 20 then A else B) [(20, namesR n.names), (34, labsR ks)] [(A, namesR n.names), (B, labsR ks)] (nodeRR n 20 34) (nodeRR n A B) := by
  refine ⟨?_, ?_, ?_, ?_⟩
  · intro k hk k' hk'
    simp only [List.map_cons, List.map_nil, List.mem_cons, List.not_mem_nil, or_false] at hk hk'
    rcases hk with rfl | rfl <;> rcases hk' with rfl | rfl <;> simp <;> intro h <;> first | exact absurd h hAB | exact absurd h.symm hAB
  · intro k R hk
    right
    show s.used (if k = 20 then A else B) = false
    split
    · exact uA
    · exact uB
  · exact .cons (es := (namesR n.names).es) rfl (.refl (strsE_pur _)) (.cons (es := (labsR ks).es) rfl (.refl (labsE_pur _)) .nil)
  · exact .base (.agg (.cons (.pur pur_int) (.cons (.pur pur_int) (.cons (.pur pur_str) (.cons (.own (by simp) rfl) (.cons (.own (by simp) rfl) .nil))))))
theorem fp_set {ks : List Lb} {l : Lb} (k : Nat) (h : (ks.flatMap Lb.fp).Nodup) (hl : l.fp.Nodup) (ha : ∀ b ∈ l.fp, ¬ b ∈ ks.flatMap Lb.fp) : ((ks.set k l).flatMap Lb.fp).Nodup := by
  induction ks generalizing k with
  | nil => simp
  | cons x ks ih =>
    rw [List.flatMap_cons] at h ha
    obtain ⟨h1, h2, h3⟩ := List.nodup_append.1 h
    cases k with
    | zero =>
      rw [List.set_cons_zero, List.flatMap_cons]
      exact List.nodup_append.2 ⟨hl, h2, fun a ha1 b hb e => ha a ha1 (List.mem_append_right _ (e ▸ hb))⟩
    | succ k =>
      rw [List.set_cons_succ, List.flatMap_cons]
      refine List.nodup_append.2 ⟨h1, ih k h2 (fun b hb hm => ha b hb (List.mem_append_right _ hm)), fun a ha1 b hb e => ?_⟩
      subst e
      obtain ⟨y, hy, hb⟩ := List.mem_flatMap.1 hb
      rcases List.mem_or_eq_of_mem_set hy with hy | hy
      · exact h3 a ha1 a (List.mem_flatMap.2 ⟨y, hy, hb⟩) rfl
      · exact ha a (hy ▸ hb) (List.mem_append_left _ ha1)
theorem fp_set_mem {ks : List Lb} {l : Lb} {k b : Nat} (h : b ∈ (ks.set k l).flatMap Lb.fp) : b ∈ ks.flatMap Lb.fp ∨ b ∈ l.fp := by
  obtain ⟨y, hy, hb⟩ := List.mem_flatMap.1 h
  rcases List.mem_or_eq_of_mem_set hy with hy | rfl
  · exact .inl (List.mem_flatMap.2 ⟨y, hy, hb⟩)
  · exact .inr hb
theorem changeAt_ACF (f : FuncId) (cs : List AV) (hcs : cloL cs) (hci : ∀ c ∈ cs, NoId c) (g : Nd → Option Nd) : ∀ (p : List ByteArray) (n : Nd) (t : VC), Shp n → (∀ m, getS n p = some m → ACF Tryd.prog f (nodeA m :: cs) 0 (rNB ((g m).getD Nd.zero) (g m).isSome)) →
    ACF Tryd.prog 57 [nodeA n, .view t 1 (strsE p), .fn f cs] 0 (rNB ((chgS n p g).getD Nd.zero) (chgS n p g).isSome)
  | [], n, t, hn, hg => by
    have hgn := (hg n rfl).mono (fun r h => rNB_X h)
    have hcn := node_clo n
    refine ACF.weak ?_
    unfold nodeA at hgn hcn ⊢
    rw [nodeL_eq] at hgn hcn ⊢
    refine ACF.of tab_ok mixed_ok Tryd.func57 (by rfl) (by kernel_rfl) ?_; rintro ⟨P, T, hT, hm, w0, S0, rd0, k0⟩ hP hTT hN; dsimp only at hP hTT hN; subst hP hTT; dsimp only; unfold initSt; rw [Tryd.ntmps57]
    (repeat (first | with_reducible refine AW.seq ?_ | ((first | refine arun_kn 4 rfl (fun C hC => ?_) | refine arunD_kn 4 rfl (fun C hC => ?_)); (repeat ((conv => whnf); simp [strsE_len])); refine hC _ ?_; clear hC C; simp only [List.drop, Nat.reduceAdd]) | ((first | refine arun_kn 1 rfl (fun C hC => ?_) | refine arunD_kn 1 rfl (fun C hC => ?_)); (repeat ((conv => whnf); simp [strsE_len])); refine hC _ ?_; clear hC C; simp only [List.drop, Nat.reduceAdd]) | (refine arun_skip ?_ ?_; (focus (simp [awant, strsE_len]; done))) | (refine AW.regionK [] (fun K hK => ?_)) | (refine AW.regionDK [] (pcs [] []) (by kernel_rfl) (by kernel_rfl) (fun K hK => ?_)) | (refine AW.condT ?_ ?_; (focus (simp [aev, strsE_len]; done))) | (refine AW.condF ?_ ?_; (focus (simp [aev, strsE_len]; done))) | with_reducible refine AW.block ?_ | ((first | ((first | refine arun_nil ?_ | refine arunD_nil ?_); refine hK _ ?_; clear hK K) | refine AW.skip ?_ | refine AW.exit ?_ | refine AW.ret ?_); simp only [thenA_exit, inBlockA_exit, if_true, if_false, Nat.reduceEqDiff, thenA_normal, inBlockA_normal, reduceIte, thenA_ret, inBlockA_ret, endQ_ret, endR_ret, endG_ret, endQ_normal, endR_normal, endG_normal, endF_ret, endF_normal])))
    refine arun_callFn rfl (by rfl) (by simp [awant]) (by simp [aev]) hgn ⟨hcn, hcs⟩ (can_of (Nat.le_refl _)) ?_
    rintro _ ⟨l, hl, hlp, rfl⟩ hA
    (repeat (first | with_reducible refine AW.seq ?_ | ((first | refine arun_kn 4 rfl (fun C hC => ?_) | refine arunD_kn 4 rfl (fun C hC => ?_)); (repeat ((conv => whnf); simp [strsE_len])); refine hC _ ?_; clear hC C; simp only [List.drop, Nat.reduceAdd]) | ((first | refine arun_kn 1 rfl (fun C hC => ?_) | refine arunD_kn 1 rfl (fun C hC => ?_)); (repeat ((conv => whnf); simp [strsE_len])); refine hC _ ?_; clear hC C; simp only [List.drop, Nat.reduceAdd]) | (refine arun_skip ?_ ?_; (focus (simp [awant, strsE_len]; done))) | (refine AW.regionK [] (fun K hK => ?_)) | (refine AW.regionDK [] (pcs [] []) (by kernel_rfl) (by kernel_rfl) (fun K hK => ?_)) | (refine AW.condT ?_ ?_; (focus (simp [aev, strsE_len]; done))) | (refine AW.condF ?_ ?_; (focus (simp [aev, strsE_len]; done))) | with_reducible refine AW.block ?_ | ((first | ((first | refine arun_nil ?_ | refine arunD_nil ?_); refine hK _ ?_; clear hK K) | refine AW.skip ?_ | refine AW.exit ?_ | refine AW.ret ?_); simp only [thenA_exit, inBlockA_exit, if_true, if_false, Nat.reduceEqDiff, thenA_normal, inBlockA_normal, reduceIte, thenA_ret, inBlockA_ret, endQ_ret, endR_ret, endG_ret, endQ_normal, endR_normal, endG_normal, endF_ret, endF_normal])))
    have hA' : ∀ b ∈ l.fp, ¬ w0.A b := fun b hb => hA b (by rw [at_tup, atL_cons, at_agg, ← labL_eq]; exact List.mem_append_left _ hb)
    rw [chgS]
    exact ⟨.tup [labA l, .bool (g n).isSome], by simp [labA, labL_eq, ares, aresL, upd, rowsOf_cons], tup2_pur (lab_pur l) pur_bool, fun b hb => by rw [at_tup2] at hb; exact hN.ge (hA' b hb), _, Wk.refl _, fun _ h => h, l, hl, hlp, rfl⟩
  | s :: q, n, t, hn, hg => by
    have e1 : strsE (s :: q) = [.str s] :: strsE q := rfl
    have pk := kidIndex_AC n s hn
    have hki := kidI_eq (st := s) hn
    have hcf : Clo (.fn f cs) := clo_fn (cloL_mem hcs)
    have p5 := implCopyF_ACM n hn.sml
    have hcn := node_clo n
    refine ACF.weak ?_
    unfold nodeA at pk p5 hcn ⊢
    rw [nodeL_eq] at pk p5 hcn ⊢
    rw [e1]
    have hlz : ((q.length + 1 : Nat) : Int) ≠ 0 := by omega
    have htk : (strsE q).take q.length = strsE q := List.take_of_length_le (by rw [strsE_len]; exact Nat.le_refl _)
    have hlo1 : ¬ (q.length : Int) + 1 < 1 := by omega
    have hlo2 : 1 ≤ q.length + 1 := by omega
    have hlo3 : (1 : Int) ≤ (q.length : Int) + 1 := by omega
    have hlz' : (((q.length : Int) + 1) == 0) = false := beq_false_of_ne (by omega)
    refine ACF.of tab_ok mixed_ok Tryd.func57 (by rfl) (by kernel_rfl) ?_; rintro ⟨P, T, hT, hm, w0, S0, rd0, k0⟩ hP hTT hN; dsimp only at hP hTT hN; subst hP hTT; dsimp only; unfold initSt; rw [Tryd.ntmps57]
    rcases placeI_cases n s with ⟨h1, _⟩ | ⟨k, h1, h2, _⟩
    · have hd : decide (0 ≤ placeI n s) = false := by rw [h1]; rfl
      rw [hd] at pk
      rw [chgS_no q g h1]
      generalize kidI n s = ki at pk
      (repeat (first | with_reducible refine AW.seq ?_ | ((first | refine arun_kn 4 rfl (fun C hC => ?_) | refine arunD_kn 4 rfl (fun C hC => ?_)); (repeat ((conv => whnf); simp [strsE_len, hlz, hlz'])); refine hC _ ?_; clear hC C; simp only [List.drop, Nat.reduceAdd]) | ((first | refine arun_kn 1 rfl (fun C hC => ?_) | refine arunD_kn 1 rfl (fun C hC => ?_)); (repeat ((conv => whnf); simp [strsE_len, hlz, hlz'])); refine hC _ ?_; clear hC C; simp only [List.drop, Nat.reduceAdd]) | (refine arun_skip ?_ ?_; (focus (simp [awant, strsE_len, hlz, hlz']; done))) | (refine arun_c0 (pk) ?_; rintro _ rfl) | (refine arunD_c (0) (pk) ?_; rintro _ rfl; intro _) | (refine AW.regionK [] (fun K hK => ?_)) | (refine AW.regionDK [] (pcs [(4, 0, fun r => r = .tup [.int .i64 ki, .bool false])] []) (by kernel_rfl) (by kernel_rfl) (fun K hK => ?_)) | (refine AW.condT ?_ ?_; (focus (simp [aev, strsE_len, hlz, hlz']; done))) | (refine AW.condF ?_ ?_; (focus (simp [aev, strsE_len, hlz, hlz']; done))) | with_reducible refine AW.block ?_ | ((first | ((first | refine arun_nil ?_ | refine arunD_nil ?_); refine hK _ ?_; clear hK K) | refine AW.skip ?_ | refine AW.exit ?_ | refine AW.ret ?_); simp only [thenA_exit, inBlockA_exit, if_true, if_false, Nat.reduceEqDiff, thenA_normal, inBlockA_normal, reduceIte, thenA_ret, inBlockA_ret, endQ_ret, endR_ret, endG_ret, endQ_normal, endR_normal, endG_normal, endF_ret, endF_normal])))
      obtain ⟨z1, z2, z3⟩ := rNB_none (r := .tup [node0 0 0 ⟨#[]⟩, .bool false]) rfl
      exact ⟨.tup [node0 0 0 ⟨#[]⟩, .bool false], by simp [node0, ares, aresL, upd, rowsOf_cons], z1, z2 _, z3⟩
    · have hd : decide (0 ≤ placeI n s) = true := by rw [h2]; simp
      rw [hd, hki (by omega), h2] at pk
      rw [chgS_yes q g h1 h2]
      have hk0 : ¬ ((k : Int) < 0) := by omega
      have hkid := hn.kid (List.getElem_mem h1)
      have ih := (changeAt_ACF f cs hcs hci g q n.kids[k] t.cut hkid (fun m hm => hg m (by rw [getS_yes q h1 h2]; exact hm))).mono (fun r h => rNB_X h)
      unfold nodeA at ih
      rw [nodeL_eq] at ih
      generalize chgS n.kids[k] q g = o at ih ⊢
      obtain ⟨bb, hbb⟩ : ∃ bb, bb = o.isSome := ⟨_, rfl⟩
      rw [← hbb] at ih
      refine AW.bound (fun N hNb => ?_)
      (repeat (first | with_reducible refine AW.seq ?_ | ((first | refine arun_kn 4 rfl (fun C hC => ?_) | refine arunD_kn 4 rfl (fun C hC => ?_)); (repeat ((conv => whnf); simp [strsE_len, hlz, hlz', h1, hk0, hlo1, hlo2, hlo3, htk])); refine hC _ ?_; clear hC C; simp only [List.drop, Nat.reduceAdd]) | ((first | refine arun_kn 1 rfl (fun C hC => ?_) | refine arunD_kn 1 rfl (fun C hC => ?_)); (repeat ((conv => whnf); simp [strsE_len, hlz, hlz', h1, hk0, hlo1, hlo2, hlo3, htk])); refine hC _ ?_; clear hC C; simp only [List.drop, Nat.reduceAdd]) | (refine arun_skip ?_ ?_; (focus (simp [awant, strsE_len, hlz, hlz', h1, hk0, hlo1, hlo2, hlo3, htk]; done))) | (refine arun_c0 (pk) ?_; rintro _ rfl) | (refine arun_cF (0) (ih) ?_; (rintro _ ⟨l, hl, hlp, rfl⟩ hA)) | (refine arunD_c (0) (pk) ?_; rintro _ rfl; intro _) | (refine arunD_cF (0) (ih) (by exact rNBX_ex _ _ hNb) ?_; (rintro _ ⟨l, hl, hlp, rfl⟩ hA); intro _) | (refine AW.regionK [] (fun K hK => ?_)) | (refine AW.regionDK [] (pcs [(4, 0, fun r => r = .tup [.int .i64 (k : Int), .bool true]), (8, 0, fun r => rNBX (o.getD Nd.zero) bb r ∧ ∀ b ∈ atB r, ¬ w0.A b)] []) (by kernel_rfl) (by kernel_rfl) (fun K hK => ?_)) | (refine AW.condT ?_ ?_; (focus (simp [aev, strsE_len, hlz, hlz', h1, hk0, hlo1, hlo2, hlo3, htk]; done))) | (refine AW.condF ?_ ?_; (focus (simp [aev, strsE_len, hlz, hlz', h1, hk0, hlo1, hlo2, hlo3, htk]; done))) | with_reducible refine AW.block ?_ | ((first | ((first | refine arun_nil ?_ | refine arunD_nil ?_); refine hK _ ?_; clear hK K) | refine AW.skip ?_ | refine AW.exit ?_ | refine AW.ret ?_); simp only [thenA_exit, inBlockA_exit, if_true, if_false, Nat.reduceEqDiff, thenA_normal, inBlockA_normal, reduceIte, thenA_ret, inBlockA_ret, endQ_ret, endR_ret, endG_ret, endQ_normal, endR_normal, endG_normal, endF_ret, endF_normal])))
      cases o with
      | none =>
        rw [Option.isSome_none] at hbb
        subst hbb
        (repeat (first | with_reducible refine AW.seq ?_ | ((first | refine arun_kn 4 rfl (fun C hC => ?_) | refine arunD_kn 4 rfl (fun C hC => ?_)); (repeat ((conv => whnf); simp)); refine hC _ ?_; clear hC C; simp only [List.drop, Nat.reduceAdd]) | ((first | refine arun_kn 1 rfl (fun C hC => ?_) | refine arunD_kn 1 rfl (fun C hC => ?_)); (repeat ((conv => whnf); simp)); refine hC _ ?_; clear hC C; simp only [List.drop, Nat.reduceAdd]) | (refine arun_skip ?_ ?_; (focus (simp [awant]; done))) | (refine AW.regionK [] (fun K hK => ?_)) | (refine AW.regionDK [] (pcs [] []) (by kernel_rfl) (by kernel_rfl) (fun K hK => ?_)) | (refine AW.condT ?_ ?_; (focus (simp [aev]; done))) | (refine AW.condF ?_ ?_; (focus (simp [aev]; done))) | with_reducible refine AW.block ?_ | ((first | ((first | refine arun_nil ?_ | refine arunD_nil ?_); refine hK _ ?_; clear hK K) | refine AW.skip ?_ | refine AW.exit ?_ | refine AW.ret ?_); simp only [thenA_exit, inBlockA_exit, if_true, if_false, Nat.reduceEqDiff, thenA_normal, inBlockA_normal, reduceIte, thenA_ret, inBlockA_ret, endQ_ret, endR_ret, endG_ret, endQ_normal, endR_normal, endG_normal, endF_ret, endF_normal])))
        obtain ⟨z1, z2, z3⟩ := rNB_none (r := .tup [node0 0 0 ⟨#[]⟩, .bool false]) rfl
        exact ⟨.tup [node0 0 0 ⟨#[]⟩, .bool false], by simp [node0, ares, aresL, upd, rowsOf_cons], z1, z2 _, z3⟩
      | some m =>
        rw [Option.isSome_some] at hbb
        subst hbb
        have hA' : ∀ b ∈ l.fp, ¬ w0.A b := fun b hb => hA b (by rw [at_tup, atL_cons, at_agg, ← labL_eq]; exact List.mem_append_left _ hb)
        (repeat (first | with_reducible refine AW.seq ?_ | ((first | refine arun_kn 4 rfl (fun C hC => ?_) | refine arunD_kn 4 rfl (fun C hC => ?_)); (repeat ((conv => whnf); simp)); refine hC _ ?_; clear hC C; simp only [List.drop, Nat.reduceAdd]) | ((first | refine arun_kn 1 rfl (fun C hC => ?_) | refine arunD_kn 1 rfl (fun C hC => ?_)); (repeat ((conv => whnf); simp)); refine hC _ ?_; clear hC C; simp only [List.drop, Nat.reduceAdd]) | (refine arun_skip ?_ ?_; (focus (simp [awant]; done))) | (refine AW.condT ?_ ?_; (focus (simp [aev]; done))) | (refine AW.condF ?_ ?_; (focus (simp [aev]; done))) | with_reducible refine AW.block ?_ | ((first | ((first | refine arun_nil ?_ | refine arunD_nil ?_); refine hK _ ?_; clear hK K) | refine AW.skip ?_ | refine AW.exit ?_ | refine AW.ret ?_); simp only [thenA_exit, inBlockA_exit, if_true, if_false, Nat.reduceEqDiff, thenA_normal, inBlockA_normal, reduceIte, thenA_ret, inBlockA_ret, endQ_ret, endR_ret, endG_ret, endQ_normal, endR_normal, endG_normal, endF_ret, endF_normal])))
        refine AW.noteR 10 (r := ⟨true, 26, 5, [[.int .i64 l.kind, .int .i64 l.num, .str l.text, .view (.fr l.nb) 1 (strsE l.names), .view (.fr l.kb) 5 (l.kids.map labL)]]⟩) (by simp [upd, rowsOf_cons]) ?_
        refine AW.regionK [] (fun K hK => ?_)
        (repeat (first | with_reducible refine AW.seq ?_ | ((first | refine arun_kn 4 rfl (fun C hC => ?_) | refine arunD_kn 4 rfl (fun C hC => ?_)); (repeat ((conv => whnf); simp)); refine hC _ ?_; clear hC C; simp only [List.drop, Nat.reduceAdd]) | ((first | refine arun_kn 1 rfl (fun C hC => ?_) | refine arunD_kn 1 rfl (fun C hC => ?_)); (repeat ((conv => whnf); simp)); refine hC _ ?_; clear hC C; simp only [List.drop, Nat.reduceAdd]) | (refine arun_skip ?_ ?_; (focus (simp [awant]; done))) | (refine AW.regionK [] (fun K hK => ?_)) | (refine AW.regionDK [] (pcs [] []) (by kernel_rfl) (by kernel_rfl) (fun K hK => ?_)) | (refine AW.condT ?_ ?_; (focus (simp [aev]; done))) | (refine AW.condF ?_ ?_; (focus (simp [aev]; done))) | with_reducible refine AW.block ?_ | ((first | ((first | refine arun_nil ?_ | refine arunD_nil ?_); refine hK _ ?_; clear hK K) | refine AW.skip ?_ | refine AW.exit ?_ | refine AW.ret ?_); simp only [thenA_exit, inBlockA_exit, if_true, if_false, Nat.reduceEqDiff, thenA_normal, inBlockA_normal, reduceIte, thenA_ret, inBlockA_ret, endQ_ret, endR_ret, endG_ret, endQ_normal, endR_normal, endG_normal, endF_ret, endF_normal])))
        refine arun_callM (hw := by simp [awant]) (ha := rfl) p5 (hargs := .cons (.base (.clo hcn.cloTo)) .nil) (hcan := can_of (Nat.le_refl _)) ?_
        rintro r l' ⟨ks, hks, hkn, rfl, rfl⟩ hA2
        refine ⟨_, _, _, back_copyF (A := 100) (B := 101) (by decide) (by simp [usedOf_cons, usedOf_nil, upd]) (by simp [usedOf_cons, usedOf_nil, upd]), ?_⟩
        have hlk : ks.length = n.kids.length := by rw [← hks, List.length_map]
        have hA3 : ∀ b ∈ l.fp, ¬ b ∈ ks.flatMap Lb.fp := fun b hb hm => hA2 b (.inr ⟨(34, labsR ks), by simp, by rw [show (labsR ks).es = ks.map labL from rfl, atE_labs]; exact hm⟩) (.inr (by rw [atE_cons, atE_nil, List.append_nil, ← labL_eq]; exact hb))
        have hA4 : ∀ b ∈ ks.flatMap Lb.fp, w0.wd.heap.size ≤ b := fun b hb => hN.ge (fun h => hA2 b (.inr ⟨(34, labsR ks), by simp, by rw [show (labsR ks).es = ks.map labL from rfl, atE_labs]; exact hb⟩) (.inl h))
        (repeat (first | with_reducible refine AW.seq ?_ | ((first | refine arun_kn 4 rfl (fun C hC => ?_) | refine arunD_kn 4 rfl (fun C hC => ?_)); (repeat ((conv => whnf); simp [nodeRR])); refine hC _ ?_; clear hC C; simp only [List.drop, Nat.reduceAdd]) | ((first | refine arun_kn 1 rfl (fun C hC => ?_) | refine arunD_kn 1 rfl (fun C hC => ?_)); (repeat ((conv => whnf); simp [nodeRR])); refine hC _ ?_; clear hC C; simp only [List.drop, Nat.reduceAdd]) | (refine arun_skip ?_ ?_; (focus (simp [awant, nodeRR]; done))) | (refine AW.condT ?_ ?_; (focus (simp [aev, nodeRR]; done))) | (refine AW.condF ?_ ?_; (focus (simp [aev, nodeRR]; done))) | with_reducible refine AW.block ?_ | ((first | ((first | refine arun_nil ?_ | refine arunD_nil ?_); refine hK _ ?_; clear hK K) | refine AW.skip ?_ | refine AW.exit ?_ | refine AW.ret ?_); simp only [thenA_exit, inBlockA_exit, if_true, if_false, Nat.reduceEqDiff, thenA_normal, inBlockA_normal, reduceIte, thenA_ret, inBlockA_ret, endQ_ret, endR_ret, endG_ret, endQ_normal, endR_normal, endG_normal, endF_ret, endF_normal])))
        refine AW.regionK [] (fun K hK => ?_)
        obtain ⟨ks', hks'⟩ : ∃ ks', ks' = ks.set k l := ⟨_, rfl⟩
        have hset : (ks.map labL).set k [.int .i64 l.kind, .int .i64 l.num, .str l.text, .view (.fr l.nb) 1 (strsE l.names), .view (.fr l.kb) 5 (l.kids.map labL)] = ks'.map labL := by rw [hks', List.map_set, labL_eq l]
        have hlk2 : ks'.length = n.kids.length := by rw [hks', List.length_set, hlk]
        have hdr : ∀ x : Lb, (labL x).drop 5 = [] := fun x => List.drop_of_length_le (by rw [labL_len]; exact Nat.le_refl _)
        (repeat (first | with_reducible refine AW.seq ?_ | ((first | refine arun_kn 4 rfl (fun C hC => ?_) | refine arunD_kn 4 rfl (fun C hC => ?_)); (repeat ((conv => whnf); simp [hlk, h1, hk0, labsR, namesR, hlo1, hdr, hset])); refine hC _ ?_; clear hC C; simp only [List.drop, Nat.reduceAdd]) | ((first | refine arun_kn 1 rfl (fun C hC => ?_) | refine arunD_kn 1 rfl (fun C hC => ?_)); (repeat ((conv => whnf); simp [hlk, h1, hk0, labsR, namesR, hlo1, hdr, hset])); refine hC _ ?_; clear hC C; simp only [List.drop, Nat.reduceAdd]) | (refine arun_skip ?_ ?_; (focus (simp [awant, hlk, h1, hk0, labsR, namesR, hlo1, hdr, hset]; done))) | (refine AW.condT ?_ ?_; (focus (simp [aev, hlk, h1, hk0, labsR, namesR, hlo1, hdr, hset]; done))) | (refine AW.condF ?_ ?_; (focus (simp [aev, hlk, h1, hk0, labsR, namesR, hlo1, hdr, hset]; done))) | with_reducible refine AW.block ?_ | ((first | ((first | refine arun_nil ?_ | refine arunD_nil ?_); refine hK _ ?_; clear hK K) | refine AW.skip ?_ | refine AW.exit ?_ | refine AW.ret ?_); simp only [thenA_exit, inBlockA_exit, if_true, if_false, Nat.reduceEqDiff, thenA_normal, inBlockA_normal, reduceIte, thenA_ret, inBlockA_ret, endQ_ret, endR_ret, endG_ret, endQ_normal, endR_normal, endG_normal, endF_ret, endF_normal])))
        refine AW.holdF 100 hN (fun g1 hg1 ht1 hr1 => ?_)
        have f1 := hr1 101 ⟨false, 26, 5, ks'.map labL⟩ (by simp [hset, upd, rowsOf_cons])
        refine AW.holdF 101 hN (fun g2 hg2 ht2 hr2 => ?_)
        have f2 := hr2 101 ⟨false, 26, 5, ks'.map labL⟩ (by simp [hset, ASt.holdF, rowsOf_cons, upd, Row.sub, labsE_sub]; exact fun a _ => labL_sub a)
        have f3 := hr2 11 ⟨true, 26, 5, [[.int .i64 n.kind, .int .i64 n.num, .str n.text, .view (.fr g1) 1 (strsE n.names), .own 101 n.kids.length]]⟩ (by simp [ASt.holdF, rowsOf_cons, upd, AV.subL, AV.sub, Row.sub, strsE_len])
        clear ht1 hr1 ht2 hr2
        (repeat (first | with_reducible refine AW.seq ?_ | ((first | refine arun_kn 4 rfl (fun C hC => ?_) | refine arunD_kn 4 rfl (fun C hC => ?_)); (repeat ((conv => whnf); simp [hset, ASt.holdF, AV.subL, AV.sub, Row.sub, rowsOf_cons, upd, labsE_sub, strsE_len, hlk2, hlk])); refine hC _ ?_; clear hC C; simp only [List.drop, Nat.reduceAdd]) | ((first | refine arun_kn 1 rfl (fun C hC => ?_) | refine arunD_kn 1 rfl (fun C hC => ?_)); (repeat ((conv => whnf); simp [hset, ASt.holdF, AV.subL, AV.sub, Row.sub, rowsOf_cons, upd, labsE_sub, strsE_len, hlk2, hlk])); refine hC _ ?_; clear hC C; simp only [List.drop, Nat.reduceAdd]) | (refine arun_skip ?_ ?_; (focus (simp [awant, hset, ASt.holdF, AV.subL, AV.sub, Row.sub, rowsOf_cons, upd, labsE_sub, strsE_len, hlk2, hlk]; done))) | (refine AW.regionK [] (fun K hK => ?_)) | (refine AW.regionDK [] (pcs [] []) (by kernel_rfl) (by kernel_rfl) (fun K hK => ?_)) | (refine AW.condT ?_ ?_; (focus (simp [aev, hset, ASt.holdF, AV.subL, AV.sub, Row.sub, rowsOf_cons, upd, labsE_sub, strsE_len, hlk2, hlk]; done))) | (refine AW.condF ?_ ?_; (focus (simp [aev, hset, ASt.holdF, AV.subL, AV.sub, Row.sub, rowsOf_cons, upd, labsE_sub, strsE_len, hlk2, hlk]; done))) | with_reducible refine AW.block ?_ | ((first | ((first | refine arun_nil ?_ | refine arunD_nil ?_); refine hK _ ?_; clear hK K) | refine AW.skip ?_ | refine AW.exit ?_ | refine AW.ret ?_); simp only [thenA_exit, inBlockA_exit, if_true, if_false, Nat.reduceEqDiff, thenA_normal, inBlockA_normal, reduceIte, thenA_ret, inBlockA_ret, endQ_ret, endR_ret, endG_ret, endQ_normal, endR_normal, endG_normal, endF_ret, endF_normal])))
        rw [atE_labs] at f1 f2
        refine ⟨.tup [labA ⟨n.kind, n.num, n.text, n.names, g1, ks', g2⟩, .bool true], by unfold labA; rw [labL_eq]; simp [ares, aresL, upd, rowsOf_cons, labL_sub], tup2_pur (lab_pur _) pur_bool, fun b hb => ?_, _, Wk.refl _, fun _ h => h, ⟨_, _, _, _, _, _, _⟩, ?_, fp_nodup (by dsimp only; rw [hks']; exact fp_set k hkn hlp hA3) f1 f2 (fun h1 _ => f3 g1 ?_), rfl⟩
        · rw [at_tup2] at hb
          refine fp_ge (l := ⟨n.kind, n.num, n.text, n.names, g1, ks', g2⟩) (fun b hb => ?_) hg1 hg2 b hb
          rw [hks'] at hb
          rcases fp_set_mem hb with hb | hb
          · exact hA4 b hb
          · exact hN.ge (hA' b hb)
        · rw [nd_eq]; dsimp only; rw [hks', List.map_set, hks, hl]; rfl
        · dsimp only at h1
          have : (strsE n.names).isEmpty = false := by unfold strsE; cases hh : n.names with | nil => exact absurd hh h1 | cons _ _ => rfl
          simp [atE_cons, atE_nil, atL_cons, atL_nil, at_int, at_str, at_own, at_view, frB_fr, this]
end Go.Proofs.YtfjaobfaepjfnaaDoor.Eng
-- EV: rows
namespace Go.Proofs.YtfjaobfaepjfnaaDoor.Eng
open Go Go.RowKit
attribute [local simp] big size_mk ASt.pay Option.map_map Function.comp_def awant aop acall ado aev ofVal ofVal0 ASt.put ASt.add ASt.turn ASt.kill abox aalloc astore aload aloadD astoreD idOf ASt.at cellsTo afieldAddr afield aindexAddr aindex alen abin aint acmp astr aun apick aextract anil aslice abound abuild afill abuildSlice asCells aps avCells over upd aappend asrc amax amin aconv mkSt slots rowsOf_cons rowsOf_nil usedOf_cons usedOf_nil ZK.av List.replicate ASt.back ASt.addL ASt.killL nodeA nodeT nodeTL_eq nodeL_eq strsE_get strsE_len intsE_get intsE_len strsE_at intsE_at nodeN namesRow nodeO kidsRow tab2 tab3 tab4 tab5 tab6 tab7 tab8 tab9 tab10 tab11 tab12 tab13 tab14 tab15 tab16 tab17 tab18 tab19 tab21 tab22 tab23 tab24 tab25 tab26 tab28 tab29 tab30 tab31 tab42 tab43 tab44 tab46 tab63 tab64 tab67 tab68 tab75 tab98 tab100 tab101 tab105 tab106 tab107 tab122 tab123 tab125 tab128 tab138 tab144 tab151 tab152 tab157 tab158 tab160 tab161 tab162
theorem nodeO_res (n : Nd) (id0 : Nat) : Res1 id0 (nodeO n) := Res1.agg [fun _ => .int .i64 n.kind, fun _ => .int .i64 n.num, fun _ => .str n.text, fun _ => .view .loose 1 (strsE n.names), fun id => .own id n.kids.length] (by
  simp only [List.forall_mem_cons, List.not_mem_nil, false_implies, implies_true, and_true]
  exact ⟨Res1.pur _ pur_int, Res1.pur _ pur_int, Res1.pur _ pur_str, Res1.pur _ (strs_pur _ (by decide)), Res1.own _ _⟩)
theorem optA_in (o : Option Nd) : NoId (optA o) := by
  unfold optA NoId
  have h := node_in (U := fun _ => false) (o.getD Nd.zero)
  unfold nodeA at h
  rw [nodeL_eq] at h
  simp [in_tup, in_bool]
  exact h
def optL (o : Option Nd) : AV := .tup [.agg [.int .i64 (o.getD Nd.zero).kind, .int .i64 (o.getD Nd.zero).num, .str (o.getD Nd.zero).text, .view .loose 1 (strsE (o.getD Nd.zero).names), .view .loose 5 ((o.getD Nd.zero).kids.map nodeL)], .bool o.isSome]
theorem optA_eq (o : Option Nd) : optA o = optL o := by unfold optA optL nodeA; rw [nodeL_eq]
theorem optA_pur (o : Option Nd) : Pur (optA o) := tup2_pur (node_pur _) pur_bool
theorem optN_in : NoId (.tup [.agg [.int .i64 0, .int .i64 0, .str ⟨#[]⟩, .view .loose 1 [], .view .loose 5 []], .bool false]) := by
  have h := optA_in none
  unfold optA nodeA at h
  rw [show nodeL ((none : Option Nd).getD Nd.zero) = nodeL Nd.zero from rfl, zeroA] at h
  exact h
theorem optS_in (m : Nd) : NoId (.tup [.agg [.int .i64 m.kind, .int .i64 m.num, .str m.text, .view .loose 1 (strsE m.names), .view .loose 5 (m.kids.map nodeL)], .bool true]) := by
  have h := optA_in (some m)
  unfold optA nodeA at h
  rw [show nodeL ((some m : Option Nd).getD Nd.zero) = nodeL m from rfl, nodeL_eq] at h
  exact h
theorem kids_set (n v : Nd) (k : Nat) : (setK n k v).kids.map nodeL = (n.kids.map nodeL).set k (nodeL v) := by simp [setK, List.map_set]
theorem withKid_ACR (n v : Nd) (k : Nat) (hn : Sml n) (hv : Sml v) (hk : k < n.kids.length) : ACR Tryd.prog 108 [nodeA n, .int .i64 k, nodeA v] 0 (fun _ => False) (fun f R => f = nodeO (setK n k v) ∧ R = kidsRow (setK n k v)) := by
  unfold nodeA
  rw [nodeL_eq n, nodeL_eq v]
  refine ACR.of tab_ok mixed_ok Tryd.func108 (by rfl) (by kernel_rfl) ?_; rintro ⟨P, T, hT, hm, w0, S0, rd0, k0⟩ hP hTT; dsimp only at hP hTT; subst hP hTT; unfold initSt; rw [Tryd.ntmps108]
  (repeat (first | with_reducible refine AW.seq ?_ | ((first | refine arun_kn 4 rfl (fun C hC => ?_) | refine arunD_kn 4 rfl (fun C hC => ?_)); (repeat ((conv => whnf); simp [hk])); refine hC _ ?_; clear hC C; simp only [List.drop, Nat.reduceAdd]) | ((first | refine arun_kn 1 rfl (fun C hC => ?_) | refine arunD_kn 1 rfl (fun C hC => ?_)); (repeat ((conv => whnf); simp [hk])); refine hC _ ?_; clear hC C; simp only [List.drop, Nat.reduceAdd]) | (refine arun_skip ?_ ?_; (focus (simp [awant, hk]; done))) | (refine arun_cR (0) 30 (copyNode_ACR n hn .loose) ?_; (rintro _ _ ⟨rfl, rfl⟩; unfold nodeO kidsRow)) | (refine arun_c0 (copyNode_AC v hv .loose) ?_; rintro _ rfl) | (refine arunD_c (0) (copyNode_AC v hv .loose) ?_; rintro _ rfl; intro _) | (refine AW.regionK [] (fun K hK => ?_)) | (refine AW.regionDK [] (pcs [(4, 0, fun r => r = nodeA v)] []) (by kernel_rfl) (by kernel_rfl) (fun K hK => ?_)) | (refine AW.condT ?_ ?_; (focus (simp [aev, hk]; done))) | (refine AW.condF ?_ ?_; (focus (simp [aev, hk]; done))) | with_reducible refine AW.block ?_ | ((first | ((first | refine arun_nil ?_ | refine arunD_nil ?_); refine hK _ ?_; clear hK K) | refine AW.skip ?_ | refine AW.exit ?_ | refine AW.ret ?_); simp only [thenA_exit, inBlockA_exit, if_true, if_false, Nat.reduceEqDiff, thenA_normal, inBlockA_normal, reduceIte, thenA_ret, inBlockA_ret, endQ_ret, endR_ret, endG_ret, endQ_normal, endR_normal, endG_normal])))
  exact ⟨nodeO (setK n k v) 30, by simp [nodeO, setK, ares, aresL, upd, rowsOf_cons], .inr ⟨nodeO (setK n k v), 30, kidsRow (setK n k v), rfl, by unfold kidsRow; rw [kids_set]; simp [upd, kidsRow, nodeL_eq], nodeO_res _ 30, nodesE_pur _, rfl, rfl⟩⟩
theorem withKid_AC (n v : Nd) (k : Nat) (hn : Sml n) (hv : Sml v) (hk : k < n.kids.length) : AC Tryd.prog 108 [nodeA n, .int .i64 k, nodeA v] 0 (fun r => r = nodeA (setK n k v)) := by
  refine (AC.ofR (withKid_ACR n v k hn hv hk) ?_).mono ?_
  · rintro r R ⟨rfl, rfl⟩
    rw [nodeO_sub]
    exact node_in _
  · rintro r (h | ⟨f, R, ⟨rfl, rfl⟩, rfl⟩)
    · exact h.elim
    · exact nodeO_sub _
theorem setAt_AC (t' : VC) : ∀ (p : List ByteArray) (n v : Nd) (t : VC), Shp n → Sml v → AC Tryd.prog 78 [nodeA n, .view t 1 (strsE p), nodeT t' v] 0 (fun r => r = optA (setS n p v))
  | [], n, v, t, hn, hv => by
    have p1 := copyNode_AC v hv t'
    refine AC.weak ?_
    unfold nodeA
    unfold nodeT at p1 ⊢
    rw [nodeTL_eq] at p1 ⊢
    rw [nodeL_eq]
    refine AC.of tab_ok mixed_ok Tryd.func78 (by rfl) (by kernel_rfl) ?_; rintro ⟨P, T, hT, hm, w0, S0, rd0, k0⟩ hP hTT; dsimp only at hP hTT; subst hP hTT; unfold initSt; rw [Tryd.ntmps78]
    (repeat (first | with_reducible refine AW.seq ?_ | ((first | refine arun_kn 4 rfl (fun C hC => ?_) | refine arunD_kn 4 rfl (fun C hC => ?_)); (repeat ((conv => whnf); simp [strsE_len])); refine hC _ ?_; clear hC C; simp only [List.drop, Nat.reduceAdd]) | ((first | refine arun_kn 1 rfl (fun C hC => ?_) | refine arunD_kn 1 rfl (fun C hC => ?_)); (repeat ((conv => whnf); simp [strsE_len])); refine hC _ ?_; clear hC C; simp only [List.drop, Nat.reduceAdd]) | (refine arun_skip ?_ ?_; (focus (simp [awant, strsE_len]; done))) | (refine arun_c0 (p1) ?_; rintro _ rfl) | (refine AW.regionK [] (fun K hK => ?_)) | (refine AW.regionDK [] (pcs [] []) (by kernel_rfl) (by kernel_rfl) (fun K hK => ?_)) | (refine AW.condT ?_ ?_; (focus (simp [aev, strsE_len]; done))) | (refine AW.condF ?_ ?_; (focus (simp [aev, strsE_len]; done))) | with_reducible refine AW.block ?_ | ((first | ((first | refine arun_nil ?_ | refine arunD_nil ?_); refine hK _ ?_; clear hK K) | refine AW.skip ?_ | refine AW.exit ?_ | refine AW.ret ?_); simp only [thenA_exit, inBlockA_exit, if_true, if_false, Nat.reduceEqDiff, thenA_normal, inBlockA_normal, reduceIte, thenA_ret, inBlockA_ret, endQ_ret, endR_ret, endG_ret, endQ_normal, endR_normal, endG_normal])))
    exact ⟨.tup [nodeA v, .bool true], by simp [ares, aresL, upd, rowsOf_cons], tup2_pur (node_pur v) pur_bool, _, Wk.refl _, rfl⟩
  | s :: q, n, v, t, hn, hv => by
    have e1 : strsE (s :: q) = [.str s] :: strsE q := rfl
    have pk := place_ok .loose n s hn.plc
    refine AC.weak ?_
    unfold nodeT at pk
    rw [nodeTL_eq] at pk
    unfold nodeA nodeT
    rw [nodeL_eq, nodeTL_eq, e1]
    have hlz : ((q.length + 1 : Nat) : Int) ≠ 0 := by omega
    have htk : (strsE q).take q.length = strsE q := List.take_of_length_le (by rw [strsE_len]; exact Nat.le_refl _)
    have hlo1 : ¬ (q.length : Int) + 1 < 1 := by omega
    have hlo2 : 1 ≤ q.length + 1 := by omega
    have hlo3 : (1 : Int) ≤ (q.length : Int) + 1 := by omega
    have hlz' : (((q.length : Int) + 1) == 0) = false := beq_false_of_ne (by omega)
    refine AC.of tab_ok mixed_ok Tryd.func78 (by rfl) (by kernel_rfl) ?_; rintro ⟨P, T, hT, hm, w0, S0, rd0, k0⟩ hP hTT; dsimp only at hP hTT; subst hP hTT; unfold initSt; rw [Tryd.ntmps78]
    rcases placeI_cases n s with ⟨h1, _⟩ | ⟨k, h1, h2, _⟩
    · rw [h1] at pk
      rw [setS_no q h1]
      (repeat (first | with_reducible refine AW.seq ?_ | ((first | refine arun_kn 4 rfl (fun C hC => ?_) | refine arunD_kn 4 rfl (fun C hC => ?_)); (repeat ((conv => whnf); simp [strsE_len, hlz, hlz'])); refine hC _ ?_; clear hC C; simp only [List.drop, Nat.reduceAdd]) | ((first | refine arun_kn 1 rfl (fun C hC => ?_) | refine arunD_kn 1 rfl (fun C hC => ?_)); (repeat ((conv => whnf); simp [strsE_len, hlz, hlz'])); refine hC _ ?_; clear hC C; simp only [List.drop, Nat.reduceAdd]) | (refine arun_skip ?_ ?_; (focus (simp [awant, strsE_len, hlz, hlz']; done))) | (refine arun_c0 (pk) ?_; rintro _ rfl) | (refine arunD_c (0) (pk) ?_; rintro _ rfl; intro _) | (refine AW.regionK [] (fun K hK => ?_)) | (refine AW.regionDK [] (pcs [(4, 0, fun r => r = .int .i64 (-1))] []) (by kernel_rfl) (by kernel_rfl) (fun K hK => ?_)) | (refine AW.condT ?_ ?_; (focus (simp [aev, strsE_len, hlz, hlz']; done))) | (refine AW.condF ?_ ?_; (focus (simp [aev, strsE_len, hlz, hlz']; done))) | with_reducible refine AW.block ?_ | ((first | ((first | refine arun_nil ?_ | refine arunD_nil ?_); refine hK _ ?_; clear hK K) | refine AW.skip ?_ | refine AW.exit ?_ | refine AW.ret ?_); simp only [thenA_exit, inBlockA_exit, if_true, if_false, Nat.reduceEqDiff, thenA_normal, inBlockA_normal, reduceIte, thenA_ret, inBlockA_ret, endQ_ret, endR_ret, endG_ret, endQ_normal, endR_normal, endG_normal])))
      refine ⟨.tup [node0 0 0 ⟨#[]⟩, .bool false], by simp [node0, ares, aresL, upd, rowsOf_cons], none_end.1, _, none_end.2, rfl⟩
    · rw [h2] at pk
      rw [setS_yes q h1 h2]
      have hk0 : ¬ ((k : Int) < 0) := by omega
      have hkid := hn.kid (List.getElem_mem h1)
      have ih := setAt_AC t' q n.kids[k] v t.cut hkid hv
      cases hg : setS n.kids[k] q v with
      | none =>
        rw [hg] at ih
        unfold optA nodeT nodeA at ih
        have hz : nodeL ((none : Option Nd).getD Nd.zero) = nodeL Nd.zero := rfl
        rw [hz, zeroA, nodeTL_eq, nodeL_eq, Option.isSome_none] at ih
        (repeat (first | with_reducible refine AW.seq ?_ | ((first | refine arun_kn 4 rfl (fun C hC => ?_) | refine arunD_kn 4 rfl (fun C hC => ?_)); (repeat ((conv => whnf); simp [strsE_len, hlz, hlz', h1, hk0, hlo1, hlo2, hlo3, htk])); refine hC _ ?_; clear hC C; simp only [List.drop, Nat.reduceAdd]) | ((first | refine arun_kn 1 rfl (fun C hC => ?_) | refine arunD_kn 1 rfl (fun C hC => ?_)); (repeat ((conv => whnf); simp [strsE_len, hlz, hlz', h1, hk0, hlo1, hlo2, hlo3, htk])); refine hC _ ?_; clear hC C; simp only [List.drop, Nat.reduceAdd]) | (refine arun_skip ?_ ?_; (focus (simp [awant, strsE_len, hlz, hlz', h1, hk0, hlo1, hlo2, hlo3, htk]; done))) | (refine arun_c0 (pk) ?_; rintro _ rfl) | (refine arun_c0 (ih) ?_; rintro _ rfl) | (refine arunD_c (0) (pk) ?_; rintro _ rfl; intro _) | (refine arunD_cE (0) (ih) (by exact ⟨_, rfl, optN_in⟩) ?_; rintro _ rfl; intro _) | (refine AW.regionK [] (fun K hK => ?_)) | (refine AW.regionDK [] (pcs [(4, 0, fun r => r = .int .i64 (k : Int)), (8, 0, fun r => r = .tup [.agg [.int .i64 0, .int .i64 0, .str ⟨#[]⟩, .view .loose 1 [], .view .loose 5 []], .bool false])] []) (by kernel_rfl) (by kernel_rfl) (fun K hK => ?_)) | (refine AW.condT ?_ ?_; (focus (simp [aev, strsE_len, hlz, hlz', h1, hk0, hlo1, hlo2, hlo3, htk]; done))) | (refine AW.condF ?_ ?_; (focus (simp [aev, strsE_len, hlz, hlz', h1, hk0, hlo1, hlo2, hlo3, htk]; done))) | with_reducible refine AW.block ?_ | ((first | ((first | refine arun_nil ?_ | refine arunD_nil ?_); refine hK _ ?_; clear hK K) | refine AW.skip ?_ | refine AW.exit ?_ | refine AW.ret ?_); simp only [thenA_exit, inBlockA_exit, if_true, if_false, Nat.reduceEqDiff, thenA_normal, inBlockA_normal, reduceIte, thenA_ret, inBlockA_ret, endQ_ret, endR_ret, endG_ret, endQ_normal, endR_normal, endG_normal])))
        refine ⟨.tup [node0 0 0 ⟨#[]⟩, .bool false], by simp [node0, ares, aresL, upd, rowsOf_cons], none_end.1, _, none_end.2, rfl⟩
      | some m =>
        rw [hg] at ih
        have hm := setS_sml _ _ _ _ hkid hv hg
        have pw := withKid_AC n m k hn.sml hm h1
        unfold optA nodeT nodeA at ih
        unfold nodeA at pw
        have hz : nodeL ((some m : Option Nd).getD Nd.zero) = nodeL m := rfl
        rw [hz, nodeTL_eq, nodeL_eq n.kids[k], nodeL_eq m, Option.isSome_some] at ih
        rw [nodeL_eq n, nodeL_eq m] at pw
        (repeat (first | with_reducible refine AW.seq ?_ | ((first | refine arun_kn 4 rfl (fun C hC => ?_) | refine arunD_kn 4 rfl (fun C hC => ?_)); (repeat ((conv => whnf); simp [strsE_len, hlz, hlz', h1, hk0, hlo1, hlo2, hlo3, htk])); refine hC _ ?_; clear hC C; simp only [List.drop, Nat.reduceAdd]) | ((first | refine arun_kn 1 rfl (fun C hC => ?_) | refine arunD_kn 1 rfl (fun C hC => ?_)); (repeat ((conv => whnf); simp [strsE_len, hlz, hlz', h1, hk0, hlo1, hlo2, hlo3, htk])); refine hC _ ?_; clear hC C; simp only [List.drop, Nat.reduceAdd]) | (refine arun_skip ?_ ?_; (focus (simp [awant, strsE_len, hlz, hlz', h1, hk0, hlo1, hlo2, hlo3, htk]; done))) | (refine arun_c0 (pk) ?_; rintro _ rfl) | (refine arun_c0 (ih) ?_; rintro _ rfl) | (refine arun_c0 (pw) ?_; rintro _ rfl) | (refine arunD_c (0) (pk) ?_; rintro _ rfl; intro _) | (refine arunD_cE (0) (ih) (by exact ⟨_, rfl, optS_in m⟩) ?_; rintro _ rfl; intro _) | (refine arunD_c (0) (pw) ?_; rintro _ rfl; intro _) | (refine AW.regionK [] (fun K hK => ?_)) | (refine AW.regionDK [] (pcs [(4, 0, fun r => r = .int .i64 (k : Int)), (8, 0, fun r => r = .tup [.agg [.int .i64 m.kind, .int .i64 m.num, .str m.text, .view .loose 1 (strsE m.names), .view .loose 5 (m.kids.map nodeL)], .bool true])] []) (by kernel_rfl) (by kernel_rfl) (fun K hK => ?_)) | (refine AW.condT ?_ ?_; (focus (simp [aev, strsE_len, hlz, hlz', h1, hk0, hlo1, hlo2, hlo3, htk]; done))) | (refine AW.condF ?_ ?_; (focus (simp [aev, strsE_len, hlz, hlz', h1, hk0, hlo1, hlo2, hlo3, htk]; done))) | with_reducible refine AW.block ?_ | ((first | ((first | refine arun_nil ?_ | refine arunD_nil ?_); refine hK _ ?_; clear hK K) | refine AW.skip ?_ | refine AW.exit ?_ | refine AW.ret ?_); simp only [thenA_exit, inBlockA_exit, if_true, if_false, Nat.reduceEqDiff, thenA_normal, inBlockA_normal, reduceIte, thenA_ret, inBlockA_ret, endQ_ret, endR_ret, endG_ret, endQ_normal, endR_normal, endG_normal])))
        exact ⟨.tup [nodeA (setK n k m), .bool true], by simp [setK, ares, aresL, upd, rowsOf_cons], tup2_pur (node_pur _) pur_bool, _, Wk.refl _, rfl⟩
end Go.Proofs.YtfjaobfaepjfnaaDoor.Eng
-- EV: rows
namespace Go.Proofs.YtfjaobfaepjfnaaDoor.Eng
open Go Go.RowKit
attribute [local simp] big size_mk ASt.pay Option.map_map Function.comp_def awant aop acall ado aev ofVal ofVal0 ASt.put ASt.add ASt.turn ASt.kill abox aalloc astore aload aloadD astoreD idOf ASt.at cellsTo afieldAddr afield aindexAddr aindex alen abin aint acmp astr aun apick aextract anil aslice abound abuild afill abuildSlice asCells aps avCells over upd aappend asrc amax amin aconv mkSt slots rowsOf_cons rowsOf_nil usedOf_cons usedOf_nil ZK.av List.replicate ASt.back ASt.addL ASt.killL nodeA nodeT nodeTL_eq nodeL_eq strsE_get strsE_len intsE_get intsE_len strsE_at intsE_at nodeN namesRow nodeO kidsRow tab2 tab3 tab4 tab5 tab6 tab7 tab8 tab9 tab10 tab11 tab12 tab13 tab14 tab15 tab16 tab17 tab18 tab19 tab21 tab22 tab23 tab24 tab25 tab26 tab28 tab29 tab30 tab31 tab42 tab43 tab44 tab46 tab63 tab64 tab67 tab68 tab75 tab98 tab100 tab101 tab105 tab106 tab107 tab122 tab123 tab125 tab128 tab138 tab144 tab151 tab152 tab157 tab158 tab160 tab161 tab162
end Go.Proofs.YtfjaobfaepjfnaaDoor.Eng
namespace Go.Proofs.YtfjaobfaepjfnaaDoor
open Go Go.RowKit
def Row0 (w : World) (g : Nat) (L : List Value) (e : TypeId) : Prop := Hid (w.heap[g]? = some (.cells L.toArray e (0, 0)))
theorem Row0.out {w : World} {g : Nat} {L : List Value} {e : TypeId} (h : Row0 w g L e) : w.heap[g]? = some (.cells L.toArray e (0, 0)) := h
theorem Row0.lt {w : World} {g : Nat} {L : List Value} {e : TypeId} (h : Row0 w g L e) : g < w.heap.size := (Array.getElem?_eq_some_iff.1 h.out).1
theorem Row0.ext {X : Nat → Prop} {w w' : World} {g : Nat} {L : List Value} {e : TypeId} (h : Row0 w g L e) (hx : Ext X w w') (hg : ¬ X g) : Row0 w' g L e := by
  show w'.heap[g]? = _
  rw [hx.block g h.lt hg]; exact h
theorem Row0.cell {w : World} {g : Nat} {L : List Value} {e : TypeId} (h : Row0 w g L e) {j : Nat} {v : Value} (hj : L[j]? = some v) : w.cell? ⟨g, j, none⟩ = some v := by
  unfold World.cell?
  rw [h.out]
  simpa using hj
variable {P : Program}
theorem Row0.set {w : World} {g : Nat} {L L' : List Value} {e : TypeId} (h : Row0 w g L e) : Row0 (w.setRow g L'.toArray) g L' e := setRow_heap w g _ _ e _ h.out
end Go.Proofs.YtfjaobfaepjfnaaDoor
namespace Go.Proofs.YtfjaobfaepjfnaaDoor
open Go Go.RowKit Go.Proofs.YtfjaobfaepjfnaaDoor.Eng
end Go.Proofs.YtfjaobfaepjfnaaDoor
namespace Go.Proofs.YtfjaobfaepjfnaaDoor
open Go Go.RowKit Go.Proofs.YtfjaobfaepjfnaaDoor.Eng
end Go.Proofs.YtfjaobfaepjfnaaDoor
namespace Go.Proofs.YtfjaobfaepjfnaaDoor.Eng
open Go Go.RowKit
attribute [local simp] big size_mk ASt.pay Option.map_map Function.comp_def awant aop acall ado aev ofVal ofVal0 ASt.put ASt.add ASt.turn ASt.kill abox aalloc astore aload aloadD astoreD idOf ASt.at cellsTo afieldAddr afield aindexAddr aindex alen abin aint acmp astr aun apick aextract anil aslice abound abuild afill abuildSlice asCells aps avCells over upd aappend asrc amax amin aconv mkSt slots rowsOf_cons rowsOf_nil usedOf_cons usedOf_nil ZK.av List.replicate ASt.back ASt.addL ASt.killL nodeA nodeT nodeTL_eq nodeL_eq strsE_get strsE_len intsE_get intsE_len strsE_at intsE_at tab2 tab3 tab4 tab5 tab6 tab7 tab8 tab9 tab10 tab11 tab12 tab13 tab14 tab15 tab16 tab17 tab18 tab19 tab21 tab22 tab23 tab24 tab25 tab26 tab28 tab29 tab30 tab31 tab42 tab43 tab44 tab46 tab63 tab64 tab67 tab68 tab75 tab98 tab100 tab101 tab105 tab106 tab107 tab122 tab123 tab125 tab128 tab138 tab144 tab151 tab152 tab157 tab158 tab160 tab161 tab162
def putK (n : Nd) (nm : ByteArray) (v : Nd) : Nd :=
  if mem n.names nm then ⟨n.kind, n.num, n.text, n.names, n.kids.set (lbound n.names nm) v⟩
  else ⟨n.kind, n.num, n.text, n.names.take (lbound n.names nm) ++ (nm :: n.names.drop (lbound n.names nm)), n.kids.take (lbound n.names nm) ++ (v :: n.kids.drop (lbound n.names nm))⟩
def dropK (n : Nd) (nm : ByteArray) : Nd :=
  if mem n.names nm then ⟨n.kind, n.num, n.text, n.names.take (lbound n.names nm) ++ n.names.drop (lbound n.names nm + 1), n.kids.take (lbound n.names nm) ++ n.kids.drop (lbound n.names nm + 1)⟩ else n
theorem lbn_le (xs : List ByteArray) (nm : ByteArray) : lbound xs nm ≤ xs.length := List.countP_le_length
theorem putK_yes {n v : Nd} {nm : ByteArray} (h : mem n.names nm = true) : putK n nm v = ⟨n.kind, n.num, n.text, n.names, n.kids.set (lbound n.names nm) v⟩ := by unfold putK; rw [if_pos h]
theorem putK_no {n v : Nd} {nm : ByteArray} (h : mem n.names nm = false) : putK n nm v = ⟨n.kind, n.num, n.text, n.names.take (lbound n.names nm) ++ (nm :: n.names.drop (lbound n.names nm)), n.kids.take (lbound n.names nm) ++ (v :: n.kids.drop (lbound n.names nm))⟩ := by unfold putK; rw [h]; rfl
theorem dropK_yes {n : Nd} {nm : ByteArray} (h : mem n.names nm = true) : dropK n nm = ⟨n.kind, n.num, n.text, n.names.take (lbound n.names nm) ++ n.names.drop (lbound n.names nm + 1), n.kids.take (lbound n.names nm) ++ n.kids.drop (lbound n.names nm + 1)⟩ := by unfold dropK; rw [if_pos h]
theorem dropK_no {n : Nd} {nm : ByteArray} (h : mem n.names nm = false) : dropK n nm = n := by unfold dropK; rw [h]; rfl
end Go.Proofs.YtfjaobfaepjfnaaDoor.Eng
namespace Go.Proofs.YtfjaobfaepjfnaaDoor.Eng
open Go Go.RowKit
section
variable {P : Program} {T : Tab} {k0 : Nat} {md : List Nat} {Av : Nat → Prop} {pc : Pc} {ops : Array Oper} {K : ASt → Prop} {o : Oper} {l : List Oper} {s : ASt} {f : FuncId} {xs : List Operand} {args : List AV}
end
end Go.Proofs.YtfjaobfaepjfnaaDoor.Eng
namespace Go.Proofs.YtfjaobfaepjfnaaDoor.Eng
open Go Go.RowKit
theorem asc_pw {xs : List ByteArray} : Asc xs ↔ xs.Pairwise (fun a b => lt a b = true) := by
  rw [List.pairwise_iff_getElem]
  exact ⟨fun h i j hi hj hij => h i j hi hj hij, fun h i j hi hj hij => h i j hi hj hij⟩
theorem lt_tot {a b : ByteArray} (h : lt a b = false) (hn : a ≠ b) : lt b a = true := by
  rcases bl_cases a b with ⟨h1, h2, _, _, h3⟩ | ⟨h1, h2, _, _, h3⟩ | h'
  · exact absurd (show lt a b = true from h1) (by rw [h]; simp)
  · exact h2
  · exact absurd h' hn
theorem lb_split : ∀ {xs : List ByteArray} {s : ByteArray}, xs.Pairwise (fun a b => lt a b = true) → (∀ a ∈ xs.take (lbound xs s), lt a s = true) ∧ (∀ b ∈ xs.drop (lbound xs s), lt b s = false)
  | [], s, _ => ⟨fun a h => by simp at h, fun a h => by simp at h⟩
  | x :: t, s, h => by
    rw [List.pairwise_cons] at h
    have hlb : lbound (x :: t) s = lbound t s + if lt x s then 1 else 0 := by unfold lbound; rw [List.countP_cons]
    obtain ⟨i1, i2⟩ := lb_split (s := s) h.2
    cases hx : lt x s
    · have h0 : lbound t s = 0 := by
        unfold lbound
        rw [List.countP_eq_zero]
        intro y hy hys
        have := bl_trans _ _ _ (h.1 y hy) hys
        exact absurd (show lt x s = true from this) (by rw [hx]; simp)
      rw [hlb, hx, h0]
      rw [h0] at i2
      refine ⟨fun a ha => by simp at ha, fun b hb => ?_⟩
      simp at hb
      rcases hb with rfl | hb
      · exact hx
      · exact i2 b (by simpa using hb)
    · rw [hlb, hx]
      simp only [if_true, List.take_succ_cons, List.drop_succ_cons, List.mem_cons, forall_eq_or_imp]
      exact ⟨⟨hx, i1⟩, i2⟩
structure MapW (r : Nd) : Prop where
  kd : r.kind = 4
  nz : r.num = 0
  tz : r.text = ⟨#[]⟩
  asc : Asc r.names
  len : r.names.length = r.kids.length
def zK (r : Nd) : List (ByteArray × Nd) := r.names.zip r.kids
theorem zK_len {r : Nd} (h : MapW r) : (zK r).length = r.kids.length := by unfold zK; rw [List.length_zip, h.len, Nat.min_self]
theorem zK_in {r : Nd} (h : MapW r) {x : ByteArray} {v : Nd} (hm : (x, v) ∈ zK r) : mem r.names x = true ∧ kidOf r x = v := by
  obtain ⟨i, he⟩ := List.getElem?_of_mem hm
  unfold zK at he
  rw [List.getElem?_zip_eq_some] at he
  obtain ⟨e3, e4⟩ := he
  obtain ⟨h1, e1⟩ := List.getElem?_eq_some_iff.1 e3
  obtain ⟨h2, e2⟩ := List.getElem?_eq_some_iff.1 e4
  clear e3 e4
  dsimp only at e1 e2
  subst e1 e2
  have hlb := lb_at h.asc h1
  have hmm : mem r.names r.names[i] = true := mem_iff.2 (List.getElem_mem h1)
  refine ⟨hmm, ?_⟩
  rw [kidOf_yes hmm (by rw [hlb]; exact h2)]
  simp only [hlb]
theorem zK_of {r : Nd} (h : MapW r) {x : ByteArray} (hm : mem r.names x = true) : (x, kidOf r x) ∈ zK r := by
  obtain ⟨h1, h2⟩ := Go.Proofs.YtfjaobfaepjfnaaDoor.lb_lt h.asc hm
  have h3 : lbound r.names x < r.kids.length := by rw [← h.len]; exact h1
  rw [kidOf_yes hm h3]
  have : (zK r)[lbound r.names x]? = some (x, r.kids[lbound r.names x]) := by
    unfold zK
    rw [List.getElem?_zip_eq_some]
    exact ⟨by rw [List.getElem?_eq_getElem h1, h2], List.getElem?_eq_getElem h3⟩
  exact List.mem_of_getElem? this
theorem putK_w {r : Nd} (h : MapW r) (nm : ByteArray) (v : Nd) : MapW (putK r nm v) ∧ (nm, v) ∈ zK (putK r nm v) ∧ (∀ x w, x ≠ nm → (x, w) ∈ zK r → (x, w) ∈ zK (putK r nm v)) ∧ (∀ x, mem (putK r nm v).names x = true → x = nm ∨ mem r.names x = true) := by
  cases hm : mem r.names nm
  · rw [putK_no hm]
    have hle := lbn_le r.names nm
    have hl := h.len
    obtain ⟨s1, s2⟩ := lb_split (s := nm) (asc_pw.1 h.asc)
    have hz : zK ⟨r.kind, r.num, r.text, r.names.take (lbound r.names nm) ++ (nm :: r.names.drop (lbound r.names nm)), r.kids.take (lbound r.names nm) ++ (v :: r.kids.drop (lbound r.names nm))⟩ = (zK r).take (lbound r.names nm) ++ ((nm, v) :: (zK r).drop (lbound r.names nm)) := by
      unfold zK
      dsimp only
      rw [List.zip_append (by rw [List.length_take, List.length_take]; omega), List.zip_cons_cons]
      congr 1
      · exact (List.take_zipWith ..).symm
      · congr 1; exact (List.drop_zipWith ..).symm
    refine ⟨⟨h.kd, h.nz, h.tz, ?_, by dsimp only; simp only [List.length_append, List.length_cons, List.length_take, List.length_drop]; omega⟩, ?_, fun x w hx hxw => ?_, fun x hx => ?_⟩
    · rw [asc_pw]
      dsimp only
      have hp := asc_pw.1 h.asc
      rw [← List.take_append_drop (lbound r.names nm) r.names, List.pairwise_append] at hp
      rw [List.pairwise_append, List.pairwise_cons]
      have hb : ∀ b ∈ r.names.drop (lbound r.names nm), lt nm b = true := fun b hb => lt_tot (s2 b hb) (fun e => by
        subst e
        have := mem_iff.2 (List.mem_of_mem_drop hb)
        rw [hm] at this; cases this)
      refine ⟨hp.1, ⟨hb, hp.2.1⟩, fun a ha b hb' => ?_⟩
      rcases List.mem_cons.1 hb' with rfl | hb'
      · exact s1 a ha
      · exact hp.2.2 a ha b hb'
    · rw [hz]; simp
    · rw [hz]
      rw [← List.take_append_drop (lbound r.names nm) (zK r)] at hxw
      rcases List.mem_append.1 hxw with h | h
      · exact List.mem_append.2 (.inl h)
      · exact List.mem_append.2 (.inr (List.mem_cons.2 (.inr h)))
    · rw [mem_iff] at hx
      dsimp only at hx
      rw [List.mem_append, List.mem_cons] at hx
      rcases hx with hx | rfl | hx
      · exact .inr (mem_iff.2 (List.mem_of_mem_take hx))
      · exact .inl rfl
      · exact .inr (mem_iff.2 (List.mem_of_mem_drop hx))
  · rw [putK_yes hm]
    obtain ⟨h1, h2⟩ := Go.Proofs.YtfjaobfaepjfnaaDoor.lb_lt h.asc hm
    have h3 : lbound r.names nm < r.kids.length := by rw [← h.len]; exact h1
    have hW : MapW ⟨r.kind, r.num, r.text, r.names, r.kids.set (lbound r.names nm) v⟩ := ⟨h.kd, h.nz, h.tz, h.asc, by dsimp only; rw [List.length_set]; exact h.len⟩
    refine ⟨hW, ?_, fun x w hx hxw => ?_, fun x hx => .inr hx⟩
    · have : (zK ⟨r.kind, r.num, r.text, r.names, r.kids.set (lbound r.names nm) v⟩)[lbound r.names nm]? = some (nm, v) := by
        unfold zK
        rw [List.getElem?_zip_eq_some]
        exact ⟨by dsimp only; rw [List.getElem?_eq_getElem h1, h2], by dsimp only; rw [List.getElem?_set_self h3]⟩
      exact List.mem_of_getElem? this
    · obtain ⟨i, hi⟩ := List.getElem?_of_mem hxw
      unfold zK at hi
      rw [List.getElem?_zip_eq_some] at hi
      have hne : lbound r.names nm ≠ i := fun e => by
        subst e
        have := hi.1
        dsimp only at this
        rw [List.getElem?_eq_getElem h1, h2] at this
        exact hx (Option.some.inj this).symm
      have : (zK ⟨r.kind, r.num, r.text, r.names, r.kids.set (lbound r.names nm) v⟩)[i]? = some (x, w) := by
        unfold zK
        rw [List.getElem?_zip_eq_some]
        exact ⟨hi.1, by dsimp only; rw [List.getElem?_set_ne hne]; exact hi.2⟩
      exact List.mem_of_getElem? this
theorem dropK_w {r : Nd} (h : MapW r) (nm : ByteArray) : MapW (dropK r nm) ∧ mem (dropK r nm).names nm = false ∧ (∀ x w, x ≠ nm → (x, w) ∈ zK r → (x, w) ∈ zK (dropK r nm)) ∧ (∀ x, mem (dropK r nm).names x = true → x ≠ nm ∧ mem r.names x = true) := by
  cases hm : mem r.names nm
  · rw [dropK_no hm]
    exact ⟨h, hm, fun x w _ hx => hx, fun x hx => ⟨(fun e => by subst e; rw [hm] at hx; cases hx), hx⟩⟩
  · rw [dropK_yes hm]
    obtain ⟨h1, h2⟩ := Go.Proofs.YtfjaobfaepjfnaaDoor.lb_lt h.asc hm
    have h3 : lbound r.names nm < r.kids.length := by rw [← h.len]; exact h1
    have hl := h.len
    have hp := asc_pw.1 h.asc
    have hsp : r.names = r.names.take (lbound r.names nm) ++ (nm :: r.names.drop (lbound r.names nm + 1)) := by
      conv => lhs; rw [← List.take_append_drop (lbound r.names nm) r.names, List.drop_eq_getElem_cons h1, h2]
    have hp2 := hp
    rw [hsp, List.pairwise_append, List.pairwise_cons] at hp2
    obtain ⟨p1, ⟨p2, p3⟩, p4⟩ := hp2
    have hin : ∀ x, x ∈ r.names.take (lbound r.names nm) ++ r.names.drop (lbound r.names nm + 1) → x ≠ nm ∧ x ∈ r.names := fun x hx => by
      rcases List.mem_append.1 hx with hx | hx
      · refine ⟨fun e => ?_, List.mem_of_mem_take hx⟩
        subst e
        have := p4 x hx x (by simp)
        rw [lt_irr] at this; cases this
      · refine ⟨fun e => ?_, List.mem_of_mem_drop hx⟩
        subst e
        have := p2 x hx
        rw [lt_irr] at this; cases this
    refine ⟨⟨h.kd, h.nz, h.tz, ?_, by dsimp only; simp only [List.length_append, List.length_take, List.length_drop]; omega⟩, ?_, fun x w hx hxw => ?_, fun x hx => ?_⟩
    · rw [asc_pw]
      dsimp only
      rw [List.pairwise_append]
      exact ⟨p1, p3, fun a ha b hb => p4 a ha b (by simp [hb])⟩
    · exact mem_no (fun hx => (hin nm hx).1 rfl)
    · have hz : zK ⟨r.kind, r.num, r.text, r.names.take (lbound r.names nm) ++ r.names.drop (lbound r.names nm + 1), r.kids.take (lbound r.names nm) ++ r.kids.drop (lbound r.names nm + 1)⟩ = (zK r).take (lbound r.names nm) ++ (zK r).drop (lbound r.names nm + 1) := by
        unfold zK
        dsimp only
        rw [List.zip_append (by rw [List.length_take, List.length_take]; omega)]
        congr 1
        · exact (List.take_zipWith ..).symm
        · exact (List.drop_zipWith ..).symm
      rw [hz]
      have hzl : lbound r.names nm < (zK r).length := by rw [zK_len h]; exact h3
      have hzg : (zK r)[lbound r.names nm] = (nm, r.kids[lbound r.names nm]) := by
        have : (zK r)[lbound r.names nm]? = some (nm, r.kids[lbound r.names nm]) := by
          unfold zK
          rw [List.getElem?_zip_eq_some]
          exact ⟨by rw [List.getElem?_eq_getElem h1, h2], List.getElem?_eq_getElem h3⟩
        rw [List.getElem?_eq_getElem hzl] at this
        exact Option.some.inj this
      rw [← List.take_append_drop (lbound r.names nm) (zK r), List.drop_eq_getElem_cons hzl, hzg] at hxw
      rcases List.mem_append.1 hxw with hq | hq
      · exact List.mem_append.2 (.inl hq)
      · rcases List.mem_cons.1 hq with hq | hq
        · exact absurd (congrArg Prod.fst hq) hx
        · exact List.mem_append.2 (.inr hq)
    · have := hin x (mem_iff.1 hx)
      exact ⟨this.1, mem_iff.2 this.2⟩
theorem kidOf_put {r : Nd} (h : MapW r) (nm : ByteArray) (v : Nd) (x : ByteArray) : kidOf (putK r nm v) x = if x = nm then v else kidOf r x := by
  obtain ⟨h1, h2, h3, h4⟩ := putK_w h nm v
  by_cases e : x = nm
  · subst e; rw [if_pos rfl]; exact (zK_in h1 h2).2
  · rw [if_neg e]
    cases hm : mem r.names x
    · have : mem (putK r nm v).names x = false := by
        cases hq : mem (putK r nm v).names x
        · rfl
        · rcases h4 x hq with h | h
          · exact absurd h e
          · rw [hm] at h; cases h
      rw [kidOf_no this, kidOf_no hm]
    · exact (zK_in h1 (h3 x _ e (zK_of h hm))).2
theorem kidOf_drop {r : Nd} (h : MapW r) (nm : ByteArray) (x : ByteArray) : kidOf (dropK r nm) x = if x = nm then Nd.zero else kidOf r x := by
  obtain ⟨h1, h2, h3, h4⟩ := dropK_w h nm
  by_cases e : x = nm
  · subst e; rw [if_pos rfl]; exact kidOf_no h2
  · rw [if_neg e]
    cases hm : mem r.names x
    · have : mem (dropK r nm).names x = false := by
        cases hq : mem (dropK r nm).names x
        · rfl
        · rw [(h4 x hq).2] at hm; cases hm
      rw [kidOf_no this, kidOf_no hm]
    · exact (zK_in h1 (h3 x _ e (zK_of h hm))).2
theorem putK_kids {r v k : Nd} {nm : ByteArray} (h : k ∈ (putK r nm v).kids) : k = v ∨ k ∈ r.kids := by
  cases hm : mem r.names nm
  · rw [putK_no hm] at h
    rcases List.mem_append.1 h with h | h
    · exact .inr (List.mem_of_mem_take h)
    · rcases List.mem_cons.1 h with h | h
      · exact .inl h
      · exact .inr (List.mem_of_mem_drop h)
  · rw [putK_yes hm] at h
    exact (List.mem_or_eq_of_mem_set h).symm
theorem dropK_kids {r k : Nd} {nm : ByteArray} (h : k ∈ (dropK r nm).kids) : k ∈ r.kids := by
  cases hm : mem r.names nm
  · rw [dropK_no hm] at h; exact h
  · rw [dropK_yes hm] at h
    rcases List.mem_append.1 h with h | h
    · exact List.mem_of_mem_take h
    · exact List.mem_of_mem_drop h
theorem putK_klen {r v : Nd} {nm : ByteArray} : (putK r nm v).kids.length ≤ r.kids.length + 1 := by
  cases hm : mem r.names nm
  · rw [putK_no hm]; simp; omega
  · rw [putK_yes hm]; simp
theorem dropK_klen {r : Nd} {nm : ByteArray} : (dropK r nm).kids.length ≤ r.kids.length := by
  cases hm : mem r.names nm
  · rw [dropK_no hm]; exact Nat.le_refl _
  · rw [dropK_yes hm]; simp; omega
def baseM (n : Nd) : Nd := if n.kind = 4 then n else ⟨4, 0, ⟨#[]⟩, [], []⟩
mutual
def mrg : Nd → Nd → Nd
  | ⟨kind, num, text, names, kids⟩, n => if kind = 4 then mrgL names kids (baseM n) else ⟨kind, num, text, names, kids⟩
def mrgL : List ByteArray → List Nd → Nd → Nd
  | _, [], r => r
  | ns, k :: ks, r => mrgL ns.tail ks (if k.kind = 0 then dropK r (ns.headD ⟨#[]⟩) else putK r (ns.headD ⟨#[]⟩) (mrg k (kidOf r (ns.headD ⟨#[]⟩))))
end
def stepN (r : Nd) (nm : ByteArray) (k : Nd) : Nd := if k.kind = 0 then dropK r nm else putK r nm (mrg k (kidOf r nm))
theorem mrg_map {p : Nd} (h : p.kind = 4) (n : Nd) : mrg p n = mrgL p.names p.kids (baseM n) := by cases p; rw [mrg, if_pos h]
theorem mrg_no {p : Nd} (h : p.kind ≠ 4) (n : Nd) : mrg p n = p := by cases p; rw [mrg, if_neg h]
theorem mrgL_step {ns : List ByteArray} {ks : List Nd} {i : Nat} (h1 : i < ns.length) (h2 : i < ks.length) (r : Nd) : mrgL (ns.drop i) (ks.drop i) r = mrgL (ns.drop (i + 1)) (ks.drop (i + 1)) (stepN r ns[i] ks[i]) := by
  rw [List.drop_eq_getElem_cons h1, List.drop_eq_getElem_cons h2, mrgL]
  rfl
theorem shp_zero : Shp Nd.zero := ⟨1, by simp [shapeB_eq, partsB, Nd.zero, shapeL]⟩
theorem base_w {n : Nd} (h : Shp n) : MapW (baseM n) := by
  unfold baseM
  split
  · rename_i h4
    have hp := h.parts
    unfold partsB at hp
    simp only [Bool.and_eq_true, Bool.or_eq_true, decide_eq_true_eq] at hp
    obtain ⟨⟨⟨h1, h2⟩, h3⟩, _⟩ := hp
    refine ⟨h4, by rcases h1 with h | h <;> omega, ?_, h.asc h4, ((h.map h4).2).symm⟩
    rcases h2 with h | h
    · omega
    · have ht : n.text.toList = [] := by simpa using h
      exact of_decide_eq_true (by rw [← beq_toList, ht]; decide +kernel)
  · exact ⟨rfl, rfl, rfl, fun i j hi => by simp at hi, rfl⟩
theorem base_kids {n : Nd} (h : Shp n) : (baseM n).kids.length ≤ 6 ∧ ∀ k ∈ (baseM n).kids, Shp k := by
  unfold baseM
  split
  · exact ⟨h.kids, fun k hk => h.kid hk⟩
  · exact ⟨by simp, fun k hk => by cases hk⟩
theorem base_old {n : Nd} (h : Shp n) (x : ByteArray) : Shp (kidOf (baseM n) x) := by
  have hw := base_w h
  cases hm : mem (baseM n).names x
  · rw [kidOf_no hm]; exact shp_zero
  · exact (base_kids h).2 _ (kidOf_mem hw.asc (by rw [hw.len]; exact Nat.le_refl _) hm)
structure Mid (n p : Nd) (i : Nat) (r : Nd) : Prop where
  w : MapW r
  wide : r.kids.length ≤ 6 + i
  sml : ∀ k ∈ r.kids, Sml k
  old : ∀ x, x ∉ p.names.take i → kidOf r x = kidOf (baseM n) x
theorem Mid.start {n : Nd} (h : Shp n) (p : Nd) : Mid n p 0 (baseM n) := ⟨base_w h, (base_kids h).1, fun k hk => ((base_kids h).2 k hk).sml, fun _ _ => rfl⟩
theorem fresh_name {p : Nd} (hp : Shp p) (h4 : p.kind = 4) {i : Nat} (hi : i < p.names.length) : p.names[i] ∉ p.names.take i := fun hm => by
  obtain ⟨j, hj, he⟩ := List.getElem_of_mem hm
  rw [List.length_take] at hj
  rw [List.getElem_take] at he
  have := hp.asc h4 j i (by omega) hi (by omega)
  rw [he, lt_irr] at this; cases this
theorem Mid.kid {n p r : Nd} {i : Nat} (h : Mid n p i r) (hp : Shp p) (h4 : p.kind = 4) (hn : Shp n) (hi : i < p.names.length) : kidOf r p.names[i] = kidOf (baseM n) p.names[i] := h.old _ (fresh_name hp h4 hi)
theorem Mid.step {n p r : Nd} {i : Nat} (h : Mid n p i r) (hi : i < p.names.length) (hk : i < p.kids.length) (hs : p.kids[i].kind ≠ 0 → Sml (mrg p.kids[i] (kidOf r p.names[i]))) : Mid n p (i + 1) (stepN r p.names[i] p.kids[i]) := by
  have hx : ∀ x, x ∉ p.names.take (i + 1) → x ≠ p.names[i] ∧ x ∉ p.names.take i := fun x hx => by
    rw [List.take_add_one, List.getElem?_eq_getElem hi, Option.toList_some, List.mem_append, List.mem_singleton] at hx
    exact ⟨fun e => hx (.inr e), fun e => hx (.inl e)⟩
  unfold stepN
  split
  · exact ⟨(dropK_w h.w _).1, by have := h.wide; have := dropK_klen (r := r) (nm := p.names[i]); omega, fun k hk => h.sml k (dropK_kids hk), fun x hxn => by
      rw [kidOf_drop h.w, if_neg (hx x hxn).1]; exact h.old x (hx x hxn).2⟩
  · rename_i h0
    exact ⟨(putK_w h.w _ _).1, by have := h.wide; have := putK_klen (r := r) (nm := p.names[i]) (v := mrg p.kids[i] (kidOf r p.names[i])); omega, fun k hk => by
      rcases putK_kids hk with rfl | hk
      · exact hs h0
      · exact h.sml k hk, fun x hxn => by
      rw [kidOf_put h.w, if_neg (hx x hxn).1]; exact h.old x (hx x hxn).2⟩
theorem Mid.smlR {n p r : Nd} {i : Nat} (h : Mid n p i r) (hi : i ≤ 6) : Sml r := .mk _ (by rw [h.w.len]; have := h.wide; omega) (by have := h.wide; omega) h.sml
theorem mrg_loop {n p : Nd} (hp : Shp p) (h4 : p.kind = 4) (I : Nat → Nd → Prop) (h0 : I 0 (baseM n)) (hs : ∀ i (hi : i < p.names.length) (hk : i < p.kids.length) r, I i r → I (i + 1) (stepN r p.names[i] p.kids[i])) : I p.kids.length (mrg p n) := by
  have hl := (hp.map h4).2
  have key : ∀ j, j ≤ p.kids.length → ∃ r, I j r ∧ mrgL (p.names.drop j) (p.kids.drop j) r = mrg p n := fun j => by
    induction j with
    | zero => exact fun _ => ⟨_, h0, by rw [mrg_map h4]; rfl⟩
    | succ j ih =>
      intro hj
      obtain ⟨r, h1, h2⟩ := ih (by omega)
      rw [mrgL_step (by omega) (by omega)] at h2
      exact ⟨_, hs j (by omega) (by omega) r h1, h2⟩
  obtain ⟨r, h1, h2⟩ := key _ (Nat.le_refl _)
  rw [List.drop_of_length_le (Nat.le_refl _), List.drop_of_length_le (by omega), mrgL] at h2
  rw [← h2]; exact h1
theorem mrg_sml : ∀ p, Shp p → ∀ n, Shp n → Sml (mrg p n) := Nd.ind' _ (fun p ih hp n hn => by
  by_cases h4 : p.kind = 4
  · have h6 := hp.kids
    refine Mid.smlR (n := n) (p := p) (mrg_loop hp h4 (Mid n p) (Mid.start hn p) (fun i hi hk r h => h.step hi hk (fun _ => ?_))) h6
    rw [h.kid hp h4 hn hi]
    exact ih _ (List.getElem_mem hk) (hp.kid (List.getElem_mem hk)) _ (base_old hn _)
  · rw [mrg_no h4]; exact hp.sml)
theorem Mid.next {n p r : Nd} {i : Nat} (h : Mid n p i r) (hp : Shp p) (h4 : p.kind = 4) (hn : Shp n) (hi : i < p.names.length) (hk : i < p.kids.length) : Mid n p (i + 1) (stepN r p.names[i] p.kids[i]) := h.step hi hk (fun _ => by
  rw [h.kid hp h4 hn hi]
  exact mrg_sml _ (hp.kid (List.getElem_mem hk)) _ (base_old hn _))
end Go.Proofs.YtfjaobfaepjfnaaDoor.Eng
-- EV: rows
namespace Go.Proofs.YtfjaobfaepjfnaaDoor.Eng
open Go Go.RowKit
attribute [local simp] big size_mk ASt.pay Option.map_map Function.comp_def awant aop acall ado aev ofVal ofVal0 ASt.put ASt.add ASt.turn ASt.kill abox aalloc astore aload aloadD astoreD idOf ASt.at cellsTo afieldAddr afield aindexAddr aindex alen abin aint acmp astr aun apick aextract anil aslice abound abuild afill abuildSlice asCells aps avCells over upd aappend asrc amax amin aconv mkSt slots rowsOf_cons rowsOf_nil usedOf_cons usedOf_nil ZK.av List.replicate ASt.back ASt.addL ASt.killL nodeA nodeT nodeTL_eq nodeL_eq strsE_get strsE_len intsE_get intsE_len strsE_at intsE_at nodeN namesRow nodeO kidsRow tab2 tab3 tab4 tab5 tab6 tab7 tab8 tab9 tab10 tab11 tab12 tab13 tab14 tab15 tab16 tab17 tab18 tab19 tab21 tab22 tab23 tab24 tab25 tab26 tab28 tab29 tab30 tab31 tab42 tab43 tab44 tab46 tab63 tab64 tab67 tab68 tab75 tab98 tab100 tab101 tab105 tab106 tab107 tab122 tab123 tab125 tab128 tab138 tab144 tab151 tab152 tab157 tab158 tab160 tab161 tab162
end Go.Proofs.YtfjaobfaepjfnaaDoor.Eng
-- EV: rows skip
namespace Go.Proofs.YtfjaobfaepjfnaaDoor.Eng
open Go Go.RowKit
attribute [local simp] big size_mk ASt.pay Option.map_map Function.comp_def awant aop acall ado aev ofVal ofVal0 ASt.put ASt.add ASt.turn ASt.kill abox aalloc astore aload aloadD astoreD idOf ASt.at cellsTo afieldAddr afield aindexAddr aindex alen abin aint acmp astr aun apick aextract anil aslice abound abuild afill abuildSlice asCells aps avCells over upd aappend asrc amax amin aconv mkSt slots rowsOf_cons rowsOf_nil usedOf_cons usedOf_nil ZK.av List.replicate ASt.back ASt.addL ASt.killL nodeA nodeT nodeTL_eq nodeL_eq strsE_get strsE_len intsE_get intsE_len strsE_at intsE_at nodeN namesRow nodeO kidsRow tab2 tab3 tab4 tab5 tab6 tab7 tab8 tab9 tab10 tab11 tab12 tab13 tab14 tab15 tab16 tab17 tab18 tab19 tab21 tab22 tab23 tab24 tab25 tab26 tab28 tab29 tab30 tab31 tab42 tab43 tab44 tab46 tab63 tab64 tab67 tab68 tab75 tab98 tab100 tab101 tab105 tab106 tab107 tab122 tab123 tab125 tab128 tab138 tab144 tab151 tab152 tab157 tab158 tab160 tab161 tab162
end Go.Proofs.YtfjaobfaepjfnaaDoor.Eng
-- EV: rows
namespace Go.Proofs.YtfjaobfaepjfnaaDoor.Eng
open Go Go.RowKit
attribute [local simp] big size_mk ASt.pay Option.map_map Function.comp_def awant aop acall ado aev ofVal ofVal0 ASt.put ASt.add ASt.turn ASt.kill abox aalloc astore aload aloadD astoreD idOf ASt.at cellsTo afieldAddr afield aindexAddr aindex alen abin aint acmp astr aun apick aextract anil aslice abound abuild afill abuildSlice asCells aps avCells over upd aappend asrc amax amin aconv mkSt slots rowsOf_cons rowsOf_nil usedOf_cons usedOf_nil ZK.av List.replicate ASt.back ASt.addL ASt.killL nodeA nodeT nodeTL_eq nodeL_eq strsE_get strsE_len intsE_get intsE_len strsE_at intsE_at nodeN namesRow nodeO kidsRow tab2 tab3 tab4 tab5 tab6 tab7 tab8 tab9 tab10 tab11 tab12 tab13 tab14 tab15 tab16 tab17 tab18 tab19 tab21 tab22 tab23 tab24 tab25 tab26 tab28 tab29 tab30 tab31 tab42 tab43 tab44 tab46 tab63 tab64 tab67 tab68 tab75 tab98 tab100 tab101 tab105 tab106 tab107 tab122 tab123 tab125 tab128 tab138 tab144 tab151 tab152 tab157 tab158 tab160 tab161 tab162
end Go.Proofs.YtfjaobfaepjfnaaDoor.Eng
-- EV: rows skip
namespace Go.Proofs.YtfjaobfaepjfnaaDoor.Eng
open Go Go.RowKit
attribute [local simp] big size_mk ASt.pay Option.map_map Function.comp_def awant aop acall ado aev ofVal ofVal0 ASt.put ASt.add ASt.turn ASt.kill abox aalloc astore aload aloadD astoreD idOf ASt.at cellsTo afieldAddr afield aindexAddr aindex alen abin aint acmp astr aun apick aextract anil aslice abound abuild afill abuildSlice asCells aps avCells over upd aappend asrc amax amin aconv mkSt slots rowsOf_cons rowsOf_nil usedOf_cons usedOf_nil ZK.av List.replicate ASt.back ASt.addL ASt.killL nodeA nodeT nodeTL_eq nodeL_eq strsE_get strsE_len intsE_get intsE_len strsE_at intsE_at nodeN namesRow nodeO kidsRow tab2 tab3 tab4 tab5 tab6 tab7 tab8 tab9 tab10 tab11 tab12 tab13 tab14 tab15 tab16 tab17 tab18 tab19 tab21 tab22 tab23 tab24 tab25 tab26 tab28 tab29 tab30 tab31 tab42 tab43 tab44 tab46 tab63 tab64 tab67 tab68 tab75 tab98 tab100 tab101 tab105 tab106 tab107 tab122 tab123 tab125 tab128 tab138 tab144 tab151 tab152 tab157 tab158 tab160 tab161 tab162
end Go.Proofs.YtfjaobfaepjfnaaDoor.Eng
namespace Go.Proofs.YtfjaobfaepjfnaaDoor.Eng
open Go Go.RowKit
attribute [local simp] big size_mk ASt.pay Option.map_map Function.comp_def awant aop acall ado aev ofVal ofVal0 ASt.put ASt.add ASt.turn ASt.kill abox aalloc astore aload aloadD astoreD idOf ASt.at cellsTo afieldAddr afield aindexAddr aindex alen abin aint acmp astr aun apick aextract anil aslice abound abuild afill abuildSlice asCells aps avCells over upd aappend asrc amax amin aconv mkSt slots rowsOf_cons rowsOf_nil usedOf_cons usedOf_nil ZK.av List.replicate ASt.back ASt.addL ASt.killL nodeA nodeT nodeTL_eq nodeL_eq strsE_get strsE_len intsE_get intsE_len strsE_at intsE_at tab2 tab3 tab4 tab5 tab6 tab7 tab8 tab9 tab10 tab11 tab12 tab13 tab14 tab15 tab16 tab17 tab18 tab19 tab21 tab22 tab23 tab24 tab25 tab26 tab28 tab29 tab30 tab31 tab42 tab43 tab44 tab46 tab63 tab64 tab67 tab68 tab75 tab98 tab100 tab101 tab105 tab106 tab107 tab122 tab123 tab125 tab128 tab138 tab144 tab151 tab152 tab157 tab158 tab160 tab161 tab162
theorem equalNodes_step (t t' : VC) (ks : List Nd) (hn : ks.length ≤ 1000000) (ih : ∀ k ∈ ks, AC Tryd.prog 40 [nodeA k, nodeA k] 0 (fun r => r = .bool true)) : AC Tryd.prog 82 [.view t 5 (ks.map nodeL), .view t' 5 (ks.map nodeL)] 0 (fun r => r = .bool true) := by
  refine AC.of tab_ok mixed_ok Tryd.func82 (by rfl) (by kernel_rfl) ?_; rintro ⟨P, T, hT, hm, w0, S0, rd0, k0⟩ hP hTT; dsimp only at hP hTT; subst hP hTT; unfold initSt; rw [Tryd.ntmps82]
  (repeat (first | with_reducible refine AW.seq ?_ | ((first | refine arun_kn 4 rfl (fun C hC => ?_) | refine arunD_kn 4 rfl (fun C hC => ?_)); (repeat ((conv => whnf); simp [List.length_map])); refine hC _ ?_; clear hC C; simp only [List.drop, Nat.reduceAdd]) | ((first | refine arun_kn 1 rfl (fun C hC => ?_) | refine arunD_kn 1 rfl (fun C hC => ?_)); (repeat ((conv => whnf); simp [List.length_map])); refine hC _ ?_; clear hC C; simp only [List.drop, Nat.reduceAdd]) | (refine arun_skip ?_ ?_; (focus (simp [awant, List.length_map]; done))) | (refine AW.regionK [] (fun K hK => ?_)) | (refine AW.regionDK [] (pcs [] []) (by kernel_rfl) (by kernel_rfl) (fun K hK => ?_)) | (refine AW.condT ?_ ?_; (focus (simp [aev, List.length_map]; done))) | (refine AW.condF ?_ ?_; (focus (simp [aev, List.length_map]; done))) | with_reducible refine AW.block ?_ | ((first | ((first | refine arun_nil ?_ | refine arunD_nil ?_); refine hK _ ?_; clear hK K) | refine AW.skip ?_ | refine AW.exit ?_ | refine AW.ret ?_); simp only [thenA_exit, inBlockA_exit, if_true, if_false, Nat.reduceEqDiff, thenA_normal, inBlockA_normal, reduceIte, thenA_ret, inBlockA_ret, endQ_ret, endR_ret, endG_ret, endQ_normal, endR_normal, endG_normal])))
  refine AW.loopS (fun (i : Nat) => mkSt (slots 0 27 [(0, .view t 5 (ks.map nodeL)), (1, .view t' 5 (ks.map nodeL)), (5, .int .i64 i)]) [] [] (rd0.map fun _ => 0)) (fun i => ks.length - i) (fun i => i ≤ ks.length) 0 ?_ (Nat.zero_le _) ?_
  · exact less_a
  · intro i hi
    by_cases hlt : i < ks.length
    · have hw : IntKind.i64.wrap ((i : Int) + 1) = (i : Int) + 1 := i64_nat (by omega) (by omega)
      have hik := ih ks[i] (List.getElem_mem hlt)
      (repeat (first | with_reducible refine AW.seq ?_ | ((first | refine arun_kn 4 rfl (fun C hC => ?_) | refine arunD_kn 4 rfl (fun C hC => ?_)); (repeat ((conv => whnf); simp [hlt, hw, List.length_map])); refine hC _ ?_; clear hC C; simp only [List.drop, Nat.reduceAdd]) | ((first | refine arun_kn 1 rfl (fun C hC => ?_) | refine arunD_kn 1 rfl (fun C hC => ?_)); (repeat ((conv => whnf); simp [hlt, hw, List.length_map])); refine hC _ ?_; clear hC C; simp only [List.drop, Nat.reduceAdd]) | (refine arun_skip ?_ ?_; (focus (simp [awant, hlt, hw, List.length_map]; done))) | (refine arun_c0 (hik) ?_; rintro _ rfl) | (refine arunD_c (0) (hik) ?_; rintro _ rfl; intro _) | (refine AW.regionK [] (fun K hK => ?_)) | (refine AW.regionDK [] (pcs [(8, 0, fun r => r = .bool true)] []) (by kernel_rfl) (by kernel_rfl) (fun K hK => ?_)) | (refine AW.condT ?_ ?_; (focus (simp [aev, hlt, hw, List.length_map]; done))) | (refine AW.condF ?_ ?_; (focus (simp [aev, hlt, hw, List.length_map]; done))) | with_reducible refine AW.block ?_ | ((first | ((first | refine arun_nil ?_ | refine arunD_nil ?_); refine hK _ ?_; clear hK K) | refine AW.skip ?_ | refine AW.exit ?_ | refine AW.ret ?_); simp only [thenA_exit, inBlockA_exit, if_true, if_false, Nat.reduceEqDiff, thenA_normal, inBlockA_normal, reduceIte, thenA_ret, inBlockA_ret, endQ_ret, endR_ret, endG_ret, endQ_normal, endR_normal, endG_normal])))
      exact ⟨i + 1, by omega, by omega, less_a⟩
    · (repeat (first | with_reducible refine AW.seq ?_ | ((first | refine arun_kn 4 rfl (fun C hC => ?_) | refine arunD_kn 4 rfl (fun C hC => ?_)); (repeat ((conv => whnf); simp [hlt, List.length_map])); refine hC _ ?_; clear hC C; simp only [List.drop, Nat.reduceAdd]) | ((first | refine arun_kn 1 rfl (fun C hC => ?_) | refine arunD_kn 1 rfl (fun C hC => ?_)); (repeat ((conv => whnf); simp [hlt, List.length_map])); refine hC _ ?_; clear hC C; simp only [List.drop, Nat.reduceAdd]) | (refine arun_skip ?_ ?_; (focus (simp [awant, hlt, List.length_map]; done))) | (refine AW.regionK [] (fun K hK => ?_)) | (refine AW.regionDK [] (pcs [] []) (by kernel_rfl) (by kernel_rfl) (fun K hK => ?_)) | (refine AW.condT ?_ ?_; (focus (simp [aev, hlt, List.length_map]; done))) | (refine AW.condF ?_ ?_; (focus (simp [aev, hlt, List.length_map]; done))) | with_reducible refine AW.block ?_ | ((first | ((first | refine arun_nil ?_ | refine arunD_nil ?_); refine hK _ ?_; clear hK K) | refine AW.skip ?_ | refine AW.exit ?_ | refine AW.ret ?_); simp only [thenA_exit, inBlockA_exit, if_true, if_false, Nat.reduceEqDiff, thenA_normal, inBlockA_normal, reduceIte, thenA_ret, inBlockA_ret, endQ_ret, endR_ret, endG_ret, endQ_normal, endR_normal, endG_normal])))
      exact ⟨.bool true, by simp [ares, aresL], pur_bool, rfl⟩
theorem equalNode_step (n : Nd) (hs : Sml n) (t t' : VC) (ih : ∀ k ∈ n.kids, AC Tryd.prog 40 [nodeA k, nodeA k] 0 (fun r => r = .bool true)) : AC Tryd.prog 40 [nodeT t n, nodeT t' n] 0 (fun r => r = .bool true) := by
  have hs1 := hs.names
  have hs2 := hs.kids
  have p1 := equalTexts_AC t t' n.names n.names (by omega)
  have p2 := equalNodes_step .loose .loose n.kids (by omega) ih
  rw [eqT_refl] at p1
  refine AC.of tab_ok mixed_ok Tryd.func40 (by rfl) (by kernel_rfl) ?_; rintro ⟨P, T, hT, hm, w0, S0, rd0, k0⟩ hP hTT; dsimp only at hP hTT; subst hP hTT; unfold initSt; rw [Tryd.ntmps40]
  unfold nodeT
  rw [nodeTL_eq, nodeTL_eq]
  (repeat (first | with_reducible refine AW.seq ?_ | ((first | refine arun_kn 4 rfl (fun C hC => ?_) | refine arunD_kn 4 rfl (fun C hC => ?_)); (repeat ((conv => whnf); simp [eqs_self', nodeTL_eq])); refine hC _ ?_; clear hC C; simp only [List.drop, Nat.reduceAdd]) | ((first | refine arun_kn 1 rfl (fun C hC => ?_) | refine arunD_kn 1 rfl (fun C hC => ?_)); (repeat ((conv => whnf); simp [eqs_self', nodeTL_eq])); refine hC _ ?_; clear hC C; simp only [List.drop, Nat.reduceAdd]) | (refine arun_skip ?_ ?_; (focus (simp [awant, eqs_self', nodeTL_eq]; done))) | (refine arun_c0 (p1) ?_; rintro _ rfl) | (refine arun_c0 (p2) ?_; rintro _ rfl) | (refine AW.regionK [] (fun K hK => ?_)) | (refine AW.regionDK [] (pcs [] []) (by kernel_rfl) (by kernel_rfl) (fun K hK => ?_)) | (refine AW.condT ?_ ?_; (focus (simp [aev, eqs_self', nodeTL_eq]; done))) | (refine AW.condF ?_ ?_; (focus (simp [aev, eqs_self', nodeTL_eq]; done))) | with_reducible refine AW.block ?_ | ((first | ((first | refine arun_nil ?_ | refine arunD_nil ?_); refine hK _ ?_; clear hK K) | refine AW.skip ?_ | refine AW.exit ?_ | refine AW.ret ?_); simp only [thenA_exit, inBlockA_exit, if_true, if_false, Nat.reduceEqDiff, thenA_normal, inBlockA_normal, reduceIte, thenA_ret, inBlockA_ret, endQ_ret, endR_ret, endG_ret, endQ_normal, endR_normal, endG_normal])))
  exact ⟨.bool true, by simp [ares, aresL], pur_bool, rfl⟩
theorem equalNode_AC : ∀ n, Sml n → ∀ t t', AC Tryd.prog 40 [nodeT t n, nodeT t' n] 0 (fun r => r = .bool true) := Nd.ind' _ (fun n ih hs t t' =>
  equalNode_step n hs t t' (fun k hk => by have := ih k hk (hs.kid hk) .loose .loose; rwa [nodeT_loose] at this))
end Go.Proofs.YtfjaobfaepjfnaaDoor.Eng
-- EV: rows skip
namespace Go.Proofs.YtfjaobfaepjfnaaDoor.Eng
open Go Go.RowKit
attribute [local simp] big size_mk ASt.pay Option.map_map Function.comp_def awant aop acall ado aev ofVal ofVal0 ASt.put ASt.add ASt.turn ASt.kill abox aalloc astore aload aloadD astoreD idOf ASt.at cellsTo afieldAddr afield aindexAddr aindex alen abin aint acmp astr aun apick aextract anil aslice abound abuild afill abuildSlice asCells aps avCells over upd aappend asrc amax amin aconv mkSt slots rowsOf_cons rowsOf_nil usedOf_cons usedOf_nil ZK.av List.replicate ASt.back ASt.addL ASt.killL nodeA nodeT nodeTL_eq nodeL_eq strsE_get strsE_len intsE_get intsE_len strsE_at intsE_at nodeN namesRow nodeO kidsRow tab2 tab3 tab4 tab5 tab6 tab7 tab8 tab9 tab10 tab11 tab12 tab13 tab14 tab15 tab16 tab17 tab18 tab19 tab21 tab22 tab23 tab24 tab25 tab26 tab28 tab29 tab30 tab31 tab42 tab43 tab44 tab46 tab63 tab64 tab67 tab68 tab75 tab98 tab100 tab101 tab105 tab106 tab107 tab122 tab123 tab125 tab128 tab138 tab144 tab151 tab152 tab157 tab158 tab160 tab161 tab162
end Go.Proofs.YtfjaobfaepjfnaaDoor.Eng
namespace Go.Proofs.YtfjaobfaepjfnaaDoor.Eng
open Go Go.RowKit
theorem countL_take {l : List Nd} {i : Nat} (h : i < l.length) : countL (l.take (i + 1)) = countL (l.take i) + l[i].count := by
  rw [List.take_add_one, List.getElem?_eq_getElem h, Option.toList_some, countL_snoc]
end Go.Proofs.YtfjaobfaepjfnaaDoor.Eng
namespace Go.Proofs.YtfjaobfaepjfnaaDoor.Eng
open Go Go.RowKit
theorem Shp.kd {m : Nd} (h : Shp m) {k : Nat} (hk : k < m.kids.length) : m.kind = 4 ∨ m.kind = 3 := by
  by_cases h4 : m.kind = 4
  · exact .inl h4
  · by_cases h3 : m.kind = 3
    · exact .inr h3
    · have := h.leaf h4 h3; omega
end Go.Proofs.YtfjaobfaepjfnaaDoor.Eng
