/-
  Texts of this claim, joined.
-/
import Derived.Lib.Bytealg
import Derived.BigQuiet
import Derived.Laws.AppendOwn
import Derived.Laws.AppendOwnNone
import Derived.Laws.OwnMore
import Derived.Test.YtgfnmhfdmmnaoaaNqE

set_option linter.unusedSimpArgs false
set_option linter.unusedVariables false
set_option linter.unnecessarySimpa false
set_option maxRecDepth 100000
set_option maxHeartbeats 16000000
namespace Go.Proofs.Ytgfnmhfdmmnaoaa.Eng
open Go Go.RowKit
attribute [local simp] big size_mk ASt.pay Option.map_map Function.comp_def awant aop acall ado aev ofVal ofVal0 ASt.put ASt.add ASt.turn ASt.kill abox aalloc astore aload aloadD astoreD idOf ASt.at cellsTo afieldAddr afield aindexAddr aindex alen abin aint acmp astr aun apick aextract anil aslice abound abuild afill abuildSlice asCells aps avCells over upd aappend asrc amax amin aconv mkSt slots rowsOf_cons rowsOf_nil usedOf_cons usedOf_nil ZK.av List.replicate ASt.back ASt.addL ASt.killL nodeA nodeT nodeTL_eq nodeL_eq strsE_get strsE_len intsE_get intsE_len strsE_at intsE_at tab2 tab3 tab4 tab5 tab6 tab7 tab8 tab9 tab10 tab11 tab12 tab13 tab14 tab15 tab16 tab17 tab18 tab19 tab21 tab22 tab23 tab24 tab25 tab26 tab27 tab28 tab29 tab30 tab39 tab40 tab41 tab42 tab43 tab47 tab48 tab55 tab56 tab57 tab60 tab61 tab62 tab73 tab74 tab75 tab85 tab92 tab115 tab116 tab143 tab144 tab145 tab154 tab155 tab170 tab175 tab182 tab197 tab198 tab203 tab204 tab205 tab207 tab208 tab209
theorem AC.args {P : Program} {f : FuncId} {args args' : List AV} {c : Nat} {Post : AV → Prop} (h : AC P f args c Post) (hw : ∀ w ρ vs, RepL w ρ args' vs → RepL w ρ args vs) : AC P f args' c Post :=
  ⟨h.1, fun w L S rb k vs h0 h1 h2 h3 => h.2 w L S rb k vs h0 h1 h2 (hw w _ vs h3)⟩
theorem ACR.args {P : Program} {f : FuncId} {args args' : List AV} {c : Nat} {Post0 : AV → Prop} {Post : (Nat → AV) → Row → Prop} (h : ACR P f args c Post0 Post) (hw : ∀ w ρ vs, RepL w ρ args' vs → RepL w ρ args vs) : ACR P f args' c Post0 Post :=
  ⟨h.1, fun w L S rb k vs h0 h1 h2 h3 => h.2 w L S rb k vs h0 h1 h2 (hw w _ vs h3)⟩
theorem shape_way : ∀ n, ∀ d, shapeB n d = true → Way n := Nd.ind' _ (fun n ih d h => by
  rw [shapeB_eq] at h
  simp only [Bool.and_eq_true] at h
  have hp := parts_len h.1.2
  refine .mk n (fun h4 => ?_) hp.2 (fun k hk => ih k hk (d - 1) (shapeL_mem h.2 k hk))
  have h12 := h.1.2
  unfold partsB at h12
  simp only [Bool.and_eq_true] at h12
  have := h12.2
  rw [h4] at this
  simp at this
  omega)
theorem valid_way {n : Nd} (h : validB n = true) : Way n ∧ n.depth ≤ 5 ∧ n.count ≤ 40 := by
  unfold validB at h
  rw [Bool.and_eq_true] at h
  exact ⟨shape_way n 5 h.1, depth_le 5 n h.1, by simpa using h.2⟩
def wayS (n : Nd) : List (List ByteArray) := if validB n then allS n else []
theorem paths_sub (l : List (List ByteArray)) : AV.sub 0 (pathsR l).es.length (.view .loose (pathsR l).sz (pathsR l).es) (.own 0 l.length) = .view .loose 1 (pathsE l) := by
  simp [AV.sub, pathsR, pathsE_len]
theorem AC.ofPaths {f : FuncId} {args : List AV} {c : Nat} {l : List (List ByteArray)} (h : ACR Try.prog f args c (fun _ => False) (fun f R => f = (fun id => .own id l.length) ∧ R = pathsR l)) : AC Try.prog f args c (fun r => r = .view .loose 1 (pathsE l)) := by
  refine (AC.ofR h ?_).mono ?_
  · rintro r R ⟨rfl, rfl⟩
    rw [paths_sub]; exact paths_in _
  · rintro r (h | ⟨f, R, ⟨rfl, rfl⟩, rfl⟩)
    · exact h.elim
    · exact paths_sub l
theorem Less.hold {s : ASt} (id : Nat) : Less s (s.hold id) := fun _ _ _ _ _ _ _ _ hs => by
  obtain ⟨ρ', h, _⟩ := SR.held hs id
  exact ⟨ρ', h⟩
theorem allL_mem {k : Int} {ns : List ByteArray} {b : List ByteArray} : ∀ {ks : List Nd} {i : Nat}, b ∈ allL k ns ks i → ∃ x ∈ ks, ∃ c ∈ allS x, ∃ j, b = stp k ns j :: c
  | [], _, h => by rw [allL] at h; cases h
  | x :: xs, i, h => by
    rw [allL, List.mem_append] at h
    rcases h with h | h
    · obtain ⟨c, hc, rfl⟩ := List.mem_map.1 h
      exact ⟨x, by simp, c, hc, i, rfl⟩
    · obtain ⟨y, hy, c, hc, j, rfl⟩ := allL_mem h
      exact ⟨y, by simp [hy], c, hc, j, rfl⟩
theorem allS_short : ∀ n : Nd, ∀ b ∈ allS n, b.length < n.depth := Nd.ind' _ (fun n ih b hb => by
  rw [allS_eq] at hb
  have hd := n.depth_eq
  rcases List.mem_cons.1 hb with rfl | hb
  · simp; omega
  · obtain ⟨x, hx, c, hc, j, rfl⟩ := allL_mem hb
    have h1 := ih x hx c hc
    have h2 := depth_mem hx
    rw [List.length_cons]; omega)
theorem allW_step (n : Nd) (hn : Way n) (hc : n.count ≤ 1000) (hd : n.depth ≤ 500) (ih : ∀ k ∈ n.kids, k.count ≤ 1000 → k.depth ≤ 500 → AC Try.prog 164 [nodeA k] 0 (fun r => r = .view .loose 1 (pathsE (allS k)))) : ACR Try.prog 164 [nodeA n] 0 (fun _ => False) (fun f R => f = (fun id => .own id (allS n).length) ∧ R = pathsR (allS n)) := by
  have hcnt := n.count_eq
  have hdep := n.depth_eq
  have hk6 := hn.kids
  have hin : ∀ (L : List (List ByteArray)) (U : Nat → Bool), ∀ e ∈ pathsE L, ∀ c ∈ e, AV.In U c := fun L U => pathsE_in L
  unfold nodeA
  rw [nodeL_eq]
  refine ACR.of tab_ok mixed_ok Try.func164 (by rfl) (by kernel_rfl) ?_; rintro ⟨P, T, hT, hm, w0, S0, rd0, k0⟩ hP hTT; dsimp only at hP hTT; subst hP hTT; unfold initSt; rw [Try.ntmps164]
  (repeat (first | with_reducible refine AW.seq ?_ | ((first | refine arun_knb 1 rfl (fun C hC => ?_) | refine arunD_kn 1 rfl (fun C hC => ?_)); (repeat ((conv => whnf); simp)); refine hC _ ?_; clear hC C; simp only [List.drop, Nat.reduceAdd]) | (refine arun_skip ?_ ?_; (focus (simp [awant]; done))) | (refine AW.regionK [] (fun K hK => ?_)) | (refine AW.regionDK [] (pcs [] []) (by kernel_rfl) (by kernel_rfl) (fun K hK => ?_)) | (refine AW.condT ?_ ?_; (focus (simp [aev]; done))) | (refine AW.condF ?_ ?_; (focus (simp [aev]; done))) | with_reducible refine AW.block ?_ | ((first | ((first | refine arun_nil ?_ | refine arunD_nil ?_); refine hK _ ?_; clear hK K) | refine AW.skip ?_ | refine AW.exit ?_ | refine AW.ret ?_); simp only [wE, if_true, if_false, Nat.reduceEqDiff, reduceIte])))
  refine arun_ownSlice 8 rfl (by simp [awant]) tab23 (by simp; exact ⟨rfl, rfl⟩) (by simp [upd]) ?_
  (repeat (first | with_reducible refine AW.seq ?_ | ((first | refine arun_knb 1 rfl (fun C hC => ?_) | refine arunD_kn 1 rfl (fun C hC => ?_)); (repeat ((conv => whnf); simp)); refine hC _ ?_; clear hC C; simp only [List.drop, Nat.reduceAdd]) | (refine arun_skip ?_ ?_; (focus (simp [awant]; done))) | (refine AW.regionK [] (fun K hK => ?_)) | (refine AW.regionDK [] (pcs [] []) (by kernel_rfl) (by kernel_rfl) (fun K hK => ?_)) | (refine AW.condT ?_ ?_; (focus (simp [aev]; done))) | (refine AW.condF ?_ ?_; (focus (simp [aev]; done))) | with_reducible refine AW.block ?_ | ((first | ((first | refine arun_nil ?_ | refine arunD_nil ?_); refine hK _ ?_; clear hK K) | refine AW.skip ?_ | refine AW.exit ?_ | refine AW.ret ?_); simp only [wE, if_true, if_false, Nat.reduceEqDiff, reduceIte])))
  refine arun_ownSlice 9 rfl (by simp [awant]) tab175 (by simp; exact ⟨rfl, rfl⟩) (by simp [upd]) ?_
  (repeat (first | with_reducible refine AW.seq ?_ | ((first | refine arun_knb 1 rfl (fun C hC => ?_) | refine arunD_kn 1 rfl (fun C hC => ?_)); (repeat ((conv => whnf); simp)); refine hC _ ?_; clear hC C; simp only [List.drop, Nat.reduceAdd]) | (refine arun_skip ?_ ?_; (focus (simp [awant]; done))) | (refine AW.regionK [] (fun K hK => ?_)) | (refine AW.regionDK [] (pcs [] []) (by kernel_rfl) (by kernel_rfl) (fun K hK => ?_)) | (refine AW.condT ?_ ?_; (focus (simp [aev]; done))) | (refine AW.condF ?_ ?_; (focus (simp [aev]; done))) | with_reducible refine AW.block ?_ | ((first | ((first | refine arun_nil ?_ | refine arunD_nil ?_); refine hK _ ?_; clear hK K) | refine AW.skip ?_ | refine AW.exit ?_ | refine AW.ret ?_); simp only [wE, if_true, if_false, Nat.reduceEqDiff, reduceIte])))
  refine AW.hold 8 ?_
  refine AW.loopS (fun (x : Nat × List (List ByteArray)) => mkSt (slots 0 50 [(1, .ptr true 5 1 1 0 0), (3, .own 9 x.2.length), (4, .int .i64 x.1)]) [(1, ⟨true, 30, 5, [nodeL n]⟩), (9, pathsR x.2)] [1, 9] (rd0.map fun _ => 0)) (fun x => n.kids.length - x.1) (fun x => x.1 ≤ n.kids.length ∧ x.2 ++ allL n.kind n.names (n.kids.drop x.1) x.1 = allS n) (0, [[]]) ?_ ⟨Nat.zero_le _, by rw [allS_eq]; simp⟩ ?_
  · have hp0 : pathsE [[]] = [[AV.view .loose 1 []]] := rfl
    dsimp only
    rw [nodeL_eq]
    exact (less_of (by simp [lessL, mkSt, slots, ASt.hold, pathsR, hp0, AV.subL, AV.sub, Row.sub, rowsOf_nil]) (by simp [upd, mkSt, rowsOf_cons, ASt.hold, pathsR, hp0, AV.subL, AV.sub, Row.sub, rowsOf_nil]) (by simp [upd, mkSt, usedOf_cons, ASt.hold, pathsR, hp0, AV.subL, AV.sub, Row.sub, rowsOf_nil]) (by first | exact rd_less (by omega) | simp [mkSt, ASt.hold, pathsR, hp0, AV.subL, AV.sub, Row.sub, rowsOf_nil]) (by simp [slots, in_any, in_int, in_bool, in_str, in_ptr, in_own, in_agg, in_vnil, in_rdr, usedOf_cons, usedOf_nil, strs_in, ints_in, nodes_in, in_tup, ASt.hold, pathsR, hp0, AV.subL, AV.sub, Row.sub, rowsOf_nil]) (by simp only [List.forall_mem_cons, List.not_mem_nil, false_implies, implies_true, and_true, true_and, ASt.hold, pathsR, hp0, AV.subL, AV.sub, Row.sub, rowsOf_nil]; (repeat (first | with_reducible exact trivial | with_reducible refine And.intro ?_ ?_ | with_reducible exact in_int | with_reducible exact in_str | with_reducible exact in_bool | with_reducible exact strs_in _ | with_reducible exact nodes_in _ | with_reducible exact items_in _ | with_reducible exact in_vnil | with_reducible exact in_any | exact hin _ | with_reducible refine take_in ?_ | with_reducible exact strsE_in _ | with_reducible exact nodesE_in _ | with_reducible exact nodeL_in _ | with_reducible exact itemsE_in _ | with_reducible exact itemL_in _ | with_reducible refine app_in ?_ ?_ | with_reducible refine sing_in ?_ | (focus (simp [in_any, in_int, in_bool, in_str, in_ptr, in_own, in_agg, in_vnil, in_rdr, usedOf_cons, usedOf_nil, strs_in, ints_in, nodes_in, ASt.hold, pathsR, hp0, AV.subL, AV.sub, Row.sub, rowsOf_nil]; done)))); done))
  · rintro ⟨i, L⟩ ⟨hi, hf⟩
    dsimp only at hi hf ⊢
    have hlen := congrArg List.length hf
    simp only [List.length_append, allL_len, allS_len] at hlen
    rw [nodeL_eq]
    by_cases hlt : i < n.kids.length
    · have hw : IntKind.i64.wrap ((i : Int) + 1) = (i : Int) + 1 := i64_nat (by omega) (by omega)
      have hmem := List.getElem_mem hlt
      have hcm := count_mem (show n.kids[i] ∈ n.kids.drop i by rw [List.drop_eq_getElem_cons hlt]; exact List.mem_cons_self)
      have hkl := allS_len n.kids[i]
      have hdm := depth_mem hmem
      have pk := ih n.kids[i] hmem (by omega) (by omega)
      have hB : ∀ b ∈ allS n.kids[i], b.length ≤ 500 := fun b hb => by have := allS_short _ b hb; omega
      have pd := decimal_AC i (by omega)
      rw [allL_drop hlt, ← List.append_assoc] at hf
      unfold nodeA at pk
      rw [nodeL_eq] at pk
      have hLb : L.length + (allS n.kids[i]).length ≤ 2000 := by omega
      generalize allS n.kids[i] = B at *
      by_cases hk : n.kind = 4
      · have hnl := hn.names hk
        have hni : i < n.names.length := by omega
        have hst : stp n.kind n.names i = n.names[i] := by unfold stp; rw [if_pos hk, List.getElem?_eq_getElem hni]; rfl
        rw [hst] at hf
        (repeat (first | with_reducible refine AW.seq ?_ | ((first | refine arun_kn 1 rfl (fun C hC => ?_) | refine arunD_kn 1 rfl (fun C hC => ?_)); (repeat ((conv => whnf); simp [hlt, hk, hni])); refine hC _ ?_; clear hC C; simp only [List.drop, Nat.reduceAdd]) | (refine arun_skip ?_ ?_; (focus (simp [awant, hlt, hk, hni]; done))) | (refine arun_c0 (pd) ?_; rintro _ rfl) | (refine arun_c0 (pk) ?_; rintro _ rfl) | (refine AW.regionK [] (fun K hK => ?_)) | (refine AW.regionDK [] (pcs [] []) (by kernel_rfl) (by kernel_rfl) (fun K hK => ?_)) | (refine AW.condT ?_ ?_; (focus (simp [aev, hlt, hk, hni]; done))) | (refine AW.condF ?_ ?_; (focus (simp [aev, hlt, hk, hni]; done))) | with_reducible refine AW.block ?_ | ((first | ((first | refine arun_nil ?_ | refine arunD_nil ?_); refine hK _ ?_; clear hK K) | refine AW.skip ?_ | refine AW.exit ?_ | refine AW.ret ?_); simp only [wE, if_true, if_false, Nat.reduceEqDiff, reduceIte])))
        refine AW.loopS (fun (y : Nat × List (List ByteArray)) => mkSt (slots 0 50 [(1, .ptr true 5 1 1 0 0), (3, .own 9 y.2.length), (4, .int .i64 i), (5, .str n.names[i]), (6, .view .loose 1 (pathsE B)), (7, .int .i64 y.1)]) [(1, ⟨true, 30, 5, [[.int .i64 n.kind, .int .i64 n.num, .str n.text, .view .loose 1 (strsE n.names), .view .loose 5 (n.kids.map nodeL)]]⟩), (9, pathsR y.2)] [1, 9] (rd0.map fun _ => 0)) (fun y => B.length - y.1) (fun y => y.1 ≤ B.length ∧ y.2 ++ (B.drop y.1).map (n.names[i] :: ·) = L ++ B.map (n.names[i] :: ·)) (0, L) ?_ ⟨Nat.zero_le _, rfl⟩ ?_
        · have hin := hin L
          exact (less_of (by simp [lessL, mkSt, slots, in_paths, pathsR, hk]) (by simp [upd, mkSt, rowsOf_cons, in_paths, pathsR, hk]) (by simp [upd, mkSt, usedOf_cons, in_paths, pathsR, hk]) (by first | exact rd_less (by omega) | simp [mkSt, in_paths, pathsR, hk]) (by simp [slots, in_any, in_int, in_bool, in_str, in_ptr, in_own, in_agg, in_vnil, in_rdr, usedOf_cons, usedOf_nil, strs_in, ints_in, nodes_in, in_tup, in_paths, pathsR, hk]) (by simp only [List.forall_mem_cons, List.not_mem_nil, false_implies, implies_true, and_true, true_and, in_paths, pathsR, hk]; (repeat (first | with_reducible exact trivial | with_reducible refine And.intro ?_ ?_ | with_reducible exact in_int | with_reducible exact in_str | with_reducible exact in_bool | with_reducible exact strs_in _ | with_reducible exact nodes_in _ | with_reducible exact items_in _ | with_reducible exact in_vnil | with_reducible exact in_any | exact hin _ | with_reducible refine take_in ?_ | with_reducible exact strsE_in _ | with_reducible exact nodesE_in _ | with_reducible exact nodeL_in _ | with_reducible exact itemsE_in _ | with_reducible exact itemL_in _ | with_reducible refine app_in ?_ ?_ | with_reducible refine sing_in ?_ | (focus (simp [in_any, in_int, in_bool, in_str, in_ptr, in_own, in_agg, in_vnil, in_rdr, usedOf_cons, usedOf_nil, strs_in, ints_in, nodes_in, in_paths, pathsR, hk]; done)))); done))
        · rintro ⟨j, M⟩ ⟨hj, hg⟩
          dsimp only at hj hg ⊢
          have hgl := congrArg List.length hg
          simp only [List.length_append, List.length_map, List.length_drop] at hgl
          by_cases hjt : j < B.length
          · have hjw : IntKind.i64.wrap ((j : Int) + 1) = (j : Int) + 1 := i64_nat (by omega) (by omega)
            have hbl := hB _ (List.getElem_mem hjt)
            have hb1 : (M.length + 1) * 24 ≤ 140737488355328 := by omega
            have hb2 : M.length + 1 ≤ 140737488355328 := by omega
            have hb3 : (1 + B[j].length) * 16 ≤ 140737488355328 := by omega
            have hb4 : 1 + B[j].length ≤ 140737488355328 := by omega
            rw [List.drop_eq_getElem_cons hjt, List.map_cons, List.append_cons] at hg
            (repeat (first | with_reducible refine AW.seq ?_ | ((first | refine arun_knb 1 rfl (fun C hC => ?_) | refine arunD_kn 1 rfl (fun C hC => ?_)); (repeat ((conv => whnf); simp [hjt, pathsE_len, pathsE_get, pathsE_at])); refine hC _ ?_; clear hC C; simp only [List.drop, Nat.reduceAdd]) | (refine arun_skip ?_ ?_; (focus (simp [awant, hjt, pathsE_len, pathsE_get, pathsE_at]; done))) | (refine AW.regionK [] (fun K hK => ?_)) | (refine AW.regionDK [] (pcs [] []) (by kernel_rfl) (by kernel_rfl) (fun K hK => ?_)) | (refine AW.condT ?_ ?_; (focus (simp [aev, hjt, pathsE_len, pathsE_get, pathsE_at]; done))) | (refine AW.condF ?_ ?_; (focus (simp [aev, hjt, pathsE_len, pathsE_get, pathsE_at]; done))) | with_reducible refine AW.block ?_ | ((first | ((first | refine arun_nil ?_ | refine arunD_nil ?_); refine hK _ ?_; clear hK K) | refine AW.skip ?_ | refine AW.exit ?_ | refine AW.ret ?_); simp only [wE, if_true, if_false, Nat.reduceEqDiff, reduceIte])))
            refine arun_ownSlice 41 rfl (by simp [awant]) tab23 (by simp; exact ⟨rfl, rfl⟩) (by simp [upd, usedOf_cons, usedOf_nil]) ?_
            (repeat (first | with_reducible refine AW.seq ?_ | ((first | refine arun_kn 1 rfl (fun C hC => ?_) | refine arunD_kn 1 rfl (fun C hC => ?_)); (repeat ((conv => whnf); simp [hjt, hjw, pathsE_len, pathsE_get, pathsE_at, strsE_len, hb1, hb2, hb3, hb4, pathsR])); refine hC _ ?_; clear hC C; simp only [List.drop, Nat.reduceAdd]) | (refine arun_skip ?_ ?_; (focus (simp [awant, hjt, hjw, pathsE_len, pathsE_get, pathsE_at, strsE_len, hb1, hb2, hb3, hb4, pathsR]; done))) | (refine AW.regionK [] (fun K hK => ?_)) | (refine AW.regionDK [] (pcs [] []) (by kernel_rfl) (by kernel_rfl) (fun K hK => ?_)) | (refine AW.condT ?_ ?_; (focus (simp [aev, hjt, hjw, pathsE_len, pathsE_get, pathsE_at, strsE_len, hb1, hb2, hb3, hb4, pathsR]; done))) | (refine AW.condF ?_ ?_; (focus (simp [aev, hjt, hjw, pathsE_len, pathsE_get, pathsE_at, strsE_len, hb1, hb2, hb3, hb4, pathsR]; done))) | with_reducible refine AW.block ?_ | ((first | ((first | refine arun_nil ?_ | refine arunD_nil ?_); refine hK _ ?_; clear hK K) | refine AW.skip ?_ | refine AW.exit ?_ | refine AW.ret ?_); simp only [wE, if_true, if_false, Nat.reduceEqDiff, reduceIte])))
            refine ⟨(j + 1, M ++ [n.names[i] :: B[j]]), by dsimp only; omega, ⟨by dsimp only; omega, hg⟩, ?_⟩
            have hsn : pathsE (M ++ [n.names[i] :: B[j]]) = pathsE M ++ [[.view .loose 1 ([.str n.names[i]] :: strsE B[j])]] := by rw [← paths_snoc]; rfl
            have hin := hin (M ++ [n.names[i] :: B[j]])
            have hml : (M ++ [n.names[i] :: B[j]]).length = M.length + 1 := by simp
            dsimp only
            rw [hml]
            rw [hsn] at hin
            refine Less.trans (Less.hold 41) (less_of (by simp [lessL, mkSt, slots, ASt.hold, in_paths, pathsR, hk, hsn, pathsE_sub, AV.subL, AV.sub, Row.sub, rowsOf_nil, strsE_len]) (by simp [upd, mkSt, rowsOf_cons, ASt.hold, in_paths, pathsR, hk, hsn, pathsE_sub, AV.subL, AV.sub, Row.sub, rowsOf_nil, strsE_len]) (by simp [upd, mkSt, usedOf_cons, ASt.hold, in_paths, pathsR, hk, hsn, pathsE_sub, AV.subL, AV.sub, Row.sub, rowsOf_nil, strsE_len]) (by first | exact rd_less (by omega) | simp [mkSt, ASt.hold, in_paths, pathsR, hk, hsn, pathsE_sub, AV.subL, AV.sub, Row.sub, rowsOf_nil, strsE_len]) (by simp [slots, in_any, in_int, in_bool, in_str, in_ptr, in_own, in_agg, in_vnil, in_rdr, usedOf_cons, usedOf_nil, strs_in, ints_in, nodes_in, in_tup, ASt.hold, in_paths, pathsR, hk, hsn, pathsE_sub, AV.subL, AV.sub, Row.sub, rowsOf_nil, strsE_len]) (by simp only [List.forall_mem_cons, List.not_mem_nil, false_implies, implies_true, and_true, true_and, ASt.hold, in_paths, pathsR, hk, hsn, pathsE_sub, AV.subL, AV.sub, Row.sub, rowsOf_nil, strsE_len]; (repeat (first | with_reducible exact trivial | with_reducible refine And.intro ?_ ?_ | with_reducible exact in_int | with_reducible exact in_str | with_reducible exact in_bool | with_reducible exact strs_in _ | with_reducible exact nodes_in _ | with_reducible exact items_in _ | with_reducible exact in_vnil | with_reducible exact in_any | exact hin _ | with_reducible refine take_in ?_ | with_reducible exact strsE_in _ | with_reducible exact nodesE_in _ | with_reducible exact nodeL_in _ | with_reducible exact itemsE_in _ | with_reducible exact itemL_in _ | with_reducible refine app_in ?_ ?_ | with_reducible refine sing_in ?_ | (focus (simp [in_any, in_int, in_bool, in_str, in_ptr, in_own, in_agg, in_vnil, in_rdr, usedOf_cons, usedOf_nil, strs_in, ints_in, nodes_in, ASt.hold, in_paths, pathsR, hk, hsn, pathsE_sub, AV.subL, AV.sub, Row.sub, rowsOf_nil, strsE_len]; done)))); done))
          · rw [List.drop_eq_nil_of_le (by omega), List.map_nil, List.append_nil] at hg
            (repeat (first | with_reducible refine AW.seq ?_ | ((first | refine arun_kn 1 rfl (fun C hC => ?_) | refine arunD_kn 1 rfl (fun C hC => ?_)); (repeat ((conv => whnf); simp [hjt, pathsE_len, hw])); refine hC _ ?_; clear hC C; simp only [List.drop, Nat.reduceAdd]) | (refine arun_skip ?_ ?_; (focus (simp [awant, hjt, pathsE_len, hw]; done))) | (refine AW.regionK [] (fun K hK => ?_)) | (refine AW.regionDK [] (pcs [] []) (by kernel_rfl) (by kernel_rfl) (fun K hK => ?_)) | (refine AW.condT ?_ ?_; (focus (simp [aev, hjt, pathsE_len, hw]; done))) | (refine AW.condF ?_ ?_; (focus (simp [aev, hjt, pathsE_len, hw]; done))) | with_reducible refine AW.block ?_ | ((first | ((first | refine arun_nil ?_ | refine arunD_nil ?_); refine hK _ ?_; clear hK K) | refine AW.skip ?_ | refine AW.exit ?_ | refine AW.ret ?_); simp only [wE, if_true, if_false, Nat.reduceEqDiff, reduceIte])))
            refine ⟨(i + 1, M), by dsimp only; omega, ⟨by dsimp only; omega, by dsimp only; rw [hg]; exact hf⟩, ?_⟩
            have hin := hin M
            exact (less_of (by simp [lessL, mkSt, slots, in_paths, pathsR, hk]) (by simp [upd, mkSt, rowsOf_cons, in_paths, pathsR, hk]) (by simp [upd, mkSt, usedOf_cons, in_paths, pathsR, hk]) (by first | exact rd_less (by omega) | simp [mkSt, in_paths, pathsR, hk]) (by simp [slots, in_any, in_int, in_bool, in_str, in_ptr, in_own, in_agg, in_vnil, in_rdr, usedOf_cons, usedOf_nil, strs_in, ints_in, nodes_in, in_tup, in_paths, pathsR, hk]) (by simp only [List.forall_mem_cons, List.not_mem_nil, false_implies, implies_true, and_true, true_and, in_paths, pathsR, hk]; (repeat (first | with_reducible exact trivial | with_reducible refine And.intro ?_ ?_ | with_reducible exact in_int | with_reducible exact in_str | with_reducible exact in_bool | with_reducible exact strs_in _ | with_reducible exact nodes_in _ | with_reducible exact items_in _ | with_reducible exact in_vnil | with_reducible exact in_any | exact hin _ | with_reducible refine take_in ?_ | with_reducible exact strsE_in _ | with_reducible exact nodesE_in _ | with_reducible exact nodeL_in _ | with_reducible exact itemsE_in _ | with_reducible exact itemL_in _ | with_reducible refine app_in ?_ ?_ | with_reducible refine sing_in ?_ | (focus (simp [in_any, in_int, in_bool, in_str, in_ptr, in_own, in_agg, in_vnil, in_rdr, usedOf_cons, usedOf_nil, strs_in, ints_in, nodes_in, in_paths, pathsR, hk]; done)))); done))
      · have hk' : (n.kind == 4) = false := by simpa using hk
        have hst : stp n.kind n.names i = txt (dig1 i) := by unfold stp; rw [if_neg hk]
        rw [hst] at hf
        generalize txt (dig1 i) = st at *
        (repeat (first | with_reducible refine AW.seq ?_ | ((first | refine arun_kn 1 rfl (fun C hC => ?_) | refine arunD_kn 1 rfl (fun C hC => ?_)); (repeat ((conv => whnf); simp [hlt, hk, hk'])); refine hC _ ?_; clear hC C; simp only [List.drop, Nat.reduceAdd]) | (refine arun_skip ?_ ?_; (focus (simp [awant, hlt, hk, hk']; done))) | (refine arun_c0 (pd) ?_; rintro _ rfl) | (refine arun_c0 (pk) ?_; rintro _ rfl) | (refine AW.regionK [] (fun K hK => ?_)) | (refine AW.regionDK [] (pcs [] []) (by kernel_rfl) (by kernel_rfl) (fun K hK => ?_)) | (refine AW.condT ?_ ?_; (focus (simp [aev, hlt, hk, hk']; done))) | (refine AW.condF ?_ ?_; (focus (simp [aev, hlt, hk, hk']; done))) | with_reducible refine AW.block ?_ | ((first | ((first | refine arun_nil ?_ | refine arunD_nil ?_); refine hK _ ?_; clear hK K) | refine AW.skip ?_ | refine AW.exit ?_ | refine AW.ret ?_); simp only [wE, if_true, if_false, Nat.reduceEqDiff, reduceIte])))
        refine AW.loopS (fun (y : Nat × List (List ByteArray)) => mkSt (slots 0 50 [(1, .ptr true 5 1 1 0 0), (3, .own 9 y.2.length), (4, .int .i64 i), (5, .str st), (6, .view .loose 1 (pathsE B)), (7, .int .i64 y.1)]) [(1, ⟨true, 30, 5, [[.int .i64 n.kind, .int .i64 n.num, .str n.text, .view .loose 1 (strsE n.names), .view .loose 5 (n.kids.map nodeL)]]⟩), (9, pathsR y.2)] [1, 9] (rd0.map fun _ => 0)) (fun y => B.length - y.1) (fun y => y.1 ≤ B.length ∧ y.2 ++ (B.drop y.1).map (st :: ·) = L ++ B.map (st :: ·)) (0, L) ?_ ⟨Nat.zero_le _, rfl⟩ ?_
        · have hin := hin L
          exact (less_of (by simp [lessL, mkSt, slots, in_paths, pathsR, hk]) (by simp [upd, mkSt, rowsOf_cons, in_paths, pathsR, hk]) (by simp [upd, mkSt, usedOf_cons, in_paths, pathsR, hk]) (by first | exact rd_less (by omega) | simp [mkSt, in_paths, pathsR, hk]) (by simp [slots, in_any, in_int, in_bool, in_str, in_ptr, in_own, in_agg, in_vnil, in_rdr, usedOf_cons, usedOf_nil, strs_in, ints_in, nodes_in, in_tup, in_paths, pathsR, hk]) (by simp only [List.forall_mem_cons, List.not_mem_nil, false_implies, implies_true, and_true, true_and, in_paths, pathsR, hk]; (repeat (first | with_reducible exact trivial | with_reducible refine And.intro ?_ ?_ | with_reducible exact in_int | with_reducible exact in_str | with_reducible exact in_bool | with_reducible exact strs_in _ | with_reducible exact nodes_in _ | with_reducible exact items_in _ | with_reducible exact in_vnil | with_reducible exact in_any | exact hin _ | with_reducible refine take_in ?_ | with_reducible exact strsE_in _ | with_reducible exact nodesE_in _ | with_reducible exact nodeL_in _ | with_reducible exact itemsE_in _ | with_reducible exact itemL_in _ | with_reducible refine app_in ?_ ?_ | with_reducible refine sing_in ?_ | (focus (simp [in_any, in_int, in_bool, in_str, in_ptr, in_own, in_agg, in_vnil, in_rdr, usedOf_cons, usedOf_nil, strs_in, ints_in, nodes_in, in_paths, pathsR, hk]; done)))); done))
        · rintro ⟨j, M⟩ ⟨hj, hg⟩
          dsimp only at hj hg ⊢
          have hgl := congrArg List.length hg
          simp only [List.length_append, List.length_map, List.length_drop] at hgl
          by_cases hjt : j < B.length
          · have hjw : IntKind.i64.wrap ((j : Int) + 1) = (j : Int) + 1 := i64_nat (by omega) (by omega)
            have hbl := hB _ (List.getElem_mem hjt)
            have hb1 : (M.length + 1) * 24 ≤ 140737488355328 := by omega
            have hb2 : M.length + 1 ≤ 140737488355328 := by omega
            have hb3 : (1 + B[j].length) * 16 ≤ 140737488355328 := by omega
            have hb4 : 1 + B[j].length ≤ 140737488355328 := by omega
            rw [List.drop_eq_getElem_cons hjt, List.map_cons, List.append_cons] at hg
            (repeat (first | with_reducible refine AW.seq ?_ | ((first | refine arun_knb 1 rfl (fun C hC => ?_) | refine arunD_kn 1 rfl (fun C hC => ?_)); (repeat ((conv => whnf); simp [hjt, pathsE_len, pathsE_get, pathsE_at])); refine hC _ ?_; clear hC C; simp only [List.drop, Nat.reduceAdd]) | (refine arun_skip ?_ ?_; (focus (simp [awant, hjt, pathsE_len, pathsE_get, pathsE_at]; done))) | (refine AW.regionK [] (fun K hK => ?_)) | (refine AW.regionDK [] (pcs [] []) (by kernel_rfl) (by kernel_rfl) (fun K hK => ?_)) | (refine AW.condT ?_ ?_; (focus (simp [aev, hjt, pathsE_len, pathsE_get, pathsE_at]; done))) | (refine AW.condF ?_ ?_; (focus (simp [aev, hjt, pathsE_len, pathsE_get, pathsE_at]; done))) | with_reducible refine AW.block ?_ | ((first | ((first | refine arun_nil ?_ | refine arunD_nil ?_); refine hK _ ?_; clear hK K) | refine AW.skip ?_ | refine AW.exit ?_ | refine AW.ret ?_); simp only [wE, if_true, if_false, Nat.reduceEqDiff, reduceIte])))
            refine arun_ownSlice 41 rfl (by simp [awant]) tab23 (by simp; exact ⟨rfl, rfl⟩) (by simp [upd, usedOf_cons, usedOf_nil]) ?_
            (repeat (first | with_reducible refine AW.seq ?_ | ((first | refine arun_kn 1 rfl (fun C hC => ?_) | refine arunD_kn 1 rfl (fun C hC => ?_)); (repeat ((conv => whnf); simp [hjt, hjw, pathsE_len, pathsE_get, pathsE_at, strsE_len, hb1, hb2, hb3, hb4, pathsR])); refine hC _ ?_; clear hC C; simp only [List.drop, Nat.reduceAdd]) | (refine arun_skip ?_ ?_; (focus (simp [awant, hjt, hjw, pathsE_len, pathsE_get, pathsE_at, strsE_len, hb1, hb2, hb3, hb4, pathsR]; done))) | (refine AW.regionK [] (fun K hK => ?_)) | (refine AW.regionDK [] (pcs [] []) (by kernel_rfl) (by kernel_rfl) (fun K hK => ?_)) | (refine AW.condT ?_ ?_; (focus (simp [aev, hjt, hjw, pathsE_len, pathsE_get, pathsE_at, strsE_len, hb1, hb2, hb3, hb4, pathsR]; done))) | (refine AW.condF ?_ ?_; (focus (simp [aev, hjt, hjw, pathsE_len, pathsE_get, pathsE_at, strsE_len, hb1, hb2, hb3, hb4, pathsR]; done))) | with_reducible refine AW.block ?_ | ((first | ((first | refine arun_nil ?_ | refine arunD_nil ?_); refine hK _ ?_; clear hK K) | refine AW.skip ?_ | refine AW.exit ?_ | refine AW.ret ?_); simp only [wE, if_true, if_false, Nat.reduceEqDiff, reduceIte])))
            refine ⟨(j + 1, M ++ [st :: B[j]]), by dsimp only; omega, ⟨by dsimp only; omega, hg⟩, ?_⟩
            have hsn : pathsE (M ++ [st :: B[j]]) = pathsE M ++ [[.view .loose 1 ([.str st] :: strsE B[j])]] := by rw [← paths_snoc]; rfl
            have hin := hin (M ++ [st :: B[j]])
            have hml : (M ++ [st :: B[j]]).length = M.length + 1 := by simp
            dsimp only
            rw [hml]
            rw [hsn] at hin
            refine Less.trans (Less.hold 41) (less_of (by simp [lessL, mkSt, slots, ASt.hold, in_paths, pathsR, hk, hsn, pathsE_sub, AV.subL, AV.sub, Row.sub, rowsOf_nil, strsE_len]) (by simp [upd, mkSt, rowsOf_cons, ASt.hold, in_paths, pathsR, hk, hsn, pathsE_sub, AV.subL, AV.sub, Row.sub, rowsOf_nil, strsE_len]) (by simp [upd, mkSt, usedOf_cons, ASt.hold, in_paths, pathsR, hk, hsn, pathsE_sub, AV.subL, AV.sub, Row.sub, rowsOf_nil, strsE_len]) (by first | exact rd_less (by omega) | simp [mkSt, ASt.hold, in_paths, pathsR, hk, hsn, pathsE_sub, AV.subL, AV.sub, Row.sub, rowsOf_nil, strsE_len]) (by simp [slots, in_any, in_int, in_bool, in_str, in_ptr, in_own, in_agg, in_vnil, in_rdr, usedOf_cons, usedOf_nil, strs_in, ints_in, nodes_in, in_tup, ASt.hold, in_paths, pathsR, hk, hsn, pathsE_sub, AV.subL, AV.sub, Row.sub, rowsOf_nil, strsE_len]) (by simp only [List.forall_mem_cons, List.not_mem_nil, false_implies, implies_true, and_true, true_and, ASt.hold, in_paths, pathsR, hk, hsn, pathsE_sub, AV.subL, AV.sub, Row.sub, rowsOf_nil, strsE_len]; (repeat (first | with_reducible exact trivial | with_reducible refine And.intro ?_ ?_ | with_reducible exact in_int | with_reducible exact in_str | with_reducible exact in_bool | with_reducible exact strs_in _ | with_reducible exact nodes_in _ | with_reducible exact items_in _ | with_reducible exact in_vnil | with_reducible exact in_any | exact hin _ | with_reducible refine take_in ?_ | with_reducible exact strsE_in _ | with_reducible exact nodesE_in _ | with_reducible exact nodeL_in _ | with_reducible exact itemsE_in _ | with_reducible exact itemL_in _ | with_reducible refine app_in ?_ ?_ | with_reducible refine sing_in ?_ | (focus (simp [in_any, in_int, in_bool, in_str, in_ptr, in_own, in_agg, in_vnil, in_rdr, usedOf_cons, usedOf_nil, strs_in, ints_in, nodes_in, ASt.hold, in_paths, pathsR, hk, hsn, pathsE_sub, AV.subL, AV.sub, Row.sub, rowsOf_nil, strsE_len]; done)))); done))
          · rw [List.drop_eq_nil_of_le (by omega), List.map_nil, List.append_nil] at hg
            (repeat (first | with_reducible refine AW.seq ?_ | ((first | refine arun_kn 1 rfl (fun C hC => ?_) | refine arunD_kn 1 rfl (fun C hC => ?_)); (repeat ((conv => whnf); simp [hjt, pathsE_len, hw])); refine hC _ ?_; clear hC C; simp only [List.drop, Nat.reduceAdd]) | (refine arun_skip ?_ ?_; (focus (simp [awant, hjt, pathsE_len, hw]; done))) | (refine AW.regionK [] (fun K hK => ?_)) | (refine AW.regionDK [] (pcs [] []) (by kernel_rfl) (by kernel_rfl) (fun K hK => ?_)) | (refine AW.condT ?_ ?_; (focus (simp [aev, hjt, pathsE_len, hw]; done))) | (refine AW.condF ?_ ?_; (focus (simp [aev, hjt, pathsE_len, hw]; done))) | with_reducible refine AW.block ?_ | ((first | ((first | refine arun_nil ?_ | refine arunD_nil ?_); refine hK _ ?_; clear hK K) | refine AW.skip ?_ | refine AW.exit ?_ | refine AW.ret ?_); simp only [wE, if_true, if_false, Nat.reduceEqDiff, reduceIte])))
            refine ⟨(i + 1, M), by dsimp only; omega, ⟨by dsimp only; omega, by dsimp only; rw [hg]; exact hf⟩, ?_⟩
            have hin := hin M
            exact (less_of (by simp [lessL, mkSt, slots, in_paths, pathsR, hk]) (by simp [upd, mkSt, rowsOf_cons, in_paths, pathsR, hk]) (by simp [upd, mkSt, usedOf_cons, in_paths, pathsR, hk]) (by first | exact rd_less (by omega) | simp [mkSt, in_paths, pathsR, hk]) (by simp [slots, in_any, in_int, in_bool, in_str, in_ptr, in_own, in_agg, in_vnil, in_rdr, usedOf_cons, usedOf_nil, strs_in, ints_in, nodes_in, in_tup, in_paths, pathsR, hk]) (by simp only [List.forall_mem_cons, List.not_mem_nil, false_implies, implies_true, and_true, true_and, in_paths, pathsR, hk]; (repeat (first | with_reducible exact trivial | with_reducible refine And.intro ?_ ?_ | with_reducible exact in_int | with_reducible exact in_str | with_reducible exact in_bool | with_reducible exact strs_in _ | with_reducible exact nodes_in _ | with_reducible exact items_in _ | with_reducible exact in_vnil | with_reducible exact in_any | exact hin _ | with_reducible refine take_in ?_ | with_reducible exact strsE_in _ | with_reducible exact nodesE_in _ | with_reducible exact nodeL_in _ | with_reducible exact itemsE_in _ | with_reducible exact itemL_in _ | with_reducible refine app_in ?_ ?_ | with_reducible refine sing_in ?_ | (focus (simp [in_any, in_int, in_bool, in_str, in_ptr, in_own, in_agg, in_vnil, in_rdr, usedOf_cons, usedOf_nil, strs_in, ints_in, nodes_in, in_paths, pathsR, hk]; done)))); done))
    · rw [allL_end hlt, List.append_nil] at hf
      subst hf
      (repeat (first | with_reducible refine AW.seq ?_ | ((first | refine arun_kn 1 rfl (fun C hC => ?_) | refine arunD_kn 1 rfl (fun C hC => ?_)); (repeat ((conv => whnf); simp [hlt])); refine hC _ ?_; clear hC C; simp only [List.drop, Nat.reduceAdd]) | (refine arun_skip ?_ ?_; (focus (simp [awant, hlt]; done))) | (refine AW.regionK [] (fun K hK => ?_)) | (refine AW.regionDK [] (pcs [] []) (by kernel_rfl) (by kernel_rfl) (fun K hK => ?_)) | (refine AW.condT ?_ ?_; (focus (simp [aev, hlt]; done))) | (refine AW.condF ?_ ?_; (focus (simp [aev, hlt]; done))) | with_reducible refine AW.block ?_ | ((first | ((first | refine arun_nil ?_ | refine arunD_nil ?_); refine hK _ ?_; clear hK K) | refine AW.skip ?_ | refine AW.exit ?_ | refine AW.ret ?_); simp only [wE, if_true, if_false, Nat.reduceEqDiff, reduceIte])))
      exact ⟨.own 9 (allS n).length, by simp [ares, aresL], .inr ⟨fun id => .own id (allS n).length, 9, pathsR (allS n), rfl, by simp [upd, rowsOf_cons], Res1.own _ _, pathsE_pur _, rfl, rfl⟩⟩
theorem all_AC : ∀ n, Way n → n.count ≤ 1000 → n.depth ≤ 500 → AC Try.prog 164 [nodeA n] 0 (fun r => r = .view .loose 1 (pathsE (allS n))) :=
  Nd.ind' _ (fun n ih hw hc hd => AC.ofPaths (allW_step n hw hc hd (fun k hk h1 h2 => ih k hk (hw.kid k hk) h1 h2)))
theorem specAllPaths_yes (n : Nd) (h : validB n = true) : AC Try.prog 188 [nodeA n] 0 (fun r => r = .view .loose 1 (pathsE (allS n))) := by
  obtain ⟨hw, hd, hc⟩ := valid_way h
  have p1 := validNode_AC n .loose
  rw [h] at p1
  have p2 := all_AC n hw (by omega) (by omega)
  unfold nodeA at p2 ⊢
  rw [nodeL_eq] at p2 ⊢
  have hcl := paths_clo (t := .loose) (allS n)
  refine AC.of tab_ok mixed_ok Try.func188 (by rfl) (by kernel_rfl) ?_; rintro ⟨P, T, hT, hm, w0, S0, rd0, k0⟩ hP hTT; dsimp only at hP hTT; subst hP hTT; unfold initSt; rw [Try.ntmps188]
  (repeat (first | with_reducible refine AW.seq ?_ | ((first | refine arun_kn 1 rfl (fun C hC => ?_) | refine arunD_kn 1 rfl (fun C hC => ?_)); (repeat ((conv => whnf); simp)); refine hC _ ?_; clear hC C; simp only [List.drop, Nat.reduceAdd]) | (refine arun_skip ?_ ?_; (focus (simp [awant]; done))) | (refine arun_c0 (p1) ?_; rintro _ rfl) | (refine arun_c0 (p2) ?_; rintro _ rfl) | (refine AW.regionK [] (fun K hK => ?_)) | (refine AW.regionDK [] (pcs [] []) (by kernel_rfl) (by kernel_rfl) (fun K hK => ?_)) | (refine AW.condT ?_ ?_; (focus (simp [aev]; done))) | (refine AW.condF ?_ ?_; (focus (simp [aev]; done))) | with_reducible refine AW.block ?_ | ((first | ((first | refine arun_nil ?_ | refine arunD_nil ?_); refine hK _ ?_; clear hK K) | refine AW.skip ?_ | refine AW.exit ?_ | refine AW.ret ?_); simp only [wE, if_true, if_false, Nat.reduceEqDiff, reduceIte])))
  exact ⟨.view .loose 1 (pathsE (allS n)), by simp [ares, aresL], paths_pur _ (by decide), rfl⟩
theorem specAllPaths_no (n : Nd) (h : validB n = false) : AC Try.prog 188 [nodeA n] 0 (fun r => r = .view .loose 1 (pathsE [])) := by
  have p1 := validNode_AC n .loose
  rw [h] at p1
  refine AC.weak ?_
  unfold nodeA
  rw [nodeL_eq]
  refine AC.of tab_ok mixed_ok Try.func188 (by rfl) (by kernel_rfl) ?_; rintro ⟨P, T, hT, hm, w0, S0, rd0, k0⟩ hP hTT; dsimp only at hP hTT; subst hP hTT; unfold initSt; rw [Try.ntmps188]
  (repeat (first | with_reducible refine AW.seq ?_ | ((first | refine arun_kn 1 rfl (fun C hC => ?_) | refine arunD_kn 1 rfl (fun C hC => ?_)); (repeat ((conv => whnf); simp)); refine hC _ ?_; clear hC C; simp only [List.drop, Nat.reduceAdd]) | (refine arun_skip ?_ ?_; (focus (simp [awant]; done))) | (refine arun_c0 (p1) ?_; rintro _ rfl) | (refine AW.regionK [] (fun K hK => ?_)) | (refine AW.regionDK [] (pcs [] []) (by kernel_rfl) (by kernel_rfl) (fun K hK => ?_)) | (refine AW.condT ?_ ?_; (focus (simp [aev]; done))) | (refine AW.condF ?_ ?_; (focus (simp [aev]; done))) | with_reducible refine AW.block ?_ | ((first | ((first | refine arun_nil ?_ | refine arunD_nil ?_); refine hK _ ?_; clear hK K) | refine AW.skip ?_ | refine AW.exit ?_ | refine AW.ret ?_); simp only [wE, if_true, if_false, Nat.reduceEqDiff, reduceIte])))
  exact ⟨.view .tight 0 [], by simp [ares, aresL], pur_view (by decide) (fun e he => by cases he), _, Wk.nil (fun h => by cases h), rfl⟩
theorem specAllPaths_AC (n : Nd) : AC Try.prog 188 [nodeA n] 0 (fun r => r = .view .loose 1 (pathsE (wayS n))) := by
  cases h : validB n
  · have := specAllPaths_no n h
    unfold wayS; rw [h]; exact this
  · have := specAllPaths_yes n h
    unfold wayS; rw [h]; exact this
end Go.Proofs.Ytgfnmhfdmmnaoaa.Eng
namespace Go.Proofs.Ytgfnmhfdmmnaoaa.Eng
open Go Go.RowKit
end Go.Proofs.Ytgfnmhfdmmnaoaa.Eng
namespace Go.Proofs.Ytgfnmhfdmmnaoaa
open Go.RowKit
def pathB (p : List ByteArray) : Bool := decide (p.length ≤ 5) && p.all plainT
theorem allD_step {α : Type} {p : α → Bool} (xs : List α) (k : Nat) (h : k < xs.length) : (xs.drop k).all p = (p xs[k] && (xs.drop (k + 1)).all p) := by
  rw [drop_cons xs k h, List.all_cons]
theorem allD_end {α : Type} {p : α → Bool} (xs : List α) (k : Nat) (h : ¬ k < xs.length) : (xs.drop k).all p = true := by
  rw [List.drop_eq_nil_of_le (by omega)]; rfl
theorem isPath_ok (a : Option Addr) (c : Nat) (xs : List ByteArray) (w : World) (ha : StrsR w any a c xs) :
    Calls Try.prog 141 #[.slice a xs.length c] w fun e w' => e = .returned (.bool (pathB xs)) ∧ w = w' := by
  have hbig : xs.length ≤ 9223372036854775807 := ha.2.1
  have Ha := Lib.hid ha
  clear ha
  by_cases hl : 5 < xs.length
  · go_enter Try.func141, Try.ntmps141
    go_wp2
    go_ret
    exact ⟨by simp [pathB]; omega, rfl⟩
  · go_enter Try.func141, Try.ntmps141
    go_wp2
    go_loop [2, 4, 10] (fun n _ i => n = .bool false ∧ ∃ k : Nat, k ≤ xs.length ∧ i = .int .i64 k ∧ Hid (xs.all plainT = (xs.drop k).all plainT)) (fun _ _ i => xs.length - (intOf i).toNat)
    case atStart => exact ⟨rfl, 0, Nat.zero_le _, rfl, Lib.hid rfl⟩
    case round =>
      obtain ⟨rfl, k, hk, rfl, Hr⟩ := hrel
      by_cases hlt : k < xs.length
      · obtain ⟨_, _, hxs, ha4⟩ := Ha.out
        rcases ha4 with rfl | ⟨ba, oa, rfl, _, hca⟩
        · simp at hlt
        have hx := hca k hlt
        have hsz := hxs _ (List.getElem_mem hlt)
        have Hs := Lib.hid (allD_step (p := plainT) xs k hlt)
        clear hca Ha hxs
        cases hp : plainT xs[k]
        all_goals
          go_wp2_with (go_at_call 173; refine (isPlainText_ok _ _ hsz).mono ?_; rintro e w' ⟨rfl, rfl⟩)
        · go_ret
          exact ⟨by simp [pathB, Hr.out, Hs.out, hp], rfl⟩
        · go_round
          case rel => exact ⟨rfl, k + 1, by omega, by go_num, Lib.hid (by rw [Hr.out, Hs.out, hp, Bool.true_and])⟩
          case measure => simp [intOf]; omega
      · have Hs := Lib.hid (allD_end (p := plainT) xs k hlt)
        go_wp2
        go_ret
        exact ⟨by simp [pathB, Hr.out, Hs.out]; omega, rfl⟩
theorem validPath_ok (a : Option Addr) (c : Nat) (xs : List ByteArray) (w : World) (ha : StrsR w any a c xs) :
    Calls Try.prog 138 #[.slice a xs.length c] w fun e w' => e = .returned (.bool (pathB xs)) ∧ w = w' := by
  have hbig : xs.length ≤ 9223372036854775807 := ha.2.1
  have Ha := Lib.hid ha
  clear ha
  go_enter Try.func138, Try.ntmps138
  go_wp2
  go_loop [2, 3] (fun n i => n = .bool false ∧ ∃ k : Nat, k ≤ xs.length ∧ i = .int .i64 k ∧ Hid (xs.all plainT = (xs.drop k).all plainT)) (fun _ i => xs.length - (intOf i).toNat)
  case atStart => exact ⟨rfl, 0, Nat.zero_le _, rfl, Lib.hid rfl⟩
  case round =>
    obtain ⟨rfl, k, hk, rfl, Hr⟩ := hrel
    by_cases hlt : k < xs.length
    · obtain ⟨_, _, hxs, ha4⟩ := Ha.out
      rcases ha4 with rfl | ⟨ba, oa, rfl, _, hca⟩
      · simp at hlt
      have hx := hca k hlt
      have hsz := hxs _ (List.getElem_mem hlt)
      have Hs := Lib.hid (allD_step (p := plainT) xs k hlt)
      clear hca Ha hxs
      cases hp : plainT xs[k]
      all_goals
        go_wp2_with (go_at_call 170; refine (validText_ok _ _ hsz).mono ?_; rintro e w' ⟨rfl, rfl⟩)
      · go_ret
        exact ⟨by simp [pathB, Hr.out, Hs.out, hp], rfl⟩
      · go_round
        case rel => exact ⟨rfl, k + 1, by omega, by go_num, Lib.hid (by rw [Hr.out, Hs.out, hp, Bool.true_and])⟩
        case measure => simp [intOf]; omega
    · have Hs := Lib.hid (allD_end (p := plainT) xs k hlt)
      go_wp2
      go_ret
      exact ⟨by simp [pathB, Hr.out, Hs.out]; omega, rfl⟩
end Go.Proofs.Ytgfnmhfdmmnaoaa
namespace Go.Proofs.Ytgfnmhfdmmnaoaa.Eng
open Go Go.RowKit
theorem placeF_cases (n : Nd) (st : ByteArray) : ∀ f k, (placeF n st f k = -1 ∧ ∀ j, k ≤ j → j < k + f → hitP n st j = false) ∨ (∃ j, k ≤ j ∧ j < k + f ∧ placeF n st f k = (j : Int) ∧ hitP n st j = true)
  | 0, k => .inl ⟨rfl, fun j h1 h2 => by omega⟩
  | f + 1, k => by
    rw [placeF]
    cases hb : hitP n st k
    · rcases placeF_cases n st f (k + 1) with ⟨h1, h2⟩ | ⟨j, h1, h2, h3, h4⟩
      · refine .inl ⟨by simpa using h1, fun j h3 h4 => ?_⟩
        rcases Nat.eq_or_lt_of_le h3 with rfl | h5
        · exact hb
        · exact h2 j (by omega) (by omega)
      · exact .inr ⟨j, by omega, by omega, by simpa using h3, h4⟩
    · exact .inr ⟨k, Nat.le_refl _, by omega, by simp, hb⟩
theorem placeI_cases (n : Nd) (st : ByteArray) : (placeI n st = -1 ∧ ∀ j, j < n.kids.length → hitP n st j = false) ∨ (∃ j, j < n.kids.length ∧ placeI n st = (j : Int) ∧ hitP n st j = true) := by
  rcases placeF_cases n st n.kids.length 0 with ⟨h1, h2⟩ | ⟨j, h1, h2, h3, h4⟩
  · exact .inl ⟨h1, fun j hj => h2 j (Nat.zero_le _) (by omega)⟩
  · exact .inr ⟨j, by omega, h3, h4⟩
def Shp (n : Nd) : Prop := ∃ d, shapeB n d = true
theorem Shp.kid {n : Nd} (h : Shp n) {k : Nd} (hk : k ∈ n.kids) : Shp k := by
  obtain ⟨d, h⟩ := h
  rw [shapeB_eq] at h
  simp only [Bool.and_eq_true] at h
  exact ⟨d - 1, shapeL_mem h.2 k hk⟩
theorem Shp.parts {n : Nd} (h : Shp n) : partsB n = true := by
  obtain ⟨d, h⟩ := h
  rw [shapeB_eq] at h
  simp only [Bool.and_eq_true] at h
  exact h.1.2
theorem Shp.kids {n : Nd} (h : Shp n) : n.kids.length ≤ 6 := partsB_kids h.parts
theorem Shp.map {n : Nd} (h : Shp n) (h4 : n.kind = 4) : areNamesB n.names = true ∧ n.kids.length = n.names.length := by
  have hp := h.parts
  unfold partsB at hp
  simp only [Bool.and_eq_true] at hp
  have hp := hp.2
  rw [h4] at hp
  simp at hp
  exact hp
theorem Shp.plc {n : Nd} (h : Shp n) : Plc n := ⟨fun h4 => by have := (h.map h4).2; omega, fun _ => by have := h.kids; omega⟩
theorem Shp.of {n : Nd} (h : validB n = true) : Shp n := by
  unfold validB at h
  rw [Bool.and_eq_true] at h
  exact ⟨5, h.1⟩
theorem Shp.sml {n : Nd} (h : Shp n) : Sml n := shape_sml n _ h.choose_spec
def getS : Nd → List ByteArray → Option Nd
  | n, [] => some n
  | n, s :: p => if 0 ≤ placeI n s then getS ((n.kids[(placeI n s).toNat]?).getD Nd.zero) p else none
theorem getS_no {n : Nd} {s : ByteArray} (p : List ByteArray) (h : placeI n s = -1) : getS n (s :: p) = none := by
  rw [getS, if_neg (by omega)]
theorem getS_yes {n : Nd} {s : ByteArray} (p : List ByteArray) {k : Nat} (hk : k < n.kids.length) (h : placeI n s = (k : Int)) : getS n (s :: p) = getS n.kids[k] p := by
  rw [getS, h, if_pos (by omega)]
  simp [hk]
theorem getS_shp : ∀ (p : List ByteArray) (n m : Nd), Shp n → getS n p = some m → Shp m
  | [], n, m, h, e => by rw [getS] at e; cases e; exact h
  | s :: p, n, m, h, e => by
    rcases placeI_cases n s with ⟨h1, _⟩ | ⟨j, h1, h2, _⟩
    · rw [getS_no p h1] at e; cases e
    · rw [getS_yes p h1 h2] at e
      exact getS_shp p _ m (h.kid (List.getElem_mem h1)) e
end Go.Proofs.Ytgfnmhfdmmnaoaa.Eng
namespace Go.Proofs.Ytgfnmhfdmmnaoaa.Eng
open Go Go.RowKit
attribute [local simp] big size_mk ASt.pay Option.map_map Function.comp_def awant aop acall ado aev ofVal ofVal0 ASt.put ASt.add ASt.turn ASt.kill abox aalloc astore aload aloadD astoreD idOf ASt.at cellsTo afieldAddr afield aindexAddr aindex alen abin aint acmp astr aun apick aextract anil aslice abound abuild afill abuildSlice asCells aps avCells over upd aappend asrc amax amin aconv mkSt slots rowsOf_cons rowsOf_nil usedOf_cons usedOf_nil ZK.av List.replicate ASt.back ASt.addL ASt.killL nodeA nodeT nodeTL_eq nodeL_eq strsE_get strsE_len intsE_get intsE_len strsE_at intsE_at tab2 tab3 tab4 tab5 tab6 tab7 tab8 tab9 tab10 tab11 tab12 tab13 tab14 tab15 tab16 tab17 tab18 tab19 tab21 tab22 tab23 tab24 tab25 tab26 tab27 tab28 tab29 tab30 tab39 tab40 tab41 tab42 tab43 tab47 tab48 tab55 tab56 tab57 tab60 tab61 tab62 tab73 tab74 tab75 tab85 tab92 tab115 tab116 tab143 tab144 tab145 tab154 tab155 tab170 tab175 tab182 tab197 tab198 tab203 tab204 tab205 tab207 tab208 tab209
theorem isPath_AC (p : List ByteArray) (t : VC) : AC Try.prog 141 [.view t 1 (strsE p)] 0 (fun r => r = .bool (pathB p)) := by
  refine AC.ofGrow (enters_of Try.func141 (by kernel_rfl) (by kernel_rfl)) (fun w L S rb vs h => ?_)
  obtain ⟨v, rfl, h1⟩ := repL1_inv h
  obtain ⟨a, c, rfl, h2⟩ := strs_of_rep h1
  refine (isPath_ok a c p w h2).mono ?_
  rintro e w' ⟨rfl, rfl⟩
  exact ⟨_, _, rfl, Ext.refl _ _, rep_bool.2 rfl, rfl⟩
theorem validPath_AC (p : List ByteArray) (t : VC) : AC Try.prog 138 [.view t 1 (strsE p)] 0 (fun r => r = .bool (pathB p)) := by
  refine AC.ofGrow (enters_of Try.func138 (by kernel_rfl) (by kernel_rfl)) (fun w L S rb vs h => ?_)
  obtain ⟨v, rfl, h1⟩ := repL1_inv h
  obtain ⟨a, c, rfl, h2⟩ := strs_of_rep h1
  refine (validPath_ok a c p w h2).mono ?_
  rintro e w' ⟨rfl, rfl⟩
  exact ⟨_, _, rfl, Ext.refl _ _, rep_bool.2 rfl, rfl⟩
def optA (o : Option Nd) : AV := .tup [nodeA (o.getD Nd.zero), .bool o.isSome]
theorem zero_wk : Wk (node0 0 0 ⟨#[]⟩) (nodeA Nd.zero) := by
  unfold node0 nodeA
  rw [nodeL_eq]
  exact Wk.agg (.cons (Wk.refl _) (.cons (Wk.refl _) (.cons (Wk.refl _) (.cons (Wk.nil (fun h => by cases h)) (.cons (Wk.nil (fun h => by cases h)) .nil)))))
theorem tup2_wk' {a b a' b' : AV} (h1 : Wk a a') (h2 : Wk b b') : Wk (.tup [a, b]) (.tup [a', b']) := Wk.tup (.cons h1 (.cons h2 .nil))
theorem none_end : Pur (.tup [node0 0 0 ⟨#[]⟩, .bool false]) ∧ Wk (.tup [node0 0 0 ⟨#[]⟩, .bool false]) (.tup [nodeA Nd.zero, .bool false]) := ⟨tup2_pur (node0_pur 0 0 ⟨#[]⟩) pur_bool, tup2_wk' zero_wk (Wk.refl _)⟩
theorem zeroA : nodeL Nd.zero = [.int .i64 0, .int .i64 0, .str ⟨#[]⟩, .view .loose 1 [], .view .loose 5 []] := by rw [nodeL_eq]; rfl
theorem at_AC (t : VC) (n : Nd) (p : List ByteArray) (h : Shp n) (hp : p.length ≤ 1000) : AC Try.prog 162 [nodeA n, .view t 1 (strsE p)] 0 (fun r => r = optA (getS n p)) := by
  refine AC.weak ?_
  unfold nodeA
  rw [nodeL_eq]
  refine AC.of tab_ok mixed_ok Try.func162 (by rfl) (by kernel_rfl) ?_; rintro ⟨P, T, hT, hm, w0, S0, rd0, k0⟩ hP hTT; dsimp only at hP hTT; subst hP hTT; unfold initSt; rw [Try.ntmps162]
  (repeat (first | with_reducible refine AW.seq ?_ | ((first | refine arun_kn 1 rfl (fun C hC => ?_) | refine arunD_kn 1 rfl (fun C hC => ?_)); (repeat ((conv => whnf); simp [strsE_len])); refine hC _ ?_; clear hC C; simp only [List.drop, Nat.reduceAdd]) | (refine arun_skip ?_ ?_; (focus (simp [awant, strsE_len]; done))) | (refine AW.regionK [] (fun K hK => ?_)) | (refine AW.regionDK [] (pcs [] []) (by kernel_rfl) (by kernel_rfl) (fun K hK => ?_)) | (refine AW.condT ?_ ?_; (focus (simp [aev, strsE_len]; done))) | (refine AW.condF ?_ ?_; (focus (simp [aev, strsE_len]; done))) | with_reducible refine AW.block ?_ | ((first | ((first | refine arun_nil ?_ | refine arunD_nil ?_); refine hK _ ?_; clear hK K) | refine AW.skip ?_ | refine AW.exit ?_ | refine AW.ret ?_); simp only [wE, if_true, if_false, Nat.reduceEqDiff, reduceIte])))
  refine AW.loopS (fun (x : Nat × Nd) => mkSt (slots 0 30 [(1, .view t 1 (strsE p)), (2, .ptr true 5 1 2 0 0), (4, .ptr true 5 1 4 0 0), (5, .bool false), (6, .int .i64 x.1)]) [(2, ⟨true, 30, 5, [nodeL x.2]⟩), (4, ⟨true, 30, 5, [[.int .i64 0, .int .i64 0, .str ⟨#[]⟩, .view .tight 0 [], .view .tight 0 []]]⟩)] [2, 4] (rd0.map fun _ => 0)) (fun x => p.length - x.1) (fun x => x.1 ≤ p.length ∧ Shp x.2 ∧ getS n p = getS x.2 (p.drop x.1)) (0, n) ?_ ⟨Nat.zero_le _, h, rfl⟩ ?_
  · dsimp only
    rw [nodeL_eq]
    exact less_a
  · rintro ⟨i, m⟩ ⟨hi, hm, hf⟩
    dsimp only at hi hm hf ⊢
    by_cases hlt : i < p.length
    · have hw : IntKind.i64.wrap ((i : Int) + 1) = (i : Int) + 1 := i64_nat (by omega) (by omega)
      rw [List.drop_eq_getElem_cons hlt] at hf
      have pk := place_ok .loose m p[i] hm.plc
      unfold nodeT at pk
      rw [nodeTL_eq] at pk
      rw [nodeL_eq]
      rcases placeI_cases m p[i] with ⟨h1, _⟩ | ⟨k, h1, h2, _⟩
      · rw [getS_no _ h1] at hf
        rw [h1] at pk
        (repeat (first | with_reducible refine AW.seq ?_ | ((first | refine arun_kn 1 rfl (fun C hC => ?_) | refine arunD_kn 1 rfl (fun C hC => ?_)); (repeat ((conv => whnf); simp [hlt, strsE_len])); refine hC _ ?_; clear hC C; simp only [List.drop, Nat.reduceAdd]) | (refine arun_skip ?_ ?_; (focus (simp [awant, hlt, strsE_len]; done))) | (refine arun_c0 (pk) ?_; rintro _ rfl) | (refine arunD_c (0) (pk) ?_; rintro _ rfl; intro _) | (refine AW.regionK [] (fun K hK => ?_)) | (refine AW.regionDK [] (pcs [(5, 0, fun r => r = .int .i64 (-1))] []) (by kernel_rfl) (by kernel_rfl) (fun K hK => ?_)) | (refine AW.condT ?_ ?_; (focus (simp [aev, hlt, strsE_len]; done))) | (refine AW.condF ?_ ?_; (focus (simp [aev, hlt, strsE_len]; done))) | with_reducible refine AW.block ?_ | ((first | ((first | refine arun_nil ?_ | refine arunD_nil ?_); refine hK _ ?_; clear hK K) | refine AW.skip ?_ | refine AW.exit ?_ | refine AW.ret ?_); simp only [wE, if_true, if_false, Nat.reduceEqDiff, reduceIte])))
        refine ⟨.tup [node0 0 0 ⟨#[]⟩, .bool false], by simp [node0, ares, aresL, upd, rowsOf_cons], none_end.1, _, none_end.2, by rw [hf]; rfl⟩
      · rw [getS_yes _ h1 h2] at hf
        rw [h2] at pk
        have hk0 : ¬ ((k : Int) < 0) := by omega
        (repeat (first | with_reducible refine AW.seq ?_ | ((first | refine arun_kn 1 rfl (fun C hC => ?_) | refine arunD_kn 1 rfl (fun C hC => ?_)); (repeat ((conv => whnf); simp [hlt, hw, h1, hk0, strsE_len])); refine hC _ ?_; clear hC C; simp only [List.drop, Nat.reduceAdd]) | (refine arun_skip ?_ ?_; (focus (simp [awant, hlt, hw, h1, hk0, strsE_len]; done))) | (refine arun_c0 (pk) ?_; rintro _ rfl) | (refine arunD_c (0) (pk) ?_; rintro _ rfl; intro _) | (refine AW.regionK [] (fun K hK => ?_)) | (refine AW.regionDK [] (pcs [(5, 0, fun r => r = .int .i64 (k : Int))] []) (by kernel_rfl) (by kernel_rfl) (fun K hK => ?_)) | (refine AW.condT ?_ ?_; (focus (simp [aev, hlt, hw, h1, hk0, strsE_len]; done))) | (refine AW.condF ?_ ?_; (focus (simp [aev, hlt, hw, h1, hk0, strsE_len]; done))) | with_reducible refine AW.block ?_ | ((first | ((first | refine arun_nil ?_ | refine arunD_nil ?_); refine hK _ ?_; clear hK K) | refine AW.skip ?_ | refine AW.exit ?_ | refine AW.ret ?_); simp only [wE, if_true, if_false, Nat.reduceEqDiff, reduceIte])))
        refine ⟨(i + 1, m.kids[k]), by dsimp only; omega, ⟨by dsimp only; omega, hm.kid (List.getElem_mem h1), hf⟩, ?_⟩
        dsimp only
        exact less_a
    · rw [List.drop_eq_nil_of_le (by omega), getS] at hf
      have p4 := copyNode_AC m hm.sml .loose
      unfold nodeT at p4
      rw [nodeTL_eq] at p4
      rw [nodeL_eq]
      (repeat (first | with_reducible refine AW.seq ?_ | ((first | refine arun_kn 1 rfl (fun C hC => ?_) | refine arunD_kn 1 rfl (fun C hC => ?_)); (repeat ((conv => whnf); simp [hlt, strsE_len])); refine hC _ ?_; clear hC C; simp only [List.drop, Nat.reduceAdd]) | (refine arun_skip ?_ ?_; (focus (simp [awant, hlt, strsE_len]; done))) | (refine arun_c0 (p4) ?_; rintro _ rfl) | (refine AW.regionK [] (fun K hK => ?_)) | (refine AW.regionDK [] (pcs [] []) (by kernel_rfl) (by kernel_rfl) (fun K hK => ?_)) | (refine AW.condT ?_ ?_; (focus (simp [aev, hlt, strsE_len]; done))) | (refine AW.condF ?_ ?_; (focus (simp [aev, hlt, strsE_len]; done))) | with_reducible refine AW.block ?_ | ((first | ((first | refine arun_nil ?_ | refine arunD_nil ?_); refine hK _ ?_; clear hK K) | refine AW.skip ?_ | refine AW.exit ?_ | refine AW.ret ?_); simp only [wE, if_true, if_false, Nat.reduceEqDiff, reduceIte])))
      exact ⟨.tup [nodeA m, .bool true], by simp [nodeA, nodeL_eq, ares, aresL, upd, rowsOf_cons], tup2_pur (node_pur m) pur_bool, _, Wk.refl _, by rw [hf]; rfl⟩
end Go.Proofs.Ytgfnmhfdmmnaoaa.Eng
namespace Go.Proofs.Ytgfnmhfdmmnaoaa
open Go Go.RowKit
structure Shp where
  kind : Int
  names : List ByteArray
  needs : List Bool
  kids : List Shp
theorem Shp.ind' (P : Shp → Prop) (h : ∀ n : Shp, (∀ k ∈ n.kids, P k) → P n) : ∀ n, P n := by
  intro n
  refine Shp.rec (motive_1 := P) (motive_2 := fun l => ∀ k ∈ l, P k) ?_ ?_ ?_ n
  · intro kind names needs kids ih
    exact h ⟨kind, names, needs, kids⟩ ih
  · intro k hk; cases hk
  · intro k ks h1 h2 x hx
    rcases List.mem_cons.1 hx with rfl | hx
    · exact h1
    · exact h2 _ hx
end Go.Proofs.Ytgfnmhfdmmnaoaa
namespace Go.Proofs.Ytgfnmhfdmmnaoaa
open Go.RowKit
end Go.Proofs.Ytgfnmhfdmmnaoaa
namespace Go.Proofs.Ytgfnmhfdmmnaoaa
open Go.RowKit
end Go.Proofs.Ytgfnmhfdmmnaoaa
namespace Go.Proofs.Ytgfnmhfdmmnaoaa
open Go.RowKit
end Go.Proofs.Ytgfnmhfdmmnaoaa
namespace Go.Proofs.Ytgfnmhfdmmnaoaa
open Go.RowKit
def Good (n : Nd) : Prop := ∃ d, shapeB n d = true
theorem Good.parts {n : Nd} (h : Good n) : partsB n = true := by
  obtain ⟨d, h⟩ := h
  rw [shapeB_eq] at h
  simp only [Bool.and_eq_true] at h
  exact h.1.2
theorem Good.kid {n k : Nd} (h : Good n) (hk : k ∈ n.kids) : Good k := by
  obtain ⟨d, h⟩ := h
  rw [shapeB_eq, shapeL_all] at h
  simp only [Bool.and_eq_true, List.all_eq_true] at h
  exact ⟨d - 1, h.2 k hk⟩
theorem Good.zero : Good Nd.zero := ⟨1, by simp [shapeB_eq, partsB, Nd.zero, shapeL]⟩
theorem Good.kids6 {n : Nd} (h : Good n) : n.kids.length ≤ 6 := partsB_kids h.parts
theorem Good.map {n : Nd} (h : Good n) (hk : n.kind = 4) : Asc n.names ∧ n.kids.length = n.names.length := by
  have hp := h.parts
  simp only [partsB, hk, Bool.and_eq_true] at hp
  simp [areNamesB] at hp
  exact ⟨namesB_asc hp.2.1.2, hp.2.2⟩
theorem Good.other {n : Nd} (h : Good n) (hk : n.kind ≠ 4) : n.names = [] := by
  have hp := h.parts
  simp only [partsB, hk, Bool.and_eq_true] at hp
  simp at hp
  exact hp.1.2
theorem Good.len {n : Nd} (h : Good n) : n.names.length ≤ n.kids.length := by
  by_cases hk : n.kind = 4
  · rw [(h.map hk).2]; exact Nat.le_refl _
  · rw [h.other hk]; exact Nat.zero_le _
theorem validB_good {n : Nd} (h : validB n = true) : Good n := by
  simp only [validB, Bool.and_eq_true] at h
  exact ⟨5, h.1⟩
end Go.Proofs.Ytgfnmhfdmmnaoaa
namespace Go.Proofs.Ytgfnmhfdmmnaoaa
open Go.RowKit
def sgnI (a b : Int) : Int := if a < b then -1 else if b < a then 1 else 0
def sgnT (a b : ByteArray) : Int := if lt a b then -1 else if lt b a then 1 else 0
theorem sgnI_refl (a : Int) : sgnI a a = 0 := by simp [sgnI]
theorem sgnI_zero {a b : Int} : sgnI a b = 0 ↔ a = b := by
  unfold sgnI
  by_cases h1 : a < b
  · simp [h1]; omega
  · by_cases h2 : b < a
    · simp [h1, h2]; omega
    · simp [h1, h2]; omega
theorem sgnT_refl (a : ByteArray) : sgnT a a = 0 := by simp [sgnT, lt_irr]
theorem sgnT_zero {a b : ByteArray} : sgnT a b = 0 ↔ a = b := by
  rcases bl_cases a b with ⟨h1, h2, _, _, h3⟩ | ⟨h1, h2, _, _, h3⟩ | h
  · simp [sgnT, lt, h1, h3]
  · simp [sgnT, lt, h1, h2, h3]
  · subst h; simp [sgnT_refl]
theorem toInt_ok (b : Bool) (w : World) : Calls Try.prog 191 #[.bool b] w fun e w' => e = .returned (.int .i64 (if b then 1 else 0)) ∧ w' = w := by
  cases b
  all_goals
    go_enter Try.func191, Try.ntmps191
    go_wp2
    go_ret
    exact ⟨by simp, rfl⟩
theorem order_ok (a b : Int) (w : World) : Calls Try.prog 176 #[.int .i64 a, .int .i64 b] w fun e w' => e = .returned (.int .i64 (sgnI a b)) ∧ w' = w := by
  rcases (show a < b ∨ b < a ∨ a = b by omega) with h | h | h
  · have Hf : Hid (sgnI a b = -1) := Lib.hid (by simp [sgnI, h])
    have h1 : (decide (b < a)) = false := by simp; omega
    have h2 : (decide (a < b)) = true := by simp; omega
    go_enter Try.func176, Try.ntmps176
    go_wp2_with (go_at_call 191; refine (toInt_ok _ _).mono ?_; rintro e w' ⟨rfl, rfl⟩)
    go_ret
    exact ⟨by simp [Hf.out], rfl⟩
  · have Hf : Hid (sgnI a b = 1) := Lib.hid (by have : ¬ a < b := by omega
                                                simp [sgnI, h, this])
    have h1 : (decide (b < a)) = true := by simp; omega
    have h2 : (decide (a < b)) = false := by simp; omega
    go_enter Try.func176, Try.ntmps176
    go_wp2_with (go_at_call 191; refine (toInt_ok _ _).mono ?_; rintro e w' ⟨rfl, rfl⟩)
    go_ret
    exact ⟨by simp [Hf.out], rfl⟩
  · subst h
    have Hf : Hid (sgnI a a = 0) := Lib.hid (sgnI_refl a)
    have h1 : (decide (a < a)) = false := by simp
    go_enter Try.func176, Try.ntmps176
    go_wp2_with (go_at_call 191; refine (toInt_ok _ _).mono ?_; rintro e w' ⟨rfl, rfl⟩)
    go_ret
    exact ⟨by simp [Hf.out], rfl⟩
theorem orderText_ok (a b : ByteArray) (w : World) : Calls Try.prog 177 #[.string a, .string b] w fun e w' => e = .returned (.int .i64 (sgnT a b)) ∧ w' = w := by
  rcases bl_cases a b with ⟨l1, l2, l3, l4, hne⟩ | ⟨l1, l2, l3, l4, hne⟩ | l0
  · have Hf : Hid (sgnT a b = -1) := Lib.hid (by simp [sgnT, lt, l1])
    clear hne
    go_enter Try.func177, Try.ntmps177
    go_wp2_with (go_at_call 191; refine (toInt_ok _ _).mono ?_; rintro e w' ⟨rfl, rfl⟩)
    go_ret
    exact ⟨by simp [Hf.out], rfl⟩
  · have Hf : Hid (sgnT a b = 1) := Lib.hid (by simp [sgnT, lt, l1, l2])
    clear hne
    go_enter Try.func177, Try.ntmps177
    go_wp2_with (go_at_call 191; refine (toInt_ok _ _).mono ?_; rintro e w' ⟨rfl, rfl⟩)
    go_ret
    exact ⟨by simp [Hf.out], rfl⟩
  · subst l0
    have l1 := blF_irrefl a
    have l3 : (a.toList == a.toList) = true := by simp
    have Hf : Hid (sgnT a a = 0) := Lib.hid (sgnT_refl a)
    go_enter Try.func177, Try.ntmps177
    go_wp2_with (go_at_call 191; refine (toInt_ok _ _).mono ?_; rintro e w' ⟨rfl, rfl⟩)
    go_ret
    exact ⟨by simp [Hf.out], rfl⟩
end Go.Proofs.Ytgfnmhfdmmnaoaa
namespace Go.Proofs.Ytgfnmhfdmmnaoaa
open Go.RowKit
mutual
def cmpN : Nd → Nd → Int
  | ⟨kind, num, text, names, kids⟩, b =>
    if sgnI kind b.kind ≠ 0 then sgnI kind b.kind else if sgnI num b.num ≠ 0 then sgnI num b.num else if sgnT text b.text ≠ 0 then sgnT text b.text
    else cmpKs (decide (kind = 4)) names b.names kids b.kids
def cmpKs : Bool → List ByteArray → List ByteArray → List Nd → List Nd → Int
  | m, ns, ms, k :: ks, j :: js =>
    if m = true ∧ sgnT (ns.headD ⟨#[]⟩) (ms.headD ⟨#[]⟩) ≠ 0 then sgnT (ns.headD ⟨#[]⟩) (ms.headD ⟨#[]⟩) else if cmpN k j ≠ 0 then cmpN k j else cmpKs m ns.tail ms.tail ks js
  | _, _, _, [], js => sgnI 0 js.length
  | _, _, _, ks, [] => sgnI ks.length 0
end
theorem cmpN_eq (a b : Nd) : cmpN a b = if sgnI a.kind b.kind ≠ 0 then sgnI a.kind b.kind else if sgnI a.num b.num ≠ 0 then sgnI a.num b.num else if sgnT a.text b.text ≠ 0 then sgnT a.text b.text
    else cmpKs (decide (a.kind = 4)) a.names b.names a.kids b.kids := by cases a; simp [cmpN]
theorem headD_drop (l : List ByteArray) (k : Nat) (h : k < l.length) (d : ByteArray) : (l.drop k).headD d = l[k] := by
  rw [drop_cons _ _ h]; rfl
theorem cmpKs_map {ns ms : List ByteArray} {ks js : List Nd} {k : Nat} (h1 : k < ks.length) (h2 : k < js.length) (h3 : k < ns.length) (h4 : k < ms.length) :
    cmpKs true (ns.drop k) (ms.drop k) (ks.drop k) (js.drop k) = if sgnT ns[k] ms[k] ≠ 0 then sgnT ns[k] ms[k] else if cmpN ks[k] js[k] ≠ 0 then cmpN ks[k] js[k] else cmpKs true (ns.drop (k + 1)) (ms.drop (k + 1)) (ks.drop (k + 1)) (js.drop (k + 1)) := by
  rw [drop_cons _ _ h1, drop_cons _ _ h2, cmpKs, headD_drop _ _ h3, headD_drop _ _ h4]
  simp [List.tail_drop]
theorem cmpKs_list {ns ms : List ByteArray} {ks js : List Nd} {k : Nat} (h1 : k < ks.length) (h2 : k < js.length) :
    cmpKs false (ns.drop k) (ms.drop k) (ks.drop k) (js.drop k) = if cmpN ks[k] js[k] ≠ 0 then cmpN ks[k] js[k] else cmpKs false (ns.drop (k + 1)) (ms.drop (k + 1)) (ks.drop (k + 1)) (js.drop (k + 1)) := by
  rw [drop_cons _ _ h1, drop_cons _ _ h2, cmpKs]
  simp [List.tail_drop]
theorem cmpKs_end (m : Bool) (ns ms : List ByteArray) (ks js : List Nd) (k : Nat) (hk1 : k ≤ ks.length) (hk2 : k ≤ js.length) (h : ¬ (k < ks.length ∧ k < js.length)) :
    cmpKs m (ns.drop k) (ms.drop k) (ks.drop k) (js.drop k) = sgnI ks.length js.length := by
  by_cases h1 : k < ks.length
  · have h2 : k = js.length := by omega
    have e : js.drop k = [] := List.drop_eq_nil_of_le (by omega)
    rw [drop_cons _ _ h1, e, cmpKs]
    · simp only [List.length_cons, List.length_drop, sgnI]
      rw [if_neg (by omega), if_pos (by omega), if_neg (by omega), if_pos (by omega)]
    · intro h; simp at h; omega
  · have h2 : k = ks.length := by omega
    have e : ks.drop k = [] := List.drop_eq_nil_of_le (by omega)
    rw [e, cmpKs]
    simp only [List.length_drop, sgnI]
    by_cases h3 : k < js.length
    · rw [if_pos (by omega), if_pos (by omega)]
    · rw [if_neg (by omega), if_neg (by omega), if_neg (by omega), if_neg (by omega)]
def CmpSOk (a : Nd) : Prop := ∀ (b : Nd) (v u : Value) (w : World), Good a → Good b → NodeR w any a v → NodeR w any b u →
    Calls Try.prog 148 #[v, u] w fun e w' => e = .returned (.int .i64 (cmpN a b)) ∧ Grow w w'
theorem bne0 {c : Int} (h : c = 0) : (c != 0) = false := by simp [h]
theorem bne1 {c : Int} (h : ¬ c = 0) : (c != 0) = true := by simp [h]
end Go.Proofs.Ytgfnmhfdmmnaoaa
namespace Go.Proofs.Ytgfnmhfdmmnaoaa
open Go.RowKit
theorem compare_of (a : Nd) (ih : ∀ k ∈ a.kids, CmpSOk k) : CmpSOk a := by
  intro b v u w hga hgb hv hu
  obtain ⟨na, nc, ka, kc, rfl, hc⟩ := hv
  obtain ⟨na2, nc2, ka2, kc2, rfl, hc2⟩ := hu
  obtain ⟨_, hns, hks⟩ := hc.parts
  obtain ⟨_, hns2, hks2⟩ := hc2.parts
  have l1 : a.kids.length ≤ 6 := hga.kids6
  have l2 : b.kids.length ≤ 6 := hgb.kids6
  have Hns := Lib.hid hns
  have Hks := Lib.hid hks
  have Hns2 := Lib.hid hns2
  have Hks2 := Lib.hid hks2
  have Hga := Lib.hid hga
  have Hgb := Lib.hid hgb
  have Ih := Lib.hid ih
  have Hf := Lib.hid (cmpN_eq a b)
  clear hc hc2 hns hks hns2 hks2 hga hgb ih
  unfold nodeV
  by_cases h1 : sgnI a.kind b.kind = 0
  rotate_left
  · have b1 : (a.kind != b.kind) = true := by simpa using fun e => h1 (sgnI_zero.2 e)
    have Hff : Hid (cmpN a b = sgnI a.kind b.kind) := Lib.hid (by rw [Hf.out, if_pos h1])
    clear h1
    go_enter Try.func148, Try.ntmps148
    go_wp2_with fail
    refine (order_ok _ _ _).mono ?_
    rintro e w' ⟨rfl, rfl⟩
    go_wp2_with fail
    go_ret
    exact ⟨by simp [Hff.out], (by repeat (first | with_reducible exact Ext.refl _ _ | with_reducible refine Ext.trans ?_ (by assumption) | with_reducible refine Ext.drew ?_ | with_reducible refine Ext.drewN ?_ _ | with_reducible refine Ext.alloc ?_ _ | with_reducible refine Ext.setNew ?_ (by simp; done) _ | with_reducible refine Ext.setNew ?_ (by simp; omega) _))⟩
  have b1 : (a.kind != b.kind) = false := by simpa using sgnI_zero.1 h1
  by_cases h2 : sgnI a.num b.num = 0
  rotate_left
  · have b2 : (a.num != b.num) = true := by simpa using fun e => h2 (sgnI_zero.2 e)
    have Hff : Hid (cmpN a b = sgnI a.num b.num) := Lib.hid (by rw [Hf.out, if_neg (by simpa using h1), if_pos h2])
    clear h1 h2
    go_enter Try.func148, Try.ntmps148
    go_wp2_with fail
    refine (order_ok _ _ _).mono ?_
    rintro e w' ⟨rfl, rfl⟩
    go_wp2_with fail
    go_ret
    exact ⟨by simp [Hff.out], (by repeat (first | with_reducible exact Ext.refl _ _ | with_reducible refine Ext.trans ?_ (by assumption) | with_reducible refine Ext.drew ?_ | with_reducible refine Ext.drewN ?_ _ | with_reducible refine Ext.alloc ?_ _ | with_reducible refine Ext.setNew ?_ (by simp; done) _ | with_reducible refine Ext.setNew ?_ (by simp; omega) _))⟩
  have b2 : (a.num != b.num) = false := by simpa using sgnI_zero.1 h2
  by_cases h3 : sgnT a.text b.text = 0
  rotate_left
  · have b3 : (a.text.toList == b.text.toList) = false := by rw [beq_toList]; simpa using fun e => h3 (sgnT_zero.2 e)
    have Hff : Hid (cmpN a b = sgnT a.text b.text) := Lib.hid (by rw [Hf.out, if_neg (by simpa using h1), if_neg (by simpa using h2), if_pos h3])
    clear h1 h2 h3
    go_enter Try.func148, Try.ntmps148
    go_wp2_with fail
    refine (orderText_ok _ _ _).mono ?_
    rintro e w' ⟨rfl, rfl⟩
    go_wp2_with fail
    go_ret
    exact ⟨by simp [Hff.out], (by repeat (first | with_reducible exact Ext.refl _ _ | with_reducible refine Ext.trans ?_ (by assumption) | with_reducible refine Ext.drew ?_ | with_reducible refine Ext.drewN ?_ _ | with_reducible refine Ext.alloc ?_ _ | with_reducible refine Ext.setNew ?_ (by simp; done) _ | with_reducible refine Ext.setNew ?_ (by simp; omega) _))⟩
  have b3 : (a.text.toList == b.text.toList) = true := by rw [beq_toList]; simpa using sgnT_zero.1 h3
  have hkk : a.kind = b.kind := sgnI_zero.1 h1
  have Hkk := Lib.hid hkk
  have Hff : Hid (cmpN a b = cmpKs (decide (a.kind = 4)) a.names b.names a.kids b.kids) := Lib.hid (by rw [Hf.out, if_neg (by simpa using h1), if_neg (by simpa using h2), if_neg (by simpa using h3)])
  clear h1 h2 h3 hkk
  go_enter Try.func148, Try.ntmps148
  go_wp2_with fail
  clear b1 b2 b3
  go_loopw [4, 5] (fun t4 i wr => t4 = .int .i64 0 ∧ Grow w wr ∧ BoxN wr w.heap.size (nodeL a na nc ka kc) ∧ BoxN wr (w.heap.size + 1) (nodeL b na2 nc2 ka2 kc2) ∧ ∃ k : Nat, k ≤ a.kids.length ∧ k ≤ b.kids.length ∧ i = .int .i64 k ∧ cmpKs (decide (a.kind = 4)) a.names b.names a.kids b.kids = cmpKs (decide (a.kind = 4)) (a.names.drop k) (b.names.drop k) (a.kids.drop k) (b.kids.drop k)) (fun _ i _ => a.kids.length - (intOf i).toNat)
  case atStart => exact ⟨rfl, (by repeat (first | with_reducible exact Ext.refl _ _ | with_reducible refine Ext.trans ?_ (by assumption) | with_reducible refine Ext.drew ?_ | with_reducible refine Ext.drewN ?_ _ | with_reducible refine Ext.alloc ?_ _ | with_reducible refine Ext.setNew ?_ (by simp; done) _ | with_reducible refine Ext.setNew ?_ (by simp; omega) _)), (BoxN.new w (nodeL a na nc ka kc) _).grow ((Ext.refl nil _).alloc _), BoxN.new1 w _ (nodeL b na2 nc2 ka2 kc2) _, 0, Nat.zero_le _, Nat.zero_le _, rfl, rfl⟩
  case round =>
    obtain ⟨rfl, hg0, B1, B2, k, hk1, hk2, rfl, hs⟩ := hrel
    have Hs := Lib.hid hs
    clear hs
    have HB1 := Lib.hid B1
    have HB2 := Lib.hid B2
    clear B1 B2
    by_cases hlt : k < a.kids.length ∧ k < b.kids.length
    · obtain ⟨hlt1, hlt2⟩ := hlt
      rcases Hks.out.2.2 with hh | ⟨bk, ok, rfl, _, hkr⟩
      · rw [hh] at hlt1; simp at hlt1
      rcases Hks2.out.2.2 with hh | ⟨bk2, ok2, rfl, _, hkr2⟩
      · rw [hh] at hlt2; simp at hlt2
      obtain ⟨na', nc', ka', kc', c0, c1, c2, c3, c4, hkc⟩ := (hkr.ext hg0 (fun _ _ h => h) (fun h => h)).get k hlt1
      obtain ⟨na3, nc3, ka3, kc3, d0, d1, d2, d3, d4, hkc2⟩ := (hkr2.ext hg0 (fun _ _ h => h) (fun h => h)).get k hlt2
      have Hkc : Hid (NodeR wr any a.kids[k] (nodeV a.kids[k] na' nc' ka' kc')) := Lib.hid ⟨_, _, _, _, rfl, hkc⟩
      have Hkc2 : Hid (NodeR wr any b.kids[k] (nodeV b.kids[k] na3 nc3 ka3 kc3)) := Lib.hid ⟨_, _, _, _, rfl, hkc2⟩
      have Hgka := Lib.hid (Hga.out.kid (List.getElem_mem hlt1))
      have Hgkb := Lib.hid (Hgb.out.kid (List.getElem_mem hlt2))
      clear hkr hkr2 hkc hkc2
      have p3 := HB1.out.cell 3 _ rfl
      have p4 := HB1.out.cell 4 _ rfl
      have p0 := HB1.out.cell 0 _ rfl
      have q3 := HB2.out.cell 3 _ rfl
      have q4 := HB2.out.cell 4 _ rfl
      by_cases h4 : a.kind = 4
      · have e1 := (Hga.out.map h4).2
        have e2 := (Hgb.out.map (by rw [← Hkk.out]; exact h4)).2
        have n1 : k < a.names.length := by omega
        have n2 : k < b.names.length := by omega
        have b4 : (a.kind == 4) = true := by simp [h4]
        have hst := cmpKs_map (ns := a.names) (ms := b.names) hlt1 hlt2 n1 n2
        rcases ((Hns.out).grow hg0).2.2.2 with hh | ⟨b5, o5, rfl, _, hc5⟩
        · rw [hh] at n1; simp at n1
        rcases ((Hns2.out).grow hg0).2.2.2 with hh | ⟨b6, o6, rfl, _, hc6⟩
        · rw [hh] at n2; simp at n2
        have x1 := hc5 k n1
        have x2 := hc6 k n2
        clear hc5 hc6 e1 e2
        have Hd : Hid (decide (a.kind = 4) = true) := Lib.hid (by simp [h4])
        clear h4
        by_cases h5 : sgnT a.names[k] b.names[k] = 0
        · have b5' : (a.names[k].toList == b.names[k].toList) = true := by rw [beq_toList]; simpa using sgnT_zero.1 h5
          have hst' := hst.trans (if_neg (by simpa using h5))
          clear hst h5
          by_cases h6 : cmpN a.kids[k] b.kids[k] = 0
          · have b6' := bne0 h6
            have Hst := Lib.hid (hst'.trans (if_neg (by simpa using h6)))
            clear hst' h6
            go_wp2_with fail
            (refine wp_region_later (by kernel_rfl) (by kernel_rfl) ?_; (repeat (first | go_big_quiet_step (fail) | quiet_step (fail))); refine wpQuiet_nil ?_; rintro _ ⟨x_w2, rfl⟩; have hg_w2 := later_grow wr x_w2; generalize later wr x_w2 = w2 at hg_w2 ⊢)
            (replace p0 := hg_w2.some p0; replace p3 := hg_w2.some p3; replace p4 := hg_w2.some p4; replace q3 := hg_w2.some q3; replace q4 := hg_w2.some q4; replace c0 := hg_w2.some c0; replace c1 := hg_w2.some c1; replace c2 := hg_w2.some c2; replace c3 := hg_w2.some c3; replace c4 := hg_w2.some c4; replace d0 := hg_w2.some d0; replace d1 := hg_w2.some d1; replace d2 := hg_w2.some d2; replace d3 := hg_w2.some d3; replace d4 := hg_w2.some d4)
            go_wp2_with fail
            (refine wp_region_later (by kernel_rfl) (by kernel_rfl) ?_; (repeat (first | go_big_quiet_step ((go_at_call 148; exact later_call (v := .int .i64 (cmpN a.kids[k] b.kids[k])) (Ih.out _ (List.getElem_mem hlt1) b.kids[k] _ _ _ Hgka.out Hgkb.out (Hkc.out.grow (hg_w2.trans (later_grow _ _))) (Hkc2.out.grow (hg_w2.trans (later_grow _ _)))))) | quiet_step ((go_at_call 148; exact later_call (v := .int .i64 (cmpN a.kids[k] b.kids[k])) (Ih.out _ (List.getElem_mem hlt1) b.kids[k] _ _ _ Hgka.out Hgkb.out (Hkc.out.grow (hg_w2.trans (later_grow _ _))) (Hkc2.out.grow (hg_w2.trans (later_grow _ _)))))))); refine wpQuiet_nil ?_; rintro _ ⟨x_w3, rfl⟩; have hg_w3 := later_grow w2 x_w3; generalize later w2 x_w3 = w3 at hg_w3 ⊢)
            go_wp2_with fail
            go_roundw
            case rel => exact ⟨rfl, (by repeat (first | with_reducible exact Ext.refl _ _ | with_reducible refine Ext.trans ?_ (by assumption) | with_reducible refine Ext.drew ?_ | with_reducible refine Ext.drewN ?_ _ | with_reducible refine Ext.alloc ?_ _ | with_reducible refine Ext.setNew ?_ (by simp; done) _ | with_reducible refine Ext.setNew ?_ (by simp; omega) _)), HB1.out.grow (by repeat (first | with_reducible exact Ext.refl _ _ | with_reducible refine Ext.trans ?_ (by assumption) | with_reducible refine Ext.drew ?_ | with_reducible refine Ext.drewN ?_ _ | with_reducible refine Ext.alloc ?_ _ | with_reducible refine Ext.setNew ?_ (by simp; done) _ | with_reducible refine Ext.setNew ?_ (by simp; omega) _)), HB2.out.grow (by repeat (first | with_reducible exact Ext.refl _ _ | with_reducible refine Ext.trans ?_ (by assumption) | with_reducible refine Ext.drew ?_ | with_reducible refine Ext.drewN ?_ _ | with_reducible refine Ext.alloc ?_ _ | with_reducible refine Ext.setNew ?_ (by simp; done) _ | with_reducible refine Ext.setNew ?_ (by simp; omega) _)), k + 1, by omega, by omega, by go_num, by rw [Hs.out, Hd.out, Hst.out]⟩
            case measure => simp [intOf]; omega
          · have b6' := bne1 h6
            have Hst := Lib.hid (hst'.trans (if_pos h6))
            clear hst' h6
            go_wp2_with fail
            (refine wp_region_later (by kernel_rfl) (by kernel_rfl) ?_; (repeat (first | go_big_quiet_step (fail) | quiet_step (fail))); refine wpQuiet_nil ?_; rintro _ ⟨x_w2, rfl⟩; have hg_w2 := later_grow wr x_w2; generalize later wr x_w2 = w2 at hg_w2 ⊢)
            (replace p0 := hg_w2.some p0; replace p3 := hg_w2.some p3; replace p4 := hg_w2.some p4; replace q3 := hg_w2.some q3; replace q4 := hg_w2.some q4; replace c0 := hg_w2.some c0; replace c1 := hg_w2.some c1; replace c2 := hg_w2.some c2; replace c3 := hg_w2.some c3; replace c4 := hg_w2.some c4; replace d0 := hg_w2.some d0; replace d1 := hg_w2.some d1; replace d2 := hg_w2.some d2; replace d3 := hg_w2.some d3; replace d4 := hg_w2.some d4)
            go_wp2_with fail
            (refine wp_region_later (by kernel_rfl) (by kernel_rfl) ?_; (repeat (first | go_big_quiet_step ((go_at_call 148; exact later_call (v := .int .i64 (cmpN a.kids[k] b.kids[k])) (Ih.out _ (List.getElem_mem hlt1) b.kids[k] _ _ _ Hgka.out Hgkb.out (Hkc.out.grow (hg_w2.trans (later_grow _ _))) (Hkc2.out.grow (hg_w2.trans (later_grow _ _)))))) | quiet_step ((go_at_call 148; exact later_call (v := .int .i64 (cmpN a.kids[k] b.kids[k])) (Ih.out _ (List.getElem_mem hlt1) b.kids[k] _ _ _ Hgka.out Hgkb.out (Hkc.out.grow (hg_w2.trans (later_grow _ _))) (Hkc2.out.grow (hg_w2.trans (later_grow _ _)))))))); refine wpQuiet_nil ?_; rintro _ ⟨x_w3, rfl⟩; have hg_w3 := later_grow w2 x_w3; generalize later w2 x_w3 = w3 at hg_w3 ⊢)
            go_wp2_with fail
            go_ret
            exact ⟨by rw [Hff.out, Hs.out, Hd.out, Hst.out]; rfl, (by repeat (first | with_reducible exact Ext.refl _ _ | with_reducible refine Ext.trans ?_ (by assumption) | with_reducible refine Ext.drew ?_ | with_reducible refine Ext.drewN ?_ _ | with_reducible refine Ext.alloc ?_ _ | with_reducible refine Ext.setNew ?_ (by simp; done) _ | with_reducible refine Ext.setNew ?_ (by simp; omega) _))⟩
        · have b5' : (a.names[k].toList == b.names[k].toList) = false := by rw [beq_toList]; simpa using fun e => h5 (sgnT_zero.2 e)
          have Hst := Lib.hid (hst.trans (if_pos h5))
          clear hst h5
          go_wp2_with fail
          (refine wp_region_later (by kernel_rfl) (by kernel_rfl) ?_; (repeat (first | go_big_quiet_step (fail) | quiet_step (fail))); refine wpQuiet_nil ?_; rintro _ ⟨x_w2, rfl⟩; have hg_w2 := later_grow wr x_w2; generalize later wr x_w2 = w2 at hg_w2 ⊢)
          (replace p0 := hg_w2.some p0; replace p3 := hg_w2.some p3; replace p4 := hg_w2.some p4; replace q3 := hg_w2.some q3; replace q4 := hg_w2.some q4; replace c0 := hg_w2.some c0; replace c1 := hg_w2.some c1; replace c2 := hg_w2.some c2; replace c3 := hg_w2.some c3; replace c4 := hg_w2.some c4; replace d0 := hg_w2.some d0; replace d1 := hg_w2.some d1; replace d2 := hg_w2.some d2; replace d3 := hg_w2.some d3; replace d4 := hg_w2.some d4; replace x1 := hg_w2.some x1; replace x2 := hg_w2.some x2)
          go_wp2_with fail
          (refine wp_region_later (by kernel_rfl) (by kernel_rfl) ?_; (repeat (first | go_big_quiet_step ((go_at_call 177; exact later_call_same (orderText_ok _ _ _))) | quiet_step ((go_at_call 177; exact later_call_same (orderText_ok _ _ _))))); refine wpQuiet_nil ?_; rintro _ ⟨x_w3, rfl⟩; have hg_w3 := later_grow w2 x_w3; generalize later w2 x_w3 = w3 at hg_w3 ⊢)
          go_wp2_with fail
          go_ret
          exact ⟨by rw [Hff.out, Hs.out, Hd.out, Hst.out]; rfl, (by repeat (first | with_reducible exact Ext.refl _ _ | with_reducible refine Ext.trans ?_ (by assumption) | with_reducible refine Ext.drew ?_ | with_reducible refine Ext.drewN ?_ _ | with_reducible refine Ext.alloc ?_ _ | with_reducible refine Ext.setNew ?_ (by simp; done) _ | with_reducible refine Ext.setNew ?_ (by simp; omega) _))⟩
      · have b4 : (a.kind == 4) = false := by simp [h4]
        have hst := cmpKs_list (ns := a.names) (ms := b.names) hlt1 hlt2
        have Hd : Hid (decide (a.kind = 4) = false) := Lib.hid (by simp [h4])
        clear h4
        by_cases h6 : cmpN a.kids[k] b.kids[k] = 0
        · have b6' := bne0 h6
          have Hst := Lib.hid (hst.trans (if_neg (by simpa using h6)))
          clear hst h6
          go_wp2_with fail
          (refine wp_region_later (by kernel_rfl) (by kernel_rfl) ?_; (repeat (first | go_big_quiet_step (fail) | quiet_step (fail))); refine wpQuiet_nil ?_; rintro _ ⟨x_w2, rfl⟩; have hg_w2 := later_grow wr x_w2; generalize later wr x_w2 = w2 at hg_w2 ⊢)
          (replace p0 := hg_w2.some p0; replace p3 := hg_w2.some p3; replace p4 := hg_w2.some p4; replace q3 := hg_w2.some q3; replace q4 := hg_w2.some q4; replace c0 := hg_w2.some c0; replace c1 := hg_w2.some c1; replace c2 := hg_w2.some c2; replace c3 := hg_w2.some c3; replace c4 := hg_w2.some c4; replace d0 := hg_w2.some d0; replace d1 := hg_w2.some d1; replace d2 := hg_w2.some d2; replace d3 := hg_w2.some d3; replace d4 := hg_w2.some d4)
          go_wp2_with fail
          (refine wp_region_later (by kernel_rfl) (by kernel_rfl) ?_; (repeat (first | go_big_quiet_step ((go_at_call 148; exact later_call (v := .int .i64 (cmpN a.kids[k] b.kids[k])) (Ih.out _ (List.getElem_mem hlt1) b.kids[k] _ _ _ Hgka.out Hgkb.out (Hkc.out.grow (hg_w2.trans (later_grow _ _))) (Hkc2.out.grow (hg_w2.trans (later_grow _ _)))))) | quiet_step ((go_at_call 148; exact later_call (v := .int .i64 (cmpN a.kids[k] b.kids[k])) (Ih.out _ (List.getElem_mem hlt1) b.kids[k] _ _ _ Hgka.out Hgkb.out (Hkc.out.grow (hg_w2.trans (later_grow _ _))) (Hkc2.out.grow (hg_w2.trans (later_grow _ _)))))))); refine wpQuiet_nil ?_; rintro _ ⟨x_w3, rfl⟩; have hg_w3 := later_grow w2 x_w3; generalize later w2 x_w3 = w3 at hg_w3 ⊢)
          go_wp2_with fail
          go_roundw
          case rel => exact ⟨rfl, (by repeat (first | with_reducible exact Ext.refl _ _ | with_reducible refine Ext.trans ?_ (by assumption) | with_reducible refine Ext.drew ?_ | with_reducible refine Ext.drewN ?_ _ | with_reducible refine Ext.alloc ?_ _ | with_reducible refine Ext.setNew ?_ (by simp; done) _ | with_reducible refine Ext.setNew ?_ (by simp; omega) _)), HB1.out.grow (by repeat (first | with_reducible exact Ext.refl _ _ | with_reducible refine Ext.trans ?_ (by assumption) | with_reducible refine Ext.drew ?_ | with_reducible refine Ext.drewN ?_ _ | with_reducible refine Ext.alloc ?_ _ | with_reducible refine Ext.setNew ?_ (by simp; done) _ | with_reducible refine Ext.setNew ?_ (by simp; omega) _)), HB2.out.grow (by repeat (first | with_reducible exact Ext.refl _ _ | with_reducible refine Ext.trans ?_ (by assumption) | with_reducible refine Ext.drew ?_ | with_reducible refine Ext.drewN ?_ _ | with_reducible refine Ext.alloc ?_ _ | with_reducible refine Ext.setNew ?_ (by simp; done) _ | with_reducible refine Ext.setNew ?_ (by simp; omega) _)), k + 1, by omega, by omega, by go_num, by rw [Hs.out, Hd.out, Hst.out]⟩
          case measure => simp [intOf]; omega
        · have b6' := bne1 h6
          have Hst := Lib.hid (hst.trans (if_pos h6))
          clear hst h6
          go_wp2_with fail
          (refine wp_region_later (by kernel_rfl) (by kernel_rfl) ?_; (repeat (first | go_big_quiet_step (fail) | quiet_step (fail))); refine wpQuiet_nil ?_; rintro _ ⟨x_w2, rfl⟩; have hg_w2 := later_grow wr x_w2; generalize later wr x_w2 = w2 at hg_w2 ⊢)
          (replace p0 := hg_w2.some p0; replace p3 := hg_w2.some p3; replace p4 := hg_w2.some p4; replace q3 := hg_w2.some q3; replace q4 := hg_w2.some q4; replace c0 := hg_w2.some c0; replace c1 := hg_w2.some c1; replace c2 := hg_w2.some c2; replace c3 := hg_w2.some c3; replace c4 := hg_w2.some c4; replace d0 := hg_w2.some d0; replace d1 := hg_w2.some d1; replace d2 := hg_w2.some d2; replace d3 := hg_w2.some d3; replace d4 := hg_w2.some d4)
          go_wp2_with fail
          (refine wp_region_later (by kernel_rfl) (by kernel_rfl) ?_; (repeat (first | go_big_quiet_step ((go_at_call 148; exact later_call (v := .int .i64 (cmpN a.kids[k] b.kids[k])) (Ih.out _ (List.getElem_mem hlt1) b.kids[k] _ _ _ Hgka.out Hgkb.out (Hkc.out.grow (hg_w2.trans (later_grow _ _))) (Hkc2.out.grow (hg_w2.trans (later_grow _ _)))))) | quiet_step ((go_at_call 148; exact later_call (v := .int .i64 (cmpN a.kids[k] b.kids[k])) (Ih.out _ (List.getElem_mem hlt1) b.kids[k] _ _ _ Hgka.out Hgkb.out (Hkc.out.grow (hg_w2.trans (later_grow _ _))) (Hkc2.out.grow (hg_w2.trans (later_grow _ _)))))))); refine wpQuiet_nil ?_; rintro _ ⟨x_w3, rfl⟩; have hg_w3 := later_grow w2 x_w3; generalize later w2 x_w3 = w3 at hg_w3 ⊢)
          go_wp2_with fail
          go_ret
          exact ⟨by rw [Hff.out, Hs.out, Hd.out, Hst.out]; rfl, (by repeat (first | with_reducible exact Ext.refl _ _ | with_reducible refine Ext.trans ?_ (by assumption) | with_reducible refine Ext.drew ?_ | with_reducible refine Ext.drewN ?_ _ | with_reducible refine Ext.alloc ?_ _ | with_reducible refine Ext.setNew ?_ (by simp; done) _ | with_reducible refine Ext.setNew ?_ (by simp; omega) _))⟩
    · have Hend := Lib.hid (cmpKs_end (decide (a.kind = 4)) a.names b.names a.kids b.kids k hk1 hk2 hlt)
      have p4 := HB1.out.cell 4 _ rfl
      have q4 := HB2.out.cell 4 _ rfl
      by_cases h1 : k < a.kids.length
      · have h2 : ¬ k < b.kids.length := by omega
        go_wp2_with fail
        refine (order_ok _ _ _).mono ?_
        rintro e w' ⟨rfl, rfl⟩
        go_wp2_with fail
        go_ret
        exact ⟨by rw [Hff.out, Hs.out, Hend.out]; rfl, hg0⟩
      · go_wp2_with fail
        refine (order_ok _ _ _).mono ?_
        rintro e w' ⟨rfl, rfl⟩
        go_wp2_with fail
        go_ret
        exact ⟨by rw [Hff.out, Hs.out, Hend.out]; rfl, hg0⟩
theorem compare_ok : ∀ a, CmpSOk a := Nd.ind' CmpSOk compare_of
end Go.Proofs.Ytgfnmhfdmmnaoaa
-- EV: skip
namespace Go.Proofs.Ytgfnmhfdmmnaoaa.Eng
open Go Go.RowKit
attribute [local simp] big size_mk ASt.pay Option.map_map Function.comp_def awant aop acall ado aev ofVal ofVal0 ASt.put ASt.add ASt.turn ASt.kill abox aalloc astore aload aloadD astoreD idOf ASt.at cellsTo afieldAddr afield aindexAddr aindex alen abin aint acmp astr aun apick aextract anil aslice abound abuild afill abuildSlice asCells aps avCells over upd aappend asrc amax amin aconv mkSt slots rowsOf_cons rowsOf_nil usedOf_cons usedOf_nil ZK.av List.replicate ASt.back ASt.addL ASt.killL nodeA nodeT nodeTL_eq nodeL_eq strsE_get strsE_len intsE_get intsE_len strsE_at intsE_at tab2 tab3 tab4 tab5 tab6 tab7 tab8 tab9 tab10 tab11 tab12 tab13 tab14 tab15 tab16 tab17 tab18 tab19 tab21 tab22 tab23 tab24 tab25 tab26 tab27 tab28 tab29 tab30 tab39 tab40 tab41 tab42 tab43 tab47 tab48 tab55 tab56 tab57 tab60 tab61 tab62 tab73 tab74 tab75 tab85 tab92 tab115 tab116 tab143 tab144 tab145 tab154 tab155 tab170 tab175 tab182 tab197 tab198 tab203 tab204 tab205 tab207 tab208 tab209
theorem specCompare_AC (a b : Nd) (ha : Good a) (hb : Good b) : AC Try.prog 148 [nodeA a, nodeA b] 0 (fun r => r = .int .i64 (cmpN a b)) := by
  refine AC.ofGrow (enters_of Try.func148 (by kernel_rfl) (by kernel_rfl)) (fun w L S rb vs h => ?_)
  obtain ⟨v, u, rfl, h1, h2⟩ := repL2_inv h
  refine (compare_ok a b v u w ha hb (nodeA_of_rep h1) (nodeA_of_rep h2)).mono ?_
  rintro e w' ⟨rfl, hg⟩
  exact ⟨_, _, rfl, hg, rep_int.2 rfl, rfl⟩
theorem Good.ofV {n : Nd} (h : validB n = true) : Good n := by
  unfold validB at h
  rw [Bool.and_eq_true] at h
  exact ⟨5, h.1⟩
theorem specSame_AC (a b : Nd) (ha : Good a) (hb : Good b) : AC Try.prog 96 [nodeA a, nodeA b] 0 (fun r => r = .bool (cmpN a b == 0)) := by
  have p1 := specCompare_AC a b ha hb
  unfold nodeA at p1 ⊢
  rw [nodeL_eq a, nodeL_eq b] at p1 ⊢
  generalize cmpN a b = z at *
  refine AC.of tab_ok mixed_ok Try.func96 (by rfl) (by kernel_rfl) ?_; rintro ⟨P, T, hT, hm, w0, S0, rd0, k0⟩ hP hTT; dsimp only at hP hTT; subst hP hTT; unfold initSt; rw [Try.ntmps96]
  (repeat (first | with_reducible refine AW.seq ?_ | ((first | refine arun_kn 1 rfl (fun C hC => ?_) | refine arunD_kn 1 rfl (fun C hC => ?_)); (repeat ((conv => whnf); simp)); refine hC _ ?_; clear hC C; simp only [List.drop, Nat.reduceAdd]) | (refine arun_skip ?_ ?_; (focus (simp [awant]; done))) | (refine arun_c0 (p1) ?_; rintro _ rfl) | (refine arunD_skip ?_ ?_; (focus (simp [awant]; done))) | (refine AW.regionK [] (fun K hK => ?_)) | (refine AW.regionDK [] (pcs [] []) (by kernel_rfl) (by kernel_rfl) (fun K hK => ?_)) | (refine AW.condT ?_ ?_; (focus (simp [aev]; done))) | (refine AW.condF ?_ ?_; (focus (simp [aev]; done))) | with_reducible refine AW.block ?_ | ((first | ((first | refine arun_nil ?_ | refine arunD_nil ?_); refine hK _ ?_; clear hK K) | refine AW.skip ?_ | refine AW.exit ?_ | refine AW.ret ?_); simp only [wE, if_true, if_false, Nat.reduceEqDiff, reduceIte])))
  exact ⟨.bool (z == 0), by simp [ares, aresL, upd], pur_bool, rfl⟩
end Go.Proofs.Ytgfnmhfdmmnaoaa.Eng
namespace Go.Proofs.Ytgfnmhfdmmnaoaa
open Go Go.RowKit
end Go.Proofs.Ytgfnmhfdmmnaoaa
namespace Go.Proofs.Ytgfnmhfdmmnaoaa
open Go Go.RowKit
structure Rep (α : Type) where
  n : Nat
  R : World → (Nat → Prop) → α → List Value → Prop
  F : World → α → List Value → List Nat → Prop
  rlen : ∀ {w S x cs}, R w S x cs → cs.length = n
  flen : ∀ {w x cs fp}, F w x cs fp → cs.length = n
  ext : ∀ {X S : Nat → Prop} {w w' x cs}, Ext X w w' → (∀ k, S k → ¬ X k) → R w S x cs → R w' S x cs
  mono : ∀ {S T : Nat → Prop} {w x cs}, (∀ k, S k → T k) → R w S x cs → R w T x cs
  lt : ∀ {S : Nat → Prop} {w x cs}, R w S x cs → R w (fun k => S k ∧ k < w.heap.size) x cs
  keep : ∀ {w w' x cs fp}, F w x cs fp → (∀ b ∈ fp, ∀ o, w'.cell? ⟨b, o, none⟩ = w.cell? ⟨b, o, none⟩) → F w' x cs fp
  toR : ∀ {S : Nat → Prop} {w x cs fp}, F w x cs fp → (∀ b ∈ fp, S b) → R w S x cs
theorem Rep.grow {α : Type} (E : Rep α) {S : Nat → Prop} {w w' : World} {x : α} {cs : List Value} (h : E.R w S x cs) (hg : Grow w w') : E.R w' S x cs := E.ext hg (fun _ _ h => h) h
section slices
variable {α : Type} (E : Rep α)
variable {E}
end slices
end Go.Proofs.Ytgfnmhfdmmnaoaa
namespace Go.Proofs.Ytgfnmhfdmmnaoaa
open Go.RowKit
end Go.Proofs.Ytgfnmhfdmmnaoaa
namespace Go.Proofs.Ytgfnmhfdmmnaoaa
open Go.RowKit
def inl (fp : List Nat) (k : Nat) : Prop := k ∈ fp
def RowAt (w : World) (b o n : Nat) : Prop := b < w.heap.size ∧ (∀ j, j < n → ∃ u, w.cell? ⟨b, o + j, none⟩ = some u) ∧ ∀ j, w.frozen? ⟨b, j, none⟩ = false
theorem RowAt.ext {X : Nat → Prop} {w w' : World} {b o n : Nat} (h : Ext X w w') (hx : ¬ X b) (hr : RowAt w b o n) : RowAt w' b o n := by
  obtain ⟨h1, h2, h3⟩ := hr
  refine ⟨Nat.lt_of_lt_of_le h1 h.size, fun j hj => ?_, fun j => ?_⟩
  · rw [h.cell (p := ⟨b, o + j, none⟩) h1 hx]; exact h2 j hj
  · rw [h.frozen (p := ⟨b, j, none⟩) h1 hx]; exact h3 j
theorem RowAt.setCell {w : World} {b o n : Nat} (hr : RowAt w b o n) (p : Addr) (v : Value) : RowAt (w.setCell p v) b o n := by
  obtain ⟨h1, h2, h3⟩ := hr
  refine ⟨by rw [size_setCell]; exact h1, fun j hj => cell?_setCell_some (h2 j hj).choose_spec, fun j => ?_⟩
  rw [World.frozen?_setCell]; exact h3 j
end Go.Proofs.Ytgfnmhfdmmnaoaa
namespace Go.Proofs.Ytgfnmhfdmmnaoaa
open Go.RowKit
end Go.Proofs.Ytgfnmhfdmmnaoaa
namespace Go.Proofs.Ytgfnmhfdmmnaoaa
open Go.RowKit
end Go.Proofs.Ytgfnmhfdmmnaoaa
namespace Go.Proofs.Ytgfnmhfdmmnaoaa
open Go Go.RowKit
section
variable {P : Program} {ops : Array Oper} {Vs : Nat → Option (Value → World → Prop)} {w : World} {Q : Act → World → Prop}
end
end Go.Proofs.Ytgfnmhfdmmnaoaa
namespace Go.Proofs.Ytgfnmhfdmmnaoaa
open Go Go.RowKit
section
variable {P : Program} {ops : Array Oper} {Vs : Nat → Option (Value → World → Prop)} {w : World} {Q : Act → World → Prop}
end
end Go.Proofs.Ytgfnmhfdmmnaoaa
namespace Go.Proofs.Ytgfnmhfdmmnaoaa
open Go.RowKit
theorem addr_add (b o j : Nat) : (⟨b, o, Option.none⟩ : Addr).add j = ⟨b, o + j, Option.none⟩ := by unfold Addr.add; split <;> simp_all
end Go.Proofs.Ytgfnmhfdmmnaoaa
namespace Go.Proofs.Ytgfnmhfdmmnaoaa
open Go Go.RowKit
def NCells (w : World) (S : Nat → Prop) : List Nd → List Value → Prop
  | [], cs => cs = []
  | n :: l, cs => ∃ na nc ka kc cs', cs = nodeL n na nc ka kc ++ cs' ∧ NodeC w S n na nc ka kc ∧ NCells w S l cs'
theorem NCells.len {w : World} {S : Nat → Prop} : ∀ {l : List Nd} {cs : List Value}, NCells w S l cs → cs.length = l.length * 5
  | [], cs, h => by cases h; rfl
  | n :: l, cs, h => by
    obtain ⟨na, nc, ka, kc, cs', rfl, _, h⟩ := h
    rw [List.length_append, NCells.len h]; simp [nodeL, Nat.succ_mul]; omega
theorem NCells.append {w : World} {S : Nat → Prop} : ∀ {l m : List Nd} {cs ds : List Value}, NCells w S l cs → NCells w S m ds → NCells w S (l ++ m) (cs ++ ds)
  | [], m, cs, ds, h, k => by cases h; exact k
  | n :: l, m, cs, ds, h, k => by
    obtain ⟨na, nc, ka, kc, cs', rfl, hn, h⟩ := h
    exact ⟨na, nc, ka, kc, cs' ++ ds, by simp, hn, NCells.append h k⟩
theorem NCells.ext {X S : Nat → Prop} {w w' : World} (he : Ext X w w') (hS : ∀ k, S k → ¬ X k) : ∀ {l : List Nd} {cs : List Value}, NCells w S l cs → NCells w' S l cs
  | [], cs, h => h
  | n :: l, cs, h => by
    obtain ⟨na, nc, ka, kc, cs', rfl, hn, h⟩ := h
    exact ⟨na, nc, ka, kc, cs', rfl, hn.ext he hS, NCells.ext he hS h⟩
theorem NCells.mono {S T : Nat → Prop} {w : World} (hS : ∀ k, S k → T k) : ∀ {l : List Nd} {cs : List Value}, NCells w S l cs → NCells w T l cs
  | [], cs, h => h
  | n :: l, cs, h => by
    obtain ⟨na, nc, ka, kc, cs', rfl, hn, h⟩ := h
    exact ⟨na, nc, ka, kc, cs', rfl, hn.mono hS, NCells.mono hS h⟩
theorem NCells.one {w : World} {S : Nat → Prop} {n : Nd} {na : Option Addr} {nc : Nat} {ka : Option Addr} {kc : Nat} (h : NodeC w S n na nc ka kc) : NCells w S [n] (nodeL n na nc ka kc) :=
  ⟨na, nc, ka, kc, [], by simp, h, rfl⟩
theorem NCells.kids {w : World} {S : Nat → Prop} {b : Nat} : ∀ {l : List Nd} {cs : List Value} {o : Nat}, NCells w S l cs → (∀ i v, cs[i]? = some v → w.cell? ⟨b, o + i, none⟩ = some v) → KidsR w S b o l
  | [], _, _, _, _ => by unfold KidsR; trivial
  | n :: l, cs, o, h, hc => by
    obtain ⟨na, nc, ka, kc, cs', rfl, hn, h⟩ := h
    unfold KidsR
    refine ⟨⟨na, nc, ka, kc, hc 0 _ rfl, hc 1 _ rfl, hc 2 _ rfl, hc 3 _ rfl, hc 4 _ rfl, hn⟩, NCells.kids h (fun i v hi => ?_)⟩
    have := hc (5 + i) v (by rw [List.getElem?_append_right (by simp [nodeL])]; simpa [nodeL] using hi)
    rw [show o + (5 + i) = o + 5 + i by omega] at this
    exact this
theorem KidsR.cells {w : World} {S : Nat → Prop} {b : Nat} : ∀ {l : List Nd} {o : Nat}, KidsR w S b o l → ∃ cs, NCells w S l cs ∧ ∀ i v, cs[i]? = some v → w.cell? ⟨b, o + i, none⟩ = some v
  | [], _, _ => ⟨[], rfl, fun i v h => by simp at h⟩
  | n :: l, o, h => by
    unfold KidsR at h
    obtain ⟨⟨na, nc, ka, kc, c0, c1, c2, c3, c4, hn⟩, hr⟩ := h
    obtain ⟨cs, h1, h2⟩ := hr.cells
    refine ⟨nodeL n na nc ka kc ++ cs, ⟨na, nc, ka, kc, cs, rfl, hn, h1⟩, fun i v hi => ?_⟩
    match i, hi with
    | 0, hi => simp [nodeL] at hi; subst hi; exact c0
    | 1, hi => simp [nodeL] at hi; subst hi; exact c1
    | 2, hi => simp [nodeL] at hi; subst hi; exact c2
    | 3, hi => simp [nodeL] at hi; subst hi; exact c3
    | 4, hi => simp [nodeL] at hi; subst hi; exact c4
    | i + 5, hi =>
      have := h2 i v (by simpa [nodeL] using hi)
      rw [show o + (i + 5) = o + 5 + i by omega]
      exact this
end Go.Proofs.Ytgfnmhfdmmnaoaa
namespace Go.Proofs.Ytgfnmhfdmmnaoaa
open Go Go.RowKit
def Src (w : World) (y : Option Addr) (m : Nat) (news : List Value) : Prop := (m = 0 ∧ news = []) ∨ ∃ ad, y = some ad ∧ ∀ j u, news[j]? = some u → w.cell? (ad.add j) = some u
theorem Src.grow {w w' : World} {y : Option Addr} {m : Nat} {news : List Value} (h : Src w y m news) (hg : Grow w w') : Src w' y m news :=
  h.imp id (fun ⟨ad, hy, hc⟩ => ⟨ad, hy, fun j u hj => hg.some (hc j u hj)⟩)
def offRow (B : Nat) (v : Value) (k : Nat) : Prop := B ≤ k ∧ v.ownBlock ≠ some k
theorem grownBy_ext {w w' : World} {v : Value} (h : w.grownBy w' v.ownBlock) : Ext (fun k => v.ownBlock = some k) w w' :=
  ⟨h.os, h.tape, h.output, h.size, fun k hk hx => h.block k hk (fun e => hx e.symm)⟩
theorem NCells.grown {w w' : World} {B : Nat} {v v' : Value} {l : List Nd} {cs : List Value} (hlt : NCells w (fun k => offRow B v k ∧ k < w.heap.size) l cs) (hg : w.grownBy w' v.ownBlock) (hv : v'.ownBlock = v.ownBlock ∨ v'.ownBlock = some w.heap.size) :
    NCells w' (offRow B v') l cs := by
  have h1 := hlt.ext (grownBy_ext hg) (fun k hk hx => hk.1.2 hx)
  refine h1.mono (fun k hk => ⟨hk.1.1, fun e => ?_⟩)
  rcases hv with hv | hv
  · rw [hv] at e; exact hk.1.2 e
  · rw [hv] at e; cases e; exact Nat.lt_irrefl _ hk.2
theorem StrsR.lt {S : Nat → Prop} {w : World} {a : Option Addr} {c : Nat} {xs : List ByteArray} (h : StrsR w S a c xs) : StrsR w (fun k => S k ∧ k < w.heap.size) a c xs := by
  obtain ⟨h1, h2, h3, h4⟩ := h
  refine ⟨h1, h2, h3, ?_⟩
  rcases Nat.eq_zero_or_pos xs.length with hl | hl
  · exact .inl (List.length_eq_zero_iff.1 hl)
  rcases h4 with h4 | ⟨b, o, rfl, hb, hc⟩
  · exact .inl h4
  · exact .inr ⟨b, o, rfl, ⟨hb, lt_of_cell (hc 0 hl)⟩, hc⟩
mutual
theorem NodeC.lt {S : Nat → Prop} {w : World} : ∀ {n : Nd} {na : Option Addr} {nc : Nat} {ka : Option Addr} {kc : Nat}, NodeC w S n na nc ka kc → NodeC w (fun k => S k ∧ k < w.heap.size) n na nc ka kc
  | ⟨_, _, _, _, kids⟩, na, nc, ka, kc, h => by
    unfold NodeC at h ⊢
    obtain ⟨h1, h2, h3, h4, h5⟩ := h
    refine ⟨h1, h2.lt, h3, h4, ?_⟩
    rcases h5 with h5 | ⟨b, o, rfl, hb, hk⟩
    · exact .inl h5
    · cases kids with
      | nil => exact .inl rfl
      | cons k ks =>
        refine .inr ⟨b, o, rfl, ⟨hb, ?_⟩, KidsR.lt hk⟩
        unfold KidsR at hk
        obtain ⟨⟨_, _, _, _, c0, _⟩, _⟩ := hk
        exact lt_of_cell c0
theorem KidsR.lt {S : Nat → Prop} {w : World} {b : Nat} : ∀ {l : List Nd} {o : Nat}, KidsR w S b o l → KidsR w (fun k => S k ∧ k < w.heap.size) b o l
  | [], _, _ => by unfold KidsR; trivial
  | k :: ks, o, h => by
    unfold KidsR at h ⊢
    obtain ⟨⟨na, nc, ka, kc, c0, c1, c2, c3, c4, hn⟩, hr⟩ := h
    exact ⟨⟨na, nc, ka, kc, c0, c1, c2, c3, c4, hn.lt⟩, KidsR.lt hr⟩
end
theorem NCells.lt {S : Nat → Prop} {w : World} : ∀ {l : List Nd} {cs : List Value}, NCells w S l cs → NCells w (fun k => S k ∧ k < w.heap.size) l cs
  | [], cs, h => h
  | n :: l, cs, h => by
    obtain ⟨na, nc, ka, kc, cs', rfl, hn, h⟩ := h
    exact ⟨na, nc, ka, kc, cs', rfl, hn.lt, NCells.lt h⟩
theorem BoxN.grown {w w' : World} {b : Nat} {cs : List Value} {v : Value} (h : BoxN w b cs) (hg : w.grownBy w' v.ownBlock) (hb : ∀ k, v.ownBlock = some k → b < k) : BoxN w' b cs :=
  h.ext (grownBy_ext hg) (fun e => by have := hb _ e; omega)
end Go.Proofs.Ytgfnmhfdmmnaoaa
namespace Go.Proofs.Ytgfnmhfdmmnaoaa
open Go Go.RowKit
end Go.Proofs.Ytgfnmhfdmmnaoaa
namespace Go.Proofs.Ytgfnmhfdmmnaoaa
open Go Go.RowKit
section rows
variable {α : Type} {E : Rep α}
end rows
end Go.Proofs.Ytgfnmhfdmmnaoaa
namespace Go.Proofs.Ytgfnmhfdmmnaoaa
open Go.RowKit
end Go.Proofs.Ytgfnmhfdmmnaoaa
namespace Go.Proofs.Ytgfnmhfdmmnaoaa
open Go.RowKit
abbrev Ent := Nd × ByteArray
end Go.Proofs.Ytgfnmhfdmmnaoaa
namespace Go.Proofs.Ytgfnmhfdmmnaoaa
open Go.RowKit
end Go.Proofs.Ytgfnmhfdmmnaoaa
namespace Go.Proofs.Ytgfnmhfdmmnaoaa
open Go.RowKit
end Go.Proofs.Ytgfnmhfdmmnaoaa
namespace Go.Proofs.Ytgfnmhfdmmnaoaa
open Go.RowKit
def frB (lo hi : Nd) (e : Ent) : Bool := decide (cmpN lo e.1 ≤ 0) && decide (cmpN e.1 hi ≤ 0)
end Go.Proofs.Ytgfnmhfdmmnaoaa
namespace Go.Proofs.Ytgfnmhfdmmnaoaa
open Go.RowKit
end Go.Proofs.Ytgfnmhfdmmnaoaa
namespace Go.Proofs.Ytgfnmhfdmmnaoaa
open Go.RowKit
section
variable {α : Type} {E : Rep α} {pk : List Value → Value}
end
end Go.Proofs.Ytgfnmhfdmmnaoaa
namespace Go.Proofs.Ytgfnmhfdmmnaoaa
open Go.RowKit
end Go.Proofs.Ytgfnmhfdmmnaoaa
namespace Go.Proofs.Ytgfnmhfdmmnaoaa
open Go.RowKit
end Go.Proofs.Ytgfnmhfdmmnaoaa
namespace Go.Proofs.Ytgfnmhfdmmnaoaa
open Go.RowKit
end Go.Proofs.Ytgfnmhfdmmnaoaa
namespace Go.Proofs.Ytgfnmhfdmmnaoaa.Eng
open Go Go.RowKit
def ACF (P : Program) (f : FuncId) (args : List AV) (c : Nat) (Post : AV → Prop) : Prop :=
  Enters P f ∧ ∀ (w : World) (L S : Nat → Prop) (rb : Option Nat) (k : Nat) (vs : List Value), (∀ b, L b → b < w.heap.size ∧ rb ≠ some b) → (∀ b, S b → b < w.heap.size) → (∀ b, rb = some b → ¬ S b ∧ RdOk w S b (k + c)) → RepL w (pureC L S rb) args vs →
    Calls P f vs.toArray w fun e w' => ∃ v r S', e = .returned v ∧ Ext (fun b => rb = some b) w w' ∧ (∀ b, S b → S' b) ∧ (∀ b, S' b → S b ∨ (w.heap.size ≤ b ∧ b < w'.heap.size)) ∧
      (∀ b, rb = some b → RdOk w' S' b k) ∧ Rep w' (pureC nil S' none) r v ∧ Post r ∧ ∀ b ∈ atB r, w.heap.size ≤ b
section
variable {P : Program} {f : FuncId} {args : List AV} {c : Nat} {Q R : AV → Prop}
theorem ACF.toAC (h : ACF P f args c Q) : AC P f args c Q :=
  ⟨h.1, fun w L S rb k vs h0 h1 h2 h3 => (h.2 w L S rb k vs h0 h1 h2 h3).mono fun e w' ⟨v, r, S', k1, k2, k3, k4, k5, k6, k7, _⟩ => ⟨v, r, S', k1, k2, k3, k4, k5, k6, k7⟩⟩
theorem ACF.toV {A : Nat → Prop} (h : ACF P f args c Q) : ACV P A f args c (fun r => Q r ∧ ∀ b ∈ atB r, ¬ A b) :=
  ⟨h.1, fun w L S rb k vs hA h0 h1 h2 h3 => (h.2 w L S rb k vs h0 h1 h2 h3).mono fun e w' ⟨v, r, S', k1, k2, k3, k4, k5, k6, k7, k8⟩ => ⟨v, r, S', k1, k2, k3, k4, k5, k6, k7, fun b hb h => by have := hA b h; have := k8 b hb; omega⟩⟩
theorem ACF.mono (h : ACF P f args c Q) (hq : ∀ r, Q r → R r) : ACF P f args c R :=
  ⟨h.1, fun w L S rb k vs h0 h1 h2 h3 => (h.2 w L S rb k vs h0 h1 h2 h3).mono fun e w' ⟨v, r, S', k1, k2, k3, k4, k5, k6, k7, k8⟩ => ⟨v, r, S', k1, k2, k3, k4, k5, k6, hq r k7, k8⟩⟩
theorem AC.arg {bs : List AV} (h : AC P f args c Q) (hw : WkL bs args) : AC P f bs c Q :=
  ⟨h.1, fun w L S rb k vs h0 h1 h2 h3 => h.2 w L S rb k vs h0 h1 h2 (hw.rep h3)⟩
theorem ACF.arg {bs : List AV} (h : ACF P f args c Q) (hw : WkL bs args) : ACF P f bs c Q :=
  ⟨h.1, fun w L S rb k vs h0 h1 h2 h3 => h.2 w L S rb k vs h0 h1 h2 (hw.rep h3)⟩
end
section
variable {P : Program} {T : Tab} {k0 : Nat} {md : List Nat} {Av : Nat → Prop} {ops : Array Oper} {K : ASt → Prop} {o : Oper} {l : List Oper} {s : ASt}
end
def endF (T : Tab) (fn : Func) (B : Nat) (Post : AV → Prop) : Exit → ASt → Prop
  | .normal, s | .ret, s => ∃ r, ares T s fn.results.toList = some r ∧ Pur r ∧ (∀ b ∈ atB r, B ≤ b) ∧ Post r
  | _, _ => False
theorem endF_ret {T : Tab} {fn : Func} {B : Nat} {Post : AV → Prop} {s : ASt} : endF T fn B Post .ret s = ∃ r, ares T s fn.results.toList = some r ∧ Pur r ∧ (∀ b ∈ atB r, B ≤ b) ∧ Post r := rfl
theorem endF_normal {T : Tab} {fn : Func} {B : Nat} {Post : AV → Prop} {s : ASt} : endF T fn B Post .normal s = ∃ r, ares T s fn.results.toList = some r ∧ Pur r ∧ (∀ b ∈ atB r, B ≤ b) ∧ Post r := rfl
structure W0.New (w0 : W0) : Prop where
  A : ∀ b, b < w0.wd.heap.size → w0.A b
  X : ∀ b, ¬ w0.X b
theorem ACF.of {P : Program} {T : Tab} (hT : Tab.Ok P T) (hm : P.follows .mixedOrders = true) {f : FuncId} {fn : Func} {code : Code} (hf : P.funcs[f]? = some fn) (hb : fn.body = some code) (hn : (fn.name == "runtime.NumGoroutine") = false)
    {args : List AV} {c : Nat} {Post : AV → Prop}
    (h : ∀ E : Env, E.P = P → E.T = T → E.w0.New → AW E code (endF T fn E.w0.wd.heap.size Post) (initSt args fn.ntmps (E.rd0.map fun _ => c))) : ACF P f args c Post := by
  refine ⟨enters_of hf hn (by rw [hb]; rfl), fun w L S rb k vs hL hS hr hargs => ?_⟩
  refine calls_of_wp hf hb ?_
  refine wp_mono (h ⟨P, T, hT, hm, W0.of w, S, rb, k⟩ rfl rfl ⟨fun _ h => h, fun _ h => h⟩ w _ (initC L S rb) (init_SR hL hS hr hargs)) ?_
  rintro e a' w' ⟨s', ρ', h1, h2⟩
  have fin : ∀ r, ares T s' fn.results.toList = some r → Pur r → (∀ b ∈ atB r, w.heap.size ≤ b) → Post r → a'.defers = [] ∧ ∃ v, (results fn a'.tmps).run P w' = .ok v w' ∧ ∃ v' r S', Ending.returned v = .returned v' ∧ Ext (fun b => rb = some b) w w' ∧ (∀ b, S b → S' b) ∧ (∀ b, S' b → S b ∨ (w.heap.size ≤ b ∧ b < w'.heap.size)) ∧
      (∀ b, rb = some b → RdOk w' S' b k) ∧ Rep w' (pureC nil S' none) r v' ∧ Post r ∧ ∀ b ∈ atB r, w.heap.size ≤ b := fun r hr hp hat hq => by
    obtain ⟨v, k1, k2⟩ := ares_ok hT h1 hr
    exact ⟨SR.df h1, v, k1, v, r, ρ'.S, rfl, SR.fin_ext h1, SR.s0 h1, SR.fin_S h1, SR.fin_rd h1, hp _ _ _ k2, hq, hat⟩
  cases e with
  | normal => obtain ⟨r, q1, q2, q3, q4⟩ := h2; exact fin r q1 q2 q3 q4
  | ret => obtain ⟨r, q1, q2, q3, q4⟩ := h2; exact fin r q1 q2 q3 q4
  | _ => exact h2.elim
theorem W0.New.note {w0 : W0} (h : w0.New) (l : List Nat) : (w0.note l).New := ⟨fun b hb => .inl (h.A b hb), h.X⟩
section
variable {P : Program} {T : Tab} {hT : Tab.Ok P T} {hm : P.follows .mixedOrders = true} {w0 : W0} {S0 : Nat → Prop} {rd0 : Option Nat} {k0 : Nat} {Q : Exit → ASt → Prop} {s : ASt} {code : Code}
end
def ASt.holdF (s : ASt) (id g : Nat) : ASt :=
  match s.rows id with
  | some r => { s with tmps := AV.subL id r.es.length (.view (.fr g) r.sz r.es) s.tmps, rows := fun k => ((upd s.rows id none) k).map (Row.sub id r.es.length (.view (.fr g) r.sz r.es)) }
  | none => s
section
variable {P : Program} {w0 : W0} {S0 : Nat → Prop} {rd0 : Option Nat} {k0 : Nat} {w : World} {a : Act} {s : ASt} {ρ : Cx}
theorem SR.heldF (h : SR P w0 S0 rd0 k0 w a s ρ) (id : Nat) : ∃ g ρ', w0.Own g ∧ ¬ ρ.S g ∧ SR P w0 S0 rd0 k0 w a (s.holdF id g) ρ' := by
  unfold ASt.holdF
  split
  · rename_i r hr
    obtain ⟨_, u0, hu0, hln, hok⟩ := h.rw id r hr
    obtain ⟨ρ', h1, h2, h3⟩ := h.hold id r hr
    obtain ⟨g, hg1, hg2, hg3⟩ : ∃ g, w0.Own g ∧ ¬ ρ.S g ∧ (r.es ≠ [] → ∀ a c, u0 = .slice (some a) r.es.length c → a.block = g ∧ ∀ o, w.frozen? ⟨g, o, none⟩ = false) := by
      by_cases hne : r.es = []
      · exact ⟨w.heap.size, .inl h.ext.size, fun hS => by have := (h.sl _ hS).1; omega, fun hn => absurd hne hn⟩
      · obtain ⟨⟨ad, c, rfl, k1, k2, k3⟩, k4⟩ := h3 _ hu0
        have hlen : 0 < r.es.length := List.length_pos_iff.2 hne
        rcases k3 with k3 | ⟨g, rfl, e2, e3⟩
        · exact absurd k3 hne
        · have hbl : blk (.slice (some ⟨g, 0, none⟩) r.es.length c) = some g := blk_slice _ _ _ (by omega)
          refine ⟨g, (h.row_lt hu0 hbl).1, (h.ns id _ g hu0 hbl).1, fun _ a c' he => ?_⟩
          cases he
          refine ⟨rfl, fun o => ?_⟩
          obtain ⟨_, _, _, xs, hat, _⟩ := hok
          rcases hat with ⟨q0, _⟩ | ⟨g', cap, cur, q1, _, _, q2, _⟩
          · omega
          · cases q1
            unfold World.frozen?
            rw [q2]
            simp
    refine ⟨g, ρ', hg1, hg2, ?_⟩
    have hc : ∀ v, Rep w ρ (.own id r.es.length) v → Rep w ρ' (.view (.fr g) r.sz r.es) v := fun v hv => by
      obtain ⟨_, _, _, hq⟩ := rep_own.1 hv
      have := hq u0 hu0 hln.symm
      subst this
      obtain ⟨⟨ad, c, rfl, k1, k2, k3⟩, k4⟩ := h3 _ hu0
      refine rep_view.2 ⟨ad, c, rfl, (fun h => by cases h), k1, k2, k4, ?_⟩
      by_cases hne : r.es = []
      · exact .inl hne
      · rcases k3 with k3 | ⟨g', rfl, e2, e3⟩
        · exact absurd k3 hne
        · obtain ⟨q1, q2⟩ := hg3 hne _ _ rfl
          dsimp only at q1
          subst q1
          exact .inr ⟨g', 0, rfl, ⟨e2, rfl, q2⟩, e3⟩
    refine ⟨h.tm.sub h2 hc, h1.df, h1.ext, h1.s0, h1.sl, h1.us, fun k r' hk => ?_, fun k hk => ?_, h1.dj, h1.ns, h1.rl, h1.rdk, h1.rdn, h1.r0, h1.ll, h1.kp2 (fun k r' hk => by
      simp only [Option.map_eq_some_iff] at hk
      obtain ⟨r0, hk, rfl⟩ := hk
      exact ⟨r0, hk, rfl⟩), h1.rv, h1.av⟩
    · simp only [Option.map_eq_some_iff] at hk
      obtain ⟨r0, hk, rfl⟩ := hk
      have hid : k ≠ id := fun e => by subst e; simp [upd_same] at hk
      rw [upd_ne _ _ hid] at hk
      obtain ⟨q1, u, q2, q3, p0, p1, p2, xs, p3, p4, p5⟩ := h.rw k r0 hk
      obtain ⟨q1', u', q2', q3', p0', p1', p2', xs', p3', p4', p5'⟩ := h1.rw k r0 (by simp only [ASt.kill]; rw [upd_ne _ _ hid]; exact hk)
      have hu' : ρ.row k = some u' := by
        have := (h2.U k ((h.us k).2 q1)).2.2 u' q2'
        exact this (by rw [q3', q3])
      rw [q2] at hu'; cases hu'
      refine ⟨q1', u, q2', by simpa [Row.sub] using q3', p0, fun x hx => ?_, fun hb => by simpa [Row.sub] using p2 hb, xs, by simpa [Row.sub] using p3, ?_, p5⟩
      · simp only [Row.sub, List.mem_map] at hx
        obtain ⟨y, hy, rfl⟩ := hx
        rw [subL_length]; exact p1 y hy
      · simp only [Row.sub]
        rw [subL_flatten]
        exact p4.sub h2 hc
    · simp only [Option.map_eq_none_iff] at hk
      exact h1.rn k hk
  · exact ⟨w.heap.size, ρ, .inl h.ext.size, fun hS => by have := (h.sl _ hS).1; omega, h⟩
end
section
variable {P : Program} {T : Tab} {hT : Tab.Ok P T} {hm : P.follows .mixedOrders = true} {w0 : W0} {S0 : Nat → Prop} {rd0 : Option Nat} {k0 : Nat} {Q : Exit → ASt → Prop} {s : ASt} {code : Code}
theorem AW.holdF (id : Nat) (hN : w0.New) (h : ∀ g, w0.wd.heap.size ≤ g → (∀ (t : Nat) c, s.tmps[t]? = some c → ∀ b ∈ atB c, g ≠ b) → (∀ k r, s.rows k = some r → ∀ b ∈ atE r.es, g ≠ b) → AW ⟨P, T, hT, hm, w0, S0, rd0, k0⟩ code Q (s.holdF id g)) : AW ⟨P, T, hT, hm, w0, S0, rd0, k0⟩ code Q s := by
  intro w a ρ hS
  obtain ⟨g, ρ', h1, h2, h3⟩ := SR.heldF hS id
  refine h g (h1.elim (fun h => h) (fun h => absurd h (hN.X g))) (fun t c hc b hb e => ?_) (fun k r hr b hb e => ?_) w a ρ' h3
  · obtain ⟨v, _, hr⟩ := (SR.tm hS).get hc
    exact h2 (by rw [e]; exact (hr.at b hb).1)
  · obtain ⟨_, u, _, _, _, _, _, xs, _, q, _⟩ := SR.rw hS k r hr
    obtain ⟨e', he, hb⟩ := atE_mem.1 hb
    obtain ⟨c, hc, hb⟩ := atL_mem.1 hb
    have hfl : b ∈ atL r.es.flatten := atL_mem.2 ⟨c, List.mem_flatten.2 ⟨e', he, hc⟩, hb⟩
    exact h2 (by rw [e]; exact (q.at b hfl).1)
end
section
variable {P : Program} {T : Tab} {k0 : Nat} {md : List Nat} {Av : Nat → Prop} {ops : Array Oper} {K : ASt → Prop} {o : Oper} {l : List Oper} {s : ASt}
end
end Go.Proofs.Ytgfnmhfdmmnaoaa.Eng
namespace Go.Proofs.Ytgfnmhfdmmnaoaa.Eng
open Go Go.RowKit
theorem at_strsE : ∀ (xs : List ByteArray), atE (strsE xs) = []
  | [] => by unfold strsE; rw [List.map_nil, atE_nil]
  | x :: xs => by
    have := at_strsE xs
    unfold strsE at this ⊢
    rw [List.map_cons, atE_cons, this, atL_cons, at_str, atL_nil]; rfl
section
variable {w : World} {ρ : Cx}
end
end Go.Proofs.Ytgfnmhfdmmnaoaa.Eng
-- EV: fresh
namespace Go.Proofs.Ytgfnmhfdmmnaoaa.Eng
open Go Go.RowKit
attribute [local simp] big size_mk ASt.pay Option.map_map Function.comp_def awant aop acall ado aev ofVal ofVal0 ASt.put ASt.add ASt.turn ASt.kill abox aalloc astore aload aloadD astoreD idOf ASt.at cellsTo afieldAddr afield aindexAddr aindex alen abin aint acmp astr aun apick aextract anil aslice abound abuild afill abuildSlice asCells aps avCells over upd aappend asrc amax amin aconv mkSt slots rowsOf_cons rowsOf_nil usedOf_cons usedOf_nil ZK.av List.replicate ASt.back ASt.addL ASt.killL nodeA nodeT nodeTL_eq nodeL_eq strsE_get strsE_len intsE_get intsE_len strsE_at intsE_at tab2 tab3 tab4 tab5 tab6 tab7 tab8 tab9 tab10 tab11 tab12 tab13 tab14 tab15 tab16 tab17 tab18 tab19 tab21 tab22 tab23 tab24 tab25 tab26 tab27 tab28 tab29 tab30 tab39 tab40 tab41 tab42 tab43 tab47 tab48 tab55 tab56 tab57 tab60 tab61 tab62 tab73 tab74 tab75 tab85 tab92 tab115 tab116 tab143 tab144 tab145 tab154 tab155 tab170 tab175 tab182 tab197 tab198 tab203 tab204 tab205 tab207 tab208 tab209
end Go.Proofs.Ytgfnmhfdmmnaoaa.Eng
-- EV: fresh
namespace Go.Proofs.Ytgfnmhfdmmnaoaa
open Go.RowKit
namespace Eng
theorem ACF.weak {P : Program} {f : FuncId} {args : List AV} {c : Nat} {Q : AV → Prop} (h : ACF P f args c (fun r => ∃ r', Wk r r' ∧ (∀ b ∈ atB r', b ∈ atB r) ∧ Q r')) : ACF P f args c Q :=
  ⟨h.1, fun w L S rb k vs h0 h1 h2 h3 => (h.2 w L S rb k vs h0 h1 h2 h3).mono fun e w' ⟨v, r, S', k1, k2, k3, k4, k5, k6, ⟨r', q1, q2, q3⟩, k8⟩ => ⟨v, r', S', k1, k2, k3, k4, k5, q1 _ _ _ k6, q3, fun b hb => k8 b (q2 b hb)⟩⟩
end Eng
end Go.Proofs.Ytgfnmhfdmmnaoaa
namespace Go.Proofs.Ytgfnmhfdmmnaoaa.Eng
open Go Go.RowKit
attribute [local simp] big size_mk ASt.pay Option.map_map Function.comp_def awant aop acall ado aev ofVal ofVal0 ASt.put ASt.add ASt.turn ASt.kill abox aalloc astore aload aloadD astoreD idOf ASt.at cellsTo afieldAddr afield aindexAddr aindex alen abin aint acmp astr aun apick aextract anil aslice abound abuild afill abuildSlice asCells aps avCells over upd aappend asrc amax amin aconv mkSt slots rowsOf_cons rowsOf_nil usedOf_cons usedOf_nil ZK.av List.replicate ASt.back ASt.addL ASt.killL nodeA nodeT nodeTL_eq nodeL_eq strsE_get strsE_len intsE_get intsE_len strsE_at intsE_at tab2 tab3 tab4 tab5 tab6 tab7 tab8 tab9 tab10 tab11 tab12 tab13 tab14 tab15 tab16 tab17 tab18 tab19 tab21 tab22 tab23 tab24 tab25 tab26 tab27 tab28 tab29 tab30 tab39 tab40 tab41 tab42 tab43 tab47 tab48 tab55 tab56 tab57 tab60 tab61 tab62 tab73 tab74 tab75 tab85 tab92 tab115 tab116 tab143 tab144 tab145 tab154 tab155 tab170 tab175 tab182 tab197 tab198 tab203 tab204 tab205 tab207 tab208 tab209
set_option maxRecDepth 100000
set_option maxHeartbeats 8000000
theorem inRange_AC (a b c : Int) : AC Try.prog 131 [.int .i64 a, .int .i64 b, .int .i64 c] 0 (fun r => r = .bool (inR a b c)) := by
  refine AC.ofGrow (enters_of Try.func131 (by kernel_rfl) (by kernel_rfl)) (fun w L S rb vs h => ?_)
  unfold RepL at h
  obtain ⟨v0, vs0, rfl, h0, h⟩ := h
  unfold RepL at h
  obtain ⟨v1, vs1, rfl, h1, h⟩ := h
  unfold RepL at h
  obtain ⟨v2, vs2, rfl, h2, h⟩ := h
  unfold RepL at h
  subst h
  rw [rep_int] at h0 h1 h2
  subst h0 h1 h2
  refine (inRange_ok a b c w).mono ?_
  rintro e w' ⟨rfl, rfl⟩
  exact ⟨_, _, rfl, Ext.refl _ _, rep_bool.2 rfl, rfl⟩
end Go.Proofs.Ytgfnmhfdmmnaoaa.Eng
namespace Go.Proofs.Ytgfnmhfdmmnaoaa
open Go.RowKit
end Go.Proofs.Ytgfnmhfdmmnaoaa
namespace Go.Proofs.Ytgfnmhfdmmnaoaa
open Go.RowKit
theorem sgnI_swap (a b : Int) : sgnI b a = - sgnI a b := by
  unfold sgnI
  by_cases h1 : a < b
  · rw [if_neg (by omega), if_pos h1, if_pos h1]; rfl
  · by_cases h2 : b < a
    · rw [if_pos h2, if_neg h1, if_pos h2]
    · rw [if_neg h2, if_neg h1, if_neg h1, if_neg h2]; rfl
theorem sgnT_swap (a b : ByteArray) : sgnT b a = - sgnT a b := by
  rcases bl_cases a b with ⟨h1, h2, _, _, h3⟩ | ⟨h1, h2, _, _, h3⟩ | h
  · simp [sgnT, lt, h1, h2]
  · simp [sgnT, lt, h1, h2]
  · subst h; simp [sgnT_refl]
def th (x y : Int) : Int := if x ≠ 0 then x else y
theorem th_neg (x y : Int) : th (-x) (-y) = - th x y := by unfold th; by_cases h : x = 0 <;> simp [h]
theorem th_zero {x y : Int} : th x y = 0 ↔ x = 0 ∧ y = 0 := by unfold th; by_cases h : x = 0 <;> simp [h]
theorem cmpN_th (a b : Nd) : cmpN a b = th (sgnI a.kind b.kind) (th (sgnI a.num b.num) (th (sgnT a.text b.text) (cmpKs (decide (a.kind = 4)) a.names b.names a.kids b.kids))) := by
  rw [cmpN_eq]; rfl
theorem cmpKs_th (m : Bool) (ns ms : List ByteArray) (k j : Nd) (ks js : List Nd) : cmpKs m ns ms (k :: ks) (j :: js) = th (if m = true then sgnT (ns.headD ⟨#[]⟩) (ms.headD ⟨#[]⟩) else 0) (th (cmpN k j) (cmpKs m ns.tail ms.tail ks js)) := by
  rw [cmpKs]
  unfold th
  cases m <;> simp
theorem cmpKs_nil (m : Bool) (ns ms : List ByteArray) (js : List Nd) : cmpKs m ns ms [] js = sgnI 0 js.length := by rw [cmpKs]
theorem cmpKs_nil' (m : Bool) (ns ms : List ByteArray) (ks : List Nd) : cmpKs m ns ms ks [] = sgnI ks.length 0 := by
  cases ks with
  | nil => rw [cmpKs]; rfl
  | cons k ks => rw [cmpKs]; simp
theorem cmpKs_swap (m : Bool) : ∀ (ks : List Nd), (∀ k ∈ ks, ∀ j, cmpN j k = - cmpN k j) → ∀ (js : List Nd) (ns ms : List ByteArray), cmpKs m ms ns js ks = - cmpKs m ns ms ks js
  | [], _, js, ns, ms => by rw [cmpKs_nil, cmpKs_nil', sgnI_swap]
  | k :: ks, ih, [], ns, ms => by rw [cmpKs_nil, cmpKs_nil', sgnI_swap]
  | k :: ks, ih, j :: js, ns, ms => by
    rw [cmpKs_th, cmpKs_th, ih k (by simp) j, cmpKs_swap m ks (fun k hk => ih k (by simp [hk])) js ns.tail ms.tail, th_neg]
    have : (if m = true then sgnT (ms.headD ⟨#[]⟩) (ns.headD ⟨#[]⟩) else 0) = - (if m = true then sgnT (ns.headD ⟨#[]⟩) (ms.headD ⟨#[]⟩) else 0) := by
      split
      · exact sgnT_swap _ _
      · rfl
    rw [this, th_neg]
theorem cmpN_swap : ∀ a b : Nd, cmpN b a = - cmpN a b := Nd.ind' _ (fun a ih b => by
  rw [cmpN_th b a, cmpN_th a b, sgnI_swap a.kind b.kind]
  by_cases hk : a.kind = b.kind
  · rw [sgnI_swap a.num b.num, sgnT_swap a.text b.text, hk, cmpKs_swap _ a.kids ih, th_neg, th_neg, th_neg]
  · have hz : sgnI a.kind b.kind ≠ 0 := fun h => hk (sgnI_zero.1 h)
    have hz' : - sgnI a.kind b.kind ≠ 0 := by omega
    unfold th
    rw [if_pos hz, if_pos hz'])
theorem cmpN_refl (a : Nd) : cmpN a a = 0 := by have := cmpN_swap a a; omega
theorem cmpKs_zero (m : Bool) : ∀ (ks : List Nd), (∀ k ∈ ks, ∀ j, Good k → Good j → cmpN k j = 0 → k = j) → ∀ (js : List Nd) (ns ms : List ByteArray), (∀ k ∈ ks, Good k) → (∀ j ∈ js, Good j) → cmpKs m ns ms ks js = 0 → ks = js ∧ (m = true → ns.length = ks.length → ms.length = js.length → ns = ms)
  | [], _, js, ns, ms, _, _, h => by
    rw [cmpKs_nil, sgnI_zero] at h
    have : js = [] := List.length_eq_zero_iff.1 (by omega)
    subst this
    exact ⟨rfl, fun _ h1 h2 => by rw [List.length_eq_zero_iff.1 h1, List.length_eq_zero_iff.1 h2]⟩
  | k :: ks, ih, [], ns, ms, _, _, h => by
    rw [cmpKs_nil', sgnI_zero] at h
    simp at h; omega
  | k :: ks, ih, j :: js, ns, ms, h1, h2, h => by
    rw [cmpKs_th, th_zero, th_zero] at h
    obtain ⟨h3, h4, h5⟩ := h
    obtain ⟨q1, q2⟩ := cmpKs_zero m ks (fun k hk => ih k (by simp [hk])) js ns.tail ms.tail (fun k hk => h1 k (by simp [hk])) (fun j hj => h2 j (by simp [hj])) h5
    have q0 := ih k (by simp) j (h1 k (by simp)) (h2 j (by simp)) h4
    subst q0 q1
    refine ⟨rfl, fun hm h6 h7 => ?_⟩
    rw [if_pos hm] at h3
    cases ns with
    | nil => simp at h6
    | cons n ns =>
      cases ms with
      | nil => simp at h7
      | cons q ms =>
        simp only [List.headD_cons, sgnT_zero] at h3
        have := q2 hm (by simpa using h6) (by simpa using h7)
        simp only [List.tail_cons] at this
        rw [h3, this]
theorem Good.names {n : Nd} (h : Good n) (h4 : n.kind ≠ 4) : n.names = [] := by
  have hp := h.parts
  unfold partsB at hp
  simp only [Bool.and_eq_true, Bool.or_eq_true, decide_eq_true_eq] at hp
  rcases hp.1.2 with h | h
  · exact absurd h h4
  · exact List.length_eq_zero_iff.1 (by simpa using h)
theorem Good.mapN {n : Nd} (h : Good n) (h4 : n.kind = 4) : n.names.length = n.kids.length := by
  have hp := h.parts
  unfold partsB at hp
  simp only [Bool.and_eq_true] at hp
  have hp := hp.2
  rw [h4] at hp
  simp at hp
  exact hp.2.symm
theorem cmpN_zero : ∀ a b : Nd, Good a → Good b → cmpN a b = 0 → a = b := Nd.ind' _ (fun a ih b ha hb h => by
  rw [cmpN_th, th_zero, th_zero, th_zero] at h
  obtain ⟨h1, h2, h3, h4⟩ := h
  rw [sgnI_zero] at h1 h2
  rw [sgnT_zero] at h3
  obtain ⟨h5, h6⟩ := cmpKs_zero _ a.kids ih b.kids a.names b.names (fun k hk => ha.kid hk) (fun k hk => hb.kid hk) h4
  have h7 : a.names = b.names := by
    by_cases hk : a.kind = 4
    · exact h6 (by simpa using hk) (ha.mapN hk) (hb.mapN (by rw [← h1]; exact hk))
    · rw [ha.names hk, hb.names (by rw [← h1]; exact hk)]
  cases a; cases b
  simp only at h1 h2 h3 h5 h7
  subst h1 h2 h3 h5 h7
  rfl)
end Go.Proofs.Ytgfnmhfdmmnaoaa
namespace Go.Proofs.Ytgfnmhfdmmnaoaa
open Go.RowKit
abbrev Opr := Int × List ByteArray × List ByteArray × Nd
end Go.Proofs.Ytgfnmhfdmmnaoaa
namespace Go.Proofs.Ytgfnmhfdmmnaoaa
open Go.RowKit
def wd : Nat → ByteArray
  | 1 => ⟨#[97, 100, 100]⟩
  | 2 => ⟨#[114, 101, 109, 111, 118, 101]⟩
  | 3 => ⟨#[114, 101, 112, 108, 97, 99, 101]⟩
  | 4 => ⟨#[109, 111, 118, 101]⟩
  | 5 => ⟨#[99, 111, 112, 121]⟩
  | 6 => ⟨#[116, 101, 115, 116]⟩
  | _ => ⟨#[]⟩
def kdT (t : ByteArray) : Nat → Nat
  | 0 => 0
  | i + 1 => if 1 ≤ i ∧ t = wd i then i else kdT t i
def kdN (t : ByteArray) : Nat := kdT t 7
theorem wd_inj {i j : Nat} (hi : 1 ≤ i) (hi' : i ≤ 6) (hj : 1 ≤ j) (hj' : j ≤ 6) (h : wd i = wd j) : i = j := by
  have key : ∀ a b : Fin 7, 1 ≤ a.1 → 1 ≤ b.1 → wd a.1 = wd b.1 → a = b := by decide +kernel
  have := key ⟨i, by omega⟩ ⟨j, by omega⟩ hi hj h
  exact congrArg Fin.val this
theorem kdT_le (t : ByteArray) : ∀ i, kdT t i ≤ i - 1
  | 0 => Nat.le_refl _
  | i + 1 => by
    unfold kdT
    have := kdT_le t i
    split <;> omega
theorem kdT_wd (t : ByteArray) : ∀ i, 1 ≤ kdT t i → t = wd (kdT t i)
  | 0, h => by simp [kdT] at h
  | i + 1, h => by
    unfold kdT at h ⊢
    split
    · rename_i h1; exact h1.2
    · rename_i h1; rw [if_neg h1] at h; exact kdT_wd t i h
theorem kdT_none {t : ByteArray} : ∀ {i : Nat}, (∀ j, 1 ≤ j → j < i → t ≠ wd j) → kdT t i = 0
  | 0, _ => rfl
  | i + 1, h => by
    unfold kdT
    rw [if_neg (fun h1 => h i h1.1 (by omega) h1.2)]
    exact kdT_none (fun j h1 h2 => h j h1 (by omega))
theorem kdT_of {t : ByteArray} {k : Nat} (h1 : 1 ≤ k) (h6 : k ≤ 6) (h : t = wd k) : ∀ {i : Nat}, k < i → i ≤ 7 → kdT t i = k
  | 0, h0, _ => by omega
  | i + 1, h0, h7 => by
    unfold kdT
    by_cases e : 1 ≤ i ∧ t = wd i
    · rw [if_pos e]
      exact wd_inj e.1 (by omega) h1 h6 (e.2.symm.trans h)
    · rw [if_neg e]
      have : k ≠ i := fun hk => e ⟨by omega, hk ▸ h⟩
      exact kdT_of h1 h6 h (by omega) (by omega)
theorem kdN_le (t : ByteArray) : kdN t ≤ 6 := kdT_le t 7
def wordN (s : ByteArray) : Nd := ⟨2, 0, s, [], []⟩
def stepsN (p : List ByteArray) : Nd := ⟨3, 0, ⟨#[]⟩, [], p.map wordN⟩
def opNms : List ByteArray := [⟨#[102, 114, 111, 109]⟩, ⟨#[111, 112]⟩, ⟨#[112, 97, 116, 104]⟩, ⟨#[118, 97, 108, 117, 101]⟩]
def opNd (k : Nat) (p f : List ByteArray) (v : Nd) : Nd := ⟨4, 0, ⟨#[]⟩, opNms, [stepsN f, wordN (wd k), stepsN p, v]⟩
def txtsN (n : Nd) : List ByteArray := n.kids.map (·.text)
def lstB (n : Nd) : Bool := decide (n.kind = 3) && n.kids.all (fun k => decide (k.kind = 2))
theorem stepsN_lst (p : List ByteArray) : lstB (stepsN p) = true := by
  unfold lstB stepsN
  simp [wordN]
theorem byte_nil {s : ByteArray} (h : s.toList.isEmpty = true) : s = ⟨#[]⟩ := by
  have h1 : s.toList = [] := by simpa using h
  rw [ByteArray.toList_eq] at h1
  apply ByteArray.ext
  exact Array.toList_eq_nil_iff.1 h1
theorem word_eq {k : Nd} (h : Good k) (h2 : k.kind = 2) : k = wordN k.text := by
  have hp := h.parts
  unfold partsB at hp
  rw [h2] at hp
  simp at hp
  have hn := h.other (by omega)
  obtain ⟨kind, num, text, names, kids⟩ := k
  simp only at *
  subst h2 hn
  unfold wordN
  simp only [Nd.mk.injEq, true_and]
  simp_all
theorem list_eq {n : Nd} (h : Good n) (hl : lstB n = true) : n = stepsN (txtsN n) := by
  unfold lstB at hl
  rw [Bool.and_eq_true, decide_eq_true_eq, List.all_eq_true] at hl
  obtain ⟨h3, hk⟩ := hl
  have hp := h.parts
  unfold partsB at hp
  rw [h3] at hp
  simp at hp
  have hn := h.other (by omega)
  have hk2 : n.kids = (txtsN n).map wordN := by
    unfold txtsN
    rw [List.map_map]
    refine ((List.map_congr_left (fun x hx => ?_)).trans (List.map_id _)).symm
    exact (word_eq (h.kid hx) (by simpa using hk x hx)).symm
  have ht : n.text = ⟨#[]⟩ := byte_nil (by simpa using hp.1.1.2)
  have h0 : n.num = 0 := hp.1.1.1
  obtain ⟨kind, num, text, names, kids⟩ := n
  simp only at *
  subst h3 h0 ht hn
  unfold stepsN
  rw [← hk2]
theorem shapeB_up : ∀ (n : Nd) (d e : Nat), d ≤ e → shapeB n d = true → shapeB n e = true := Nd.ind' _ (fun n ih d e hde h => by
  rw [shapeB_eq, Bool.and_eq_true, Bool.and_eq_true] at h ⊢
  obtain ⟨⟨h1, h2⟩, h3⟩ := h
  rw [shapeL_all, List.all_eq_true] at h3 ⊢
  exact ⟨⟨by simp at h1 ⊢; omega, h2⟩, fun k hk => ih k hk (d - 1) (e - 1) (by omega) (h3 k hk)⟩)
theorem validB_kid {n k : Nd} (h : validB n = true) (hk : k ∈ n.kids) : validB k = true := by
  unfold validB at h ⊢
  rw [Bool.and_eq_true, decide_eq_true_eq] at h ⊢
  obtain ⟨h1, h2⟩ := h
  rw [shapeB_eq, Bool.and_eq_true, shapeL_all, List.all_eq_true] at h1
  refine ⟨shapeB_up k 4 5 (by omega) (h1.2 k hk), ?_⟩
  have hc := n.count_eq
  have : k.count ≤ countL n.kids := by
    have aux : ∀ l : List Nd, k ∈ l → k.count ≤ countL l := fun l => by
      induction l with
      | nil => intro h; cases h
      | cons y l ih =>
        intro h
        rw [countL]
        rcases List.mem_cons.1 h with rfl | h
        · omega
        · have := ih h; omega
    exact aux _ hk
  omega
theorem good_word {s : ByteArray} (h : plainT s = true) : ∀ d, 1 ≤ d → shapeB (wordN s) d = true := fun d hd => by
  rw [shapeB_eq]
  simp [wordN, partsB, shapeL, h]
  omega
theorem good_steps {p : List ByteArray} (h : pathB p = true) : ∀ d, 2 ≤ d → shapeB (stepsN p) d = true := fun d hd => by
  unfold pathB at h
  rw [Bool.and_eq_true, decide_eq_true_eq, List.all_eq_true] at h
  have hp : partsB (stepsN p) = true := by
    unfold stepsN partsB
    simp
    omega
  rw [shapeB_eq, shapeL_all, hp, Bool.and_true, Bool.and_eq_true, decide_eq_true_eq, List.all_eq_true]
  refine ⟨by omega, fun k hk => ?_⟩
  unfold stepsN at hk
  obtain ⟨s, hs, rfl⟩ := List.mem_map.1 hk
  exact good_word (h.2 s hs) _ (by omega)
theorem wd_plain {k : Nat} (h1 : 1 ≤ k) (h6 : k ≤ 6) : plainT (wd k) = true := by
  have key : ∀ a : Fin 7, 1 ≤ a.1 → plainT (wd a.1) = true := by decide +kernel
  exact key ⟨k, by omega⟩ h1
theorem opNms_ok : areNamesB opNms = true := by decide +kernel
theorem good_op {k : Nat} {p f : List ByteArray} {v : Nd} (h1 : 1 ≤ k) (h6 : k ≤ 6) (hp : pathB p = true) (hf : pathB f = true) {d : Nat} (hd : 2 ≤ d) (hv : shapeB v d = true) : shapeB (opNd k p f v) (d + 1) = true := by
  have hpt : partsB (opNd k p f v) = true := by
    unfold opNd partsB
    simp [opNms_ok]
    rfl
  rw [shapeB_eq, hpt]
  simp only [opNd, shapeL, Nat.add_sub_cancel, good_steps hp d hd, good_steps hf d hd, good_word (wd_plain h1 h6) d (by omega), hv, Bool.and_self, Bool.and_true, decide_eq_true_eq]
  omega
def oprB (o : Opr) : Bool := inR o.1 1 6 && pathB o.2.1 && pathB o.2.2.1 && validB o.2.2.2
def zeroO : Opr := (0, [], [], Nd.zero)
def partO (n : Nd) : Opr := ((kdN ((n.kids.getD 1 Nd.zero).text) : Nat), txtsN (n.kids.getD 2 Nd.zero), txtsN (n.kids.getD 0 Nd.zero), n.kids.getD 3 Nd.zero)
def opOf (o : Opr) : Nd := opNd o.1.toNat o.2.1 o.2.2.1 o.2.2.2
def n2oB (n : Nd) : Bool := validB n && decide (n.kind = 4) && decide (n.kids.length = 4) && oprB (partO n) && (cmpN (opOf (partO n)) n == 0)
def n2oN (n : Nd) : Opr := if n2oB n then partO n else zeroO
def n2oI (n : Nd) : Bool := validB n && decide (n.kind = 4) && decide (n.names = opNms) && lstB (n.kids.getD 0 Nd.zero) && pathB (txtsN (n.kids.getD 0 Nd.zero)) && decide ((n.kids.getD 1 Nd.zero).kind = 2) && decide (1 ≤ kdN ((n.kids.getD 1 Nd.zero).text)) && lstB (n.kids.getD 2 Nd.zero) && pathB (txtsN (n.kids.getD 2 Nd.zero))
theorem four {l : List Nd} (h : l.length = 4) : l = [l.getD 0 Nd.zero, l.getD 1 Nd.zero, l.getD 2 Nd.zero, l.getD 3 Nd.zero] := by
  match l, h with
  | [a, b, c, d], _ => rfl
theorem n2o_same (n : Nd) : n2oI n = n2oB n := by
  cases hv : validB n
  · simp [n2oI, n2oB, hv]
  have hg : Good n := validB_good hv
  by_cases h4 : n.kind = 4
  rotate_left
  · simp [n2oI, n2oB, h4]
  have hm := hg.map h4
  apply Bool.eq_iff_iff.2
  constructor
  · intro h
    simp only [n2oI, Bool.and_eq_true, decide_eq_true_eq] at h
    obtain ⟨⟨⟨⟨⟨⟨⟨⟨_, _⟩, hn⟩, f1⟩, f2⟩, w1⟩, w2⟩, p1⟩, p2⟩ := h
    have hl : n.kids.length = 4 := by rw [hm.2, hn]; rfl
    have hk := four hl
    have mem : ∀ i, i < 4 → n.kids.getD i Nd.zero ∈ n.kids := fun i hi => by
      rw [List.getD_eq_getElem?_getD, List.getElem?_eq_getElem (by omega)]
      exact List.getElem_mem _
    have e0 := list_eq (hg.kid (mem 0 (by omega))) f1
    have e1 := word_eq (hg.kid (mem 1 (by omega))) w1
    have e2 := list_eq (hg.kid (mem 2 (by omega))) p1
    have hw := kdT_wd _ 7 w2
    have k6 := kdN_le ((n.kids.getD 1 Nd.zero).text)
    have ho : opOf (partO n) = n := by
      have hkk : n.kids = [stepsN (txtsN (n.kids.getD 0 Nd.zero)), wordN (wd (kdN ((n.kids.getD 1 Nd.zero).text))), stepsN (txtsN (n.kids.getD 2 Nd.zero)), n.kids.getD 3 Nd.zero] := by
        rw [← e0, ← e2]
        unfold kdN
        rw [← hw, ← e1]
        exact hk
      have hp := hg.parts
      unfold partsB at hp
      rw [h4] at hp
      simp at hp
      have ht : n.text = ⟨#[]⟩ := byte_nil (by simpa using hp.1.2)
      have h0 : n.num = 0 := hp.1.1
      unfold opOf partO opNd
      simp only [Int.toNat_natCast]
      rw [← hkk, ← hn, ← ht, ← h0]
      rw [show (⟨4, n.num, n.text, n.names, n.kids⟩ : Nd) = ⟨n.kind, n.num, n.text, n.names, n.kids⟩ by rw [h4]]
      exact (fun m : Nd => show (⟨m.kind, m.num, m.text, m.names, m.kids⟩ : Nd) = m by cases m; rfl) n
    have hob : oprB (partO n) = true := by
      unfold oprB partO
      simp only [p2, f2, Bool.and_true, Bool.and_eq_true]
      refine ⟨?_, validB_kid hv (mem 3 (by omega))⟩
      unfold inR
      simp [-List.getD_eq_getElem?_getD]
      omega
    simp only [n2oB, hv, h4, hl, hob, ho, cmpN_refl]
    rfl
  · intro h
    simp only [n2oB, Bool.and_eq_true, decide_eq_true_eq, beq_iff_eq] at h
    obtain ⟨⟨⟨⟨_, _⟩, hl⟩, hob⟩, hc⟩ := h
    have hob' := hob
    unfold oprB at hob'
    simp only [Bool.and_eq_true] at hob'
    obtain ⟨⟨⟨k1, p1⟩, f1⟩, v1⟩ := hob'
    have k1' : 1 ≤ kdN ((n.kids.getD 1 Nd.zero).text) ∧ kdN ((n.kids.getD 1 Nd.zero).text) ≤ 6 := by
      unfold inR partO at k1
      simp [-List.getD_eq_getElem?_getD] at k1
      omega
    have hgo : Good (opOf (partO n)) := by
      obtain ⟨d, hd⟩ := validB_good v1
      refine ⟨(d + 2) + 1, good_op ?_ ?_ p1 f1 (by omega) (shapeB_up _ d _ (by omega) hd)⟩
      · simp [-List.getD_eq_getElem?_getD, partO]; exact k1'.1
      · simp [-List.getD_eq_getElem?_getD, partO]; exact k1'.2
    have e := cmpN_zero _ _ hgo hg hc
    have hn : n.names = opNms := by rw [← e]; rfl
    have hk : n.kids = [stepsN (partO n).2.2.1, wordN (wd (partO n).1.toNat), stepsN (partO n).2.1, (partO n).2.2.2] := by
      conv => lhs; rw [← e]
      rfl
    have g0 : n.kids.getD 0 Nd.zero = stepsN (partO n).2.2.1 := by rw [hk]; rfl
    have g1 : n.kids.getD 1 Nd.zero = wordN (wd (partO n).1.toNat) := by rw [hk]; rfl
    have g2 : n.kids.getD 2 Nd.zero = stepsN (partO n).2.1 := by rw [hk]; rfl
    have q0 : lstB (n.kids.getD 0 Nd.zero) = true := by rw [g0]; exact stepsN_lst _
    have q1 : (n.kids.getD 1 Nd.zero).kind = 2 := by rw [g1]; rfl
    have q2 : lstB (n.kids.getD 2 Nd.zero) = true := by rw [g2]; exact stepsN_lst _
    have r0 : pathB (txtsN (n.kids.getD 0 Nd.zero)) = true := f1
    have r2 : pathB (txtsN (n.kids.getD 2 Nd.zero)) = true := p1
    simp [-List.getD_eq_getElem?_getD, n2oI, hv, h4, hn, q0, q1, q2, r0, r2, k1'.1]
end Go.Proofs.Ytgfnmhfdmmnaoaa
-- EV: skip
namespace Go.Proofs.Ytgfnmhfdmmnaoaa.Eng
open Go Go.RowKit
attribute [local simp] big size_mk ASt.pay Option.map_map Function.comp_def awant aop acall ado aev ofVal ofVal0 ASt.put ASt.add ASt.turn ASt.kill abox aalloc astore aload aloadD astoreD idOf ASt.at cellsTo afieldAddr afield aindexAddr aindex alen abin aint acmp astr aun apick aextract anil aslice abound abuild afill abuildSlice asCells aps avCells over upd aappend asrc amax amin aconv mkSt slots rowsOf_cons rowsOf_nil usedOf_cons usedOf_nil ZK.av List.replicate ASt.back ASt.addL ASt.killL nodeA nodeT nodeTL_eq nodeL_eq strsE_get strsE_len intsE_get intsE_len strsE_at intsE_at tab2 tab3 tab4 tab5 tab6 tab7 tab8 tab9 tab10 tab11 tab12 tab13 tab14 tab15 tab16 tab17 tab18 tab19 tab21 tab22 tab23 tab24 tab25 tab26 tab27 tab28 tab29 tab30 tab39 tab40 tab41 tab42 tab43 tab47 tab48 tab55 tab56 tab57 tab60 tab61 tab62 tab73 tab74 tab75 tab85 tab92 tab115 tab116 tab143 tab144 tab145 tab154 tab155 tab170 tab175 tab182 tab197 tab198 tab203 tab204 tab205 tab207 tab208 tab209
def oprA (o : Opr) : AV := .agg [.int .i64 o.1, .view .loose 1 (strsE o.2.1), .view .loose 1 (strsE o.2.2.1), .int .i64 o.2.2.2.kind, .int .i64 o.2.2.2.num, .str o.2.2.2.text, .view .loose 1 (strsE o.2.2.2.names), .view .loose 5 (o.2.2.2.kids.map nodeL)]
theorem oprA_pur (o : Opr) : Pur (oprA o) := pur_agg (by
  simp only [List.forall_mem_cons, List.not_mem_nil, false_implies, implies_true, and_true]
  exact ⟨pur_int, strs_pur _ (by decide), strs_pur _ (by decide), pur_int, pur_int, pur_str, strs_pur _ (by decide), pur_view (by decide) (nodesE_pur _)⟩)
theorem oprA_clo (o : Opr) : Clo (oprA o) := (oprA_pur o).clo
theorem oprA_in {U : Nat → Bool} (o : Opr) : AV.In U (oprA o) := in_agg.2 (by
  simp only [List.forall_mem_cons, List.not_mem_nil, false_implies, implies_true, and_true]
  exact ⟨in_int, strs_in _, strs_in _, in_int, in_int, in_str, strs_in _, in_view.2 (nodesE_in _)⟩)
def mets : List ByteArray := [⟨#[]⟩, wd 1, wd 2, wd 3, wd 4, wd 5, wd 6]
set_option maxRecDepth 100000
set_option maxHeartbeats 8000000
theorem word_AC (s : ByteArray) : AC Try.prog 140 [.str s] 0 (fun r => r = nodeA (wordN s)) := by
  refine AC.weak ?_
  refine AC.of tab_ok mixed_ok Try.func140 (by rfl) (by kernel_rfl) ?_; rintro ⟨P, T, hT, hm, w0, S0, rd0, k0⟩ hP hTT; dsimp only at hP hTT; subst hP hTT; unfold initSt; rw [Try.ntmps140]
  (repeat (first | with_reducible refine AW.seq ?_ | ((first | refine arun_kn 1 rfl (fun C hC => ?_) | refine arunD_kn 1 rfl (fun C hC => ?_)); (repeat ((conv => whnf); simp)); refine hC _ ?_; clear hC C; simp only [List.drop, Nat.reduceAdd]) | (refine arun_skip ?_ ?_; (focus (simp [awant]; done))) | (refine arunD_skip ?_ ?_; (focus (simp [awant]; done))) | (refine AW.regionK [] (fun K hK => ?_)) | (refine AW.regionDK [] (pcs [] []) (by kernel_rfl) (by kernel_rfl) (fun K hK => ?_)) | (refine AW.condT ?_ ?_; (focus (simp [aev]; done))) | (refine AW.condF ?_ ?_; (focus (simp [aev]; done))) | with_reducible refine AW.block ?_ | ((first | ((first | refine arun_nil ?_ | refine arunD_nil ?_); refine hK _ ?_; clear hK K) | refine AW.skip ?_ | refine AW.exit ?_ | refine AW.ret ?_); simp only [wE, if_true, if_false, Nat.reduceEqDiff, reduceIte])))
  refine ⟨.agg [.int .i64 2, .int .i64 0, .str s, .view .tight 0 [], .view .tight 0 []], by simp [ares, aresL, upd, rowsOf_cons], ?_, nodeA (wordN s), ?_, rfl⟩
  · refine pur_agg ?_
    simp only [List.forall_mem_cons, List.not_mem_nil, false_implies, implies_true, and_true]
    exact ⟨pur_int, pur_int, pur_str, pur_view (by decide) (fun e he => by cases he), pur_view (by decide) (fun e he => by cases he)⟩
  · unfold nodeA wordN
    rw [nodeL_eq]
    exact Wk.agg (.cons (Wk.refl _) (.cons (Wk.refl _) (.cons (Wk.refl _) (.cons (Wk.nil (fun h => by cases h)) (.cons (Wk.nil (fun h => by cases h)) .nil)))))
theorem methods_AC : AC Try.prog 93 [] 0 (fun r => r = .view .loose 1 (strsE mets)) := by
  refine AC.weak ?_
  refine AC.of tab_ok mixed_ok Try.func93 (by rfl) (by kernel_rfl) ?_; rintro ⟨P, T, hT, hm, w0, S0, rd0, k0⟩ hP hTT; dsimp only at hP hTT; subst hP hTT; unfold initSt; rw [Try.ntmps93]
  (repeat (first | with_reducible refine AW.seq ?_ | ((first | refine arun_kn 1 rfl (fun C hC => ?_) | refine arunD_kn 1 rfl (fun C hC => ?_)); (repeat ((conv => whnf); simp)); refine hC _ ?_; clear hC C; simp only [List.drop, Nat.reduceAdd]) | (refine arun_skip ?_ ?_; (focus (simp [awant]; done))) | (refine arunD_skip ?_ ?_; (focus (simp [awant]; done))) | (refine AW.regionK [] (fun K hK => ?_)) | (refine AW.regionDK [] (pcs [] []) (by kernel_rfl) (by kernel_rfl) (fun K hK => ?_)) | (refine AW.condT ?_ ?_; (focus (simp [aev]; done))) | (refine AW.condF ?_ ?_; (focus (simp [aev]; done))) | with_reducible refine AW.block ?_ | ((first | ((first | refine arun_nil ?_ | refine arunD_nil ?_); refine hK _ ?_; clear hK K) | refine AW.skip ?_ | refine AW.exit ?_ | refine AW.ret ?_); simp only [wE, if_true, if_false, Nat.reduceEqDiff, reduceIte])))
  exact ⟨.view .tight 1 (strsE mets), by simp [ares, aresL, strsE, mets, wd], strs_pur _ (by decide), _, Wk.loose (by decide), rfl⟩
def stepsO (p : List ByteArray) (id : Nat) : AV := .agg [.int .i64 3, .int .i64 0, .str ⟨#[]⟩, .view .tight 1 [], .own id p.length]
def stepsR (p : List ByteArray) : Row := ⟨false, 30, 5, (p.map wordN).map nodeL⟩
theorem stepsO_sub (p : List ByteArray) : AV.sub 0 (stepsR p).es.length (.view .loose (stepsR p).sz (stepsR p).es) (stepsO p 0) = .agg [.int .i64 3, .int .i64 0, .str ⟨#[]⟩, .view .tight 1 [], .view .loose 5 ((p.map wordN).map nodeL)] := by
  simp [stepsO, stepsR, AV.sub, AV.subL]
theorem steps_step (p : List ByteArray) (hp : p.length ≤ 6) : ACR Try.prog 139 [.view .loose 1 (strsE p)] 0 (fun _ => False) (fun f R => f = stepsO p ∧ R = stepsR p) := by
  refine ACR.of tab_ok mixed_ok Try.func139 (by rfl) (by kernel_rfl) ?_; rintro ⟨P, T, hT, hm, w0, S0, rd0, k0⟩ hP hTT; dsimp only at hP hTT; subst hP hTT; unfold initSt; rw [Try.ntmps139]
  (repeat (first | with_reducible refine AW.seq ?_ | ((first | refine arun_kn 1 rfl (fun C hC => ?_) | refine arunD_kn 1 rfl (fun C hC => ?_)); (repeat ((conv => whnf); simp)); refine hC _ ?_; clear hC C; simp only [List.drop, Nat.reduceAdd]) | (refine arun_skip ?_ ?_; (focus (simp [awant]; done))) | (refine arunD_skip ?_ ?_; (focus (simp [awant]; done))) | (refine AW.regionK [] (fun K hK => ?_)) | (refine AW.regionDK [] (pcs [] []) (by kernel_rfl) (by kernel_rfl) (fun K hK => ?_)) | (refine AW.condT ?_ ?_; (focus (simp [aev]; done))) | (refine AW.condF ?_ ?_; (focus (simp [aev]; done))) | with_reducible refine AW.block ?_ | ((first | ((first | refine arun_nil ?_ | refine arunD_nil ?_); refine hK _ ?_; clear hK K) | refine AW.skip ?_ | refine AW.exit ?_ | refine AW.ret ?_); simp only [wE, if_true, if_false, Nat.reduceEqDiff, reduceIte])))
  refine AW.adopt 3 3 30 5 ⟨_, tab30, rfl⟩ rfl rfl ?_
  simp only [ASt.adopt, ASt.add, List.set_cons_zero, List.set_cons_succ]
  refine AW.loopS (fun (i : Nat) => mkSt (slots 0 23 [(0, .view .loose 1 (strsE p)), (2, .ptr true 5 1 2 0 0), (3, .own 3 i), (4, .int .i64 i)]) [(2, ⟨true, 30, 5, [[.int .i64 0, .int .i64 0, .str ⟨#[]⟩, .view .tight 0 [], .view .tight 0 []]]⟩), (3, ⟨false, 30, 5, ((p.take i).map wordN).map nodeL⟩)] [2, 3] (rd0.map fun _ => 0)) (fun i => p.length - i) (fun i => i ≤ p.length) 0 ?_ (Nat.zero_le _) ?_
  · exact (less_of (by simp [lessL, mkSt, slots, ASt.adopt, ASt.add]) (by simp [upd, mkSt, rowsOf_cons, ASt.adopt, ASt.add]) (by simp [upd, mkSt, usedOf_cons, ASt.adopt, ASt.add]) (by first | exact rd_less (by omega) | simp [mkSt, ASt.adopt, ASt.add]) (by simp [slots, in_any, in_int, in_bool, in_str, in_ptr, in_own, in_agg, in_vnil, in_rdr, usedOf_cons, usedOf_nil, strs_in, ints_in, nodes_in, in_tup, ASt.adopt, ASt.add]) (by simp only [List.forall_mem_cons, List.not_mem_nil, false_implies, implies_true, and_true, true_and, ASt.adopt, ASt.add]; (repeat (first | with_reducible exact trivial | with_reducible refine And.intro ?_ ?_ | with_reducible exact in_int | with_reducible exact in_str | with_reducible exact in_bool | with_reducible exact strs_in _ | with_reducible exact nodes_in _ | with_reducible exact items_in _ | with_reducible exact in_vnil | with_reducible exact in_any | exact hin _ | with_reducible refine take_in ?_ | with_reducible exact strsE_in _ | with_reducible exact nodesE_in _ | with_reducible exact nodeL_in _ | with_reducible exact itemsE_in _ | with_reducible exact itemL_in _ | with_reducible refine app_in ?_ ?_ | with_reducible refine sing_in ?_ | (focus (simp [in_any, in_int, in_bool, in_str, in_ptr, in_own, in_agg, in_vnil, in_rdr, usedOf_cons, usedOf_nil, strs_in, ints_in, nodes_in, ASt.adopt, ASt.add]; done)))); done))
  intro i hi
  have hl : (((p.take i).map wordN).map nodeL).length = i := by simp; omega
  by_cases hlt : i < p.length
  · have hw : IntKind.i64.wrap ((i : Int) + 1) = (i : Int) + 1 := i64_nat (by omega) (by omega)
    have hb1 : (i + 1) * 80 ≤ 140737488355328 := by omega
    have hb2 : i + 1 ≤ 140737488355328 := by omega
    have htk : p.take (i + 1) = p.take i ++ [p[i]] := take_snoc' _ _ hlt
    have pw := word_AC p[i]
    unfold nodeA at pw
    rw [nodeL_eq] at pw
    obtain ⟨Ks, hK⟩ : ∃ Ks, Ks = ((p.take i).map wordN).map nodeL := ⟨_, rfl⟩
    rw [← hK] at hl ⊢
    (repeat (first | with_reducible refine AW.seq ?_ | ((first | refine arun_kn 1 rfl (fun C hC => ?_) | refine arunD_kn 1 rfl (fun C hC => ?_)); (repeat ((conv => whnf); simp [hlt, hw, hl, hb1, hb2, strsE_len])); refine hC _ ?_; clear hC C; simp only [List.drop, Nat.reduceAdd]) | (refine arun_skip ?_ ?_; (focus (simp [awant, hlt, hw, hl, hb1, hb2, strsE_len]; done))) | (refine arun_c0 (pw) ?_; rintro _ rfl) | (refine arunD_skip ?_ ?_; (focus (simp [awant, hlt, hw, hl, hb1, hb2, strsE_len]; done))) | (refine AW.regionK [] (fun K hK => ?_)) | (refine AW.regionDK [] (pcs [] []) (by kernel_rfl) (by kernel_rfl) (fun K hK => ?_)) | (refine AW.condT ?_ ?_; (focus (simp [aev, hlt, hw, hl, hb1, hb2, strsE_len]; done))) | (refine AW.condF ?_ ?_; (focus (simp [aev, hlt, hw, hl, hb1, hb2, strsE_len]; done))) | with_reducible refine AW.block ?_ | ((first | ((first | refine arun_nil ?_ | refine arunD_nil ?_); refine hK _ ?_; clear hK K) | refine AW.skip ?_ | refine AW.exit ?_ | refine AW.ret ?_); simp only [wE, if_true, if_false, Nat.reduceEqDiff, reduceIte])))
    refine ⟨i + 1, by omega, by omega, ?_⟩
    have hin : ∀ U : Nat → Bool, ∀ e ∈ ((p.take (i + 1)).map wordN).map nodeL, ∀ c ∈ e, AV.In U c := fun U e he => nodesE_in _ e he
    rw [htk, List.map_append, List.map_append, ← hK] at hin ⊢
    have e1 : List.map nodeL (List.map wordN [p[i]]) = [nodeL (wordN p[i])] := rfl
    rw [e1, nodeL_eq] at hin ⊢
    exact less_a
  · obtain rfl : i = p.length := by omega
    rw [List.take_length] at hl ⊢
    obtain ⟨Ks, hK⟩ : ∃ Ks, Ks = (p.map wordN).map nodeL := ⟨_, rfl⟩
    rw [← hK] at hl ⊢
    (repeat (first | with_reducible refine AW.seq ?_ | ((first | refine arun_kn 1 rfl (fun C hC => ?_) | refine arunD_kn 1 rfl (fun C hC => ?_)); (repeat ((conv => whnf); simp [hlt, strsE_len])); refine hC _ ?_; clear hC C; simp only [List.drop, Nat.reduceAdd]) | (refine arun_skip ?_ ?_; (focus (simp [awant, hlt, strsE_len]; done))) | (refine arunD_skip ?_ ?_; (focus (simp [awant, hlt, strsE_len]; done))) | (refine AW.regionK [] (fun K hK => ?_)) | (refine AW.regionDK [] (pcs [] []) (by kernel_rfl) (by kernel_rfl) (fun K hK => ?_)) | (refine AW.condT ?_ ?_; (focus (simp [aev, hlt, strsE_len]; done))) | (refine AW.condF ?_ ?_; (focus (simp [aev, hlt, strsE_len]; done))) | with_reducible refine AW.block ?_ | ((first | ((first | refine arun_nil ?_ | refine arunD_nil ?_); refine hK _ ?_; clear hK K) | refine AW.skip ?_ | refine AW.exit ?_ | refine AW.ret ?_); simp only [wE, if_true, if_false, Nat.reduceEqDiff, reduceIte])))
    refine ⟨stepsO p 3, ?_, .inr ⟨stepsO p, 3, stepsR p, rfl, ?_, ?_, nodesE_pur _, rfl, rfl⟩⟩
    · simp [ares, aresL, upd, rowsOf_cons, stepsO]
    · simp only [stepsR, ← hK]; simp [upd, rowsOf_cons]
    · exact Res1.agg [fun _ => .int .i64 3, fun _ => .int .i64 0, fun _ => .str ⟨#[]⟩, fun _ => .view .tight 1 [], fun id => .own id p.length] (by
          simp only [List.forall_mem_cons, List.not_mem_nil, false_implies, implies_true, and_true]
          exact ⟨Res1.pur _ pur_int, Res1.pur _ pur_int, Res1.pur _ pur_str, Res1.pur _ (strs_pur [] (by decide)), Res1.own _ _⟩)
theorem steps_AC (p : List ByteArray) (hp : p.length ≤ 6) : AC Try.prog 139 [.view .loose 1 (strsE p)] 0 (fun r => r = nodeA (stepsN p)) := by
  refine AC.weak ((AC.ofR (steps_step p hp) ?_).mono ?_)
  · rintro r R ⟨rfl, rfl⟩
    rw [stepsO_sub]
    refine in_agg.2 ?_
    simp only [List.forall_mem_cons, List.not_mem_nil, false_implies, implies_true, and_true]
    exact ⟨in_int, in_int, in_str, strs_in [], in_view.2 (nodesE_in _)⟩
  · rintro r (h | ⟨f, R, ⟨rfl, rfl⟩, rfl⟩)
    · exact h.elim
    · rw [stepsO_sub]
      refine ⟨nodeA (stepsN p), ?_, rfl⟩
      unfold nodeA stepsN
      rw [nodeL_eq]
      exact Wk.agg (.cons (Wk.refl _) (.cons (Wk.refl _) (.cons (Wk.refl _) (.cons (Wk.nil (fun h => by cases h)) (.cons (Wk.refl _) .nil)))))
end Go.Proofs.Ytgfnmhfdmmnaoaa.Eng
-- EV: skip
namespace Go.Proofs.Ytgfnmhfdmmnaoaa.Eng
open Go Go.RowKit
attribute [local simp] big size_mk ASt.pay Option.map_map Function.comp_def awant aop acall ado aev ofVal ofVal0 ASt.put ASt.add ASt.turn ASt.kill abox aalloc astore aload aloadD astoreD idOf ASt.at cellsTo afieldAddr afield aindexAddr aindex alen abin aint acmp astr aun apick aextract anil aslice abound abuild afill abuildSlice asCells aps avCells over upd aappend asrc amax amin aconv mkSt slots rowsOf_cons rowsOf_nil usedOf_cons usedOf_nil ZK.av List.replicate ASt.back ASt.addL ASt.killL nodeA nodeT nodeTL_eq nodeL_eq strsE_get strsE_len intsE_get intsE_len strsE_at intsE_at tab2 tab3 tab4 tab5 tab6 tab7 tab8 tab9 tab10 tab11 tab12 tab13 tab14 tab15 tab16 tab17 tab18 tab19 tab21 tab22 tab23 tab24 tab25 tab26 tab27 tab28 tab29 tab30 tab39 tab40 tab41 tab42 tab43 tab47 tab48 tab55 tab56 tab57 tab60 tab61 tab62 tab73 tab74 tab75 tab85 tab92 tab115 tab116 tab143 tab144 tab145 tab154 tab155 tab170 tab175 tab182 tab197 tab198 tab203 tab204 tab205 tab207 tab208 tab209
set_option maxRecDepth 100000
set_option maxHeartbeats 8000000
def txtR (p : List ByteArray) : Row := ⟨false, 9, 1, strsE p⟩
theorem txtR_sub (p : List ByteArray) : AV.sub 0 (txtR p).es.length (.view .loose (txtR p).sz (txtR p).es) (.own 0 p.length) = .view .loose 1 (strsE p) := by
  simp [AV.sub, txtR, strsE_len]
theorem txtsN_len (n : Nd) : (txtsN n).length = n.kids.length := by unfold txtsN; rw [List.length_map]
theorem pathOf_step (n : Nd) (hp : n.kids.length ≤ 6) : ACR Try.prog 94 [nodeA n] 0 (fun _ => False) (fun f R => f = (fun id => .own id (txtsN n).length) ∧ R = txtR (txtsN n)) := by
  unfold nodeA
  rw [nodeL_eq]
  refine ACR.of tab_ok mixed_ok Try.func94 (by rfl) (by kernel_rfl) ?_; rintro ⟨P, T, hT, hm, w0, S0, rd0, k0⟩ hP hTT; dsimp only at hP hTT; subst hP hTT; unfold initSt; rw [Try.ntmps94]
  (repeat (first | with_reducible refine AW.seq ?_ | ((first | refine arun_kn 1 rfl (fun C hC => ?_) | refine arunD_kn 1 rfl (fun C hC => ?_)); (repeat ((conv => whnf); simp)); refine hC _ ?_; clear hC C; simp only [List.drop, Nat.reduceAdd]) | (refine arun_skip ?_ ?_; (focus (simp [awant]; done))) | (refine arunD_skip ?_ ?_; (focus (simp [awant]; done))) | (refine AW.regionK [] (fun K hK => ?_)) | (refine AW.regionDK [] (pcs [] []) (by kernel_rfl) (by kernel_rfl) (fun K hK => ?_)) | (refine AW.condT ?_ ?_; (focus (simp [aev]; done))) | (refine AW.condF ?_ ?_; (focus (simp [aev]; done))) | with_reducible refine AW.block ?_ | ((first | ((first | refine arun_nil ?_ | refine arunD_nil ?_); refine hK _ ?_; clear hK K) | refine AW.skip ?_ | refine AW.exit ?_ | refine AW.ret ?_); simp only [wE, if_true, if_false, Nat.reduceEqDiff, reduceIte])))
  refine AW.adopt 3 3 9 1 ⟨_, tab9, rfl⟩ rfl rfl ?_
  simp only [ASt.adopt, ASt.add, List.set_cons_zero, List.set_cons_succ]
  refine AW.loopS (fun (i : Nat) => mkSt (slots 0 23 [(1, .ptr true 5 1 1 0 0), (3, .own 3 i), (4, .int .i64 i)]) [(1, ⟨true, 30, 5, [nodeL n]⟩), (3, ⟨false, 9, 1, strsE ((txtsN n).take i)⟩)] [1, 3] (rd0.map fun _ => 0)) (fun i => n.kids.length - i) (fun i => i ≤ n.kids.length) 0 ?_ (Nat.zero_le _) ?_
  · rw [nodeL_eq]
    have hs0 : strsE [] = [] := rfl
    exact (less_of (by simp [lessL, mkSt, slots, ASt.adopt, ASt.add, hs0]) (by simp [upd, mkSt, rowsOf_cons, ASt.adopt, ASt.add, hs0]) (by simp [upd, mkSt, usedOf_cons, ASt.adopt, ASt.add, hs0]) (by first | exact rd_less (by omega) | simp [mkSt, ASt.adopt, ASt.add, hs0]) (by simp [slots, in_any, in_int, in_bool, in_str, in_ptr, in_own, in_agg, in_vnil, in_rdr, usedOf_cons, usedOf_nil, strs_in, ints_in, nodes_in, in_tup, ASt.adopt, ASt.add, hs0]) (by simp only [List.forall_mem_cons, List.not_mem_nil, false_implies, implies_true, and_true, true_and, ASt.adopt, ASt.add, hs0]; (repeat (first | with_reducible exact trivial | with_reducible refine And.intro ?_ ?_ | with_reducible exact in_int | with_reducible exact in_str | with_reducible exact in_bool | with_reducible exact strs_in _ | with_reducible exact nodes_in _ | with_reducible exact items_in _ | with_reducible exact in_vnil | with_reducible exact in_any | exact hin _ | with_reducible refine take_in ?_ | with_reducible exact strsE_in _ | with_reducible exact nodesE_in _ | with_reducible exact nodeL_in _ | with_reducible exact itemsE_in _ | with_reducible exact itemL_in _ | with_reducible refine app_in ?_ ?_ | with_reducible refine sing_in ?_ | (focus (simp [in_any, in_int, in_bool, in_str, in_ptr, in_own, in_agg, in_vnil, in_rdr, usedOf_cons, usedOf_nil, strs_in, ints_in, nodes_in, ASt.adopt, ASt.add, hs0]; done)))); done))
  intro i hi
  rw [nodeL_eq]
  have hl : (strsE ((txtsN n).take i)).length = i := by rw [strsE_len, List.length_take, txtsN_len]; omega
  by_cases hlt : i < n.kids.length
  · have hw : IntKind.i64.wrap ((i : Int) + 1) = (i : Int) + 1 := i64_nat (by omega) (by omega)
    have hlt' : (i : Int) < (n.kids.length : Int) := by omega
    have hb1 : (i + 1) * 16 ≤ 140737488355328 := by omega
    have hb2 : i + 1 ≤ 140737488355328 := by omega
    have x1 : (n.kids.map nodeL)[i]? = some [.int .i64 n.kids[i].kind, .int .i64 n.kids[i].num, .str n.kids[i].text, .view .loose 1 (strsE n.kids[i].names), .view .loose 5 (n.kids[i].kids.map nodeL)] := by rw [List.getElem?_map, List.getElem?_eq_getElem hlt, ← nodeL_eq]; rfl
    have htk : strsE ((txtsN n).take (i + 1)) = strsE ((txtsN n).take i) ++ [[.str n.kids[i].text]] := by
      rw [take_snoc' _ _ (by rw [txtsN_len]; exact hlt)]
      unfold strsE txtsN
      rw [List.map_append, List.getElem_map]; rfl
    have hin := fun (U : Nat → Bool) => strsE_in (U := U) ((txtsN n).take (i + 1))
    rw [htk] at hin
    generalize strsE ((txtsN n).take i) = Ks at *
    (repeat (first | with_reducible refine AW.seq ?_ | ((first | refine arun_kn 1 rfl (fun C hC => ?_) | refine arunD_kn 1 rfl (fun C hC => ?_)); (repeat ((conv => whnf); simp [hlt, hlt', x1, hw, hl, hb1, hb2])); refine hC _ ?_; clear hC C; simp only [List.drop, Nat.reduceAdd]) | (refine arun_skip ?_ ?_; (focus (simp [awant, hlt, hlt', x1, hw, hl, hb1, hb2]; done))) | (refine arunD_skip ?_ ?_; (focus (simp [awant, hlt, hlt', x1, hw, hl, hb1, hb2]; done))) | (refine AW.regionK [] (fun K hK => ?_)) | (refine AW.regionDK [] (pcs [] []) (by kernel_rfl) (by kernel_rfl) (fun K hK => ?_)) | (refine AW.condT ?_ ?_; (focus (simp [aev, hlt, hlt', x1, hw, hl, hb1, hb2]; done))) | (refine AW.condF ?_ ?_; (focus (simp [aev, hlt, hlt', x1, hw, hl, hb1, hb2]; done))) | with_reducible refine AW.block ?_ | ((first | ((first | refine arun_nil ?_ | refine arunD_nil ?_); refine hK _ ?_; clear hK K) | refine AW.skip ?_ | refine AW.exit ?_ | refine AW.ret ?_); simp only [wE, if_true, if_false, Nat.reduceEqDiff, reduceIte])))
    refine ⟨i + 1, by omega, by omega, ?_⟩
    rw [htk]
    exact less_a
  · obtain rfl : i = n.kids.length := by omega
    rw [← txtsN_len, List.take_length] at hl ⊢
    (repeat (first | with_reducible refine AW.seq ?_ | ((first | refine arun_kn 1 rfl (fun C hC => ?_) | refine arunD_kn 1 rfl (fun C hC => ?_)); (repeat ((conv => whnf); simp [hlt, txtsN_len])); refine hC _ ?_; clear hC C; simp only [List.drop, Nat.reduceAdd]) | (refine arun_skip ?_ ?_; (focus (simp [awant, hlt, txtsN_len]; done))) | (refine arunD_skip ?_ ?_; (focus (simp [awant, hlt, txtsN_len]; done))) | (refine AW.regionK [] (fun K hK => ?_)) | (refine AW.regionDK [] (pcs [] []) (by kernel_rfl) (by kernel_rfl) (fun K hK => ?_)) | (refine AW.condT ?_ ?_; (focus (simp [aev, hlt, txtsN_len]; done))) | (refine AW.condF ?_ ?_; (focus (simp [aev, hlt, txtsN_len]; done))) | with_reducible refine AW.block ?_ | ((first | ((first | refine arun_nil ?_ | refine arunD_nil ?_); refine hK _ ?_; clear hK K) | refine AW.skip ?_ | refine AW.exit ?_ | refine AW.ret ?_); simp only [wE, if_true, if_false, Nat.reduceEqDiff, reduceIte])))
    exact ⟨.own 3 (txtsN n).length, by simp [ares, aresL, txtsN_len], .inr ⟨fun id => .own id (txtsN n).length, 3, txtR (txtsN n), rfl, by simp [upd, rowsOf_cons, txtR], Res1.own _ _, strsE_pur _, rfl, rfl⟩⟩
theorem pathOf_AC (n : Nd) (hp : n.kids.length ≤ 6) : AC Try.prog 94 [nodeA n] 0 (fun r => r = .view .loose 1 (strsE (txtsN n))) := by
  refine (AC.ofR (pathOf_step n hp) ?_).mono ?_
  · rintro r R ⟨rfl, rfl⟩
    rw [txtR_sub]; exact strs_in _
  · rintro r (h | ⟨f, R, ⟨rfl, rfl⟩, rfl⟩)
    · exact h.elim
    · exact txtR_sub _
theorem validOp_AC (o : Opr) : AC Try.prog 67 [oprA o] 0 (fun r => r = .bool (oprB o)) := by
  have p1 := inRange_AC o.1 1 6
  have p2 := validPath_AC o.2.1 .loose
  have p3 := validPath_AC o.2.2.1 .loose
  have p4 := validNode_AC o.2.2.2 .loose
  have hc := node_clo o.2.2.2
  have e0 : oprB o = (inR o.1 1 6 && pathB o.2.1 && pathB o.2.2.1 && validB o.2.2.2) := rfl
  unfold oprA
  rw [nodeT_loose] at p4
  unfold nodeA at p4 hc
  rw [nodeL_eq] at p4 hc
  cases h1 : inR o.1 1 6
  · rw [h1] at p1 e0
    have e : oprB o = false := by rw [e0]; rfl
    refine AC.of tab_ok mixed_ok Try.func67 (by rfl) (by kernel_rfl) ?_; rintro ⟨P, T, hT, hm, w0, S0, rd0, k0⟩ hP hTT; dsimp only at hP hTT; subst hP hTT; unfold initSt; rw [Try.ntmps67]
    (repeat (first | with_reducible refine AW.seq ?_ | ((first | refine arun_kn 1 rfl (fun C hC => ?_) | refine arunD_kn 1 rfl (fun C hC => ?_)); (repeat ((conv => whnf); simp)); refine hC _ ?_; clear hC C; simp only [List.drop, Nat.reduceAdd]) | (refine arun_skip ?_ ?_; (focus (simp [awant]; done))) | (refine arun_c0 (p1) ?_; rintro _ rfl) | (refine arun_c0 (p2) ?_; rintro _ rfl) | (refine arun_c0 (p3) ?_; rintro _ rfl) | (refine arun_c0 (p4) ?_; rintro _ rfl) | (refine arunD_skip ?_ ?_; (focus (simp [awant]; done))) | (refine AW.regionK [] (fun K hK => ?_)) | (refine AW.regionDK [] (pcs [] []) (by kernel_rfl) (by kernel_rfl) (fun K hK => ?_)) | (refine AW.condT ?_ ?_; (focus (simp [aev]; done))) | (refine AW.condF ?_ ?_; (focus (simp [aev]; done))) | with_reducible refine AW.block ?_ | ((first | ((first | refine arun_nil ?_ | refine arunD_nil ?_); refine hK _ ?_; clear hK K) | refine AW.skip ?_ | refine AW.exit ?_ | refine AW.ret ?_); simp only [wE, if_true, if_false, Nat.reduceEqDiff, reduceIte])))
    exact ⟨.bool false, by simp [ares, aresL], pur_bool, by rw [e]⟩
  cases h2 : pathB o.2.1
  · rw [h1, h2] at e0; rw [h1] at p1; rw [h2] at p2
    have e : oprB o = false := by rw [e0]; rfl
    refine AC.of tab_ok mixed_ok Try.func67 (by rfl) (by kernel_rfl) ?_; rintro ⟨P, T, hT, hm, w0, S0, rd0, k0⟩ hP hTT; dsimp only at hP hTT; subst hP hTT; unfold initSt; rw [Try.ntmps67]
    (repeat (first | with_reducible refine AW.seq ?_ | ((first | refine arun_kn 1 rfl (fun C hC => ?_) | refine arunD_kn 1 rfl (fun C hC => ?_)); (repeat ((conv => whnf); simp)); refine hC _ ?_; clear hC C; simp only [List.drop, Nat.reduceAdd]) | (refine arun_skip ?_ ?_; (focus (simp [awant]; done))) | (refine arun_c0 (p1) ?_; rintro _ rfl) | (refine arun_c0 (p2) ?_; rintro _ rfl) | (refine arun_c0 (p3) ?_; rintro _ rfl) | (refine arun_c0 (p4) ?_; rintro _ rfl) | (refine arunD_skip ?_ ?_; (focus (simp [awant]; done))) | (refine AW.regionK [] (fun K hK => ?_)) | (refine AW.regionDK [] (pcs [] []) (by kernel_rfl) (by kernel_rfl) (fun K hK => ?_)) | (refine AW.condT ?_ ?_; (focus (simp [aev]; done))) | (refine AW.condF ?_ ?_; (focus (simp [aev]; done))) | with_reducible refine AW.block ?_ | ((first | ((first | refine arun_nil ?_ | refine arunD_nil ?_); refine hK _ ?_; clear hK K) | refine AW.skip ?_ | refine AW.exit ?_ | refine AW.ret ?_); simp only [wE, if_true, if_false, Nat.reduceEqDiff, reduceIte])))
    exact ⟨.bool false, by simp [ares, aresL], pur_bool, by rw [e]⟩
  cases h3 : pathB o.2.2.1
  · rw [h1, h2, h3] at e0; rw [h1] at p1; rw [h2] at p2; rw [h3] at p3
    have e : oprB o = false := by rw [e0]; rfl
    refine AC.of tab_ok mixed_ok Try.func67 (by rfl) (by kernel_rfl) ?_; rintro ⟨P, T, hT, hm, w0, S0, rd0, k0⟩ hP hTT; dsimp only at hP hTT; subst hP hTT; unfold initSt; rw [Try.ntmps67]
    (repeat (first | with_reducible refine AW.seq ?_ | ((first | refine arun_kn 1 rfl (fun C hC => ?_) | refine arunD_kn 1 rfl (fun C hC => ?_)); (repeat ((conv => whnf); simp)); refine hC _ ?_; clear hC C; simp only [List.drop, Nat.reduceAdd]) | (refine arun_skip ?_ ?_; (focus (simp [awant]; done))) | (refine arun_c0 (p1) ?_; rintro _ rfl) | (refine arun_c0 (p2) ?_; rintro _ rfl) | (refine arun_c0 (p3) ?_; rintro _ rfl) | (refine arun_c0 (p4) ?_; rintro _ rfl) | (refine arunD_skip ?_ ?_; (focus (simp [awant]; done))) | (refine AW.regionK [] (fun K hK => ?_)) | (refine AW.regionDK [] (pcs [] []) (by kernel_rfl) (by kernel_rfl) (fun K hK => ?_)) | (refine AW.condT ?_ ?_; (focus (simp [aev]; done))) | (refine AW.condF ?_ ?_; (focus (simp [aev]; done))) | with_reducible refine AW.block ?_ | ((first | ((first | refine arun_nil ?_ | refine arunD_nil ?_); refine hK _ ?_; clear hK K) | refine AW.skip ?_ | refine AW.exit ?_ | refine AW.ret ?_); simp only [wE, if_true, if_false, Nat.reduceEqDiff, reduceIte])))
    exact ⟨.bool false, by simp [ares, aresL], pur_bool, by rw [e]⟩
  rw [h1, h2, h3] at e0; rw [h1] at p1; rw [h2] at p2; rw [h3] at p3
  have e : oprB o = validB o.2.2.2 := by rw [e0]; rfl
  generalize validB o.2.2.2 = bb at *
  refine AC.of tab_ok mixed_ok Try.func67 (by rfl) (by kernel_rfl) ?_; rintro ⟨P, T, hT, hm, w0, S0, rd0, k0⟩ hP hTT; dsimp only at hP hTT; subst hP hTT; unfold initSt; rw [Try.ntmps67]
  (repeat (first | with_reducible refine AW.seq ?_ | ((first | refine arun_kn 1 rfl (fun C hC => ?_) | refine arunD_kn 1 rfl (fun C hC => ?_)); (repeat ((conv => whnf); simp)); refine hC _ ?_; clear hC C; simp only [List.drop, Nat.reduceAdd]) | (refine arun_skip ?_ ?_; (focus (simp [awant]; done))) | (refine arun_c0 (p1) ?_; rintro _ rfl) | (refine arun_c0 (p2) ?_; rintro _ rfl) | (refine arun_c0 (p3) ?_; rintro _ rfl) | (refine arun_c0 (p4) ?_; rintro _ rfl) | (refine arunD_skip ?_ ?_; (focus (simp [awant]; done))) | (refine AW.regionK [] (fun K hK => ?_)) | (refine AW.regionDK [] (pcs [] []) (by kernel_rfl) (by kernel_rfl) (fun K hK => ?_)) | (refine AW.condT ?_ ?_; (focus (simp [aev]; done))) | (refine AW.condF ?_ ?_; (focus (simp [aev]; done))) | with_reducible refine AW.block ?_ | ((first | ((first | refine arun_nil ?_ | refine arunD_nil ?_); refine hK _ ?_; clear hK K) | refine AW.skip ?_ | refine AW.exit ?_ | refine AW.ret ?_); simp only [wE, if_true, if_false, Nat.reduceEqDiff, reduceIte])))
  exact ⟨.bool bb, by simp [ares, aresL], pur_bool, by rw [e]⟩
end Go.Proofs.Ytgfnmhfdmmnaoaa.Eng
-- EV: skip
namespace Go.Proofs.Ytgfnmhfdmmnaoaa.Eng
open Go Go.RowKit
attribute [local simp] big size_mk ASt.pay Option.map_map Function.comp_def awant aop acall ado aev ofVal ofVal0 ASt.put ASt.add ASt.turn ASt.kill abox aalloc astore aload aloadD astoreD idOf ASt.at cellsTo afieldAddr afield aindexAddr aindex alen abin aint acmp astr aun apick aextract anil aslice abound abuild afill abuildSlice asCells aps avCells over upd aappend asrc amax amin aconv mkSt slots rowsOf_cons rowsOf_nil usedOf_cons usedOf_nil ZK.av List.replicate ASt.back ASt.addL ASt.killL nodeA nodeT nodeTL_eq nodeL_eq strsE_get strsE_len intsE_get intsE_len strsE_at intsE_at tab2 tab3 tab4 tab5 tab6 tab7 tab8 tab9 tab10 tab11 tab12 tab13 tab14 tab15 tab16 tab17 tab18 tab19 tab21 tab22 tab23 tab24 tab25 tab26 tab27 tab28 tab29 tab30 tab39 tab40 tab41 tab42 tab43 tab47 tab48 tab55 tab56 tab57 tab60 tab61 tab62 tab73 tab74 tab75 tab85 tab92 tab115 tab116 tab143 tab144 tab145 tab154 tab155 tab170 tab175 tab182 tab197 tab198 tab203 tab204 tab205 tab207 tab208 tab209
set_option maxRecDepth 100000
set_option maxHeartbeats 16000000
theorem mets_at {k : Nat} (h1 : 1 ≤ k) (h6 : k ≤ 6) (h : k < mets.length) : mets[k] = wd k := by
  have : k = 1 ∨ k = 2 ∨ k = 3 ∨ k = 4 ∨ k = 5 ∨ k = 6 := by omega
  rcases this with rfl | rfl | rfl | rfl | rfl | rfl <;> rfl
theorem opNode_AC (o : Opr) (k : Nat) (hk : o.1 = (k : Int)) (h1 : 1 ≤ k) (h6 : k ≤ 6) (hp : o.2.1.length ≤ 5) (hf : o.2.2.1.length ≤ 5) (hv : Sml o.2.2.2) : AC Try.prog 69 [oprA o] 0 (fun r => r = nodeA (opOf o)) := by
  refine AC.weak ?_
  have p1 := steps_AC o.2.1 (by omega)
  have p2 := steps_AC o.2.2.1 (by omega)
  have p3 := methods_AC
  have p4 := word_AC (wd k)
  have p5 := copyNode_AC o.2.2.2 hv .loose
  have hc := node_clo o.2.2.2
  have m4 := fun h => mets_at h1 h6 h
  have m2 : mets.length = 7 := rfl
  have m3 : (strsE mets).length = 7 := rfl
  have hk7 : k < 7 := by omega
  have hk7' : (k : Int) < 7 := by omega
  rw [nodeT_loose] at p5
  have hi1 : NoId (nodeA (stepsN o.2.1)) := node_in _
  have hi2 : NoId (nodeA (stepsN o.2.2.1)) := node_in _
  have hi3 : NoId (nodeA (wordN (wd k))) := node_in _
  have hi4 : NoId (nodeA o.2.2.2) := node_in _
  unfold oprA
  unfold nodeA at p1 p2 p4 p5 hc hi1 hi2 hi3 hi4
  rw [nodeL_eq] at p1 p2 p4 p5 hc hi1 hi2 hi3 hi4
  rw [hk]
  refine AC.of tab_ok mixed_ok Try.func69 (by rfl) (by kernel_rfl) ?_; rintro ⟨P, T, hT, hm, w0, S0, rd0, k0⟩ hP hTT; dsimp only at hP hTT; subst hP hTT; unfold initSt; rw [Try.ntmps69]
  (repeat (first | with_reducible refine AW.seq ?_ | ((first | refine arun_kn 1 rfl (fun C hC => ?_) | refine arunD_kn 1 rfl (fun C hC => ?_)); (repeat ((conv => whnf); simp)); refine hC _ ?_; clear hC C; simp only [List.drop, Nat.reduceAdd]) | (refine arun_skip ?_ ?_; (focus (simp [awant]; done))) | (refine arunD_skip ?_ ?_; (focus (simp [awant]; done))) | (refine AW.regionK [] (fun K hK => ?_)) | (refine AW.condT ?_ ?_; (focus (simp [aev]; done))) | (refine AW.condF ?_ ?_; (focus (simp [aev]; done))) | with_reducible refine AW.block ?_ | ((first | ((first | refine arun_nil ?_ | refine arunD_nil ?_); refine hK _ ?_; clear hK K) | refine AW.skip ?_ | refine AW.exit ?_ | refine AW.ret ?_); simp only [wE, if_true, if_false, Nat.reduceEqDiff, reduceIte])))
  refine AW.regionDK [] (pcs [(3, 0, fun r => r = .agg [.int .i64 (stepsN o.2.2.1).kind, .int .i64 (stepsN o.2.2.1).num, .str (stepsN o.2.2.1).text, .view .loose 1 (strsE (stepsN o.2.2.1).names), .view .loose 5 ((stepsN o.2.2.1).kids.map nodeL)]), (4, 0, fun r => r = .view .loose 1 (strsE mets)), (9, 0, fun r => r = .agg [.int .i64 (wordN (wd k)).kind, .int .i64 (wordN (wd k)).num, .str (wordN (wd k)).text, .view .loose 1 (strsE (wordN (wd k)).names), .view .loose 5 ((wordN (wd k)).kids.map nodeL)]), (12, 0, fun r => r = .agg [.int .i64 (stepsN o.2.1).kind, .int .i64 (stepsN o.2.1).num, .str (stepsN o.2.1).text, .view .loose 1 (strsE (stepsN o.2.1).names), .view .loose 5 ((stepsN o.2.1).kids.map nodeL)]), (15, 0, fun r => r = .agg [.int .i64 o.2.2.2.kind, .int .i64 o.2.2.2.num, .str o.2.2.2.text, .view .loose 1 (strsE o.2.2.2.names), .view .loose 5 (o.2.2.2.kids.map nodeL)])] []) (by kernel_rfl) (by kernel_rfl) (fun K hK => ?_)
  (repeat (first | with_reducible refine AW.seq ?_ | ((first | refine arun_kn 1 rfl (fun C hC => ?_) | refine arunD_kn 1 rfl (fun C hC => ?_)); (repeat ((conv => whnf); simp [m4, m2, m3, hk7, hk7', strsE_len])); refine hC _ ?_; clear hC C; simp only [List.drop, Nat.reduceAdd]) | (refine arun_skip ?_ ?_; (focus (simp [awant, m4, m2, m3, hk7, hk7', strsE_len]; done))) | (refine arun_c0 (p1) ?_; rintro _ rfl) | (refine arun_c0 (p2) ?_; rintro _ rfl) | (refine arun_c0 (p3) ?_; rintro _ rfl) | (refine arun_c0 (p4) ?_; rintro _ rfl) | (refine arun_c0 (p5) ?_; rintro _ rfl) | (refine arunD_skip ?_ ?_; (focus (simp [awant, m4, m2, m3, hk7, hk7', strsE_len]; done))) | (refine arunD_cE (0) (p1) (by exact ⟨_, rfl, hi1⟩) ?_; rintro _ rfl; intro _) | (refine arunD_cE (0) (p2) (by exact ⟨_, rfl, hi2⟩) ?_; rintro _ rfl; intro _) | (refine arunD_cE (0) (p3) (by exact ⟨_, rfl, strs_in _⟩) ?_; rintro _ rfl; intro _) | (refine arunD_cE (0) (p4) (by exact ⟨_, rfl, hi3⟩) ?_; rintro _ rfl; intro _) | (refine arunD_cE (0) (p5) (by exact ⟨_, rfl, hi4⟩) ?_; rintro _ rfl; intro _) | (refine AW.regionK [] (fun K hK => ?_)) | (refine AW.regionDK [] (pcs [] []) (by kernel_rfl) (by kernel_rfl) (fun K hK => ?_)) | (refine AW.condT ?_ ?_; (focus (simp [aev, m4, m2, m3, hk7, hk7', strsE_len]; done))) | (refine AW.condF ?_ ?_; (focus (simp [aev, m4, m2, m3, hk7, hk7', strsE_len]; done))) | with_reducible refine AW.block ?_ | ((first | ((first | refine arun_nil ?_ | refine arunD_nil ?_); refine hK _ ?_; clear hK K) | refine AW.skip ?_ | refine AW.exit ?_ | refine AW.ret ?_); simp only [wE, if_true, if_false, Nat.reduceEqDiff, reduceIte])))
  have eo : opOf o = opNd k o.2.1 o.2.2.1 o.2.2.2 := by unfold opOf; rw [hk]; rfl
  refine ⟨.agg [.int .i64 4, .int .i64 0, .str ⟨#[]⟩, .view .tight 1 (strsE opNms), .view .tight 5 ([stepsN o.2.2.1, wordN (wd k), stepsN o.2.1, o.2.2.2].map nodeL)], ?_, ?_, nodeA (opOf o), ?_, rfl⟩
  · simp [ares, aresL, upd, rowsOf_cons, strsE, opNms, nodeL_eq]
  · refine pur_agg ?_
    simp only [List.forall_mem_cons, List.not_mem_nil, false_implies, implies_true, and_true]
    exact ⟨pur_int, pur_int, pur_str, strs_pur _ (by decide), pur_view (by decide) (nodesE_pur _)⟩
  · rw [eo]
    unfold nodeA opNd
    rw [nodeL_eq]
    exact Wk.agg (.cons (Wk.refl _) (.cons (Wk.refl _) (.cons (Wk.refl _) (.cons (Wk.loose (by decide)) (.cons (Wk.loose (by decide)) .nil)))))
end Go.Proofs.Ytgfnmhfdmmnaoaa.Eng
namespace Go.Proofs.Ytgfnmhfdmmnaoaa.Eng
open Go Go.RowKit
def fcall : Op → Option (Tmp × List Operand)
  | .call { callee := .value (.tmp t), args, argTypes := _ } => some (t, args.toList)
  | _ => none
section
variable {P : Program} {w0 : W0} {S0 : Nat → Prop} {rd0 : Option Nat} {k0 : Nat} {w : World} {a : Act} {s : ASt} {ρ : Cx}
theorem exec_fn {o : Oper} {f : FuncId} {t : Tmp} {xs : List Operand} {us : List Value} (ha : fcall o.op = some (t, xs)) (hv : a.eval (.tmp t) = .func (.func f) #[] us.toArray) (he : Enters P f) : (execOp a.eval o).run P w = .ok (.enter f (xs.map a.eval ++ us).toArray) w := by
  unfold fcall at ha
  split at ha
  · rename_i t' args tys ho
    cases ha
    unfold execOp
    simp only [ho, resolve, hv, Deferred.ofValue, Sem.run_bind, Sem.run_pure, Result.andThen_ok, invoke]
    have q : (#[] ++ Array.map a.eval args ++ us.toArray) = (args.toList.map a.eval ++ us).toArray := by apply Array.ext'; simp
    rw [← q]
    exact he _ _
  · cases ha
theorem clo_fn {f : FuncId} {cs : List AV} (hp : ∀ c ∈ cs, Clo c) : Clo (.fn f cs) := fun _ _ _ h => by
  obtain ⟨vs, h1, h3⟩ := rep_fn.1 h
  exact rep_fn.2 ⟨vs, h1, RepL.of_get h3.length (fun i c v h1 h2 => by
    obtain ⟨u, hu, hr⟩ := h3.get h1
    rw [h2] at hu; cases hu
    exact hp c (List.mem_of_getElem? h1) _ _ _ hr)⟩
end
section
variable {P : Program} {T : Tab} {hT : Tab.Ok P T} {hm : P.follows .mixedOrders = true} {w0 : W0} {S0 : Nat → Prop} {rd0 : Option Nat} {k0 : Nat} {Q : Exit → ASt → Prop} {s : ASt} {code : Code}
end
section
variable {P : Program} {T : Tab} {k0 : Nat} {md : List Nat} {Av : Nat → Prop} {ops : Array Oper} {K : ASt → Prop} {o : Oper} {l : List Oper} {s : ASt}
theorem arun_callFn {f : FuncId} {t : Tmp} {xs : List Operand} {cs args : List AV} {c : Nat} {Post : AV → Prop} (hf : fcall o.op = some (t, xs)) (ht : s.tmps[t]? = some (.fn f cs)) (hw : awant ops o s = some true) (hx : xs.map (aev s) ++ cs = args) (hac : ACF P f args c Post) (hclo : cloL args) (hcan : s.can c)
    (h : ∀ r, Post r → (∀ b ∈ atB r, ¬ Av b) → ARun P T k0 Av md ops K l ((s.pay c).put o.dst r)) : ARun P T k0 Av md ops K (o :: l) s :=
  ARun.opA hw fun w0 S0 rd0 w a ρ hT hA hS next Q hn => by
    subst hx
    have hall : ∀ x ∈ xs.map (aev s) ++ cs, Clo x := by
      have aux : ∀ l : List AV, cloL l → ∀ x ∈ l, Clo x := fun l => by
        induction l with
        | nil => intro _ x hx; cases hx
        | cons y l ih =>
          intro hc x hx
          rcases List.mem_cons.1 hx with rfl | hx
          · exact hc.1
          · exact ih hc.2 x hx
      exact aux _ hclo
    have ev := aev_rep hS (.tmp t)
    have e1 : aev s (.tmp t) = .fn f cs := by simp only [aev, ht]; rfl
    rw [e1] at ev
    obtain ⟨us, hv, hus⟩ := rep_fn.1 ev
    refine callE_ok (vs := xs.map a.eval ++ us) hS (fun he => exec_fn hf hv he) hA hac.toV ?_ hcan (fun r v w' ρ' hp _ hs => hn _ _ _ _ hs (h r hp.1 hp.2))
    refine RepL.of_get (by simp [hus.length]) (fun i c v h1 h2 => (hall c (List.mem_of_getElem? h1) _ _ _ ?_).le (le_lent w ρ))
    have hall2 : RepL w ρ (xs.map (aev s) ++ cs) (xs.map a.eval ++ us) := RepL.append (RepL.of_get (by simp) (fun i c v h1 h2 => by
      rw [List.getElem?_map] at h1 h2
      cases hx : xs[i]? with
      | none => rw [hx] at h1; cases h1
      | some x => rw [hx] at h1 h2; cases h1; cases h2; exact aev_rep hS x)) hus
    obtain ⟨u, hu, hr⟩ := hall2.get h1
    rw [h2] at hu; cases hu
    exact hr
end
end Go.Proofs.Ytgfnmhfdmmnaoaa.Eng
namespace Go.Proofs.Ytgfnmhfdmmnaoaa.Eng
open Go Go.RowKit
def setK (n : Nd) (k : Nat) (v : Nd) : Nd := ⟨n.kind, n.num, n.text, n.names, n.kids.set k v⟩
def setS : Nd → List ByteArray → Nd → Option Nd
  | _, [], v => some v
  | n, s :: p, v => if 0 ≤ placeI n s then (setS ((n.kids[(placeI n s).toNat]?).getD Nd.zero) p v).map (setK n (placeI n s).toNat) else none
theorem setS_no {n v : Nd} {s : ByteArray} (p : List ByteArray) (h : placeI n s = -1) : setS n (s :: p) v = none := by
  rw [setS, if_neg (by omega)]
theorem setS_yes {n v : Nd} {s : ByteArray} (p : List ByteArray) {k : Nat} (hk : k < n.kids.length) (h : placeI n s = (k : Int)) : setS n (s :: p) v = (setS n.kids[k] p v).map (setK n k) := by
  rw [setS, h, if_pos (by omega)]
  simp [hk]
theorem setK_sml {n v : Nd} {k : Nat} (hn : Sml n) (hv : Sml v) : Sml (setK n k v) :=
  .mk _ hn.names (by simp only [setK, List.length_set]; exact hn.kids) (fun x hx => by
    rcases List.mem_or_eq_of_mem_set hx with h | rfl
    · exact hn.kid h
    · exact hv)
theorem setS_sml : ∀ (p : List ByteArray) (n v m : Nd), Shp n → Sml v → setS n p v = some m → Sml m
  | [], n, v, m, _, hv, h => by rw [setS] at h; cases h; exact hv
  | s :: p, n, v, m, hn, hv, h => by
    rcases placeI_cases n s with ⟨h1, _⟩ | ⟨k, h1, h2, _⟩
    · rw [setS_no p h1] at h; cases h
    · rw [setS_yes p h1 h2] at h
      obtain ⟨x, hx, rfl⟩ := Option.map_eq_some_iff.1 h
      exact setK_sml hn.sml (setS_sml p _ v x (hn.kid (List.getElem_mem h1)) hv hx)
def delK (n : Nd) (k : Nat) : Nd := ⟨n.kind, 0, ⟨#[]⟩, if n.kind = 4 then n.names.take k ++ n.names.drop (k + 1) else [], n.kids.take k ++ n.kids.drop (k + 1)⟩
theorem delK_sml {n : Nd} {k : Nat} (hn : Sml n) : Sml (delK n k) :=
  .mk _ (by
    have := hn.names
    unfold delK
    dsimp only
    split
    · simp only [List.length_append, List.length_take, List.length_drop]; omega
    · simp) (by
    have := hn.kids
    simp only [delK, List.length_append, List.length_take, List.length_drop]; omega) (fun x hx => by
    simp only [delK, List.mem_append] at hx
    rcases hx with h | h
    · exact hn.kid (List.mem_of_mem_take h)
    · exact hn.kid (List.mem_of_mem_drop h))
def remS (n : Nd) (p : List ByteArray) : Option Nd :=
  match p.getLast? with
  | none => none
  | some s => (getS n p.dropLast).bind (fun m => if 0 ≤ placeI m s then setS n p.dropLast (delK m (placeI m s).toNat) else none)
def nmI (st : ByteArray) : List ByteArray → Nat
  | [] => 0
  | x :: xs => if lts st x then 0 else nmI st xs + 1
theorem nmI_le (st : ByteArray) : ∀ l : List ByteArray, nmI st l ≤ l.length
  | [] => Nat.le_refl _
  | x :: xs => by
    rw [nmI]
    split
    · exact Nat.zero_le _
    · have := nmI_le st xs; simp; omega
theorem nmI_drop {st : ByteArray} {l : List ByteArray} {i : Nat} (hi : i < l.length) (h : lts st l[i] = false) : nmI st (l.drop i) + i = nmI st (l.drop (i + 1)) + (i + 1) := by
  rw [List.drop_eq_getElem_cons hi, nmI, h]
  simp only [Bool.false_eq_true, if_false]; omega
theorem nmI_at {st : ByteArray} {l : List ByteArray} {i : Nat} (hi : i < l.length) (h : lts st l[i] = true) : nmI st (l.drop i) = 0 := by
  rw [List.drop_eq_getElem_cons hi, nmI, h]; rfl
def insL {α : Type} (l : List α) (i : Nat) (x : α) : List α := l.take i ++ [x] ++ l.drop i
def insKid (n : Nd) (i : Nat) (st : ByteArray) (v : Nd) : Nd := ⟨n.kind, 0, ⟨#[]⟩, if n.kind = 4 then insL n.names i st else [], insL n.kids i v⟩
theorem insKid_sml {n v : Nd} {i : Nat} {st : ByteArray} (hn : Shp n) (hv : Sml v) : Sml (insKid n i st v) := by
  have h6 := hn.kids
  have hs := hn.sml
  have hnm := hs.names
  refine .mk _ ?_ ?_ (fun x hx => ?_)
  · unfold insKid
    dsimp only
    split
    · rename_i h4
      have := (hn.map h4).2
      simp only [insL, List.length_append, List.length_take, List.length_drop, List.length_cons, List.length_nil]; omega
    · simp
  · simp only [insKid, insL, List.length_append, List.length_take, List.length_drop, List.length_cons, List.length_nil]; omega
  · simp only [insKid, insL, List.mem_append, List.mem_singleton] at hx
    rcases hx with (h | rfl) | h
    · exact hs.kid (List.mem_of_mem_take h)
    · exact hv
    · exact hs.kid (List.mem_of_mem_drop h)
def dash : ByteArray := ⟨#[45]⟩
def slotS (n : Nd) (st : ByteArray) : Option (Nat × Bool) :=
  if 0 ≤ placeI n st then some ((placeI n st).toNat, decide (n.kind = 4))
  else if n.kind = 3 ∧ (eqs st dash || eqs st (txt (dig1 n.kids.length))) = true then some (n.kids.length, false)
  else if n.kind = 4 then some (nmI st n.names, false) else none
def addK (n : Nd) (st : ByteArray) (v : Nd) : Option Nd :=
  (slotS n st).map (fun x => if x.2 then setK n x.1 v else insKid n x.1 st v)
structure Slt (n : Nd) : Prop where
  map : n.kind = 4 → n.names.length = n.kids.length
  lst : n.kind = 3 → n.kids.length ≤ 6
  sml : Sml n
theorem Slt.plc {n : Nd} (h : Slt n) : Plc n := ⟨fun h4 => by have := h.map h4; omega, fun h3 => by have := h.lst h3; omega⟩
theorem Shp.slt {n : Nd} (h : Shp n) : Slt n := ⟨fun h4 => ((h.map h4).2).symm, fun _ => h.kids, h.sml⟩
theorem slotS_lt {n : Nd} {st : ByteArray} (h : Slt n) {i : Nat} {b : Bool} (he : slotS n st = some (i, b)) : (b = true → n.kind = 4 ∧ i < n.kids.length) ∧ (b = false → (n.kind = 3 ∨ n.kind = 4) ∧ i ≤ n.kids.length) := by
  unfold slotS at he
  rcases placeI_cases n st with ⟨h1, _⟩ | ⟨k, h1, h2, h3⟩
  · rw [h1, if_neg (by omega)] at he
    split at he
    · rename_i h3
      cases he
      exact ⟨fun h => (by cases h), fun _ => ⟨.inl h3.1, Nat.le_refl _⟩⟩
    · split at he
      · rename_i h4
        cases he
        refine ⟨fun h => (by cases h), fun _ => ⟨.inr h4, ?_⟩⟩
        rw [← h.map h4]
        exact nmI_le _ _
      · cases he
  · rw [h2, if_pos (by omega), Int.toNat_natCast] at he
    cases he
    refine ⟨fun h => ⟨by simpa using h, h1⟩, fun h4 => ⟨.inl ?_, by omega⟩⟩
    simp at h4
    simp [hitP, h4] at h3
    exact h3.1
theorem addK_sml {n v m : Nd} {st : ByteArray} (hn : Shp n) (hv : Sml v) (h : addK n st v = some m) : Sml m := by
  obtain ⟨⟨i, b⟩, _, rfl⟩ := Option.map_eq_some_iff.1 h
  dsimp only
  split
  · exact setK_sml hn.sml hv
  · exact insKid_sml hn hv
def addS (n : Nd) (p : List ByteArray) (v : Nd) : Option Nd :=
  match p.getLast? with
  | none => some v
  | some s => (getS n p.dropLast).bind (fun m => (addK m s v).bind (fun x => setS n p.dropLast x))
theorem remS_sml {n m : Nd} {p : List ByteArray} (hn : Shp n) (h : remS n p = some m) : Sml m := by
  unfold remS at h
  split at h
  · cases h
  · obtain ⟨x, hx, h⟩ := Option.bind_eq_some_iff.1 h
    split at h
    · exact setS_sml _ _ _ _ hn (delK_sml (getS_shp _ _ _ hn hx).sml) h
    · cases h
theorem addS_sml {n m v : Nd} {p : List ByteArray} (hn : Shp n) (hv : Sml v) (h : addS n p v = some m) : Sml m := by
  unfold addS at h
  split at h
  · cases h; exact hv
  · obtain ⟨x, hx, h⟩ := Option.bind_eq_some_iff.1 h
    obtain ⟨y, hy, h⟩ := Option.bind_eq_some_iff.1 h
    exact setS_sml _ _ _ _ hn (addK_sml (getS_shp _ _ _ hn hx) hv hy) h
end Go.Proofs.Ytgfnmhfdmmnaoaa.Eng
-- EV: fresh
namespace Go.Proofs.Ytgfnmhfdmmnaoaa.Eng
open Go Go.RowKit
attribute [local simp] big size_mk ASt.pay Option.map_map Function.comp_def awant aop acall ado aev ofVal ofVal0 ASt.put ASt.add ASt.turn ASt.kill abox aalloc astore aload aloadD astoreD idOf ASt.at cellsTo afieldAddr afield aindexAddr aindex alen abin aint acmp astr aun apick aextract anil aslice abound abuild afill abuildSlice asCells aps avCells over upd aappend asrc amax amin aconv mkSt slots rowsOf_cons rowsOf_nil usedOf_cons usedOf_nil ZK.av List.replicate ASt.back ASt.addL ASt.killL nodeA nodeT nodeTL_eq nodeL_eq strsE_get strsE_len intsE_get intsE_len strsE_at intsE_at tab2 tab3 tab4 tab5 tab6 tab7 tab8 tab9 tab10 tab11 tab12 tab13 tab14 tab15 tab16 tab17 tab18 tab19 tab21 tab22 tab23 tab24 tab25 tab26 tab27 tab28 tab29 tab30 tab39 tab40 tab41 tab42 tab43 tab47 tab48 tab55 tab56 tab57 tab60 tab61 tab62 tab73 tab74 tab75 tab85 tab92 tab115 tab116 tab143 tab144 tab145 tab154 tab155 tab170 tab175 tab182 tab197 tab198 tab203 tab204 tab205 tab207 tab208 tab209
end Go.Proofs.Ytgfnmhfdmmnaoaa.Eng
