/-
  Texts of this claim, joined.
-/
import Derived.ProofKit
import Derived.Deep.Slices
import Derived.Deep.Fields
import Derived.Lib.Bytealg
import Derived.Test.YtgfnmhfdmmnaoaaMfG

set_option linter.unusedSimpArgs false
set_option linter.unusedVariables false
set_option linter.unnecessarySimpa false
set_option maxRecDepth 100000
set_option maxHeartbeats 16000000
-- EV: rows skip
namespace Go.Proofs.Ytgfnmhfdmmnaoaa.Eng
open Go Go.RowKit
attribute [local simp] big size_mk ASt.pay Option.map_map Function.comp_def awant aop acall ado aev ofVal ofVal0 ASt.put ASt.add ASt.turn ASt.kill abox aalloc astore aload aloadD astoreD idOf ASt.at cellsTo afieldAddr afield aindexAddr aindex alen abin aint acmp astr aun apick aextract anil aslice abound abuild afill abuildSlice asCells aps avCells over upd aappend asrc amax amin aconv mkSt slots rowsOf_cons rowsOf_nil usedOf_cons usedOf_nil ZK.av List.replicate ASt.back ASt.addL ASt.killL nodeA nodeT nodeTL_eq nodeL_eq strsE_get strsE_len intsE_get intsE_len strsE_at intsE_at nodeN namesRow nodeO kidsRow tab2 tab3 tab4 tab5 tab6 tab7 tab8 tab9 tab10 tab11 tab12 tab13 tab14 tab15 tab16 tab17 tab18 tab19 tab21 tab22 tab23 tab24 tab25 tab26 tab27 tab28 tab29 tab30 tab39 tab40 tab41 tab42 tab43 tab47 tab48 tab55 tab56 tab57 tab60 tab61 tab62 tab73 tab74 tab75 tab85 tab92 tab115 tab116 tab143 tab144 tab145 tab154 tab155 tab170 tab175 tab182 tab197 tab198 tab203 tab204 tab205 tab207 tab208 tab209
theorem implPlain_step (n : Nd) (hs : Sml n) (ih : ∀ k ∈ n.kids, AC Try.prog 167 [nodeA k] 0 (fun r => r = .bool (plainB k))) : AC Try.prog 167 [nodeA n] 0 (fun r => r = .bool (plainB n)) := by
  have hk6 := hs.kids
  unfold nodeA
  rw [nodeL_eq n]
  refine AC.of tab_ok mixed_ok Try.func167 (by rfl) (by kernel_rfl) ?_; rintro ⟨P, T, hT, hm, w0, S0, rd0, k0⟩ hP hTT; dsimp only at hP hTT; subst hP hTT; unfold initSt; rw [Try.ntmps167]
  cases hk4 : n.kind != 4
  rotate_left
  · have h4 : ¬ n.kind = 4 := by simpa using hk4
    (repeat (first | with_reducible refine AW.seq ?_ | ((first | refine arun_kn 4 rfl (fun C hC => ?_) | refine arunD_kn 4 rfl (fun C hC => ?_)); (repeat ((conv => whnf); simp [hk4])); refine hC _ ?_; clear hC C; simp only [List.drop, Nat.reduceAdd]) | ((first | refine arun_kn 1 rfl (fun C hC => ?_) | refine arunD_kn 1 rfl (fun C hC => ?_)); (repeat ((conv => whnf); simp [hk4])); refine hC _ ?_; clear hC C; simp only [List.drop, Nat.reduceAdd]) | (refine arun_skip ?_ ?_; (focus (simp [awant, hk4]; done))) | (refine arunD_skip ?_ ?_; (focus (simp [awant, hk4]; done))) | (refine AW.regionK [] (fun K hK => ?_)) | (refine AW.regionDK [] (pcs [] []) (by kernel_rfl) (by kernel_rfl) (fun K hK => ?_)) | (refine AW.condT ?_ ?_; (focus (simp [aev, hk4]; done))) | (refine AW.condF ?_ ?_; (focus (simp [aev, hk4]; done))) | with_reducible refine AW.block ?_ | ((first | ((first | refine arun_nil ?_ | refine arunD_nil ?_); refine hK _ ?_; clear hK K) | refine AW.skip ?_ | refine AW.exit ?_ | refine AW.ret ?_); simp only [thenA_exit, inBlockA_exit, if_true, if_false, Nat.reduceEqDiff, thenA_normal, inBlockA_normal, reduceIte, thenA_ret, inBlockA_ret, endQ_ret, endR_ret, endG_ret, endQ_normal, endR_normal, endG_normal])))
    exact ⟨.bool true, by simp [ares, aresL], pur_bool, by rw [plainB_eq, if_neg h4]⟩
  have h4 : n.kind = 4 := by simpa using hk4
  have hpl : plainB n = plainL n.kids := by rw [plainB_eq, if_pos h4]
  (repeat (first | with_reducible refine AW.seq ?_ | ((first | refine arun_kn 4 rfl (fun C hC => ?_) | refine arunD_kn 4 rfl (fun C hC => ?_)); (repeat ((conv => whnf); simp [hk4])); refine hC _ ?_; clear hC C; simp only [List.drop, Nat.reduceAdd]) | ((first | refine arun_kn 1 rfl (fun C hC => ?_) | refine arunD_kn 1 rfl (fun C hC => ?_)); (repeat ((conv => whnf); simp [hk4])); refine hC _ ?_; clear hC C; simp only [List.drop, Nat.reduceAdd]) | (refine arun_skip ?_ ?_; (focus (simp [awant, hk4]; done))) | (refine arunD_skip ?_ ?_; (focus (simp [awant, hk4]; done))) | (refine AW.regionK [] (fun K hK => ?_)) | (refine AW.regionDK [] (pcs [] []) (by kernel_rfl) (by kernel_rfl) (fun K hK => ?_)) | (refine AW.condT ?_ ?_; (focus (simp [aev, hk4]; done))) | (refine AW.condF ?_ ?_; (focus (simp [aev, hk4]; done))) | with_reducible refine AW.block ?_ | ((first | ((first | refine arun_nil ?_ | refine arunD_nil ?_); refine hK _ ?_; clear hK K) | refine AW.skip ?_ | refine AW.exit ?_ | refine AW.ret ?_); simp only [thenA_exit, inBlockA_exit, if_true, if_false, Nat.reduceEqDiff, thenA_normal, inBlockA_normal, reduceIte, thenA_ret, inBlockA_ret, endQ_ret, endR_ret, endG_ret, endQ_normal, endR_normal, endG_normal])))
  refine AW.loopS (fun (i : Nat) => mkSt (slots 0 24 [(1, .ptr true 5 1 1 0 0), (9, .view .loose 5 (n.kids.map nodeL)), (10, .int .i64 n.kids.length), (11, .int .i64 i)]) [(1, ⟨true, 30, 5, [[.int .i64 n.kind, .int .i64 n.num, .str n.text, .view .loose 1 (strsE n.names), .view .loose 5 (n.kids.map nodeL)]]⟩)] [1] (rd0.map fun _ => 0)) (fun i => n.kids.length - i) (fun i => i ≤ n.kids.length ∧ plainB n = plainL (n.kids.drop i)) 0 ?_ ⟨Nat.zero_le _, hpl⟩ ?_
  · exact less_a
  · rintro i ⟨hi, hf⟩
    by_cases hlt : i < n.kids.length
    · have hw : IntKind.i64.wrap ((i : Int) + 1) = (i : Int) + 1 := i64_nat (by omega) (by omega)
      rw [plainL_drop hlt] at hf
      have c := ih _ (List.getElem_mem hlt)
      unfold nodeA at c
      rw [nodeL_eq n.kids[i]] at c
      cases h0 : n.kids[i].kind == 0
      · have hd : decide (n.kids[i].kind ≠ 0) = true := by simpa using h0
        rw [hd] at hf
        cases hb : plainB n.kids[i]
        · rw [hb] at hf c
          (repeat (first | with_reducible refine AW.seq ?_ | ((first | refine arun_kn 4 rfl (fun C hC => ?_) | refine arunD_kn 4 rfl (fun C hC => ?_)); (repeat ((conv => whnf); simp [hlt, hw, h0])); refine hC _ ?_; clear hC C; simp only [List.drop, Nat.reduceAdd]) | ((first | refine arun_kn 1 rfl (fun C hC => ?_) | refine arunD_kn 1 rfl (fun C hC => ?_)); (repeat ((conv => whnf); simp [hlt, hw, h0])); refine hC _ ?_; clear hC C; simp only [List.drop, Nat.reduceAdd]) | (refine arun_skip ?_ ?_; (focus (simp [awant, hlt, hw, h0]; done))) | (refine arun_c0 (c) ?_; rintro _ rfl) | (refine arunD_skip ?_ ?_; (focus (simp [awant, hlt, hw, h0]; done))) | (refine AW.regionK [] (fun K hK => ?_)) | (refine AW.regionDK [] (pcs [] []) (by kernel_rfl) (by kernel_rfl) (fun K hK => ?_)) | (refine AW.condT ?_ ?_; (focus (simp [aev, hlt, hw, h0]; done))) | (refine AW.condF ?_ ?_; (focus (simp [aev, hlt, hw, h0]; done))) | with_reducible refine AW.block ?_ | ((first | ((first | refine arun_nil ?_ | refine arunD_nil ?_); refine hK _ ?_; clear hK K) | refine AW.skip ?_ | refine AW.exit ?_ | refine AW.ret ?_); simp only [thenA_exit, inBlockA_exit, if_true, if_false, Nat.reduceEqDiff, thenA_normal, inBlockA_normal, reduceIte, thenA_ret, inBlockA_ret, endQ_ret, endR_ret, endG_ret, endQ_normal, endR_normal, endG_normal])))
          exact ⟨.bool false, by simp [ares, aresL], pur_bool, by rw [hf]; rfl⟩
        · rw [hb] at hf c
          (repeat (first | with_reducible refine AW.seq ?_ | ((first | refine arun_kn 4 rfl (fun C hC => ?_) | refine arunD_kn 4 rfl (fun C hC => ?_)); (repeat ((conv => whnf); simp [hlt, hw, h0])); refine hC _ ?_; clear hC C; simp only [List.drop, Nat.reduceAdd]) | ((first | refine arun_kn 1 rfl (fun C hC => ?_) | refine arunD_kn 1 rfl (fun C hC => ?_)); (repeat ((conv => whnf); simp [hlt, hw, h0])); refine hC _ ?_; clear hC C; simp only [List.drop, Nat.reduceAdd]) | (refine arun_skip ?_ ?_; (focus (simp [awant, hlt, hw, h0]; done))) | (refine arun_c0 (c) ?_; rintro _ rfl) | (refine arunD_skip ?_ ?_; (focus (simp [awant, hlt, hw, h0]; done))) | (refine AW.regionK [] (fun K hK => ?_)) | (refine AW.regionDK [] (pcs [] []) (by kernel_rfl) (by kernel_rfl) (fun K hK => ?_)) | (refine AW.condT ?_ ?_; (focus (simp [aev, hlt, hw, h0]; done))) | (refine AW.condF ?_ ?_; (focus (simp [aev, hlt, hw, h0]; done))) | with_reducible refine AW.block ?_ | ((first | ((first | refine arun_nil ?_ | refine arunD_nil ?_); refine hK _ ?_; clear hK K) | refine AW.skip ?_ | refine AW.exit ?_ | refine AW.ret ?_); simp only [thenA_exit, inBlockA_exit, if_true, if_false, Nat.reduceEqDiff, thenA_normal, inBlockA_normal, reduceIte, thenA_ret, inBlockA_ret, endQ_ret, endR_ret, endG_ret, endQ_normal, endR_normal, endG_normal])))
          exact ⟨i + 1, by omega, ⟨by omega, by rw [hf]; simp⟩, less_a⟩
      · have hd : decide (n.kids[i].kind ≠ 0) = false := by simpa using h0
        rw [hd] at hf
        (repeat (first | with_reducible refine AW.seq ?_ | ((first | refine arun_kn 4 rfl (fun C hC => ?_) | refine arunD_kn 4 rfl (fun C hC => ?_)); (repeat ((conv => whnf); simp [hlt, hw, h0])); refine hC _ ?_; clear hC C; simp only [List.drop, Nat.reduceAdd]) | ((first | refine arun_kn 1 rfl (fun C hC => ?_) | refine arunD_kn 1 rfl (fun C hC => ?_)); (repeat ((conv => whnf); simp [hlt, hw, h0])); refine hC _ ?_; clear hC C; simp only [List.drop, Nat.reduceAdd]) | (refine arun_skip ?_ ?_; (focus (simp [awant, hlt, hw, h0]; done))) | (refine arun_c0 (c) ?_; rintro _ rfl) | (refine arunD_skip ?_ ?_; (focus (simp [awant, hlt, hw, h0]; done))) | (refine AW.regionK [] (fun K hK => ?_)) | (refine AW.regionDK [] (pcs [] []) (by kernel_rfl) (by kernel_rfl) (fun K hK => ?_)) | (refine AW.condT ?_ ?_; (focus (simp [aev, hlt, hw, h0]; done))) | (refine AW.condF ?_ ?_; (focus (simp [aev, hlt, hw, h0]; done))) | with_reducible refine AW.block ?_ | ((first | ((first | refine arun_nil ?_ | refine arunD_nil ?_); refine hK _ ?_; clear hK K) | refine AW.skip ?_ | refine AW.exit ?_ | refine AW.ret ?_); simp only [thenA_exit, inBlockA_exit, if_true, if_false, Nat.reduceEqDiff, thenA_normal, inBlockA_normal, reduceIte, thenA_ret, inBlockA_ret, endQ_ret, endR_ret, endG_ret, endQ_normal, endR_normal, endG_normal])))
        exact ⟨.bool false, by simp [ares, aresL], pur_bool, by rw [hf]; rfl⟩
    · rw [List.drop_of_length_le (by omega), plainL] at hf
      (repeat (first | with_reducible refine AW.seq ?_ | ((first | refine arun_kn 4 rfl (fun C hC => ?_) | refine arunD_kn 4 rfl (fun C hC => ?_)); (repeat ((conv => whnf); simp [hlt])); refine hC _ ?_; clear hC C; simp only [List.drop, Nat.reduceAdd]) | ((first | refine arun_kn 1 rfl (fun C hC => ?_) | refine arunD_kn 1 rfl (fun C hC => ?_)); (repeat ((conv => whnf); simp [hlt])); refine hC _ ?_; clear hC C; simp only [List.drop, Nat.reduceAdd]) | (refine arun_skip ?_ ?_; (focus (simp [awant, hlt]; done))) | (refine arunD_skip ?_ ?_; (focus (simp [awant, hlt]; done))) | (refine AW.regionK [] (fun K hK => ?_)) | (refine AW.regionDK [] (pcs [] []) (by kernel_rfl) (by kernel_rfl) (fun K hK => ?_)) | (refine AW.condT ?_ ?_; (focus (simp [aev, hlt]; done))) | (refine AW.condF ?_ ?_; (focus (simp [aev, hlt]; done))) | with_reducible refine AW.block ?_ | ((first | ((first | refine arun_nil ?_ | refine arunD_nil ?_); refine hK _ ?_; clear hK K) | refine AW.skip ?_ | refine AW.exit ?_ | refine AW.ret ?_); simp only [thenA_exit, inBlockA_exit, if_true, if_false, Nat.reduceEqDiff, thenA_normal, inBlockA_normal, reduceIte, thenA_ret, inBlockA_ret, endQ_ret, endR_ret, endG_ret, endQ_normal, endR_normal, endG_normal])))
      exact ⟨.bool true, by simp [ares, aresL], pur_bool, by rw [hf]⟩
theorem implPlain_AC : ∀ n, Sml n → AC Try.prog 167 [nodeA n] 0 (fun r => r = .bool (plainB n)) := Nd.ind' _ (fun n ih hs => implPlain_step n hs (fun k hk => ih k hk (hs.kid hk)))
theorem specPlain_step (n : Nd) (hs : Sml n) (ih : ∀ k ∈ n.kids, AC Try.prog 124 [nodeA k] 0 (fun r => r = .bool (plainB k))) : AC Try.prog 124 [nodeA n] 0 (fun r => r = .bool (plainB n)) := by
  have hk6 := hs.kids
  unfold nodeA
  rw [nodeL_eq n]
  refine AC.of tab_ok mixed_ok Try.func124 (by rfl) (by kernel_rfl) ?_; rintro ⟨P, T, hT, hm, w0, S0, rd0, k0⟩ hP hTT; dsimp only at hP hTT; subst hP hTT; unfold initSt; rw [Try.ntmps124]
  (repeat (first | with_reducible refine AW.seq ?_ | ((first | refine arun_kn 4 rfl (fun C hC => ?_) | refine arunD_kn 4 rfl (fun C hC => ?_)); (repeat ((conv => whnf); simp)); refine hC _ ?_; clear hC C; simp only [List.drop, Nat.reduceAdd]) | ((first | refine arun_kn 1 rfl (fun C hC => ?_) | refine arunD_kn 1 rfl (fun C hC => ?_)); (repeat ((conv => whnf); simp)); refine hC _ ?_; clear hC C; simp only [List.drop, Nat.reduceAdd]) | (refine arun_skip ?_ ?_; (focus (simp [awant]; done))) | (refine arunD_skip ?_ ?_; (focus (simp [awant]; done))) | (refine AW.regionK [] (fun K hK => ?_)) | (refine AW.regionDK [] (pcs [] []) (by kernel_rfl) (by kernel_rfl) (fun K hK => ?_)) | (refine AW.condT ?_ ?_; (focus (simp [aev]; done))) | (refine AW.condF ?_ ?_; (focus (simp [aev]; done))) | with_reducible refine AW.block ?_ | ((first | ((first | refine arun_nil ?_ | refine arunD_nil ?_); refine hK _ ?_; clear hK K) | refine AW.skip ?_ | refine AW.exit ?_ | refine AW.ret ?_); simp only [thenA_exit, inBlockA_exit, if_true, if_false, Nat.reduceEqDiff, thenA_normal, inBlockA_normal, reduceIte, thenA_ret, inBlockA_ret, endQ_ret, endR_ret, endG_ret, endQ_normal, endR_normal, endG_normal])))
  refine AW.loopS (fun (i : Nat) => mkSt (slots 0 37 [(1, .ptr true 5 1 1 0 0), (3, .int .i64 i)]) [(1, ⟨true, 30, 5, [[.int .i64 n.kind, .int .i64 n.num, .str n.text, .view .loose 1 (strsE n.names), .view .loose 5 (n.kids.map nodeL)]]⟩)] [1] (rd0.map fun _ => 0)) (fun i => n.kids.length - i) (fun i => i ≤ n.kids.length ∧ plainB n = (if n.kind = 4 then plainL (n.kids.drop i) else true)) 0 ?_ ⟨Nat.zero_le _, plainB_eq n⟩ ?_
  · exact less_a
  · rintro i ⟨hi, hf⟩
    by_cases hlt : i < n.kids.length
    · have hw : IntKind.i64.wrap ((i : Int) + 1) = (i : Int) + 1 := i64_nat (by omega) (by omega)
      cases hk4 : n.kind == 4
      · have h4 : ¬ n.kind = 4 := by simpa using hk4
        rw [if_neg h4] at hf
        (repeat (first | with_reducible refine AW.seq ?_ | ((first | refine arun_kn 4 rfl (fun C hC => ?_) | refine arunD_kn 4 rfl (fun C hC => ?_)); (repeat ((conv => whnf); simp [hlt, hw, hk4])); refine hC _ ?_; clear hC C; simp only [List.drop, Nat.reduceAdd]) | ((first | refine arun_kn 1 rfl (fun C hC => ?_) | refine arunD_kn 1 rfl (fun C hC => ?_)); (repeat ((conv => whnf); simp [hlt, hw, hk4])); refine hC _ ?_; clear hC C; simp only [List.drop, Nat.reduceAdd]) | (refine arun_skip ?_ ?_; (focus (simp [awant, hlt, hw, hk4]; done))) | (refine arunD_skip ?_ ?_; (focus (simp [awant, hlt, hw, hk4]; done))) | (refine AW.regionK [] (fun K hK => ?_)) | (refine AW.regionDK [] (pcs [] []) (by kernel_rfl) (by kernel_rfl) (fun K hK => ?_)) | (refine AW.condT ?_ ?_; (focus (simp [aev, hlt, hw, hk4]; done))) | (refine AW.condF ?_ ?_; (focus (simp [aev, hlt, hw, hk4]; done))) | with_reducible refine AW.block ?_ | ((first | ((first | refine arun_nil ?_ | refine arunD_nil ?_); refine hK _ ?_; clear hK K) | refine AW.skip ?_ | refine AW.exit ?_ | refine AW.ret ?_); simp only [thenA_exit, inBlockA_exit, if_true, if_false, Nat.reduceEqDiff, thenA_normal, inBlockA_normal, reduceIte, thenA_ret, inBlockA_ret, endQ_ret, endR_ret, endG_ret, endQ_normal, endR_normal, endG_normal])))
        exact ⟨i + 1, by omega, ⟨by omega, by rw [if_neg h4]; exact hf⟩, less_a⟩
      · have h4 : n.kind = 4 := by simpa using hk4
        rw [if_pos h4, plainL_drop hlt] at hf
        have c := ih _ (List.getElem_mem hlt)
        unfold nodeA at c
        rw [nodeL_eq n.kids[i]] at c
        cases h0 : n.kids[i].kind == 0
        · have hd : decide (n.kids[i].kind ≠ 0) = true := by simpa using h0
          rw [hd] at hf
          cases hb : plainB n.kids[i]
          · rw [hb] at hf c
            (repeat (first | with_reducible refine AW.seq ?_ | ((first | refine arun_kn 4 rfl (fun C hC => ?_) | refine arunD_kn 4 rfl (fun C hC => ?_)); (repeat ((conv => whnf); simp [hlt, hw, hk4, h0])); refine hC _ ?_; clear hC C; simp only [List.drop, Nat.reduceAdd]) | ((first | refine arun_kn 1 rfl (fun C hC => ?_) | refine arunD_kn 1 rfl (fun C hC => ?_)); (repeat ((conv => whnf); simp [hlt, hw, hk4, h0])); refine hC _ ?_; clear hC C; simp only [List.drop, Nat.reduceAdd]) | (refine arun_skip ?_ ?_; (focus (simp [awant, hlt, hw, hk4, h0]; done))) | (refine arun_c0 (c) ?_; rintro _ rfl) | (refine arunD_skip ?_ ?_; (focus (simp [awant, hlt, hw, hk4, h0]; done))) | (refine AW.regionK [] (fun K hK => ?_)) | (refine AW.regionDK [] (pcs [] []) (by kernel_rfl) (by kernel_rfl) (fun K hK => ?_)) | (refine AW.condT ?_ ?_; (focus (simp [aev, hlt, hw, hk4, h0]; done))) | (refine AW.condF ?_ ?_; (focus (simp [aev, hlt, hw, hk4, h0]; done))) | with_reducible refine AW.block ?_ | ((first | ((first | refine arun_nil ?_ | refine arunD_nil ?_); refine hK _ ?_; clear hK K) | refine AW.skip ?_ | refine AW.exit ?_ | refine AW.ret ?_); simp only [thenA_exit, inBlockA_exit, if_true, if_false, Nat.reduceEqDiff, thenA_normal, inBlockA_normal, reduceIte, thenA_ret, inBlockA_ret, endQ_ret, endR_ret, endG_ret, endQ_normal, endR_normal, endG_normal])))
            exact ⟨.bool false, by simp [ares, aresL], pur_bool, by rw [hf]; rfl⟩
          · rw [hb] at hf c
            (repeat (first | with_reducible refine AW.seq ?_ | ((first | refine arun_kn 4 rfl (fun C hC => ?_) | refine arunD_kn 4 rfl (fun C hC => ?_)); (repeat ((conv => whnf); simp [hlt, hw, hk4, h0])); refine hC _ ?_; clear hC C; simp only [List.drop, Nat.reduceAdd]) | ((first | refine arun_kn 1 rfl (fun C hC => ?_) | refine arunD_kn 1 rfl (fun C hC => ?_)); (repeat ((conv => whnf); simp [hlt, hw, hk4, h0])); refine hC _ ?_; clear hC C; simp only [List.drop, Nat.reduceAdd]) | (refine arun_skip ?_ ?_; (focus (simp [awant, hlt, hw, hk4, h0]; done))) | (refine arun_c0 (c) ?_; rintro _ rfl) | (refine arunD_skip ?_ ?_; (focus (simp [awant, hlt, hw, hk4, h0]; done))) | (refine AW.regionK [] (fun K hK => ?_)) | (refine AW.regionDK [] (pcs [] []) (by kernel_rfl) (by kernel_rfl) (fun K hK => ?_)) | (refine AW.condT ?_ ?_; (focus (simp [aev, hlt, hw, hk4, h0]; done))) | (refine AW.condF ?_ ?_; (focus (simp [aev, hlt, hw, hk4, h0]; done))) | with_reducible refine AW.block ?_ | ((first | ((first | refine arun_nil ?_ | refine arunD_nil ?_); refine hK _ ?_; clear hK K) | refine AW.skip ?_ | refine AW.exit ?_ | refine AW.ret ?_); simp only [thenA_exit, inBlockA_exit, if_true, if_false, Nat.reduceEqDiff, thenA_normal, inBlockA_normal, reduceIte, thenA_ret, inBlockA_ret, endQ_ret, endR_ret, endG_ret, endQ_normal, endR_normal, endG_normal])))
            exact ⟨i + 1, by omega, ⟨by omega, by rw [hf, if_pos h4]; simp⟩, less_a⟩
        · have hd : decide (n.kids[i].kind ≠ 0) = false := by simpa using h0
          rw [hd] at hf
          (repeat (first | with_reducible refine AW.seq ?_ | ((first | refine arun_kn 4 rfl (fun C hC => ?_) | refine arunD_kn 4 rfl (fun C hC => ?_)); (repeat ((conv => whnf); simp [hlt, hw, hk4, h0])); refine hC _ ?_; clear hC C; simp only [List.drop, Nat.reduceAdd]) | ((first | refine arun_kn 1 rfl (fun C hC => ?_) | refine arunD_kn 1 rfl (fun C hC => ?_)); (repeat ((conv => whnf); simp [hlt, hw, hk4, h0])); refine hC _ ?_; clear hC C; simp only [List.drop, Nat.reduceAdd]) | (refine arun_skip ?_ ?_; (focus (simp [awant, hlt, hw, hk4, h0]; done))) | (refine arun_c0 (c) ?_; rintro _ rfl) | (refine arunD_skip ?_ ?_; (focus (simp [awant, hlt, hw, hk4, h0]; done))) | (refine AW.regionK [] (fun K hK => ?_)) | (refine AW.regionDK [] (pcs [] []) (by kernel_rfl) (by kernel_rfl) (fun K hK => ?_)) | (refine AW.condT ?_ ?_; (focus (simp [aev, hlt, hw, hk4, h0]; done))) | (refine AW.condF ?_ ?_; (focus (simp [aev, hlt, hw, hk4, h0]; done))) | with_reducible refine AW.block ?_ | ((first | ((first | refine arun_nil ?_ | refine arunD_nil ?_); refine hK _ ?_; clear hK K) | refine AW.skip ?_ | refine AW.exit ?_ | refine AW.ret ?_); simp only [thenA_exit, inBlockA_exit, if_true, if_false, Nat.reduceEqDiff, thenA_normal, inBlockA_normal, reduceIte, thenA_ret, inBlockA_ret, endQ_ret, endR_ret, endG_ret, endQ_normal, endR_normal, endG_normal])))
          exact ⟨.bool false, by simp [ares, aresL], pur_bool, by rw [hf]; rfl⟩
    · rw [List.drop_of_length_le (by omega), plainL] at hf
      (repeat (first | with_reducible refine AW.seq ?_ | ((first | refine arun_kn 4 rfl (fun C hC => ?_) | refine arunD_kn 4 rfl (fun C hC => ?_)); (repeat ((conv => whnf); simp [hlt])); refine hC _ ?_; clear hC C; simp only [List.drop, Nat.reduceAdd]) | ((first | refine arun_kn 1 rfl (fun C hC => ?_) | refine arunD_kn 1 rfl (fun C hC => ?_)); (repeat ((conv => whnf); simp [hlt])); refine hC _ ?_; clear hC C; simp only [List.drop, Nat.reduceAdd]) | (refine arun_skip ?_ ?_; (focus (simp [awant, hlt]; done))) | (refine arunD_skip ?_ ?_; (focus (simp [awant, hlt]; done))) | (refine AW.regionK [] (fun K hK => ?_)) | (refine AW.regionDK [] (pcs [] []) (by kernel_rfl) (by kernel_rfl) (fun K hK => ?_)) | (refine AW.condT ?_ ?_; (focus (simp [aev, hlt]; done))) | (refine AW.condF ?_ ?_; (focus (simp [aev, hlt]; done))) | with_reducible refine AW.block ?_ | ((first | ((first | refine arun_nil ?_ | refine arunD_nil ?_); refine hK _ ?_; clear hK K) | refine AW.skip ?_ | refine AW.exit ?_ | refine AW.ret ?_); simp only [thenA_exit, inBlockA_exit, if_true, if_false, Nat.reduceEqDiff, thenA_normal, inBlockA_normal, reduceIte, thenA_ret, inBlockA_ret, endQ_ret, endR_ret, endG_ret, endQ_normal, endR_normal, endG_normal])))
      exact ⟨.bool true, by simp [ares, aresL], pur_bool, by rw [hf]; simp⟩
theorem specPlain_AC : ∀ n, Sml n → AC Try.prog 124 [nodeA n] 0 (fun r => r = .bool (plainB n)) := Nd.ind' _ (fun n ih hs => specPlain_step n hs (fun k hk => ih k hk (hs.kid hk)))
end Go.Proofs.Ytgfnmhfdmmnaoaa.Eng
-- EV: fresh
namespace Go.Proofs.Ytgfnmhfdmmnaoaa.Eng
open Go Go.RowKit
attribute [local simp] big size_mk ASt.pay Option.map_map Function.comp_def awant aop acall ado aev ofVal ofVal0 ASt.put ASt.add ASt.turn ASt.kill abox aalloc astore aload aloadD astoreD idOf ASt.at cellsTo afieldAddr afield aindexAddr aindex alen abin aint acmp astr aun apick aextract anil aslice abound abuild afill abuildSlice asCells aps avCells over upd aappend asrc amax amin aconv mkSt slots rowsOf_cons rowsOf_nil usedOf_cons usedOf_nil ZK.av List.replicate ASt.back ASt.addL ASt.killL nodeA nodeT nodeTL_eq nodeL_eq strsE_get strsE_len intsE_get intsE_len strsE_at intsE_at tab2 tab3 tab4 tab5 tab6 tab7 tab8 tab9 tab10 tab11 tab12 tab13 tab14 tab15 tab16 tab17 tab18 tab19 tab21 tab22 tab23 tab24 tab25 tab26 tab27 tab28 tab29 tab30 tab39 tab40 tab41 tab42 tab43 tab47 tab48 tab55 tab56 tab57 tab60 tab61 tab62 tab73 tab74 tab75 tab85 tab92 tab115 tab116 tab143 tab144 tab145 tab154 tab155 tab170 tab175 tab182 tab197 tab198 tab203 tab204 tab205 tab207 tab208 tab209
def ckN (m : Nd) : Option Nd := if validB m then some m else none
set_option maxRecDepth 100000
set_option maxHeartbeats 8000000
theorem checkedF_no (l : Lb) (b : Bool) (h : (b && validB l.nd) = false) : AC Try.prog 72 [.agg [.int .i64 l.kind, .int .i64 l.num, .str l.text, .view (.fr l.nb) 1 (strsE l.names), .view (.fr l.kb) 5 (l.kids.map labL)], .bool b] 0 (fun r => r = .tup [.agg [.int .i64 0, .int .i64 0, .str ⟨#[]⟩, .view .tight 0 [], .view .tight 0 []], .bool false]) := by
  have p1 : AC Try.prog 17 [labA l] 0 (fun r => r = .bool (validB l.nd)) := AC.arg (ValidNode_AC l.nd .loose) (.cons (by rw [nodeT_loose]; exact .agg (labL_wk l)) .nil)
  have hc := lab_clo l
  unfold labA at p1 hc
  rw [labL_eq] at p1 hc
  refine AC.of tab_ok mixed_ok Try.func72 (by rfl) (by kernel_rfl) ?_; rintro ⟨P, T, hT, hm, w0, S0, rd0, k0⟩ hP hTT; dsimp only at hP hTT; subst hP hTT; unfold initSt; rw [Try.ntmps72]
  cases b
  · (repeat (first | with_reducible refine AW.seq ?_ | ((first | refine arun_kn 4 rfl (fun C hC => ?_) | refine arunD_kn 4 rfl (fun C hC => ?_)); (repeat ((conv => whnf); simp)); refine hC _ ?_; clear hC C; simp only [List.drop, Nat.reduceAdd]) | ((first | refine arun_kn 1 rfl (fun C hC => ?_) | refine arunD_kn 1 rfl (fun C hC => ?_)); (repeat ((conv => whnf); simp)); refine hC _ ?_; clear hC C; simp only [List.drop, Nat.reduceAdd]) | (refine arun_skip ?_ ?_; (focus (simp [awant]; done))) | (refine AW.regionK [] (fun K hK => ?_)) | (refine AW.regionDK [] (pcs [] []) (by kernel_rfl) (by kernel_rfl) (fun K hK => ?_)) | (refine AW.condT ?_ ?_; (focus (simp [aev]; done))) | (refine AW.condF ?_ ?_; (focus (simp [aev]; done))) | with_reducible refine AW.block ?_ | ((first | ((first | refine arun_nil ?_ | refine arunD_nil ?_); refine hK _ ?_; clear hK K) | refine AW.skip ?_ | refine AW.exit ?_ | refine AW.ret ?_); simp only [thenA_exit, inBlockA_exit, if_true, if_false, Nat.reduceEqDiff, thenA_normal, inBlockA_normal, reduceIte, thenA_ret, inBlockA_ret, endQ_ret, endR_ret, endG_ret, endQ_normal, endR_normal, endG_normal, endF_ret, endF_normal])))
    exact ⟨.tup [.agg [.int .i64 0, .int .i64 0, .str ⟨#[]⟩, .view .tight 0 [], .view .tight 0 []], .bool false], by simp [ares, aresL, upd, rowsOf_cons], none_end.1, rfl⟩
  · rw [Bool.true_and] at h
    rw [h] at p1
    (repeat (first | with_reducible refine AW.seq ?_ | ((first | refine arun_kn 4 rfl (fun C hC => ?_) | refine arunD_kn 4 rfl (fun C hC => ?_)); (repeat ((conv => whnf); simp)); refine hC _ ?_; clear hC C; simp only [List.drop, Nat.reduceAdd]) | ((first | refine arun_kn 1 rfl (fun C hC => ?_) | refine arunD_kn 1 rfl (fun C hC => ?_)); (repeat ((conv => whnf); simp)); refine hC _ ?_; clear hC C; simp only [List.drop, Nat.reduceAdd]) | (refine arun_skip ?_ ?_; (focus (simp [awant]; done))) | (refine arun_c0 (p1) ?_; rintro _ rfl) | (refine AW.regionK [] (fun K hK => ?_)) | (refine AW.regionDK [] (pcs [] []) (by kernel_rfl) (by kernel_rfl) (fun K hK => ?_)) | (refine AW.condT ?_ ?_; (focus (simp [aev]; done))) | (refine AW.condF ?_ ?_; (focus (simp [aev]; done))) | with_reducible refine AW.block ?_ | ((first | ((first | refine arun_nil ?_ | refine arunD_nil ?_); refine hK _ ?_; clear hK K) | refine AW.skip ?_ | refine AW.exit ?_ | refine AW.ret ?_); simp only [thenA_exit, inBlockA_exit, if_true, if_false, Nat.reduceEqDiff, thenA_normal, inBlockA_normal, reduceIte, thenA_ret, inBlockA_ret, endQ_ret, endR_ret, endG_ret, endQ_normal, endR_normal, endG_normal, endF_ret, endF_normal])))
    exact ⟨.tup [.agg [.int .i64 0, .int .i64 0, .str ⟨#[]⟩, .view .tight 0 [], .view .tight 0 []], .bool false], by simp [ares, aresL, upd, rowsOf_cons], none_end.1, rfl⟩
theorem checkedF_yes (l : Lb) (h : validB l.nd = true) : AC Try.prog 72 [.agg [.int .i64 l.kind, .int .i64 l.num, .str l.text, .view (.fr l.nb) 1 (strsE l.names), .view (.fr l.kb) 5 (l.kids.map labL)], .bool true] 0 (fun r => r = .tup [.agg [.int .i64 l.kind, .int .i64 l.num, .str l.text, .view (.fr l.nb) 1 (strsE l.names), .view (.fr l.kb) 5 (l.kids.map labL)], .bool true]) := by
  have p1 : AC Try.prog 17 [labA l] 0 (fun r => r = .bool (validB l.nd)) := AC.arg (ValidNode_AC l.nd .loose) (.cons (by rw [nodeT_loose]; exact .agg (labL_wk l)) .nil)
  have hc := lab_clo l
  have hp := lab_pur l
  unfold labA at p1 hc hp
  rw [labL_eq] at p1 hc hp
  rw [h] at p1
  refine AC.of tab_ok mixed_ok Try.func72 (by rfl) (by kernel_rfl) ?_; rintro ⟨P, T, hT, hm, w0, S0, rd0, k0⟩ hP hTT; dsimp only at hP hTT; subst hP hTT; unfold initSt; rw [Try.ntmps72]
  (repeat (first | with_reducible refine AW.seq ?_ | ((first | refine arun_kn 4 rfl (fun C hC => ?_) | refine arunD_kn 4 rfl (fun C hC => ?_)); (repeat ((conv => whnf); simp)); refine hC _ ?_; clear hC C; simp only [List.drop, Nat.reduceAdd]) | ((first | refine arun_kn 1 rfl (fun C hC => ?_) | refine arunD_kn 1 rfl (fun C hC => ?_)); (repeat ((conv => whnf); simp)); refine hC _ ?_; clear hC C; simp only [List.drop, Nat.reduceAdd]) | (refine arun_skip ?_ ?_; (focus (simp [awant]; done))) | (refine arun_c0 (p1) ?_; rintro _ rfl) | (refine AW.regionK [] (fun K hK => ?_)) | (refine AW.regionDK [] (pcs [] []) (by kernel_rfl) (by kernel_rfl) (fun K hK => ?_)) | (refine AW.condT ?_ ?_; (focus (simp [aev]; done))) | (refine AW.condF ?_ ?_; (focus (simp [aev]; done))) | with_reducible refine AW.block ?_ | ((first | ((first | refine arun_nil ?_ | refine arunD_nil ?_); refine hK _ ?_; clear hK K) | refine AW.skip ?_ | refine AW.exit ?_ | refine AW.ret ?_); simp only [thenA_exit, inBlockA_exit, if_true, if_false, Nat.reduceEqDiff, thenA_normal, inBlockA_normal, reduceIte, thenA_ret, inBlockA_ret, endQ_ret, endR_ret, endG_ret, endQ_normal, endR_normal, endG_normal, endF_ret, endF_normal])))
  exact ⟨.tup [.agg [.int .i64 l.kind, .int .i64 l.num, .str l.text, .view (.fr l.nb) 1 (strsE l.names), .view (.fr l.kb) 5 (l.kids.map labL)], .bool true], by simp [ares, aresL, upd, rowsOf_cons], tup2_pur hp pur_bool, rfl⟩
theorem specChk (m : Nd) (b : Bool) : AC Try.prog 68 [nodeA m, .bool b] 0 (fun r => r = optA (if b then ckN m else none)) := by
  refine AC.weak ?_
  have p1 := validNode_AC m .loose
  unfold nodeA
  rw [nodeL_eq]
  cases b
  · have e : (if false then ckN m else none) = none := rfl
    refine AC.of tab_ok mixed_ok Try.func68 (by rfl) (by kernel_rfl) ?_; rintro ⟨P, T, hT, hm, w0, S0, rd0, k0⟩ hP hTT; dsimp only at hP hTT; subst hP hTT; unfold initSt; rw [Try.ntmps68]
    (repeat (first | with_reducible refine AW.seq ?_ | ((first | refine arun_kn 4 rfl (fun C hC => ?_) | refine arunD_kn 4 rfl (fun C hC => ?_)); (repeat ((conv => whnf); simp)); refine hC _ ?_; clear hC C; simp only [List.drop, Nat.reduceAdd]) | ((first | refine arun_kn 1 rfl (fun C hC => ?_) | refine arunD_kn 1 rfl (fun C hC => ?_)); (repeat ((conv => whnf); simp)); refine hC _ ?_; clear hC C; simp only [List.drop, Nat.reduceAdd]) | (refine arun_skip ?_ ?_; (focus (simp [awant]; done))) | (refine arun_c0 (p1) ?_; rintro _ rfl) | (refine AW.regionK [] (fun K hK => ?_)) | (refine AW.regionDK [] (pcs [] []) (by kernel_rfl) (by kernel_rfl) (fun K hK => ?_)) | (refine AW.condT ?_ ?_; (focus (simp [aev]; done))) | (refine AW.condF ?_ ?_; (focus (simp [aev]; done))) | with_reducible refine AW.block ?_ | ((first | ((first | refine arun_nil ?_ | refine arunD_nil ?_); refine hK _ ?_; clear hK K) | refine AW.skip ?_ | refine AW.exit ?_ | refine AW.ret ?_); simp only [thenA_exit, inBlockA_exit, if_true, if_false, Nat.reduceEqDiff, thenA_normal, inBlockA_normal, reduceIte, thenA_ret, inBlockA_ret, endQ_ret, endR_ret, endG_ret, endQ_normal, endR_normal, endG_normal, endF_ret, endF_normal])))
    exact ⟨.tup [node0 0 0 ⟨#[]⟩, .bool false], by simp [node0, ares, aresL, upd, rowsOf_cons], none_end.1, _, none_end.2, by rw [e]; rfl⟩
  cases h1 : validB m
  · have e : ckN m = none := by unfold ckN; rw [h1]; rfl
    rw [h1] at p1
    refine AC.of tab_ok mixed_ok Try.func68 (by rfl) (by kernel_rfl) ?_; rintro ⟨P, T, hT, hm, w0, S0, rd0, k0⟩ hP hTT; dsimp only at hP hTT; subst hP hTT; unfold initSt; rw [Try.ntmps68]
    (repeat (first | with_reducible refine AW.seq ?_ | ((first | refine arun_kn 4 rfl (fun C hC => ?_) | refine arunD_kn 4 rfl (fun C hC => ?_)); (repeat ((conv => whnf); simp)); refine hC _ ?_; clear hC C; simp only [List.drop, Nat.reduceAdd]) | ((first | refine arun_kn 1 rfl (fun C hC => ?_) | refine arunD_kn 1 rfl (fun C hC => ?_)); (repeat ((conv => whnf); simp)); refine hC _ ?_; clear hC C; simp only [List.drop, Nat.reduceAdd]) | (refine arun_skip ?_ ?_; (focus (simp [awant]; done))) | (refine arun_c0 (p1) ?_; rintro _ rfl) | (refine AW.regionK [] (fun K hK => ?_)) | (refine AW.regionDK [] (pcs [] []) (by kernel_rfl) (by kernel_rfl) (fun K hK => ?_)) | (refine AW.condT ?_ ?_; (focus (simp [aev]; done))) | (refine AW.condF ?_ ?_; (focus (simp [aev]; done))) | with_reducible refine AW.block ?_ | ((first | ((first | refine arun_nil ?_ | refine arunD_nil ?_); refine hK _ ?_; clear hK K) | refine AW.skip ?_ | refine AW.exit ?_ | refine AW.ret ?_); simp only [thenA_exit, inBlockA_exit, if_true, if_false, Nat.reduceEqDiff, thenA_normal, inBlockA_normal, reduceIte, thenA_ret, inBlockA_ret, endQ_ret, endR_ret, endG_ret, endQ_normal, endR_normal, endG_normal, endF_ret, endF_normal])))
    exact ⟨.tup [node0 0 0 ⟨#[]⟩, .bool false], by simp [node0, ares, aresL, upd, rowsOf_cons], none_end.1, _, none_end.2, by rw [e]; rfl⟩
  · have e : ckN m = some m := by unfold ckN; rw [h1]; rfl
    rw [h1] at p1
    refine AC.of tab_ok mixed_ok Try.func68 (by rfl) (by kernel_rfl) ?_; rintro ⟨P, T, hT, hm, w0, S0, rd0, k0⟩ hP hTT; dsimp only at hP hTT; subst hP hTT; unfold initSt; rw [Try.ntmps68]
    (repeat (first | with_reducible refine AW.seq ?_ | ((first | refine arun_kn 4 rfl (fun C hC => ?_) | refine arunD_kn 4 rfl (fun C hC => ?_)); (repeat ((conv => whnf); simp)); refine hC _ ?_; clear hC C; simp only [List.drop, Nat.reduceAdd]) | ((first | refine arun_kn 1 rfl (fun C hC => ?_) | refine arunD_kn 1 rfl (fun C hC => ?_)); (repeat ((conv => whnf); simp)); refine hC _ ?_; clear hC C; simp only [List.drop, Nat.reduceAdd]) | (refine arun_skip ?_ ?_; (focus (simp [awant]; done))) | (refine arun_c0 (p1) ?_; rintro _ rfl) | (refine AW.regionK [] (fun K hK => ?_)) | (refine AW.regionDK [] (pcs [] []) (by kernel_rfl) (by kernel_rfl) (fun K hK => ?_)) | (refine AW.condT ?_ ?_; (focus (simp [aev]; done))) | (refine AW.condF ?_ ?_; (focus (simp [aev]; done))) | with_reducible refine AW.block ?_ | ((first | ((first | refine arun_nil ?_ | refine arunD_nil ?_); refine hK _ ?_; clear hK K) | refine AW.skip ?_ | refine AW.exit ?_ | refine AW.ret ?_); simp only [thenA_exit, inBlockA_exit, if_true, if_false, Nat.reduceEqDiff, thenA_normal, inBlockA_normal, reduceIte, thenA_ret, inBlockA_ret, endQ_ret, endR_ret, endG_ret, endQ_normal, endR_normal, endG_normal, endF_ret, endF_normal])))
    exact ⟨.tup [nodeA m, .bool true], by simp [ares, aresL, upd, rowsOf_cons], tup2_pur (node_pur m) pur_bool, _, Wk.refl _, by rw [e]; rfl⟩
end Go.Proofs.Ytgfnmhfdmmnaoaa.Eng
namespace Go.Proofs.Ytgfnmhfdmmnaoaa
open Go.RowKit
theorem cntK_eqV (n : Nd) : cntK n = 3 + n.names.length + cntL n.kids := by cases n; simp [cntK]
theorem cntK_good : ∀ n : Nd, Good n → cntK n ≤ 9 * n.count := Nd.ind' _ (fun n ih h => by
  have aux : ∀ l : List Nd, (∀ k ∈ l, Good k ∧ (Good k → cntK k ≤ 9 * k.count)) → cntL l ≤ 9 * countL l := fun l => by
    induction l with
    | nil => intro _; simp [cntL]
    | cons x l ihl =>
      intro hl
      have h1 := (hl x (by simp)).2 (hl x (by simp)).1
      have h2 := ihl (fun k hk => hl k (by simp [hk]))
      rw [cntL, countL]
      omega
  have h1 := aux n.kids (fun k hk => ⟨h.kid hk, ih k hk⟩)
  have h2 := h.len
  have h3 := h.kids6
  rw [cntK_eqV, Nd.count_eq]
  omega)
theorem cntT_valid {n : Nd} (h : validB n = true) : cntT n ≤ 360 := by
  unfold validB at h
  rw [Bool.and_eq_true, decide_eq_true_eq] at h
  have hg : Good n := ⟨5, h.1⟩
  have h1 := cntK_good n hg
  rw [cntK_eqV] at h1
  unfold cntT
  omega
end Go.Proofs.Ytgfnmhfdmmnaoaa
-- EV: fresh
namespace Go.Proofs.Ytgfnmhfdmmnaoaa.Eng
open Go Go.RowKit
attribute [local simp] big size_mk ASt.pay Option.map_map Function.comp_def awant aop acall ado aev ofVal ofVal0 ASt.put ASt.add ASt.turn ASt.kill abox aalloc astore aload aloadD astoreD idOf ASt.at cellsTo afieldAddr afield aindexAddr aindex alen abin aint acmp astr aun apick aextract anil aslice abound abuild afill abuildSlice asCells aps avCells over upd aappend asrc amax amin aconv mkSt slots rowsOf_cons rowsOf_nil usedOf_cons usedOf_nil ZK.av List.replicate ASt.back ASt.addL ASt.killL nodeA nodeT nodeTL_eq nodeL_eq strsE_get strsE_len intsE_get intsE_len strsE_at intsE_at tab2 tab3 tab4 tab5 tab6 tab7 tab8 tab9 tab10 tab11 tab12 tab13 tab14 tab15 tab16 tab17 tab18 tab19 tab21 tab22 tab23 tab24 tab25 tab26 tab27 tab28 tab29 tab30 tab39 tab40 tab41 tab42 tab43 tab47 tab48 tab55 tab56 tab57 tab60 tab61 tab62 tab73 tab74 tab75 tab85 tab92 tab115 tab116 tab143 tab144 tab145 tab154 tab155 tab170 tab175 tab182 tab197 tab198 tab203 tab204 tab205 tab207 tab208 tab209
def pbO (a b : Nd) : Option Nd := if validB a && (validB b && plainB b) then ckN (pb a b) else none
set_option maxRecDepth 100000
set_option maxHeartbeats 8000000
theorem IsPlainV_AC (n : Nd) : AC Try.prog 126 [nodeA n] 0 (fun r => r = .bool (validB n && plainB n)) := by
  have p1 := ValidNode_AC n .loose
  have hcn := node_clo n
  unfold nodeA at hcn ⊢
  rw [nodeL_eq n] at hcn ⊢
  cases h1 : validB n <;> rw [h1] at p1
  · refine AC.of tab_ok mixed_ok Try.func126 (by rfl) (by kernel_rfl) ?_; rintro ⟨P, T, hT, hm, w0, S0, rd0, k0⟩ hP hTT; dsimp only at hP hTT; subst hP hTT; unfold initSt; rw [Try.ntmps126]
    (repeat (first | with_reducible refine AW.seq ?_ | ((first | refine arun_kn 4 rfl (fun C hC => ?_) | refine arunD_kn 4 rfl (fun C hC => ?_)); (repeat ((conv => whnf); simp)); refine hC _ ?_; clear hC C; simp only [List.drop, Nat.reduceAdd]) | ((first | refine arun_kn 1 rfl (fun C hC => ?_) | refine arunD_kn 1 rfl (fun C hC => ?_)); (repeat ((conv => whnf); simp)); refine hC _ ?_; clear hC C; simp only [List.drop, Nat.reduceAdd]) | (refine arun_skip ?_ ?_; (focus (simp [awant]; done))) | (refine arun_c0 (p1) ?_; rintro _ rfl) | (refine AW.regionK [] (fun K hK => ?_)) | (refine AW.regionDK [] (pcs [] []) (by kernel_rfl) (by kernel_rfl) (fun K hK => ?_)) | (refine AW.condT ?_ ?_; (focus (simp [aev]; done))) | (refine AW.condF ?_ ?_; (focus (simp [aev]; done))) | with_reducible refine AW.block ?_ | ((first | ((first | refine arun_nil ?_ | refine arunD_nil ?_); refine hK _ ?_; clear hK K) | refine AW.skip ?_ | refine AW.exit ?_ | refine AW.ret ?_); simp only [thenA_exit, inBlockA_exit, if_true, if_false, Nat.reduceEqDiff, thenA_normal, inBlockA_normal, reduceIte, thenA_ret, inBlockA_ret, endQ_ret, endR_ret, endG_ret, endQ_normal, endR_normal, endG_normal, endF_ret, endF_normal])))
    exact ⟨.bool false, by simp [ares, aresL, upd, rowsOf_cons], pur_bool, rfl⟩
  · have p2 := implPlain_AC n (Shp.of h1).sml
    unfold nodeA at p2
    rw [nodeL_eq n] at p2
    generalize plainB n = c at *
    refine AC.of tab_ok mixed_ok Try.func126 (by rfl) (by kernel_rfl) ?_; rintro ⟨P, T, hT, hm, w0, S0, rd0, k0⟩ hP hTT; dsimp only at hP hTT; subst hP hTT; unfold initSt; rw [Try.ntmps126]
    (repeat (first | with_reducible refine AW.seq ?_ | ((first | refine arun_kn 4 rfl (fun C hC => ?_) | refine arunD_kn 4 rfl (fun C hC => ?_)); (repeat ((conv => whnf); simp)); refine hC _ ?_; clear hC C; simp only [List.drop, Nat.reduceAdd]) | ((first | refine arun_kn 1 rfl (fun C hC => ?_) | refine arunD_kn 1 rfl (fun C hC => ?_)); (repeat ((conv => whnf); simp)); refine hC _ ?_; clear hC C; simp only [List.drop, Nat.reduceAdd]) | (refine arun_skip ?_ ?_; (focus (simp [awant]; done))) | (refine arun_c0 (p1) ?_; rintro _ rfl) | (refine arun_c0 (p2) ?_; rintro _ rfl) | (refine AW.regionK [] (fun K hK => ?_)) | (refine AW.regionDK [] (pcs [] []) (by kernel_rfl) (by kernel_rfl) (fun K hK => ?_)) | (refine AW.condT ?_ ?_; (focus (simp [aev]; done))) | (refine AW.condF ?_ ?_; (focus (simp [aev]; done))) | with_reducible refine AW.block ?_ | ((first | ((first | refine arun_nil ?_ | refine arunD_nil ?_); refine hK _ ?_; clear hK K) | refine AW.skip ?_ | refine AW.exit ?_ | refine AW.ret ?_); simp only [thenA_exit, inBlockA_exit, if_true, if_false, Nat.reduceEqDiff, thenA_normal, inBlockA_normal, reduceIte, thenA_ret, inBlockA_ret, endQ_ret, endR_ret, endG_ret, endQ_normal, endR_normal, endG_normal, endF_ret, endF_normal])))
    exact ⟨.bool c, by simp [ares, aresL, upd, rowsOf_cons], pur_bool, by simp⟩
theorem MergeFor_ACF (a b : Nd) : ACF Try.prog 57 [nodeA a, nodeA b] 0 (rNB ((pbO a b).getD Nd.zero) (pbO a b).isSome) := by
  refine ACF.weak ?_
  have p1 := ValidNode_AC a .loose
  have p2 := IsPlainV_AC b
  have hcn := node_clo a
  have hcp := node_clo b
  unfold nodeA at p2 hcn hcp ⊢
  rw [nodeL_eq a] at hcn ⊢
  rw [nodeL_eq b] at p2 hcp ⊢
  refine ACF.of tab_ok mixed_ok Try.func57 (by rfl) (by kernel_rfl) ?_; rintro ⟨P, T, hT, hm, w0, S0, rd0, k0⟩ hP hTT hN; dsimp only at hP hTT hN; subst hP hTT; dsimp only; unfold initSt; rw [Try.ntmps57]
  cases h1 : validB a <;> rw [h1] at p1
  · have e : pbO a b = none := by unfold pbO; rw [h1]; rfl
    rw [e]
    (repeat (first | with_reducible refine AW.seq ?_ | ((first | refine arun_kn 4 rfl (fun C hC => ?_) | refine arunD_kn 4 rfl (fun C hC => ?_)); (repeat ((conv => whnf); simp)); refine hC _ ?_; clear hC C; simp only [List.drop, Nat.reduceAdd]) | ((first | refine arun_kn 1 rfl (fun C hC => ?_) | refine arunD_kn 1 rfl (fun C hC => ?_)); (repeat ((conv => whnf); simp)); refine hC _ ?_; clear hC C; simp only [List.drop, Nat.reduceAdd]) | (refine arun_skip ?_ ?_; (focus (simp [awant]; done))) | (refine arun_c0 (p1) ?_; rintro _ rfl) | (refine arun_c0 (p2) ?_; rintro _ rfl) | (refine AW.regionK [] (fun K hK => ?_)) | (refine AW.regionDK [] (pcs [] []) (by kernel_rfl) (by kernel_rfl) (fun K hK => ?_)) | (refine AW.condT ?_ ?_; (focus (simp [aev]; done))) | (refine AW.condF ?_ ?_; (focus (simp [aev]; done))) | with_reducible refine AW.block ?_ | ((first | ((first | refine arun_nil ?_ | refine arunD_nil ?_); refine hK _ ?_; clear hK K) | refine AW.skip ?_ | refine AW.exit ?_ | refine AW.ret ?_); simp only [thenA_exit, inBlockA_exit, if_true, if_false, Nat.reduceEqDiff, thenA_normal, inBlockA_normal, reduceIte, thenA_ret, inBlockA_ret, endQ_ret, endR_ret, endG_ret, endQ_normal, endR_normal, endG_normal, endF_ret, endF_normal])))
    obtain ⟨z1, z2, z3⟩ := rNB_none (r := .tup [node0 0 0 ⟨#[]⟩, .bool false]) rfl
    exact ⟨.tup [node0 0 0 ⟨#[]⟩, .bool false], by simp [node0, ares, aresL, upd, rowsOf_cons], z1, z2 _, z3⟩
  cases h2 : validB b && plainB b <;> rw [h2] at p2
  · have e : pbO a b = none := by unfold pbO; rw [h1, h2]; rfl
    rw [e]
    (repeat (first | with_reducible refine AW.seq ?_ | ((first | refine arun_kn 4 rfl (fun C hC => ?_) | refine arunD_kn 4 rfl (fun C hC => ?_)); (repeat ((conv => whnf); simp)); refine hC _ ?_; clear hC C; simp only [List.drop, Nat.reduceAdd]) | ((first | refine arun_kn 1 rfl (fun C hC => ?_) | refine arunD_kn 1 rfl (fun C hC => ?_)); (repeat ((conv => whnf); simp)); refine hC _ ?_; clear hC C; simp only [List.drop, Nat.reduceAdd]) | (refine arun_skip ?_ ?_; (focus (simp [awant]; done))) | (refine arun_c0 (p1) ?_; rintro _ rfl) | (refine arun_c0 (p2) ?_; rintro _ rfl) | (refine AW.regionK [] (fun K hK => ?_)) | (refine AW.regionDK [] (pcs [] []) (by kernel_rfl) (by kernel_rfl) (fun K hK => ?_)) | (refine AW.condT ?_ ?_; (focus (simp [aev]; done))) | (refine AW.condF ?_ ?_; (focus (simp [aev]; done))) | with_reducible refine AW.block ?_ | ((first | ((first | refine arun_nil ?_ | refine arunD_nil ?_); refine hK _ ?_; clear hK K) | refine AW.skip ?_ | refine AW.exit ?_ | refine AW.ret ?_); simp only [thenA_exit, inBlockA_exit, if_true, if_false, Nat.reduceEqDiff, thenA_normal, inBlockA_normal, reduceIte, thenA_ret, inBlockA_ret, endQ_ret, endR_ret, endG_ret, endQ_normal, endR_normal, endG_normal, endF_ret, endF_normal])))
    obtain ⟨z1, z2, z3⟩ := rNB_none (r := .tup [node0 0 0 ⟨#[]⟩, .bool false]) rfl
    exact ⟨.tup [node0 0 0 ⟨#[]⟩, .bool false], by simp [node0, ares, aresL, upd, rowsOf_cons], z1, z2 _, z3⟩
  have e : pbO a b = ckN (pb a b) := by unfold pbO; rw [h1, h2]; rfl
  rw [Bool.and_eq_true] at h2
  have p3 := (patchBetween_ACF a (Shp.of h1) b (Shp.of h2.1)).mono (fun r h => rLab_X h)
  unfold nodeA at p3
  rw [nodeL_eq a, nodeL_eq b] at p3
  rw [e]
  generalize pb a b = m at *
  cases hm : validB m
  · have e : ckN m = none := by unfold ckN; rw [hm]; rfl
    rw [e]
    (repeat (first | with_reducible refine AW.seq ?_ | ((first | refine arun_kn 4 rfl (fun C hC => ?_) | refine arunD_kn 4 rfl (fun C hC => ?_)); (repeat ((conv => whnf); simp)); refine hC _ ?_; clear hC C; simp only [List.drop, Nat.reduceAdd]) | ((first | refine arun_kn 1 rfl (fun C hC => ?_) | refine arunD_kn 1 rfl (fun C hC => ?_)); (repeat ((conv => whnf); simp)); refine hC _ ?_; clear hC C; simp only [List.drop, Nat.reduceAdd]) | (refine arun_skip ?_ ?_; (focus (simp [awant]; done))) | (refine arun_c0 (p1) ?_; rintro _ rfl) | (refine arun_c0 (p2) ?_; rintro _ rfl) | (refine arun_cF (0) (p3) ?_; (rintro _ ⟨l, hl, hlp, rfl⟩ hA)) | (refine arunD_cF (0) (p3) (by refine ⟨_, rfl, ?_⟩; first | exact node_in _ | exact storeA_in _ | exact item_in _ | exact in_int | exact in_bool | exact in_str | (simp [NoId, in_tup, in_agg, in_int, in_bool, in_str, node_in, nodes_in, strs_in]; done)) ?_; (rintro _ ⟨l, hl, hlp, rfl⟩ hA); intro _) | (refine AW.regionK [] (fun K hK => ?_)) | (refine AW.regionDK [] (pcs [] []) (by kernel_rfl) (by kernel_rfl) (fun K hK => ?_)) | (refine AW.condT ?_ ?_; (focus (simp [aev]; done))) | (refine AW.condF ?_ ?_; (focus (simp [aev]; done))) | with_reducible refine AW.block ?_ | ((first | ((first | refine arun_nil ?_ | refine arunD_nil ?_); refine hK _ ?_; clear hK K) | refine AW.skip ?_ | refine AW.exit ?_ | refine AW.ret ?_); simp only [thenA_exit, inBlockA_exit, if_true, if_false, Nat.reduceEqDiff, thenA_normal, inBlockA_normal, reduceIte, thenA_ret, inBlockA_ret, endQ_ret, endR_ret, endG_ret, endQ_normal, endR_normal, endG_normal, endF_ret, endF_normal])))
    have hcl := lab_clo l
    unfold labA at hcl
    rw [labL_eq] at hcl
    have hl' : l.nd = m := hl
    have p4 := checkedF_no l true (by rw [hl', hm]; rfl)
    (repeat (first | with_reducible refine AW.seq ?_ | ((first | refine arun_kn 4 rfl (fun C hC => ?_) | refine arunD_kn 4 rfl (fun C hC => ?_)); (repeat ((conv => whnf); simp)); refine hC _ ?_; clear hC C; simp only [List.drop, Nat.reduceAdd]) | ((first | refine arun_kn 1 rfl (fun C hC => ?_) | refine arunD_kn 1 rfl (fun C hC => ?_)); (repeat ((conv => whnf); simp)); refine hC _ ?_; clear hC C; simp only [List.drop, Nat.reduceAdd]) | (refine arun_skip ?_ ?_; (focus (simp [awant]; done))) | (refine arun_c0 (p4) ?_; rintro _ rfl) | (refine AW.regionK [] (fun K hK => ?_)) | (refine AW.regionDK [] (pcs [] []) (by kernel_rfl) (by kernel_rfl) (fun K hK => ?_)) | (refine AW.condT ?_ ?_; (focus (simp [aev]; done))) | (refine AW.condF ?_ ?_; (focus (simp [aev]; done))) | with_reducible refine AW.block ?_ | ((first | ((first | refine arun_nil ?_ | refine arunD_nil ?_); refine hK _ ?_; clear hK K) | refine AW.skip ?_ | refine AW.exit ?_ | refine AW.ret ?_); simp only [thenA_exit, inBlockA_exit, if_true, if_false, Nat.reduceEqDiff, thenA_normal, inBlockA_normal, reduceIte, thenA_ret, inBlockA_ret, endQ_ret, endR_ret, endG_ret, endQ_normal, endR_normal, endG_normal, endF_ret, endF_normal])))
    obtain ⟨z1, z2, z3⟩ := rNB_none (r := .tup [node0 0 0 ⟨#[]⟩, .bool false]) rfl
    exact ⟨.tup [node0 0 0 ⟨#[]⟩, .bool false], by simp [node0, ares, aresL, upd, rowsOf_cons], z1, z2 _, z3⟩
  · have e : ckN m = some m := by unfold ckN; rw [hm]; rfl
    rw [e]
    (repeat (first | with_reducible refine AW.seq ?_ | ((first | refine arun_kn 4 rfl (fun C hC => ?_) | refine arunD_kn 4 rfl (fun C hC => ?_)); (repeat ((conv => whnf); simp)); refine hC _ ?_; clear hC C; simp only [List.drop, Nat.reduceAdd]) | ((first | refine arun_kn 1 rfl (fun C hC => ?_) | refine arunD_kn 1 rfl (fun C hC => ?_)); (repeat ((conv => whnf); simp)); refine hC _ ?_; clear hC C; simp only [List.drop, Nat.reduceAdd]) | (refine arun_skip ?_ ?_; (focus (simp [awant]; done))) | (refine arun_c0 (p1) ?_; rintro _ rfl) | (refine arun_c0 (p2) ?_; rintro _ rfl) | (refine arun_cF (0) (p3) ?_; (rintro _ ⟨l, hl, hlp, rfl⟩ hA)) | (refine arunD_cF (0) (p3) (by refine ⟨_, rfl, ?_⟩; first | exact node_in _ | exact storeA_in _ | exact item_in _ | exact in_int | exact in_bool | exact in_str | (simp [NoId, in_tup, in_agg, in_int, in_bool, in_str, node_in, nodes_in, strs_in]; done)) ?_; (rintro _ ⟨l, hl, hlp, rfl⟩ hA); intro _) | (refine AW.regionK [] (fun K hK => ?_)) | (refine AW.regionDK [] (pcs [] []) (by kernel_rfl) (by kernel_rfl) (fun K hK => ?_)) | (refine AW.condT ?_ ?_; (focus (simp [aev]; done))) | (refine AW.condF ?_ ?_; (focus (simp [aev]; done))) | with_reducible refine AW.block ?_ | ((first | ((first | refine arun_nil ?_ | refine arunD_nil ?_); refine hK _ ?_; clear hK K) | refine AW.skip ?_ | refine AW.exit ?_ | refine AW.ret ?_); simp only [thenA_exit, inBlockA_exit, if_true, if_false, Nat.reduceEqDiff, thenA_normal, inBlockA_normal, reduceIte, thenA_ret, inBlockA_ret, endQ_ret, endR_ret, endG_ret, endQ_normal, endR_normal, endG_normal, endF_ret, endF_normal])))
    have hcl := lab_clo l
    unfold labA at hcl
    rw [labL_eq] at hcl
    have hl' : l.nd = m := hl
    have p4 := checkedF_yes l (by rw [hl', hm])
    (repeat (first | with_reducible refine AW.seq ?_ | ((first | refine arun_kn 4 rfl (fun C hC => ?_) | refine arunD_kn 4 rfl (fun C hC => ?_)); (repeat ((conv => whnf); simp)); refine hC _ ?_; clear hC C; simp only [List.drop, Nat.reduceAdd]) | ((first | refine arun_kn 1 rfl (fun C hC => ?_) | refine arunD_kn 1 rfl (fun C hC => ?_)); (repeat ((conv => whnf); simp)); refine hC _ ?_; clear hC C; simp only [List.drop, Nat.reduceAdd]) | (refine arun_skip ?_ ?_; (focus (simp [awant]; done))) | (refine arun_c0 (p4) ?_; rintro _ rfl) | (refine AW.regionK [] (fun K hK => ?_)) | (refine AW.regionDK [] (pcs [] []) (by kernel_rfl) (by kernel_rfl) (fun K hK => ?_)) | (refine AW.condT ?_ ?_; (focus (simp [aev]; done))) | (refine AW.condF ?_ ?_; (focus (simp [aev]; done))) | with_reducible refine AW.block ?_ | ((first | ((first | refine arun_nil ?_ | refine arunD_nil ?_); refine hK _ ?_; clear hK K) | refine AW.skip ?_ | refine AW.exit ?_ | refine AW.ret ?_); simp only [thenA_exit, inBlockA_exit, if_true, if_false, Nat.reduceEqDiff, thenA_normal, inBlockA_normal, reduceIte, thenA_ret, inBlockA_ret, endQ_ret, endR_ret, endG_ret, endQ_normal, endR_normal, endG_normal, endF_ret, endF_normal])))
    have hA' : ∀ b ∈ l.fp, ¬ w0.A b := fun b hb => hA b (by rw [at_agg, ← labL_eq]; exact hb)
    exact ⟨.tup [labA l, .bool true], by simp [labA, labL_eq, ares, aresL, upd, rowsOf_cons], tup2_pur (lab_pur l) pur_bool, fun b hb => by rw [at_tup2] at hb; exact hN.ge (hA' b hb), _, Wk.refl _, fun _ h => h, l, hl', hlp, rfl⟩
theorem specMergeFor_AC (a b : Nd) : AC Try.prog 56 [nodeA a, nodeA b] 0 (fun r => r = optA (pbO a b)) := by
  refine AC.weak ?_
  have p1 := validNode_AC a .loose
  have p2 := validNode_AC b .loose
  have hcn := node_clo a
  have hcp := node_clo b
  unfold nodeA at hcn hcp ⊢
  rw [nodeL_eq a] at hcn ⊢
  rw [nodeL_eq b] at hcp ⊢
  cases h1 : validB a <;> rw [h1] at p1
  · have e : pbO a b = none := by unfold pbO; rw [h1]; rfl
    refine AC.of tab_ok mixed_ok Try.func56 (by rfl) (by kernel_rfl) ?_; rintro ⟨P, T, hT, hm, w0, S0, rd0, k0⟩ hP hTT; dsimp only at hP hTT; subst hP hTT; unfold initSt; rw [Try.ntmps56]
    (repeat (first | with_reducible refine AW.seq ?_ | ((first | refine arun_kn 4 rfl (fun C hC => ?_) | refine arunD_kn 4 rfl (fun C hC => ?_)); (repeat ((conv => whnf); simp)); refine hC _ ?_; clear hC C; simp only [List.drop, Nat.reduceAdd]) | ((first | refine arun_kn 1 rfl (fun C hC => ?_) | refine arunD_kn 1 rfl (fun C hC => ?_)); (repeat ((conv => whnf); simp)); refine hC _ ?_; clear hC C; simp only [List.drop, Nat.reduceAdd]) | (refine arun_skip ?_ ?_; (focus (simp [awant]; done))) | (refine arun_c0 (p1) ?_; rintro _ rfl) | (refine arun_c0 (p2) ?_; rintro _ rfl) | (refine AW.regionK [] (fun K hK => ?_)) | (refine AW.regionDK [] (pcs [] []) (by kernel_rfl) (by kernel_rfl) (fun K hK => ?_)) | (refine AW.condT ?_ ?_; (focus (simp [aev]; done))) | (refine AW.condF ?_ ?_; (focus (simp [aev]; done))) | with_reducible refine AW.block ?_ | ((first | ((first | refine arun_nil ?_ | refine arunD_nil ?_); refine hK _ ?_; clear hK K) | refine AW.skip ?_ | refine AW.exit ?_ | refine AW.ret ?_); simp only [thenA_exit, inBlockA_exit, if_true, if_false, Nat.reduceEqDiff, thenA_normal, inBlockA_normal, reduceIte, thenA_ret, inBlockA_ret, endQ_ret, endR_ret, endG_ret, endQ_normal, endR_normal, endG_normal, endF_ret, endF_normal])))
    exact ⟨.tup [node0 0 0 ⟨#[]⟩, .bool false], by simp [node0, ares, aresL, upd, rowsOf_cons], none_end.1, _, none_end.2, by rw [e]; rfl⟩
  cases h2 : validB b <;> rw [h2] at p2
  · have e : pbO a b = none := by unfold pbO; rw [h1, h2]; rfl
    refine AC.of tab_ok mixed_ok Try.func56 (by rfl) (by kernel_rfl) ?_; rintro ⟨P, T, hT, hm, w0, S0, rd0, k0⟩ hP hTT; dsimp only at hP hTT; subst hP hTT; unfold initSt; rw [Try.ntmps56]
    (repeat (first | with_reducible refine AW.seq ?_ | ((first | refine arun_kn 4 rfl (fun C hC => ?_) | refine arunD_kn 4 rfl (fun C hC => ?_)); (repeat ((conv => whnf); simp)); refine hC _ ?_; clear hC C; simp only [List.drop, Nat.reduceAdd]) | ((first | refine arun_kn 1 rfl (fun C hC => ?_) | refine arunD_kn 1 rfl (fun C hC => ?_)); (repeat ((conv => whnf); simp)); refine hC _ ?_; clear hC C; simp only [List.drop, Nat.reduceAdd]) | (refine arun_skip ?_ ?_; (focus (simp [awant]; done))) | (refine arun_c0 (p1) ?_; rintro _ rfl) | (refine arun_c0 (p2) ?_; rintro _ rfl) | (refine AW.regionK [] (fun K hK => ?_)) | (refine AW.regionDK [] (pcs [] []) (by kernel_rfl) (by kernel_rfl) (fun K hK => ?_)) | (refine AW.condT ?_ ?_; (focus (simp [aev]; done))) | (refine AW.condF ?_ ?_; (focus (simp [aev]; done))) | with_reducible refine AW.block ?_ | ((first | ((first | refine arun_nil ?_ | refine arunD_nil ?_); refine hK _ ?_; clear hK K) | refine AW.skip ?_ | refine AW.exit ?_ | refine AW.ret ?_); simp only [thenA_exit, inBlockA_exit, if_true, if_false, Nat.reduceEqDiff, thenA_normal, inBlockA_normal, reduceIte, thenA_ret, inBlockA_ret, endQ_ret, endR_ret, endG_ret, endQ_normal, endR_normal, endG_normal, endF_ret, endF_normal])))
    exact ⟨.tup [node0 0 0 ⟨#[]⟩, .bool false], by simp [node0, ares, aresL, upd, rowsOf_cons], none_end.1, _, none_end.2, by rw [e]; rfl⟩
  have p3 := specPlain_AC b (Shp.of h2).sml
  unfold nodeA at p3
  rw [nodeL_eq b] at p3
  cases h3 : plainB b <;> rw [h3] at p3
  · have e : pbO a b = none := by unfold pbO; rw [h1, h2, h3]; rfl
    refine AC.of tab_ok mixed_ok Try.func56 (by rfl) (by kernel_rfl) ?_; rintro ⟨P, T, hT, hm, w0, S0, rd0, k0⟩ hP hTT; dsimp only at hP hTT; subst hP hTT; unfold initSt; rw [Try.ntmps56]
    (repeat (first | with_reducible refine AW.seq ?_ | ((first | refine arun_kn 4 rfl (fun C hC => ?_) | refine arunD_kn 4 rfl (fun C hC => ?_)); (repeat ((conv => whnf); simp)); refine hC _ ?_; clear hC C; simp only [List.drop, Nat.reduceAdd]) | ((first | refine arun_kn 1 rfl (fun C hC => ?_) | refine arunD_kn 1 rfl (fun C hC => ?_)); (repeat ((conv => whnf); simp)); refine hC _ ?_; clear hC C; simp only [List.drop, Nat.reduceAdd]) | (refine arun_skip ?_ ?_; (focus (simp [awant]; done))) | (refine arun_c0 (p1) ?_; rintro _ rfl) | (refine arun_c0 (p2) ?_; rintro _ rfl) | (refine arun_c0 (p3) ?_; rintro _ rfl) | (refine AW.regionK [] (fun K hK => ?_)) | (refine AW.regionDK [] (pcs [] []) (by kernel_rfl) (by kernel_rfl) (fun K hK => ?_)) | (refine AW.condT ?_ ?_; (focus (simp [aev]; done))) | (refine AW.condF ?_ ?_; (focus (simp [aev]; done))) | with_reducible refine AW.block ?_ | ((first | ((first | refine arun_nil ?_ | refine arunD_nil ?_); refine hK _ ?_; clear hK K) | refine AW.skip ?_ | refine AW.exit ?_ | refine AW.ret ?_); simp only [thenA_exit, inBlockA_exit, if_true, if_false, Nat.reduceEqDiff, thenA_normal, inBlockA_normal, reduceIte, thenA_ret, inBlockA_ret, endQ_ret, endR_ret, endG_ret, endQ_normal, endR_normal, endG_normal, endF_ret, endF_normal])))
    exact ⟨.tup [node0 0 0 ⟨#[]⟩, .bool false], by simp [node0, ares, aresL, upd, rowsOf_cons], none_end.1, _, none_end.2, by rw [e]; rfl⟩
  have e : pbO a b = ckN (pb a b) := by unfold pbO; rw [h1, h2, h3]; rfl
  have p4 := mergeFor_AC a (Shp.of h1) b (Shp.of h2)
  have p5 := specChk (pb a b) true
  have e2 : (if true then ckN (pb a b) else none) = pbO a b := by rw [e]; rfl
  rw [e2, optA_eq (pbO a b)] at p5
  generalize pbO a b = o at *
  generalize pb a b = m at *
  have hcm := node_clo m
  unfold nodeA at p4 p5 hcm
  rw [nodeL_eq a, nodeL_eq b, nodeL_eq m] at p4
  rw [nodeL_eq m] at p5 hcm
  refine AC.of tab_ok mixed_ok Try.func56 (by rfl) (by kernel_rfl) ?_; rintro ⟨P, T, hT, hm, w0, S0, rd0, k0⟩ hP hTT; dsimp only at hP hTT; subst hP hTT; unfold initSt; rw [Try.ntmps56]
  (repeat (first | with_reducible refine AW.seq ?_ | ((first | refine arun_kn 4 rfl (fun C hC => ?_) | refine arunD_kn 4 rfl (fun C hC => ?_)); (repeat ((conv => whnf); simp [optL])); refine hC _ ?_; clear hC C; simp only [List.drop, Nat.reduceAdd]) | ((first | refine arun_kn 1 rfl (fun C hC => ?_) | refine arunD_kn 1 rfl (fun C hC => ?_)); (repeat ((conv => whnf); simp [optL])); refine hC _ ?_; clear hC C; simp only [List.drop, Nat.reduceAdd]) | (refine arun_skip ?_ ?_; (focus (simp [awant, optL]; done))) | (refine arun_c0 (p1) ?_; rintro _ rfl) | (refine arun_c0 (p2) ?_; rintro _ rfl) | (refine arun_c0 (p3) ?_; rintro _ rfl) | (refine arun_c0 (p4) ?_; rintro _ rfl) | (refine arun_c0 (p5) ?_; rintro _ rfl) | (refine AW.regionK [] (fun K hK => ?_)) | (refine AW.regionDK [] (pcs [] []) (by kernel_rfl) (by kernel_rfl) (fun K hK => ?_)) | (refine AW.condT ?_ ?_; (focus (simp [aev, optL]; done))) | (refine AW.condF ?_ ?_; (focus (simp [aev, optL]; done))) | with_reducible refine AW.block ?_ | ((first | ((first | refine arun_nil ?_ | refine arunD_nil ?_); refine hK _ ?_; clear hK K) | refine AW.skip ?_ | refine AW.exit ?_ | refine AW.ret ?_); simp only [thenA_exit, inBlockA_exit, if_true, if_false, Nat.reduceEqDiff, thenA_normal, inBlockA_normal, reduceIte, thenA_ret, inBlockA_ret, endQ_ret, endR_ret, endG_ret, endQ_normal, endR_normal, endG_normal, endF_ret, endF_normal])))
  exact ⟨optA o, by rw [optA_eq]; simp [optL, ares, aresL, upd, rowsOf_cons], optA_pur _, _, Wk.refl _, rfl⟩
end Go.Proofs.Ytgfnmhfdmmnaoaa.Eng
namespace Go.Proofs.Ytgfnmhfdmmnaoaa
open Go.RowKit
def pbN (n p : Nd) : Nd := (Eng.pbO n p).getD Nd.zero
def pbBo (n p : Nd) : Bool := (Eng.pbO n p).isSome
theorem implMergeFor_ok (n p : Nd) (v u : Value) (w : World) (h : RV nodeRep packA w any n v) (k : RV nodeRep packA w any p u) :
    Calls Try.prog 57 #[v, u] w fun e w' => ∃ r fp, e = .returned (.tuple #[r, .bool (pbBo n p)]) ∧ Grow w w' ∧ FV nodeRep packA w' (pbN n p) r fp ∧ Free w.heap.size w' fp :=
  Eng.acf_nb (Eng.MergeFor_ACF n p) w [v, u] (Eng.args2 (Eng.arg_node h) (Eng.arg_node k))
theorem specMergeFor_hcon (n p : Nd) : Eng.AC Try.prog 56 [Eng.nodeA n, Eng.nodeA p] 0 (fun r => r = .tup [Eng.nodeA (pbN n p), .bool (pbBo n p)]) := Eng.specMergeFor_AC n p
theorem implMergeFor_hcon (n p : Nd) : Eng.AC Try.prog 57 [Eng.nodeA n, Eng.nodeA p] 0 (fun r => r = .tup [Eng.nodeA (pbN n p), .bool (pbBo n p)]) := Eng.ac_of_nb (Eng.MergeFor_ACF n p)
theorem pbN_cnt (n p : Nd) : cntT (pbN n p) ≤ 360 := by
  unfold pbN
  cases h : Eng.pbO n p with
  | none => simp only [Option.getD_none]; rw [cntT_zero]; omega
  | some r =>
    simp only [Option.getD_some]
    unfold Eng.pbO at h
    split at h
    · unfold Eng.ckN at h
      split at h
      · cases h; exact cntT_valid (by assumption)
      · cases h
    · cases h
end Go.Proofs.Ytgfnmhfdmmnaoaa
namespace Go.Proofs.Ytgfnmhfdmmnaoaa.Eng
open Go Go.RowKit
def onlyN (R : Act → World → Prop) : Exit → Act → World → Prop
  | .normal, a, w => R a w
  | _, _, _ => False
theorem lets_onlyN {R : Act → World → Prop} (h : LetsOut (onlyN R)) : False := by
  obtain ⟨_, _, h⟩ := h
  exact h
def Keeps (ops : Array Oper) (a0 a : Act) : Prop := a.tmps.size = a0.tmps.size ∧ ∀ t, (∀ (i : Nat) o, ops[i]? = some o → o.dst ≠ some t) → a.tmps[t]? = a0.tmps[t]?
theorem keeps_put {ops : Array Oper} {a0 a : Act} {i : Nat} {o : Oper} {v : Value} (h : Keeps ops a0 a) (ho : ops[i]? = some o) : Keeps ops a0 (a.put o.dst v) := by
  unfold Act.put
  split
  · rename_i d hd
    refine ⟨by simp [h.1], fun t ht => ?_⟩
    have hne : d ≠ t := fun e => ht i o ho (by rw [hd, e])
    simp only [Array.getElem?_setIfInBounds_ne hne]
    exact h.2 t ht
  · exact h
section
variable {P : Program} {ops : Array Oper} {R R' : Act → World → Prop} {a0 : Act}
theorem wp_keeps {o : Oper} {i : Nat} {a : Act} {w : World} {K : Act → World → Prop} (ho : ops[i]? = some o) (hk : Keeps ops a0 a) (h : o.wp P a w K (onlyN R)) : o.wp P a w (fun a' w' => K a' w' ∧ Keeps ops a0 a') (onlyN R') := by
  unfold Oper.wp at *
  generalize (execOp a.eval o).run P w = r at *
  cases r with
  | ok n w' =>
    cases n <;> simp only [Oper.upon] at h ⊢
    case value v => exact ⟨h, keeps_put hk ho⟩
    case skip => exact ⟨h, keeps_put hk ho⟩
    case defer d => exact ⟨h, keeps_put (a := { a with defers := d :: a.defers }) hk ho⟩
    case enter f args =>
      refine Calls.mono h (fun e w'' he => ?_)
      cases e with
      | returned v => exact ⟨he, keeps_put hk ho⟩
      | panicked c => exact he.elim
      | outgrown => exact (lets_onlyN he).elim
    case row r args => exact Rows.mono h (fun v w'' he => ⟨he, keeps_put hk ho⟩)
    all_goals exact h
  | halt x w' => cases x <;> simp only [Oper.upon] at h ⊢ <;> exact h
theorem wpOp_keeps {i : Nat} {a : Act} {w : World} {K : Act → World → Prop} (hk : Keeps ops a0 a) (h : wpOp P ops (onlyN R) i K a w) : wpOp P ops (onlyN R') i (fun a' w' => K a' w' ∧ Keeps ops a0 a') a w := by
  unfold wpOp at *
  cases ho : ops[i]? with
  | none => simp only [ho] at h ⊢; exact ⟨h, hk⟩
  | some o =>
    simp only [ho] at h ⊢
    split
    · rename_i hw
      simp only [hw, if_true] at h
      rcases h with h | ⟨_, h⟩
      · exact .inl (wp_keeps ho hk h)
      · exact (lets_onlyN h).elim
    · rename_i hw
      simp only [hw] at h
      exact ⟨h, keeps_put hk ho⟩
theorem wpAny_keeps {md : Region.Mode} : ∀ (fuel : Nat) (listed : Array Bool) (a : Act) (w : World), wpAny P md ops (onlyN R) fuel listed a w → Keeps ops a0 a → wpAny P md ops (onlyN (fun a' w' => R a' w' ∧ Keeps ops a0 a')) fuel listed a w
  | 0, _, _, _, h, hk => ⟨h.1, h.2, hk⟩
  | fuel + 1, listed, a, w, h, hk => ⟨fun h0 => ⟨h.1 h0, hk⟩, fun i hi => wpOp_mono (fun a' w' h' => wpAny_keeps fuel _ a' w' h'.1 h'.2) (wpOp_keeps hk (h.2 i hi))⟩
end
section
variable {P : Program} {T : Tab} {md : List Nat} {pc : Pc} {S : Nat → Prop}
theorem region_world (hT : Tab.Ok P T) (hm : P.follows .mixedOrders = true) {id : Nat} {l : List Oper} {K : ASt → Prop} {Q : Exit → Act → World → Prop} (hB : Region.lexB .any l.toArray = true) (hcmp : cmpL md pc.2 l.toArray = true)
    {w : World} {a : Act} {s : ASt} {ρ : Cx} (h : SR P (W0.of w) S none 0 w a s ρ) (hr : arunD P T md (W0.of w).A pc l.toArray K l 0 s)
    (hQ : ∀ s' w' a' ρ', SR P (W0.of w) S none 0 w' a' s' ρ' → K s' → Keeps l.toArray a a' → Q .normal a' w') : (Code.region id l.toArray true).wp P Q a w := by
  simp only [Region.lexB, Bool.and_eq_true] at hB
  obtain ⟨h1, _⟩ := h.grow ((Ext.refl nil w).drew)
  have h2 := aAny_lex (P := P) (T := T) (md := md) (pc := pc) (ops := l.toArray) (K := K) (Av := (W0.of w).A) hcmp l 0 (Array.replicate l.toArray.size false) s (by simp) (by simpa using hB.2) (fun i o _ hl => by simp [Array.getElem?_replicate] at hl; split at hl <;> simp at hl) h1.inv hr
  have h3 : aAny P T md (W0.of w).A pc l.toArray K l.toArray.size (Array.replicate l.toArray.size false) s := by simpa using h2
  have h4 := wpAny_of_aAny (P := P) (T := T) (md := md) (pc := pc) (ops := l.toArray) (K := K) (Av := (W0.of w).A) hT (fun _ h => h) (Q := onlyN (fun a' w' => ∃ s' ρ', SR P (W0.of w) S none 0 w' a' s' ρ' ∧ K s')) (fun s' w' a' ρ' hs hk => ⟨s', ρ', hs, hk⟩) _ _ s _ a ρ h1 h3
  refine wp_mono (wp_region_any hm (wpAny_keeps (a0 := a) _ _ _ _ h4 ⟨rfl, fun _ _ => rfl⟩)) ?_
  intro e a' w' h5
  cases e with
  | normal =>
    obtain ⟨⟨s', ρ', h6, h7⟩, h8⟩ := h5
    exact hQ s' w' a' ρ' h6 h7 h8
  | _ => exact h5.elim
theorem region_worldK (hT : Tab.Ok P T) (hm : P.follows .mixedOrders = true) (md : List Nat) (pc : Pc) {id : Nat} {l : List Oper} (K : ASt → Prop) {Q : Exit → Act → World → Prop} (hB : Region.lexB .any l.toArray = true) (hcmp : cmpL md pc.2 l.toArray = true)
    {w : World} {a : Act} {s : ASt} {ρ : Cx} (h : SR P (W0.of w) S none 0 w a s ρ) (hr : ∀ K' : ASt → Prop, (∀ s', K s' → K' s') → ARunD P T md (W0.of w).A pc l.toArray K' l 0 s)
    (hQ : ∀ s' w' a' ρ', SR P (W0.of w) S none 0 w' a' s' ρ' → K s' → Keeps l.toArray a a' → Q .normal a' w') : (Code.region id l.toArray true).wp P Q a w :=
  region_world hT hm hB hcmp h (hr K (fun _ h => h)).out hQ
def midSt (cs : List AV) : ASt := { tmps := cs, rows := fun _ => none, used := fun id => decide (1000 ≤ id), rd := none }
theorem mid_SR {w : World} {a : Act} {cs : List AV} (hd : a.defers = []) (h : RepL w (pureC nil (fun b => b < w.heap.size) none) cs a.tmps.toList) : SR P (W0.of w) (fun b => b < w.heap.size) none 0 w a (midSt cs) (initC nil (fun b => b < w.heap.size) none) := by
  have h : RepL w (initC nil (fun b => b < w.heap.size) none) cs a.tmps.toList := RepL.le (ρ := pureC nil (fun b => b < w.heap.size) none) (ρ' := initC nil (fun b => b < w.heap.size) none) ⟨fun _ h => ⟨h, fun _ => rfl⟩, fun _ h => ⟨h, fun _ => rfl⟩, fun _ h => False.elim h, fun _ h => h⟩ h
  exact ⟨h, hd, Ext.refl _ _, fun _ h => h, fun b hb => ⟨hb, .inl hb⟩, fun id => by simp [midSt, initC], (fun id r h => by simp [midSt] at h), fun _ _ => rfl, (fun _ _ _ _ _ h => by cases h), (fun _ _ _ h => by cases h), (fun _ h => by cases h), (fun _ h => by cases h), fun _ => rfl, (fun _ h => by cases h), (fun _ h => h.elim), (fun _ _ h => by cases h), fun id hid => by simp [midSt, hid], fun _ h => h⟩
end
theorem repL_slots {w : World} {ρ : Cx} : ∀ (n k : Nat) (L : List (Nat × AV)) (vs : List Value), vs.length = n → L.Pairwise (fun p q => p.1 < q.1) → (∀ p ∈ L, k ≤ p.1 ∧ ∃ v, vs[p.1 - k]? = some v ∧ Rep w ρ p.2 v) → RepL w ρ (slots k n L) vs
  | 0, k, L, vs, hl, _, _ => by
    rw [List.length_eq_zero_iff.1 hl, slots]; unfold RepL; rfl
  | n + 1, k, [], v :: vs, hl, _, _ => by
    rw [slots]; unfold RepL
    exact ⟨v, vs, rfl, rep_any _, repL_slots n (k + 1) [] vs (by simpa using hl) .nil (fun p hp => by cases hp)⟩
  | n + 1, k, (t, c) :: l, v :: vs, hl, hp, h => by
    rw [List.pairwise_cons] at hp
    have h0 := h (t, c) (by simp)
    have tail : ∀ L' : List (Nat × AV), (∀ p ∈ L', p ∈ (t, c) :: l ∧ k < p.1) → ∀ p ∈ L', k + 1 ≤ p.1 ∧ ∃ v, vs[p.1 - (k + 1)]? = some v ∧ Rep w ρ p.2 v := fun L' hL p hpm => by
      obtain ⟨q1, q2⟩ := hL p hpm
      obtain ⟨_, u, q3, q4⟩ := h p q1
      refine ⟨q2, u, ?_, q4⟩
      rw [show p.1 - k = (p.1 - (k + 1)) + 1 by omega, List.getElem?_cons_succ] at q3
      exact q3
    rw [slots]
    split
    · rename_i ht
      subst ht
      unfold RepL
      obtain ⟨_, u, q3, q4⟩ := h0
      rw [Nat.sub_self, List.getElem?_cons_zero] at q3
      cases q3
      exact ⟨v, vs, rfl, q4, repL_slots n (t + 1) l vs (by simpa using hl) hp.2 (tail l (fun p hpm => ⟨by simp [hpm], hp.1 p hpm⟩))⟩
    · rename_i ht
      have hkt : k < t := by have := h0.1; dsimp only at this; omega
      unfold RepL
      refine ⟨v, vs, rfl, rep_any _, repL_slots n (k + 1) ((t, c) :: l) vs (by simpa using hl) (List.pairwise_cons.2 hp) (tail _ (fun p hpm => ⟨hpm, ?_⟩))⟩
      rcases List.mem_cons.1 hpm with rfl | hpm
      · exact hkt
      · have := hp.1 p hpm; dsimp only at this; omega
  | n + 1, k, L, [], hl, _, _ => by simp at hl
def dstsIn (D : List Nat) (ops : Array Oper) : Bool := ops.toList.all fun o => match o.dst with | some d => D.contains d | none => true
def laidOver (f : Nat → Value) (D : List Nat) (A : Array Value) : Array Value := D.foldl (fun acc t => acc.setIfInBounds t (f t)) A
theorem laidOver_size (f : Nat → Value) : ∀ (D : List Nat) (A : Array Value), (laidOver f D A).size = A.size
  | [], A => rfl
  | t :: D, A => by unfold laidOver; rw [List.foldl_cons]; have := laidOver_size f D (A.setIfInBounds t (f t)); unfold laidOver at this; rw [this]; simp
theorem laidOver_get (f : Nat → Value) : ∀ (D : List Nat) (A : Array Value) (t : Nat), t < A.size → (laidOver f D A)[t]? = if t ∈ D then some (f t) else A[t]?
  | [], A, t, _ => by simp [laidOver]
  | d :: D, A, t, h => by
    have ih := laidOver_get f D (A.setIfInBounds d (f d)) t (by simpa using h)
    unfold laidOver at ih ⊢
    rw [List.foldl_cons, ih]
    by_cases h1 : t ∈ D
    · simp [h1]
    · rw [if_neg h1]
      by_cases h2 : d = t
      · subst h2; simp [h]
      · rw [Array.getElem?_setIfInBounds_ne h2, if_neg (by simp [h1]; exact fun e => h2 e.symm)]
theorem keeps_lit {ops : Array Oper} {a0 a : Act} (h : Keeps ops a0 a) (D : List Nat) (hD : dstsIn D ops = true) : ∃ f : Nat → Value, a.tmps = laidOver f D a0.tmps ∧ ∀ t v, a.tmps[t]? = some v → f t = v := by
  refine ⟨fun t => (a.tmps[t]?).getD undef, ?_, fun t v hv => by simp [hv]⟩
  apply Array.ext_getElem?
  intro t
  rcases Nat.lt_or_ge t a0.tmps.size with ht | ht
  · rw [laidOver_get _ D _ t ht]
    split
    · rw [Array.getElem?_eq_getElem (by rw [h.1]; exact ht)]; rfl
    · rename_i hn
      refine h.2 t (fun i o ho hd => hn ?_)
      unfold dstsIn at hD
      rw [List.all_eq_true] at hD
      have := hD o (by rw [← Array.getElem?_toList] at ho; exact List.mem_of_getElem? ho)
      rw [hd] at this
      simpa using this
  · rw [Array.getElem?_eq_none (by rw [h.1]; exact ht), Array.getElem?_eq_none (by rw [laidOver_size]; exact ht)]
theorem box_of_row {P : Program} {w0 : W0} {S0 : Nat → Prop} {rd0 : Option Nat} {k0 : Nat} {w : World} {a : Act} {s : ASt} {ρ : Cx} (h : SR P w0 S0 rd0 k0 w a s ρ) {t id sz : Nat} {cs : List AV} {r : Row} (ht : s.tmps[t]? = some (.ptr true sz 1 id 0 0)) (hr : s.rows id = some r) (hb : r.es = [cs]) :
    ∃ g xs, a.tmps[t]? = some (.pointer (some ⟨g, 0, none⟩)) ∧ BoxN w g xs ∧ RepL w ρ cs xs ∧ ∀ x ∈ xs, x.oneCell' = true := by
  obtain ⟨_, u, hu, hln, ⟨_, _⟩, hsz, _, xs, hat, hrep, hone⟩ := h.rw id r hr
  obtain ⟨v, hv, hrv⟩ := h.tm.get ht
  have hl1 : r.es.length = 1 := by rw [hb]; rfl
  rw [hl1] at hat hln
  rcases hat with ⟨h0, _⟩ | ⟨g, cap, cur, rfl, hp, _, hg, hn, hcap, hcs, htk, hxl⟩
  · cases h0
  obtain ⟨_, _, _, q⟩ := rep_ptr.1 hrv
  obtain ⟨b, n, c, e1, e2⟩ := q _ hu hln.symm
  cases e1
  rw [hb, List.flatten_cons, List.flatten_nil, List.append_nil] at hrep
  refine ⟨g, xs, ?_, ⟨fun i x hx => ?_, fun o => ?_, (Array.getElem?_eq_some_iff.1 hg).1⟩, hrep, hone⟩
  · rw [← Array.getElem?_toList, hv, e2]
    simp
  · have hi : i < xs.length := (List.getElem?_eq_some_iff.1 hx).1
    have hc : cur[i]? = some x := by
      rw [← Array.getElem?_toList]
      rw [← htk, List.getElem?_take] at hx
      split at hx
      · exact hx
      · cases hx
    unfold World.cell?
    rw [hg]
    simpa using hc
  · unfold World.frozen?
    rw [hg]
    simp
theorem repC_of_box {w : World} {ρ : Cx} {b : Nat} : ∀ {cs : List AV} {xs : List Value} {o : Nat}, (∀ i v, xs[i]? = some v → w.cell? ⟨b, o + i, none⟩ = some v) → RepL w ρ cs xs → (∀ x ∈ xs, x.oneCell' = true) → RepC w ρ b o cs
  | [], _, _, _, _, _ => by unfold RepC; trivial
  | c :: cs, xs, o, h, hr, h1 => by
    unfold RepL at hr
    obtain ⟨v, vs, rfl, h2, h3⟩ := hr
    unfold RepC
    exact ⟨⟨v, h 0 v rfl, h1 v (by simp), h2⟩, repC_of_box (fun i u hu => by have := h (i + 1) u hu; rwa [show o + (i + 1) = o + 1 + i by omega] at this) h3 (fun x hx => h1 x (by simp [hx]))⟩
theorem eptr_of_box {w : World} {ρ : Cx} {b : Nat} {cs : List AV} {xs : List Value} (h : BoxN w b xs) (hS : ρ.S b) (hr : RepL w ρ cs xs) (h1 : ∀ x ∈ xs, x.oneCell' = true) : Rep w ρ (.eptr .loose cs) (.pointer (some ⟨b, 0, none⟩)) :=
  rep_eptr.2 ⟨b, 0, rfl, hS, repC_of_box (fun i v hv => by rw [Nat.zero_add]; exact h.cell i v hv) hr h1⟩
end Go.Proofs.Ytgfnmhfdmmnaoaa.Eng
namespace Go.Proofs.Ytgfnmhfdmmnaoaa.Eng
open Go Go.RowKit
theorem AC.ofMade {P : Program} {f : FuncId} {args : List AV} {Post : AV → Prop} (he : Enters P f)
    (h : ∀ w L S rb vs, RepL w (pureC L S rb) args vs → Calls P f vs.toArray w fun e w' => ∃ v fp r, e = .returned v ∧ Grow w w' ∧ Free w.heap.size w' fp ∧ Rep w' (pureC nil (fun b => b ∈ fp) none) r v ∧ Post r) : AC P f args 0 Post := by
  refine ⟨he, fun w L S rb k vs _ hS hr hargs => (h w L S rb vs hargs).mono ?_⟩
  rintro e w' ⟨v, fp, r, rfl, hg, hf, h1, h2⟩
  refine ⟨v, r, fun b => S b ∨ b ∈ fp, rfl, hg.mono (fun _ h => h.elim), fun _ h => .inl h, fun b hb => hb.imp id (fun hb => ⟨(hf.2 b hb).1, (hf.2 b hb).2.1⟩), fun b hb => ((hr b hb).2.moved hg (fun h => h) (fun b hb => ⟨.inl hb, fun h => h⟩)).less (by omega), ?_, h2⟩
  exact Rep.le (ρ := pureC nil (fun b => b ∈ fp) none) (ρ' := pureC nil (fun b => S b ∨ b ∈ fp) none) ⟨fun _ h => ⟨.inr h, fun _ => rfl⟩, fun _ h => ⟨h, fun _ => rfl⟩, fun _ h => False.elim h, fun _ h => h⟩ h1
theorem toNode_AC (n : Nd) (hc : costN n ≤ 1048576) : AC Try.prog 32 [nodeA n] 0 (fun r => r = nodeA n) := by
  refine AC.ofMade (enters_of Try.func32 (by kernel_rfl) (by kernel_rfl)) (fun w L S rb vs h => ?_)
  unfold RepL at h
  obtain ⟨v, vs', rfl, hv, h⟩ := h
  unfold RepL at h
  subst h
  refine (uToN n v w hc (node_shut (nodeA_of_rep hv))).mono ?_
  rintro e w' ⟨v', fp, rfl, hg, hF, hfr⟩
  obtain ⟨cs, rfl, hF⟩ := hF
  exact ⟨_, fp, nodeA n, rfl, hg, hfr, rep_of_node (node_open ⟨cs, rfl, nodeRep.toR hF (fun _ h => h)⟩), rfl⟩
theorem eptr_node {w : World} {b : Nat} {n : Nd} {xs : List Value} (h : BoxN w b xs) (hn : RV nodeRep packA w Go.Proofs.Ytgfnmhfdmmnaoaa.any n (.agg xs.toArray)) : Rep w (pureC nil (fun k => k < w.heap.size) none) (.eptr .loose (nodeL n)) (.pointer (some ⟨b, 0, none⟩)) := by
  obtain ⟨vs, h1, h2, h3⟩ := rep_agg.1 (arg_node hn)
  have hv : vs = xs := by
    have := congrArg Array.toList (Value.agg.inj h1)
    simpa using this.symm
  subst hv
  exact eptr_of_box h h.lt h3 h2
end Go.Proofs.Ytgfnmhfdmmnaoaa.Eng
namespace Go.Proofs.Ytgfnmhfdmmnaoaa.Eng
open Go Go.RowKit
def findR (id : Nat) : Code → Option (Array Oper)
  | .region i ops _ => if i = id then some ops else none
  | .seq a b => match findR id a with | some o => some o | none => findR id b
  | .cond _ a b => match findR id a with | some o => some o | none => findR id b
  | .block _ a => findR id a
  | .loop a => findR id a
  | .scope a => findR id a
  | _ => none
def cellsN (m : Nd) : List AV := [.int .i64 m.kind, .int .i64 m.num, .str m.text, .view .loose 1 (strsE m.names), .view .loose 5 (m.kids.map nodeL)]
theorem cellsN_eq (m : Nd) : cellsN m = nodeL m := by rw [nodeL_eq]; rfl
theorem res_in_node (m : Nd) (b : Bool) : NoId (.tup [.agg (cellsN m), .bool b]) := by
  rw [cellsN_eq]
  refine in_tup.2 ?_
  simp only [List.forall_mem_cons, List.not_mem_nil, false_implies, implies_true, and_true]
  exact ⟨in_agg.2 (nodeL_in m), in_bool⟩
end Go.Proofs.Ytgfnmhfdmmnaoaa.Eng
-- EV: skip
namespace Go.Proofs.Ytgfnmhfdmmnaoaa.Eng
open Go Go.RowKit
attribute [local simp] big size_mk ASt.pay Option.map_map Function.comp_def awant aop acall ado aev ofVal ofVal0 ASt.put ASt.add ASt.turn ASt.kill abox aalloc astore aload aloadD astoreD idOf ASt.at cellsTo afieldAddr afield aindexAddr aindex alen abin aint acmp astr aun apick aextract anil aslice abound abuild afill abuildSlice asCells aps avCells over upd aappend asrc amax amin aconv mkSt slots rowsOf_cons rowsOf_nil usedOf_cons usedOf_nil ZK.av List.replicate ASt.back ASt.addL ASt.killL nodeA nodeT nodeTL_eq nodeL_eq strsE_get strsE_len intsE_get intsE_len strsE_at intsE_at tab2 tab3 tab4 tab5 tab6 tab7 tab8 tab9 tab10 tab11 tab12 tab13 tab14 tab15 tab16 tab17 tab18 tab19 tab21 tab22 tab23 tab24 tab25 tab26 tab27 tab28 tab29 tab30 tab39 tab40 tab41 tab42 tab43 tab47 tab48 tab55 tab56 tab57 tab60 tab61 tab62 tab73 tab74 tab75 tab85 tab92 tab115 tab116 tab143 tab144 tab145 tab154 tab155 tab170 tab175 tab182 tab197 tab198 tab203 tab204 tab205 tab207 tab208 tab209
set_option maxRecDepth 100000
set_option maxHeartbeats 8000000
theorem mfA8 {Av : Nat → Prop} {K : ASt → Prop} (n : Nd) (p : Nd) (rm : Nd) (rb : Bool) (kn : costN n ≤ 1048576) (kp : costN p ≤ 1048576) {ops : Array Oper} (h : Try.f12.body.bind (findR 8) = some ops) (hcon : AC Try.prog 56 [nodeA n, nodeA p] 0 (fun r => r = .tup [nodeA rm, .bool rb]))
    (hK : ∀ s' : ASt, s'.tmps[6]? = some (.ptr true 5 1 6 0 0) ∧ s'.tmps[7]? = some (.bool rb) ∧ s'.rows 6 = some ⟨true, 30, 5, [nodeL rm]⟩ → K s') :
    ARunD Try.prog tab [] Av (pcs [(1, 0, fun r => r = .agg (cellsN n)), (3, 0, fun r => r = .agg (cellsN p)), (4, 0, fun r => r = .tup [.agg (cellsN rm), .bool rb])] []) ops K ops.toList 0 (midSt (slots 0 119 [(2, .eptr .loose (nodeL n)), (3, .eptr .loose (nodeL p))])) := by
  have p0 := toNode_AC n kn
  have hc0 := node_clo n
  have p1 := toNode_AC p kp
  have hc1 := node_clo p
  have hin : NoId (.tup [.agg (cellsN rm), .bool rb]) := res_in_node rm rb
  try unfold cellsN at *
  try unfold cellsS at *
  unfold nodeA midSt at *
  try rw [nodeL_eq n] at hcon
  try rw [nodeL_eq n] at hK
  try rw [nodeL_eq p] at hcon
  try rw [nodeL_eq p] at hK
  try rw [nodeL_eq rm] at hcon
  try rw [nodeL_eq rm] at hK
  rw [nodeL_eq n] at p0 hc0 ⊢
  rw [nodeL_eq p] at p1 hc1 ⊢
  cases h
  (repeat (first | with_reducible refine AW.seq ?_ | ((first | refine arun_kn 4 rfl (fun C hC => ?_) | refine arunD_kn 4 rfl (fun C hC => ?_)); (repeat ((conv => whnf); simp)); refine hC _ ?_; clear hC C; simp only [List.drop, Nat.reduceAdd]) | ((first | refine arun_kn 1 rfl (fun C hC => ?_) | refine arunD_kn 1 rfl (fun C hC => ?_)); (repeat ((conv => whnf); simp)); refine hC _ ?_; clear hC C; simp only [List.drop, Nat.reduceAdd]) | (refine arun_skip ?_ ?_; (focus (simp [awant]; done))) | (refine arun_c0 (p0) ?_; rintro _ rfl) | (refine arun_c0 (p1) ?_; rintro _ rfl) | (refine arun_c0 (hcon) ?_; rintro _ rfl) | (refine arunD_skip ?_ ?_; (focus (simp [awant]; done))) | (refine arunD_c (0) (p0) ?_; rintro _ rfl; intro _) | (refine arunD_c (0) (p1) ?_; rintro _ rfl; intro _) | (refine arunD_cE (0) (hcon) (by exact ⟨_, rfl, hin⟩) ?_; rintro _ rfl; intro _) | (refine AW.regionK [] (fun K hK => ?_)) | (refine AW.regionDK [] (pcs [(1, 0, fun r => r = .int .i64 0)] []) (by kernel_rfl) (by kernel_rfl) (fun K hK => ?_)) | (refine AW.condT ?_ ?_; (focus (simp [aev]; done))) | (refine AW.condF ?_ ?_; (focus (simp [aev]; done))) | with_reducible refine AW.block ?_ | ((first | ((first | refine arun_nil ?_ | refine arunD_nil ?_); refine hK _ ?_; clear hK K) | refine AW.skip ?_ | refine AW.exit ?_ | refine AW.ret ?_); simp only [thenA_exit, inBlockA_exit, if_true, if_false, Nat.reduceEqDiff, thenA_normal, inBlockA_normal, reduceIte, thenA_ret, inBlockA_ret, endQ_ret, endR_ret, endG_ret, endQ_normal, endR_normal, endG_normal])))
  exact ⟨by simp, by simp, by simp [upd]⟩
theorem mfRgn8 {w : World} {a : Act} {Q : Exit → Act → World → Prop} (n : Nd) (p : Nd) (rm : Nd) (rb : Bool) (kn : costN n ≤ 1048576) (kp : costN p ≤ 1048576) {l : List Oper} (h : Try.f12.body.bind (findR 8) = some l.toArray) (hB : Region.lexB .any l.toArray = true) (hc : cmpL [] [] l.toArray = true) (hD : dstsIn [28, 29, 30, 31, 32, 27, 33, 34, 6, 7] l.toArray = true)
    (hcon : AC Try.prog 56 [nodeA n, nodeA p] 0 (fun r => r = .tup [nodeA rm, .bool rb])) {b0 : Nat} {c0 : List Value} {b1 : Nat} {c1 : List Value}
    (hd : a.defers = []) (hsz : a.tmps.toList.length = 119) (t0 : a.tmps.toList[2]? = some (.pointer (some ⟨b0, 0, none⟩))) (t1 : a.tmps.toList[3]? = some (.pointer (some ⟨b1, 0, none⟩)))
    (B0 : BoxN w b0 c0) (R0 : RV nodeRep packA w Go.Proofs.Ytgfnmhfdmmnaoaa.any n (.agg c0.toArray)) (B1 : BoxN w b1 c1) (R1 : RV nodeRep packA w Go.Proofs.Ytgfnmhfdmmnaoaa.any p (.agg c1.toArray))
    (hQ : ∀ (w' : World) (f : Nat → Value) (g : Nat) (xs : List Value), Grow w w' → f 6 = .pointer (some ⟨g, 0, none⟩) → f 7 = .bool rb → BoxN w' g xs → RV nodeRep packA w' Go.Proofs.Ytgfnmhfdmmnaoaa.any rm (.agg xs.toArray) → Q .normal ⟨laidOver f [28, 29, 30, 31, 32, 27, 33, 34, 6, 7] a.tmps, []⟩ w') : (Code.region 8 l.toArray true).wp Try.prog Q a w := by
  refine region_worldK (S := fun b => b < w.heap.size) tab_ok mixed_ok [] (pcs [(1, 0, fun r => r = .agg (cellsN n)), (3, 0, fun r => r = .agg (cellsN p)), (4, 0, fun r => r = .tup [.agg (cellsN rm), .bool rb])] []) (fun s' : ASt => s'.tmps[6]? = some (.ptr true 5 1 6 0 0) ∧ s'.tmps[7]? = some (.bool rb) ∧ s'.rows 6 = some ⟨true, 30, 5, [nodeL rm]⟩) hB hc (mid_SR (cs := slots 0 119 [(2, .eptr .loose (nodeL n)), (3, .eptr .loose (nodeL p))]) hd (repL_slots 119 0 _ _ hsz (by simp) ?_)) (fun K' hK' => mfA8 n p rm rb kn kp h hcon hK') ?_
  · simp only [List.forall_mem_cons, List.not_mem_nil, false_implies, implies_true, and_true]
    exact ⟨⟨Nat.zero_le _, _, t0, eptr_node B0 R0⟩, ⟨Nat.zero_le _, _, t1, eptr_node B1 R1⟩⟩
  · rintro s' w' a' ρ' hS ⟨k1, k2, k3⟩ hk
    obtain ⟨f, h1, h2⟩ := keeps_lit hk [28, 29, 30, 31, 32, 27, 33, 34, 6, 7] hD
    obtain ⟨g, xs, g1, g2, g3, g4⟩ := box_of_row hS k1 k3 rfl
    obtain ⟨v, hv, hr⟩ := hS.tm.get k2
    rw [rep_bool] at hr
    subst hr
    have hdf := hS.df
    have hx : Grow w w' := hS.ext.mono (fun b h => h.elim (fun h => by cases h) (fun h => h))
    have hrv := node_shut (nodeA_of_rep (rep_agg.2 ⟨xs, rfl, g4, g3⟩))
    have := hQ w' f g xs hx (h2 _ _ g1) (h2 _ _ (by rw [← Array.getElem?_toList]; exact hv)) g2 hrv
    rw [← h1, ← hdf] at this
    exact this
theorem mfA31 {Av : Nat → Prop} {K : ASt → Prop} (n : Nd) (p : Nd) (rm : Nd) (rb : Bool) (kn : costN n ≤ 1048576) (kp : costN p ≤ 1048576) {ops : Array Oper} (h : Try.f12.body.bind (findR 31) = some ops) (hcon : AC Try.prog 57 [nodeA n, nodeA p] 0 (fun r => r = .tup [nodeA rm, .bool rb]))
    (hK : ∀ s' : ASt, s'.tmps[15]? = some (.ptr true 5 1 15 0 0) ∧ s'.tmps[16]? = some (.bool rb) ∧ s'.rows 15 = some ⟨true, 30, 5, [nodeL rm]⟩ → K s') :
    ARunD Try.prog tab [] Av (pcs [(1, 0, fun r => r = .agg (cellsN n)), (3, 0, fun r => r = .agg (cellsN p)), (4, 0, fun r => r = .tup [.agg (cellsN rm), .bool rb])] []) ops K ops.toList 0 (midSt (slots 0 119 [(2, .eptr .loose (nodeL n)), (3, .eptr .loose (nodeL p))])) := by
  have p0 := toNode_AC n kn
  have hc0 := node_clo n
  have p1 := toNode_AC p kp
  have hc1 := node_clo p
  have hin : NoId (.tup [.agg (cellsN rm), .bool rb]) := res_in_node rm rb
  try unfold cellsN at *
  try unfold cellsS at *
  unfold nodeA midSt at *
  try rw [nodeL_eq n] at hcon
  try rw [nodeL_eq n] at hK
  try rw [nodeL_eq p] at hcon
  try rw [nodeL_eq p] at hK
  try rw [nodeL_eq rm] at hcon
  try rw [nodeL_eq rm] at hK
  rw [nodeL_eq n] at p0 hc0 ⊢
  rw [nodeL_eq p] at p1 hc1 ⊢
  cases h
  (repeat (first | with_reducible refine AW.seq ?_ | ((first | refine arun_kn 4 rfl (fun C hC => ?_) | refine arunD_kn 4 rfl (fun C hC => ?_)); (repeat ((conv => whnf); simp)); refine hC _ ?_; clear hC C; simp only [List.drop, Nat.reduceAdd]) | ((first | refine arun_kn 1 rfl (fun C hC => ?_) | refine arunD_kn 1 rfl (fun C hC => ?_)); (repeat ((conv => whnf); simp)); refine hC _ ?_; clear hC C; simp only [List.drop, Nat.reduceAdd]) | (refine arun_skip ?_ ?_; (focus (simp [awant]; done))) | (refine arun_c0 (p0) ?_; rintro _ rfl) | (refine arun_c0 (p1) ?_; rintro _ rfl) | (refine arun_c0 (hcon) ?_; rintro _ rfl) | (refine arunD_skip ?_ ?_; (focus (simp [awant]; done))) | (refine arunD_c (0) (p0) ?_; rintro _ rfl; intro _) | (refine arunD_c (0) (p1) ?_; rintro _ rfl; intro _) | (refine arunD_cE (0) (hcon) (by exact ⟨_, rfl, hin⟩) ?_; rintro _ rfl; intro _) | (refine AW.regionK [] (fun K hK => ?_)) | (refine AW.regionDK [] (pcs [(1, 0, fun r => r = .int .i64 0)] []) (by kernel_rfl) (by kernel_rfl) (fun K hK => ?_)) | (refine AW.condT ?_ ?_; (focus (simp [aev]; done))) | (refine AW.condF ?_ ?_; (focus (simp [aev]; done))) | with_reducible refine AW.block ?_ | ((first | ((first | refine arun_nil ?_ | refine arunD_nil ?_); refine hK _ ?_; clear hK K) | refine AW.skip ?_ | refine AW.exit ?_ | refine AW.ret ?_); simp only [thenA_exit, inBlockA_exit, if_true, if_false, Nat.reduceEqDiff, thenA_normal, inBlockA_normal, reduceIte, thenA_ret, inBlockA_ret, endQ_ret, endR_ret, endG_ret, endQ_normal, endR_normal, endG_normal])))
  exact ⟨by simp, by simp, by simp [upd]⟩
theorem mfRgn31 {w : World} {a : Act} {Q : Exit → Act → World → Prop} (n : Nd) (p : Nd) (rm : Nd) (rb : Bool) (kn : costN n ≤ 1048576) (kp : costN p ≤ 1048576) {l : List Oper} (h : Try.f12.body.bind (findR 31) = some l.toArray) (hB : Region.lexB .any l.toArray = true) (hc : cmpL [] [] l.toArray = true) (hD : dstsIn [95, 96, 97, 98, 99, 94, 100, 101, 15, 16] l.toArray = true)
    (hcon : AC Try.prog 57 [nodeA n, nodeA p] 0 (fun r => r = .tup [nodeA rm, .bool rb])) {b0 : Nat} {c0 : List Value} {b1 : Nat} {c1 : List Value}
    (hd : a.defers = []) (hsz : a.tmps.toList.length = 119) (t0 : a.tmps.toList[2]? = some (.pointer (some ⟨b0, 0, none⟩))) (t1 : a.tmps.toList[3]? = some (.pointer (some ⟨b1, 0, none⟩)))
    (B0 : BoxN w b0 c0) (R0 : RV nodeRep packA w Go.Proofs.Ytgfnmhfdmmnaoaa.any n (.agg c0.toArray)) (B1 : BoxN w b1 c1) (R1 : RV nodeRep packA w Go.Proofs.Ytgfnmhfdmmnaoaa.any p (.agg c1.toArray))
    (hQ : ∀ (w' : World) (f : Nat → Value) (g : Nat) (xs : List Value), Grow w w' → f 15 = .pointer (some ⟨g, 0, none⟩) → f 16 = .bool rb → BoxN w' g xs → RV nodeRep packA w' Go.Proofs.Ytgfnmhfdmmnaoaa.any rm (.agg xs.toArray) → Q .normal ⟨laidOver f [95, 96, 97, 98, 99, 94, 100, 101, 15, 16] a.tmps, []⟩ w') : (Code.region 31 l.toArray true).wp Try.prog Q a w := by
  refine region_worldK (S := fun b => b < w.heap.size) tab_ok mixed_ok [] (pcs [(1, 0, fun r => r = .agg (cellsN n)), (3, 0, fun r => r = .agg (cellsN p)), (4, 0, fun r => r = .tup [.agg (cellsN rm), .bool rb])] []) (fun s' : ASt => s'.tmps[15]? = some (.ptr true 5 1 15 0 0) ∧ s'.tmps[16]? = some (.bool rb) ∧ s'.rows 15 = some ⟨true, 30, 5, [nodeL rm]⟩) hB hc (mid_SR (cs := slots 0 119 [(2, .eptr .loose (nodeL n)), (3, .eptr .loose (nodeL p))]) hd (repL_slots 119 0 _ _ hsz (by simp) ?_)) (fun K' hK' => mfA31 n p rm rb kn kp h hcon hK') ?_
  · simp only [List.forall_mem_cons, List.not_mem_nil, false_implies, implies_true, and_true]
    exact ⟨⟨Nat.zero_le _, _, t0, eptr_node B0 R0⟩, ⟨Nat.zero_le _, _, t1, eptr_node B1 R1⟩⟩
  · rintro s' w' a' ρ' hS ⟨k1, k2, k3⟩ hk
    obtain ⟨f, h1, h2⟩ := keeps_lit hk [95, 96, 97, 98, 99, 94, 100, 101, 15, 16] hD
    obtain ⟨g, xs, g1, g2, g3, g4⟩ := box_of_row hS k1 k3 rfl
    obtain ⟨v, hv, hr⟩ := hS.tm.get k2
    rw [rep_bool] at hr
    subst hr
    have hdf := hS.df
    have hx : Grow w w' := hS.ext.mono (fun b h => h.elim (fun h => by cases h) (fun h => h))
    have hrv := node_shut (nodeA_of_rep (rep_agg.2 ⟨xs, rfl, g4, g3⟩))
    have := hQ w' f g xs hx (h2 _ _ g1) (h2 _ _ (by rw [← Array.getElem?_toList]; exact hv)) g2 hrv
    rw [← h1, ← hdf] at this
    exact this
end Go.Proofs.Ytgfnmhfdmmnaoaa.Eng
namespace Go.Proofs.Ytgfnmhfdmmnaoaa
open Go.RowKit
theorem lawMf_big (n : Nd) (p : Nd) (v0 : Value) (v1 : Value) (w : World) (h0 : RV nodeRep packA w any n v0) (h1 : RV nodeRep packA w any p v1) (hbig : ¬ costN n + costN p ≤ 1048576) :
    Calls Try.prog 12 #[v0, v1] w fun e w' => e = .returned (.bool true) ∧ Grow w w' := by
  have HV0 := Lib.hid h0
  have HV1 := Lib.hid h1
  obtain ⟨na0, nc0, ka0, kc0, rfl⟩ := openV_node h0
  obtain ⟨na1, nc1, ka1, kc1, rfl⟩ := openV_node h1
  clear h0 h1
  unfold nodeV at *
  by_cases c0 : (costN n : Int) ≤ 1048576
  rotate_left
  ·
    have Hs0 := Lib.hid (szR_neg (c := costN n) (left := 1048576) (by omega))
    clear c0 hbig
    have HB0 := Lib.hid ((BoxN.new w [.int .i64 n.kind, .int .i64 n.num, .string n.text, .slice na0 n.names.length nc0, .slice ka0 n.kids.length kc0] 41).grow ((Ext.refl nil _).alloc (.cells ([.int .i64 p.kind, .int .i64 p.num, .string p.text, .slice na1 p.names.length nc1, .slice ka1 p.kids.length kc1] : List Value).toArray 41)))
    have HB1 := Lib.hid (BoxN.new1 w (.cells ([.int .i64 n.kind, .int .i64 n.num, .string n.text, .slice na0 n.names.length nc0, .slice ka0 n.kids.length kc0] : List Value).toArray 41) [.int .i64 p.kind, .int .i64 p.num, .string p.text, .slice na1 p.names.length nc1, .slice ka1 p.kids.length kc1] 41)
    go_enter Try.func12, Try.ntmps12
    go_wp2_with fail
    refine (uSzN n _ _ _ (by omega) (by omega) (HV0.out.grow (by repeat (first | with_reducible exact Ext.refl _ _ | with_reducible refine Ext.trans ?_ (by assumption) | with_reducible refine Ext.drew ?_ | with_reducible refine Ext.drewN ?_ _ | with_reducible refine Ext.alloc ?_ _ | with_reducible refine Ext.setNew ?_ (by simp; done) _ | with_reducible refine Ext.setNew ?_ (by simp; omega) _)))).mono ?_
    rintro e w1 ⟨rfl, hg1⟩
    simp only [Hs0.out]
    have z1 := hg1.size
    try simp only [World.size_alloc] at z1
    go_wp2_with fail
    go_ret
    exact ⟨by simp, (by repeat (first | with_reducible exact Ext.refl _ _ | with_reducible refine Ext.trans ?_ (by assumption) | with_reducible refine Ext.drew ?_ | with_reducible refine Ext.drewN ?_ _ | with_reducible refine Ext.alloc ?_ _ | with_reducible refine Ext.setNew ?_ (by simp; done) _ | with_reducible refine Ext.setNew ?_ (by simp; omega) _))⟩
  have Hs0 := Lib.hid (szR_pos (c := costN n) (left := 1048576) (by omega))
  by_cases c1 : (costN p : Int) ≤ 1048576 - costN n
  rotate_left
  ·
    have Hs1 := Lib.hid (szR_neg (c := costN p) (left := 1048576 - costN n) (by omega))
    clear c1 hbig
    have HB0 := Lib.hid ((BoxN.new w [.int .i64 n.kind, .int .i64 n.num, .string n.text, .slice na0 n.names.length nc0, .slice ka0 n.kids.length kc0] 41).grow ((Ext.refl nil _).alloc (.cells ([.int .i64 p.kind, .int .i64 p.num, .string p.text, .slice na1 p.names.length nc1, .slice ka1 p.kids.length kc1] : List Value).toArray 41)))
    have HB1 := Lib.hid (BoxN.new1 w (.cells ([.int .i64 n.kind, .int .i64 n.num, .string n.text, .slice na0 n.names.length nc0, .slice ka0 n.kids.length kc0] : List Value).toArray 41) [.int .i64 p.kind, .int .i64 p.num, .string p.text, .slice na1 p.names.length nc1, .slice ka1 p.kids.length kc1] 41)
    go_enter Try.func12, Try.ntmps12
    go_wp2_with fail
    refine (uSzN n _ _ _ (by omega) (by omega) (HV0.out.grow (by repeat (first | with_reducible exact Ext.refl _ _ | with_reducible refine Ext.trans ?_ (by assumption) | with_reducible refine Ext.drew ?_ | with_reducible refine Ext.drewN ?_ _ | with_reducible refine Ext.alloc ?_ _ | with_reducible refine Ext.setNew ?_ (by simp; done) _ | with_reducible refine Ext.setNew ?_ (by simp; omega) _)))).mono ?_
    rintro e w1 ⟨rfl, hg1⟩
    simp only [Hs0.out]
    have z1 := hg1.size
    try simp only [World.size_alloc] at z1
    have pB := HB1.out.grow (w' := w1) (by repeat (first | with_reducible exact Ext.refl _ _ | with_reducible refine Ext.trans ?_ (by assumption) | with_reducible refine Ext.drew ?_ | with_reducible refine Ext.drewN ?_ _ | with_reducible refine Ext.alloc ?_ _ | with_reducible refine Ext.setNew ?_ (by simp; done) _ | with_reducible refine Ext.setNew ?_ (by simp; omega) _))
    have p0 := pB.cell 0 _ rfl; have p1 := pB.cell 1 _ rfl; have p2 := pB.cell 2 _ rfl; have p3 := pB.cell 3 _ rfl; have p4 := pB.cell 4 _ rfl
    go_wp2_with fail
    refine (uSzN p _ _ _ (by omega) (by omega) (HV1.out.grow (by repeat (first | with_reducible exact Ext.refl _ _ | with_reducible refine Ext.trans ?_ (by assumption) | with_reducible refine Ext.drew ?_ | with_reducible refine Ext.drewN ?_ _ | with_reducible refine Ext.alloc ?_ _ | with_reducible refine Ext.setNew ?_ (by simp; done) _ | with_reducible refine Ext.setNew ?_ (by simp; omega) _)))).mono ?_
    rintro e w2 ⟨rfl, hg2⟩
    simp only [Hs1.out]
    have z2 := hg2.size
    try simp only [World.size_alloc] at z2
    clear p0 p1 p2 p3 p4 pB
    go_wp2_with fail
    go_ret
    exact ⟨by simp, (by repeat (first | with_reducible exact Ext.refl _ _ | with_reducible refine Ext.trans ?_ (by assumption) | with_reducible refine Ext.drew ?_ | with_reducible refine Ext.drewN ?_ _ | with_reducible refine Ext.alloc ?_ _ | with_reducible refine Ext.setNew ?_ (by simp; done) _ | with_reducible refine Ext.setNew ?_ (by simp; omega) _))⟩
  have Hs1 := Lib.hid (szR_pos (c := costN p) (left := 1048576 - costN n) (by omega))
  omega
theorem lawMf_main (n : Nd) (p : Nd) (v0 : Value) (v1 : Value) (w : World) (h0 : RV nodeRep packA w any n v0) (h1 : RV nodeRep packA w any p v1) (hcost : costN n + costN p ≤ 1048576) :
    Calls Try.prog 12 #[v0, v1] w fun e w' => e = .returned (.bool true) ∧ Grow w w' := by
  have HV0 := Lib.hid h0
  have HV1 := Lib.hid h1
  obtain ⟨na0, nc0, ka0, kc0, rfl⟩ := openV_node h0
  obtain ⟨na1, nc1, ka1, kc1, rfl⟩ := openV_node h1
  clear h0 h1
  unfold nodeV at *
  have Hs0 := Lib.hid (szR_pos (c := costN n) (left := 1048576) (by omega))
  have Hs1 := Lib.hid (szR_pos (c := costN p) (left := 1048576 - costN n) (by omega))
  have C0 : Hid (costN n ≤ 1048576) := Lib.hid (by omega)
  have C1 : Hid (costN p ≤ 1048576) := Lib.hid (by omega)
  have HB0 := Lib.hid ((BoxN.new w [.int .i64 n.kind, .int .i64 n.num, .string n.text, .slice na0 n.names.length nc0, .slice ka0 n.kids.length kc0] 41).grow ((Ext.refl nil _).alloc (.cells ([.int .i64 p.kind, .int .i64 p.num, .string p.text, .slice na1 p.names.length nc1, .slice ka1 p.kids.length kc1] : List Value).toArray 41)))
  have HB1 := Lib.hid (BoxN.new1 w (.cells ([.int .i64 n.kind, .int .i64 n.num, .string n.text, .slice na0 n.names.length nc0, .slice ka0 n.kids.length kc0] : List Value).toArray 41) [.int .i64 p.kind, .int .i64 p.num, .string p.text, .slice na1 p.names.length nc1, .slice ka1 p.kids.length kc1] 41)
  go_enter Try.func12, Try.ntmps12
  go_wp2_with fail
  refine (uSzN n _ _ _ (by omega) (by omega) (HV0.out.grow (by repeat (first | with_reducible exact Ext.refl _ _ | with_reducible refine Ext.trans ?_ (by assumption) | with_reducible refine Ext.drew ?_ | with_reducible refine Ext.drewN ?_ _ | with_reducible refine Ext.alloc ?_ _ | with_reducible refine Ext.setNew ?_ (by simp; done) _ | with_reducible refine Ext.setNew ?_ (by simp; omega) _)))).mono ?_
  rintro e w1 ⟨rfl, hg1⟩
  simp only [Hs0.out]
  have z1 := hg1.size
  try simp only [World.size_alloc] at z1
  have pB := HB1.out.grow (w' := w1) (by repeat (first | with_reducible exact Ext.refl _ _ | with_reducible refine Ext.trans ?_ (by assumption) | with_reducible refine Ext.drew ?_ | with_reducible refine Ext.drewN ?_ _ | with_reducible refine Ext.alloc ?_ _ | with_reducible refine Ext.setNew ?_ (by simp; done) _ | with_reducible refine Ext.setNew ?_ (by simp; omega) _))
  have p0 := pB.cell 0 _ rfl; have p1 := pB.cell 1 _ rfl; have p2 := pB.cell 2 _ rfl; have p3 := pB.cell 3 _ rfl; have p4 := pB.cell 4 _ rfl
  go_wp2_with fail
  refine (uSzN p _ _ _ (by omega) (by omega) (HV1.out.grow (by repeat (first | with_reducible exact Ext.refl _ _ | with_reducible refine Ext.trans ?_ (by assumption) | with_reducible refine Ext.drew ?_ | with_reducible refine Ext.drewN ?_ _ | with_reducible refine Ext.alloc ?_ _ | with_reducible refine Ext.setNew ?_ (by simp; done) _ | with_reducible refine Ext.setNew ?_ (by simp; omega) _)))).mono ?_
  rintro e w2 ⟨rfl, hg2⟩
  simp only [Hs1.out]
  have z2 := hg2.size
  try simp only [World.size_alloc] at z2
  clear p0 p1 p2 p3 p4 pB
  go_wp2_with fail
  refine Eng.mfRgn8 n p (pbN n p) (pbBo n p) C0.out C1.out (by kernel_rfl) (by kernel_rfl) (by kernel_rfl) (by kernel_rfl) (specMergeFor_hcon n p) rfl rfl rfl rfl (HB0.out.grow (w' := w2) (by repeat (first | with_reducible exact Ext.refl _ _ | with_reducible refine Ext.trans ?_ (by assumption) | with_reducible refine Ext.drew ?_ | with_reducible refine Ext.drewN ?_ _ | with_reducible refine Ext.alloc ?_ _ | with_reducible refine Ext.setNew ?_ (by simp; done) _ | with_reducible refine Ext.setNew ?_ (by simp; omega) _))) (HV0.out.grow (by repeat (first | with_reducible exact Ext.refl _ _ | with_reducible refine Ext.trans ?_ (by assumption) | with_reducible refine Ext.drew ?_ | with_reducible refine Ext.drewN ?_ _ | with_reducible refine Ext.alloc ?_ _ | with_reducible refine Ext.setNew ?_ (by simp; done) _ | with_reducible refine Ext.setNew ?_ (by simp; omega) _))) (HB1.out.grow (w' := w2) (by repeat (first | with_reducible exact Ext.refl _ _ | with_reducible refine Ext.trans ?_ (by assumption) | with_reducible refine Ext.drew ?_ | with_reducible refine Ext.drewN ?_ _ | with_reducible refine Ext.alloc ?_ _ | with_reducible refine Ext.setNew ?_ (by simp; done) _ | with_reducible refine Ext.setNew ?_ (by simp; omega) _))) (HV1.out.grow (by repeat (first | with_reducible exact Ext.refl _ _ | with_reducible refine Ext.trans ?_ (by assumption) | with_reducible refine Ext.drew ?_ | with_reducible refine Ext.drewN ?_ _ | with_reducible refine Ext.alloc ?_ _ | with_reducible refine Ext.setNew ?_ (by simp; done) _ | with_reducible refine Ext.setNew ?_ (by simp; omega) _))) ?_
  intro w3 fs gs xss hg3 fsp fso hBs hR
  have z3 := hg3.size
  have RW := Lib.hid hR.under
  obtain ⟨nas, ncs, kas, kcs, he⟩ := openV_node hR
  unfold nodeV at he
  have hxs : xss = _ := congrArg Array.toList (Value.agg.inj he)
  subst hxs
  clear hR he
  have gls := hBs.lt
  have HBs := Lib.hid hBs
  clear hBs
  simp only [Eng.laidOver, List.foldl_cons, List.foldl_nil]
  rw [fsp, fso]
  have ys : w3.heap.size ≤ w3.heap.size := Nat.le_refl _
  have hpB := HB0.out.grow (w' := w3) (by repeat (first | with_reducible exact Ext.refl _ _ | with_reducible refine Ext.trans ?_ (by assumption) | with_reducible refine Ext.drew ?_ | with_reducible refine Ext.drewN ?_ _ | with_reducible refine Ext.alloc ?_ _ | with_reducible refine Ext.setNew ?_ (by simp; done) _ | with_reducible refine Ext.setNew ?_ (by simp; omega) _))
  have p0 := hpB.cell 0 _ rfl; have p1 := hpB.cell 1 _ rfl; have p2 := hpB.cell 2 _ rfl; have p3 := hpB.cell 3 _ rfl; have p4 := hpB.cell 4 _ rfl; have pz := hpB.lt
  go_wp2_with fail
  refine (uToN n _ _ C0.out (HV0.out.grow (by repeat (first | with_reducible exact Ext.refl _ _ | with_reducible refine Ext.trans ?_ (by assumption) | with_reducible refine Ext.drew ?_ | with_reducible refine Ext.drewN ?_ _ | with_reducible refine Ext.alloc ?_ _ | with_reducible refine Ext.setNew ?_ (by simp; done) _ | with_reducible refine Ext.setNew ?_ (by simp; omega) _)))).mono ?_
  rintro e w4 ⟨y0, f0, rfl, hg4, hF, hfr⟩
  have z4 := hg4.size
  try simp only [World.size_alloc] at z4
  try simp only [World.size_alloc] at hfr
  have F0 := Lib.hid hF
  have S0 := Lib.hid (Seg.of hfr)
  obtain ⟨nax0, ncx0, kax0, kcx0, rfl⟩ := openV_node hF.rv
  unfold nodeV at *
  clear hF hfr p0 p1 p2 p3 p4 hpB pz
  have HBx0 := Lib.hid (BoxN.new w4 [.int .i64 n.kind, .int .i64 n.num, .string n.text, .slice nax0 n.names.length ncx0, .slice kax0 n.kids.length kcx0] 30)
  have hpB := HB1.out.grow (w' := w4) (by repeat (first | with_reducible exact Ext.refl _ _ | with_reducible refine Ext.trans ?_ (by assumption) | with_reducible refine Ext.drew ?_ | with_reducible refine Ext.drewN ?_ _ | with_reducible refine Ext.alloc ?_ _ | with_reducible refine Ext.setNew ?_ (by simp; done) _ | with_reducible refine Ext.setNew ?_ (by simp; omega) _))
  have p0 := hpB.cell 0 _ rfl; have p1 := hpB.cell 1 _ rfl; have p2 := hpB.cell 2 _ rfl; have p3 := hpB.cell 3 _ rfl; have p4 := hpB.cell 4 _ rfl; have pz := hpB.lt
  go_wp2_with fail
  refine (uToN p _ _ C1.out (HV1.out.grow (by repeat (first | with_reducible exact Ext.refl _ _ | with_reducible refine Ext.trans ?_ (by assumption) | with_reducible refine Ext.drew ?_ | with_reducible refine Ext.drewN ?_ _ | with_reducible refine Ext.alloc ?_ _ | with_reducible refine Ext.setNew ?_ (by simp; done) _ | with_reducible refine Ext.setNew ?_ (by simp; omega) _)))).mono ?_
  rintro e w5 ⟨y1, f1, rfl, hg5, hF, hfr⟩
  have z5 := hg5.size
  try simp only [World.size_alloc] at z5
  try simp only [World.size_alloc] at hfr
  have F1 := Lib.hid hF
  have S1 := Lib.hid (Seg.of hfr)
  obtain ⟨nax1, ncx1, kax1, kcx1, rfl⟩ := openV_node hF.rv
  unfold nodeV at *
  clear hF hfr p0 p1 p2 p3 p4 hpB pz
  have HBx1 := Lib.hid (BoxN.new w5 [.int .i64 p.kind, .int .i64 p.num, .string p.text, .slice nax1 p.names.length ncx1, .slice kax1 p.kids.length kcx1] 30)
  have pB0 := HBx0.out.grow (w' := w5) (by repeat (first | with_reducible exact Ext.refl _ _ | with_reducible refine Ext.trans ?_ (by assumption) | with_reducible refine Ext.drew ?_ | with_reducible refine Ext.drewN ?_ _ | with_reducible refine Ext.alloc ?_ _ | with_reducible refine Ext.setNew ?_ (by simp; done) _ | with_reducible refine Ext.setNew ?_ (by simp; omega) _))
  have p0 := pB0.cell 0 _ rfl; have p1 := pB0.cell 1 _ rfl; have p2 := pB0.cell 2 _ rfl; have p3 := pB0.cell 3 _ rfl; have p4 := pB0.cell 4 _ rfl; have pz := pB0.lt
  go_wp2_with fail
  refine (implMergeFor_ok n p _ _ _  (F0.out.rv.grow (by repeat (first | with_reducible exact Ext.refl _ _ | with_reducible refine Ext.trans ?_ (by assumption) | with_reducible refine Ext.drew ?_ | with_reducible refine Ext.drewN ?_ _ | with_reducible refine Ext.alloc ?_ _ | with_reducible refine Ext.setNew ?_ (by simp; done) _ | with_reducible refine Ext.setNew ?_ (by simp; omega) _))) (F1.out.rv.grow (by repeat (first | with_reducible exact Ext.refl _ _ | with_reducible refine Ext.trans ?_ (by assumption) | with_reducible refine Ext.drew ?_ | with_reducible refine Ext.drewN ?_ _ | with_reducible refine Ext.alloc ?_ _ | with_reducible refine Ext.setNew ?_ (by simp; done) _ | with_reducible refine Ext.setNew ?_ (by simp; omega) _)))).mono ?_
  rintro e w6 ⟨rg, fg, rfl, hg6, hF, hfr⟩
  have z6 := hg6.size
  try simp only [World.size_alloc] at z6
  try simp only [World.size_alloc] at hfr
  have FG := Lib.hid hF
  have SG := Lib.hid (Seg.of hfr)
  obtain ⟨nag, ncg, kag, kcg, rfl⟩ := openV_node hF.rv
  unfold nodeV at *
  have HBg := Lib.hid (BoxN.new w6 [.int .i64 (pbN n p).kind, .int .i64 (pbN n p).num, .string (pbN n p).text, .slice nag (pbN n p).names.length ncg, .slice kag (pbN n p).kids.length kcg] 30)
  clear hF hfr
  clear p0 p1 p2 p3 p4 pB0 pz
  have tB := HBs.out.grow (w' := w6) (by repeat (first | with_reducible exact Ext.refl _ _ | with_reducible refine Ext.trans ?_ (by assumption) | with_reducible refine Ext.drew ?_ | with_reducible refine Ext.drewN ?_ _ | with_reducible refine Ext.alloc ?_ _ | with_reducible refine Ext.setNew ?_ (by simp; done) _ | with_reducible refine Ext.setNew ?_ (by simp; omega) _))
  have t0 := tB.cell 0 _ rfl; have t1 := tB.cell 1 _ rfl; have t2 := tB.cell 2 _ rfl; have t3 := tB.cell 3 _ rfl; have t4 := tB.cell 4 _ rfl; have tz := tB.lt
  go_wp2_with fail
  refine (uEqN ((pbN n p)) _ _ _ (FG.out.rv.grow (by repeat (first | with_reducible exact Ext.refl _ _ | with_reducible refine Ext.trans ?_ (by assumption) | with_reducible refine Ext.drew ?_ | with_reducible refine Ext.drewN ?_ _ | with_reducible refine Ext.alloc ?_ _ | with_reducible refine Ext.setNew ?_ (by simp; done) _ | with_reducible refine Ext.setNew ?_ (by simp; omega) _))) (RW.out.any.grow (by repeat (first | with_reducible exact Ext.refl _ _ | with_reducible refine Ext.trans ?_ (by assumption) | with_reducible refine Ext.drew ?_ | with_reducible refine Ext.drewN ?_ _ | with_reducible refine Ext.alloc ?_ _ | with_reducible refine Ext.setNew ?_ (by simp; done) _ | with_reducible refine Ext.setNew ?_ (by simp; omega) _)))).mono ?_
  rintro e w7 ⟨rfl, hg7⟩
  have z7 := hg7.size
  try simp only [World.size_alloc] at z7
  clear t0 t1 t2 t3 t4 tB tz
  go_wp2_with fail
  have pB := HBx0.out.grow (w' := w7) (by repeat (first | with_reducible exact Ext.refl _ _ | with_reducible refine Ext.trans ?_ (by assumption) | with_reducible refine Ext.drew ?_ | with_reducible refine Ext.drewN ?_ _ | with_reducible refine Ext.alloc ?_ _ | with_reducible refine Ext.setNew ?_ (by simp; done) _ | with_reducible refine Ext.setNew ?_ (by simp; omega) _))
  have p0 := pB.cell 0 _ rfl; have p1 := pB.cell 1 _ rfl; have p2 := pB.cell 2 _ rfl; have p3 := pB.cell 3 _ rfl; have p4 := pB.cell 4 _ rfl
  have qB := HB0.out.grow (w' := w7) (by repeat (first | with_reducible exact Ext.refl _ _ | with_reducible refine Ext.trans ?_ (by assumption) | with_reducible refine Ext.drew ?_ | with_reducible refine Ext.drewN ?_ _ | with_reducible refine Ext.alloc ?_ _ | with_reducible refine Ext.setNew ?_ (by simp; done) _ | with_reducible refine Ext.setNew ?_ (by simp; omega) _))
  have q0 := qB.cell 0 _ rfl; have q1 := qB.cell 1 _ rfl; have q2 := qB.cell 2 _ rfl; have q3 := qB.cell 3 _ rfl; have q4 := qB.cell 4 _ rfl
  refine wp_region_stab Grow (fun i => if i = 2 then some (fun v w' => RV nodeRep packA w' any n v) else if i = 3 then some (fun v _ => v = .bool true) else none) (by kernel_rfl) (by kernel_rfl) ⟨Ext.refl nil, fun _ _ h1 h2 => h2.trans h1, ?_⟩ ?_
  · intro i V hV v w1 w2 hr hv
    by_cases h1 : i = 2
    · simp only [h1, if_true, Option.some.injEq] at hV; subst hV; exact RV.grow hv hr
    · by_cases h3 : i = 3
      · simp [h3] at hV; subst hV; exact hv
      · simp [h1, h3] at hV
  (refine wpStab_quiet (by kernel_rfl) (by kernel_rfl) (by simp) ?_; intro K hK; go_big_quiet_op; go_big_quiet_on)
  (refine wpStab_quiet (by kernel_rfl) (by kernel_rfl) (by simp) ?_; intro K hK; go_big_quiet_op; go_big_quiet_on)
  refine wpStab_made (fun v w' => RV nodeRep packA w' any n v) ?_ ?_ ?_ ?_
  · go_simp
  · simp
  · intro y _
    refine stabAt_call (f := 32) (args := #[.agg #[.int .i64 n.kind, .int .i64 n.num, .string n.text, .slice na0 n.names.length nc0, .slice ka0 n.kids.length kc0]]) ?_ ?_
    · go_simp
    · refine (uToN n _ _ C0.out (HV0.out.grow (((by repeat (first | with_reducible exact Ext.refl _ _ | with_reducible refine Ext.trans ?_ (by assumption) | with_reducible refine Ext.drew ?_ | with_reducible refine Ext.drewN ?_ _ | with_reducible refine Ext.alloc ?_ _ | with_reducible refine Ext.setNew ?_ (by simp; done) _ | with_reducible refine Ext.setNew ?_ (by simp; omega) _)) : Grow w w7).trans (later_grow _ _)))).mono ?_
      rintro e w' ⟨v', fp, rfl, hg, hF, _⟩
      exact ⟨_, rfl, hg, hF.rv⟩
  intro vt
  go_frame
  refine wpStab_const (.bool true) ?_ ?_ ?_ ?_
  · go_simp
  · simp
  · intro y hE
    have Hr6 : RV nodeRep packA (later w7 y) any n vt := (hE ⟨2, .data⟩ (by simp) (by decide)).2 rfl
    clear hE
    refine stabAt_call (f := 23) (args := #[.agg #[.int .i64 n.kind, .int .i64 n.num, .string n.text, .slice nax0 n.names.length ncx0, .slice kax0 n.kids.length kcx0], vt]) ?_ ?_
    · go_simp
    · refine (uEqN n _ _ _ (F0.out.rv.grow (((by repeat (first | with_reducible exact Ext.refl _ _ | with_reducible refine Ext.trans ?_ (by assumption) | with_reducible refine Ext.drew ?_ | with_reducible refine Ext.drewN ?_ _ | with_reducible refine Ext.alloc ?_ _ | with_reducible refine Ext.setNew ?_ (by simp; done) _ | with_reducible refine Ext.setNew ?_ (by simp; omega) _)) : Grow _ w7).trans (later_grow _ _))) Hr6).mono ?_
      rintro e w' ⟨rfl, hg⟩
      exact ⟨_, rfl, hg, rfl⟩
  go_frame
  (refine wpStab_quiet (by kernel_rfl) (by kernel_rfl) (by simp) ?_; intro K hK; go_big_quiet_op; go_big_quiet_on)
  refine wpStab_end ?_
  intro w8 hg8
  clear p0 p1 p2 p3 p4 pB q0 q1 q2 q3 q4 qB
  have z8 := hg8.size
  go_wp2_with fail
  have pB := HBx1.out.grow (w' := w8) (by repeat (first | with_reducible exact Ext.refl _ _ | with_reducible refine Ext.trans ?_ (by assumption) | with_reducible refine Ext.drew ?_ | with_reducible refine Ext.drewN ?_ _ | with_reducible refine Ext.alloc ?_ _ | with_reducible refine Ext.setNew ?_ (by simp; done) _ | with_reducible refine Ext.setNew ?_ (by simp; omega) _))
  have p0 := pB.cell 0 _ rfl; have p1 := pB.cell 1 _ rfl; have p2 := pB.cell 2 _ rfl; have p3 := pB.cell 3 _ rfl; have p4 := pB.cell 4 _ rfl
  have qB := HB1.out.grow (w' := w8) (by repeat (first | with_reducible exact Ext.refl _ _ | with_reducible refine Ext.trans ?_ (by assumption) | with_reducible refine Ext.drew ?_ | with_reducible refine Ext.drewN ?_ _ | with_reducible refine Ext.alloc ?_ _ | with_reducible refine Ext.setNew ?_ (by simp; done) _ | with_reducible refine Ext.setNew ?_ (by simp; omega) _))
  have q0 := qB.cell 0 _ rfl; have q1 := qB.cell 1 _ rfl; have q2 := qB.cell 2 _ rfl; have q3 := qB.cell 3 _ rfl; have q4 := qB.cell 4 _ rfl
  refine wp_region_stab Grow (fun i => if i = 2 then some (fun v w' => RV nodeRep packA w' any p v) else if i = 3 then some (fun v _ => v = .bool true) else none) (by kernel_rfl) (by kernel_rfl) ⟨Ext.refl nil, fun _ _ h1 h2 => h2.trans h1, ?_⟩ ?_
  · intro i V hV v w1 w2 hr hv
    by_cases h1 : i = 2
    · simp only [h1, if_true, Option.some.injEq] at hV; subst hV; exact RV.grow hv hr
    · by_cases h3 : i = 3
      · simp [h3] at hV; subst hV; exact hv
      · simp [h1, h3] at hV
  (refine wpStab_quiet (by kernel_rfl) (by kernel_rfl) (by simp) ?_; intro K hK; go_big_quiet_op; go_big_quiet_on)
  (refine wpStab_quiet (by kernel_rfl) (by kernel_rfl) (by simp) ?_; intro K hK; go_big_quiet_op; go_big_quiet_on)
  refine wpStab_made (fun v w' => RV nodeRep packA w' any p v) ?_ ?_ ?_ ?_
  · go_simp
  · simp
  · intro y _
    refine stabAt_call (f := 32) (args := #[.agg #[.int .i64 p.kind, .int .i64 p.num, .string p.text, .slice na1 p.names.length nc1, .slice ka1 p.kids.length kc1]]) ?_ ?_
    · go_simp
    · refine (uToN p _ _ C1.out (HV1.out.grow (((by repeat (first | with_reducible exact Ext.refl _ _ | with_reducible refine Ext.trans ?_ (by assumption) | with_reducible refine Ext.drew ?_ | with_reducible refine Ext.drewN ?_ _ | with_reducible refine Ext.alloc ?_ _ | with_reducible refine Ext.setNew ?_ (by simp; done) _ | with_reducible refine Ext.setNew ?_ (by simp; omega) _)) : Grow w w8).trans (later_grow _ _)))).mono ?_
      rintro e w' ⟨v', fp, rfl, hg, hF, _⟩
      exact ⟨_, rfl, hg, hF.rv⟩
  intro vt
  go_frame
  refine wpStab_const (.bool true) ?_ ?_ ?_ ?_
  · go_simp
  · simp
  · intro y hE
    have Hr6 : RV nodeRep packA (later w8 y) any p vt := (hE ⟨2, .data⟩ (by simp) (by decide)).2 rfl
    clear hE
    refine stabAt_call (f := 23) (args := #[.agg #[.int .i64 p.kind, .int .i64 p.num, .string p.text, .slice nax1 p.names.length ncx1, .slice kax1 p.kids.length kcx1], vt]) ?_ ?_
    · go_simp
    · refine (uEqN p _ _ _ (F1.out.rv.grow (((by repeat (first | with_reducible exact Ext.refl _ _ | with_reducible refine Ext.trans ?_ (by assumption) | with_reducible refine Ext.drew ?_ | with_reducible refine Ext.drewN ?_ _ | with_reducible refine Ext.alloc ?_ _ | with_reducible refine Ext.setNew ?_ (by simp; done) _ | with_reducible refine Ext.setNew ?_ (by simp; omega) _)) : Grow _ w8).trans (later_grow _ _))) Hr6).mono ?_
      rintro e w' ⟨rfl, hg⟩
      exact ⟨_, rfl, hg, rfl⟩
  go_frame
  (refine wpStab_quiet (by kernel_rfl) (by kernel_rfl) (by simp) ?_; intro K hK; go_big_quiet_op; go_big_quiet_on)
  refine wpStab_end ?_
  intro w9 hg9
  clear p0 p1 p2 p3 p4 pB q0 q1 q2 q3 q4 qB
  have z9 := hg9.size
  replace F0 := Lib.hid (F0.out.grow S0.out (w' := w9) (by repeat (first | with_reducible exact Ext.refl _ _ | with_reducible refine Ext.trans ?_ (by assumption) | with_reducible refine Ext.drew ?_ | with_reducible refine Ext.drewN ?_ _ | with_reducible refine Ext.alloc ?_ _ | with_reducible refine Ext.setNew ?_ (by simp; done) _ | with_reducible refine Ext.setNew ?_ (by simp; omega) _)))
  replace S0 := Lib.hid (S0.out.grow (w' := w9) (by repeat (first | with_reducible exact Ext.refl _ _ | with_reducible refine Ext.trans ?_ (by assumption) | with_reducible refine Ext.drew ?_ | with_reducible refine Ext.drewN ?_ _ | with_reducible refine Ext.alloc ?_ _ | with_reducible refine Ext.setNew ?_ (by simp; done) _ | with_reducible refine Ext.setNew ?_ (by simp; omega) _)))
  replace F1 := Lib.hid (F1.out.grow S1.out (w' := w9) (by repeat (first | with_reducible exact Ext.refl _ _ | with_reducible refine Ext.trans ?_ (by assumption) | with_reducible refine Ext.drew ?_ | with_reducible refine Ext.drewN ?_ _ | with_reducible refine Ext.alloc ?_ _ | with_reducible refine Ext.setNew ?_ (by simp; done) _ | with_reducible refine Ext.setNew ?_ (by simp; omega) _)))
  replace S1 := Lib.hid (S1.out.grow (w' := w9) (by repeat (first | with_reducible exact Ext.refl _ _ | with_reducible refine Ext.trans ?_ (by assumption) | with_reducible refine Ext.drew ?_ | with_reducible refine Ext.drewN ?_ _ | with_reducible refine Ext.alloc ?_ _ | with_reducible refine Ext.setNew ?_ (by simp; done) _ | with_reducible refine Ext.setNew ?_ (by simp; omega) _)))
  replace FG := Lib.hid (FG.out.grow SG.out (w' := w9) (by repeat (first | with_reducible exact Ext.refl _ _ | with_reducible refine Ext.trans ?_ (by assumption) | with_reducible refine Ext.drew ?_ | with_reducible refine Ext.drewN ?_ _ | with_reducible refine Ext.alloc ?_ _ | with_reducible refine Ext.setNew ?_ (by simp; done) _ | with_reducible refine Ext.setNew ?_ (by simp; omega) _)))
  replace SG := Lib.hid (SG.out.grow (w' := w9) (by repeat (first | with_reducible exact Ext.refl _ _ | with_reducible refine Ext.trans ?_ (by assumption) | with_reducible refine Ext.drew ?_ | with_reducible refine Ext.drewN ?_ _ | with_reducible refine Ext.alloc ?_ _ | with_reducible refine Ext.setNew ?_ (by simp; done) _ | with_reducible refine Ext.setNew ?_ (by simp; omega) _)))
  replace RW := Lib.hid (RW.out.grow (w' := w9) (by repeat (first | with_reducible exact Ext.refl _ _ | with_reducible refine Ext.trans ?_ (by assumption) | with_reducible refine Ext.drew ?_ | with_reducible refine Ext.drewN ?_ _ | with_reducible refine Ext.alloc ?_ _ | with_reducible refine Ext.setNew ?_ (by simp; done) _ | with_reducible refine Ext.setNew ?_ (by simp; omega) _)))
  replace HB0 := Lib.hid (HB0.out.grow (w' := w9) (by repeat (first | with_reducible exact Ext.refl _ _ | with_reducible refine Ext.trans ?_ (by assumption) | with_reducible refine Ext.drew ?_ | with_reducible refine Ext.drewN ?_ _ | with_reducible refine Ext.alloc ?_ _ | with_reducible refine Ext.setNew ?_ (by simp; done) _ | with_reducible refine Ext.setNew ?_ (by simp; omega) _)))
  replace HB1 := Lib.hid (HB1.out.grow (w' := w9) (by repeat (first | with_reducible exact Ext.refl _ _ | with_reducible refine Ext.trans ?_ (by assumption) | with_reducible refine Ext.drew ?_ | with_reducible refine Ext.drewN ?_ _ | with_reducible refine Ext.alloc ?_ _ | with_reducible refine Ext.setNew ?_ (by simp; done) _ | with_reducible refine Ext.setNew ?_ (by simp; omega) _)))
  replace HBx0 := Lib.hid (HBx0.out.grow (w' := w9) (by repeat (first | with_reducible exact Ext.refl _ _ | with_reducible refine Ext.trans ?_ (by assumption) | with_reducible refine Ext.drew ?_ | with_reducible refine Ext.drewN ?_ _ | with_reducible refine Ext.alloc ?_ _ | with_reducible refine Ext.setNew ?_ (by simp; done) _ | with_reducible refine Ext.setNew ?_ (by simp; omega) _)))
  replace HBx1 := Lib.hid (HBx1.out.grow (w' := w9) (by repeat (first | with_reducible exact Ext.refl _ _ | with_reducible refine Ext.trans ?_ (by assumption) | with_reducible refine Ext.drew ?_ | with_reducible refine Ext.drewN ?_ _ | with_reducible refine Ext.alloc ?_ _ | with_reducible refine Ext.setNew ?_ (by simp; done) _ | with_reducible refine Ext.setNew ?_ (by simp; omega) _)))
  replace HBs := Lib.hid (HBs.out.grow (w' := w9) (by repeat (first | with_reducible exact Ext.refl _ _ | with_reducible refine Ext.trans ?_ (by assumption) | with_reducible refine Ext.drew ?_ | with_reducible refine Ext.drewN ?_ _ | with_reducible refine Ext.alloc ?_ _ | with_reducible refine Ext.setNew ?_ (by simp; done) _ | with_reducible refine Ext.setNew ?_ (by simp; omega) _)))
  replace HBg := Lib.hid (HBg.out.grow (w' := w9) (by repeat (first | with_reducible exact Ext.refl _ _ | with_reducible refine Ext.trans ?_ (by assumption) | with_reducible refine Ext.drew ?_ | with_reducible refine Ext.drewN ?_ _ | with_reducible refine Ext.alloc ?_ _ | with_reducible refine Ext.setNew ?_ (by simp; done) _ | with_reducible refine Ext.setNew ?_ (by simp; omega) _)))
  have lHB0 := HB0.out.lt
  have lHB1 := HB1.out.lt
  have lHBx0 := HBx0.out.lt
  have lHBx1 := HBx1.out.lt
  have lHBs := HBs.out.lt
  have lHBg := HBg.out.lt
  have hgA : Grow w w9 := (by repeat (first | with_reducible exact Ext.refl _ _ | with_reducible refine Ext.trans ?_ (by assumption) | with_reducible refine Ext.drew ?_ | with_reducible refine Ext.drewN ?_ _ | with_reducible refine Ext.alloc ?_ _ | with_reducible refine Ext.setNew ?_ (by simp; done) _ | with_reducible refine Ext.setNew ?_ (by simp; omega) _))
  clear hg1 hg2 hg3 hg4 hg5 hg6 hg7 hg8 hg9
  have m0 := cntT_le n
  have m1 := cntT_le p
  have mg := pbN_cnt n p
  have p0 := HBx0.out.cell 0 _ rfl; have p1 := HBx0.out.cell 1 _ rfl; have p2 := HBx0.out.cell 2 _ rfl; have p3 := HBx0.out.cell 3 _ rfl; have p4 := HBx0.out.cell 4 _ rfl
  go_wp2_with fail
  refine (uMarkN n _ f0 _ (1) _ _ (by rfl) F0.out S0.out.1 (by omega) (by omega)).mono ?_
  rintro e w10 ⟨rfl, hx, _, _⟩
  clear p0 p1 p2 p3 p4
  replace F1 := Lib.hid (F1.out.keep (S1.out.keeps S0.out (by omega) hx))
  replace S1 := Lib.hid (S1.out.ext S0.out (by omega) hx)
  replace FG := Lib.hid (FG.out.keep (SG.out.keeps S0.out (by omega) hx))
  replace SG := Lib.hid (SG.out.ext S0.out (by omega) hx)
  replace HB0 := Lib.hid (S0.out.box HB0.out hx (by omega))
  replace HB1 := Lib.hid (S0.out.box HB1.out hx (by omega))
  replace HBx0 := Lib.hid (S0.out.box HBx0.out hx (by omega))
  replace HBx1 := Lib.hid (S0.out.box HBx1.out hx (by omega))
  replace HBs := Lib.hid (S0.out.box HBs.out hx (by omega))
  replace HBg := Lib.hid (S0.out.box HBg.out hx (by omega))
  replace RW := Lib.hid (S0.out.rv RW.out hx (by omega))
  replace hgA := S0.out.inner hgA hx (by omega)
  clear hx F0
  have p0 := HBx1.out.cell 0 _ rfl; have p1 := HBx1.out.cell 1 _ rfl; have p2 := HBx1.out.cell 2 _ rfl; have p3 := HBx1.out.cell 3 _ rfl; have p4 := HBx1.out.cell 4 _ rfl
  go_wp2_with fail
  refine (uMarkN p _ f1 _ (1 + cntT n) _ _ (by simp) F1.out S1.out.1 (by omega) (by omega)).mono ?_
  rintro e w11 ⟨rfl, hx, _, _⟩
  clear p0 p1 p2 p3 p4
  replace FG := Lib.hid (FG.out.keep (SG.out.keeps S1.out (by omega) hx))
  replace SG := Lib.hid (SG.out.ext S1.out (by omega) hx)
  replace HB0 := Lib.hid (S1.out.box HB0.out hx (by omega))
  replace HB1 := Lib.hid (S1.out.box HB1.out hx (by omega))
  replace HBx0 := Lib.hid (S1.out.box HBx0.out hx (by omega))
  replace HBx1 := Lib.hid (S1.out.box HBx1.out hx (by omega))
  replace HBs := Lib.hid (S1.out.box HBs.out hx (by omega))
  replace HBg := Lib.hid (S1.out.box HBg.out hx (by omega))
  replace RW := Lib.hid (S1.out.rv RW.out hx (by omega))
  replace hgA := S1.out.inner hgA hx (by omega)
  clear hx F1
  have r0 := HBg.out.cell 0 _ rfl; have r1 := HBg.out.cell 1 _ rfl; have r2 := HBg.out.cell 2 _ rfl; have r3 := HBg.out.cell 3 _ rfl; have r4 := HBg.out.cell 4 _ rfl
  have t0 := HBs.out.cell 0 _ rfl; have t1 := HBs.out.cell 1 _ rfl; have t2 := HBs.out.cell 2 _ rfl; have t3 := HBs.out.cell 3 _ rfl; have t4 := HBs.out.cell 4 _ rfl
  go_wp2_with fail
  refine (uEqN ((pbN n p)) _ _ _ FG.out.rv RW.out.any).mono ?_
  rintro e w12 ⟨rfl, hg⟩
  clear r0 r1 r2 r3 r4 t0 t1 t2 t3 t4
  replace FG := Lib.hid (FG.out.grow SG.out hg)
  replace SG := Lib.hid (SG.out.grow hg)
  replace RW := Lib.hid (RW.out.grow hg)
  replace HB0 := Lib.hid (HB0.out.grow hg)
  replace HB1 := Lib.hid (HB1.out.grow hg)
  replace HBx0 := Lib.hid (HBx0.out.grow hg)
  replace HBx1 := Lib.hid (HBx1.out.grow hg)
  replace HBs := Lib.hid (HBs.out.grow hg)
  replace HBg := Lib.hid (HBg.out.grow hg)
  replace hgA := hgA.trans hg
  clear hg
  have r0 := HBg.out.cell 0 _ rfl; have r1 := HBg.out.cell 1 _ rfl; have r2 := HBg.out.cell 2 _ rfl; have r3 := HBg.out.cell 3 _ rfl; have r4 := HBg.out.cell 4 _ rfl
  go_wp2_with fail
  refine (uMarkN ((pbN n p)) _ fg _ 1 _ _ (by rfl) FG.out SG.out.1 (by omega) (by omega)).mono ?_
  rintro e w13 ⟨rfl, hx, hfr, hF⟩
  clear r0 r1 r2 r3 r4
  replace HB0 := Lib.hid (SG.out.box HB0.out hx (by omega))
  replace HB1 := Lib.hid (SG.out.box HB1.out hx (by omega))
  replace HBx0 := Lib.hid (SG.out.box HBx0.out hx (by omega))
  replace HBx1 := Lib.hid (SG.out.box HBx1.out hx (by omega))
  replace HBs := Lib.hid (SG.out.box HBs.out hx (by omega))
  replace HBg := Lib.hid (SG.out.box HBg.out hx (by omega))
  replace RW := Lib.hid (SG.out.rv RW.out hx (by omega))
  replace hgA := SG.out.inner hgA hx (by omega)
  replace FG := Lib.hid hF
  replace SG := Lib.hid (SG.out.marked hfr)
  clear hx hfr hF
  have r0 := HBg.out.cell 0 _ rfl; have r1 := HBg.out.cell 1 _ rfl; have r2 := HBg.out.cell 2 _ rfl; have r3 := HBg.out.cell 3 _ rfl; have r4 := HBg.out.cell 4 _ rfl
  go_wp2_with fail
  refine (uHeldN ((pbN n p)) _ 1 _ _ (by rfl) FG.out.rv (by omega) (by omega)).mono ?_
  rintro e w14 ⟨rfl, hg⟩
  clear r0 r1 r2 r3 r4
  replace FG := Lib.hid (FG.out.grow SG.out hg)
  replace SG := Lib.hid (SG.out.grow hg)
  replace RW := Lib.hid (RW.out.grow hg)
  replace HB0 := Lib.hid (HB0.out.grow hg)
  replace HB1 := Lib.hid (HB1.out.grow hg)
  replace HBx0 := Lib.hid (HBx0.out.grow hg)
  replace HBx1 := Lib.hid (HBx1.out.grow hg)
  replace HBs := Lib.hid (HBs.out.grow hg)
  replace HBg := Lib.hid (HBg.out.grow hg)
  replace hgA := hgA.trans hg
  clear hg
  have hbb : ((1 + cntT ((pbN n p)) : Nat) != (1 + cntT ((pbN n p)) : Nat)) = false := by simp
  have hgc := hgA
  go_wp2_with fail
  refine Eng.mfRgn31 n p (pbN n p) (pbBo n p) C0.out C1.out (by kernel_rfl) (by kernel_rfl) (by kernel_rfl) (by kernel_rfl) (implMergeFor_hcon n p) rfl rfl rfl rfl (HB0.out.grow (w' := w14) (by repeat (first | with_reducible exact Ext.refl _ _ | with_reducible refine Ext.trans ?_ (by assumption) | with_reducible refine Ext.drew ?_ | with_reducible refine Ext.drewN ?_ _ | with_reducible refine Ext.alloc ?_ _ | with_reducible refine Ext.setNew ?_ (by simp; done) _ | with_reducible refine Ext.setNew ?_ (by simp; omega) _))) (HV0.out.grow (by repeat (first | with_reducible exact Ext.refl _ _ | with_reducible refine Ext.trans ?_ (by assumption) | with_reducible refine Ext.drew ?_ | with_reducible refine Ext.drewN ?_ _ | with_reducible refine Ext.alloc ?_ _ | with_reducible refine Ext.setNew ?_ (by simp; done) _ | with_reducible refine Ext.setNew ?_ (by simp; omega) _))) (HB1.out.grow (w' := w14) (by repeat (first | with_reducible exact Ext.refl _ _ | with_reducible refine Ext.trans ?_ (by assumption) | with_reducible refine Ext.drew ?_ | with_reducible refine Ext.drewN ?_ _ | with_reducible refine Ext.alloc ?_ _ | with_reducible refine Ext.setNew ?_ (by simp; done) _ | with_reducible refine Ext.setNew ?_ (by simp; omega) _))) (HV1.out.grow (by repeat (first | with_reducible exact Ext.refl _ _ | with_reducible refine Ext.trans ?_ (by assumption) | with_reducible refine Ext.drew ?_ | with_reducible refine Ext.drewN ?_ _ | with_reducible refine Ext.alloc ?_ _ | with_reducible refine Ext.setNew ?_ (by simp; done) _ | with_reducible refine Ext.setNew ?_ (by simp; omega) _))) ?_
  intro w15 fh gh xsh hg15 fhp fho hBh hR
  have z15 := hg15.size
  have RH := Lib.hid hR
  obtain ⟨nah, nch, kah, kch, he⟩ := openV_node hR
  unfold nodeV at he
  have hxs : xsh = _ := congrArg Array.toList (Value.agg.inj he)
  subst hxs
  clear hR he
  have glh := hBh.lt
  have HBh := Lib.hid hBh
  clear hBh
  simp only [Eng.laidOver, List.foldl_cons, List.foldl_nil]
  rw [fhp, fho]
  have uB := HBh.out.grow (w' := w15) (by repeat (first | with_reducible exact Ext.refl _ _ | with_reducible refine Ext.trans ?_ (by assumption) | with_reducible refine Ext.drew ?_ | with_reducible refine Ext.drewN ?_ _ | with_reducible refine Ext.alloc ?_ _ | with_reducible refine Ext.setNew ?_ (by simp; done) _ | with_reducible refine Ext.setNew ?_ (by simp; omega) _))
  have u0 := uB.cell 0 _ rfl; have u1 := uB.cell 1 _ rfl; have u2 := uB.cell 2 _ rfl; have u3 := uB.cell 3 _ rfl; have u4 := uB.cell 4 _ rfl; have uz := uB.lt
  have tB := HBs.out.grow (w' := w15) (by repeat (first | with_reducible exact Ext.refl _ _ | with_reducible refine Ext.trans ?_ (by assumption) | with_reducible refine Ext.drew ?_ | with_reducible refine Ext.drewN ?_ _ | with_reducible refine Ext.alloc ?_ _ | with_reducible refine Ext.setNew ?_ (by simp; done) _ | with_reducible refine Ext.setNew ?_ (by simp; omega) _))
  have t0 := tB.cell 0 _ rfl; have t1 := tB.cell 1 _ rfl; have t2 := tB.cell 2 _ rfl; have t3 := tB.cell 3 _ rfl; have t4 := tB.cell 4 _ rfl; have tz := tB.lt
  go_wp2_with fail
  refine (uEqN ((pbN n p)) _ _ _ (RH.out.grow (by repeat (first | with_reducible exact Ext.refl _ _ | with_reducible refine Ext.trans ?_ (by assumption) | with_reducible refine Ext.drew ?_ | with_reducible refine Ext.drewN ?_ _ | with_reducible refine Ext.alloc ?_ _ | with_reducible refine Ext.setNew ?_ (by simp; done) _ | with_reducible refine Ext.setNew ?_ (by simp; omega) _))) (RW.out.any.grow (by repeat (first | with_reducible exact Ext.refl _ _ | with_reducible refine Ext.trans ?_ (by assumption) | with_reducible refine Ext.drew ?_ | with_reducible refine Ext.drewN ?_ _ | with_reducible refine Ext.alloc ?_ _ | with_reducible refine Ext.setNew ?_ (by simp; done) _ | with_reducible refine Ext.setNew ?_ (by simp; omega) _)))).mono ?_
  rintro e w16 ⟨rfl, hg16⟩
  have z16 := hg16.size
  try simp only [World.size_alloc] at z16
  clear t0 t1 t2 t3 t4 tB tz
  have rB := HBg.out.grow (w' := w16) (by repeat (first | with_reducible exact Ext.refl _ _ | with_reducible refine Ext.trans ?_ (by assumption) | with_reducible refine Ext.drew ?_ | with_reducible refine Ext.drewN ?_ _ | with_reducible refine Ext.alloc ?_ _ | with_reducible refine Ext.setNew ?_ (by simp; done) _ | with_reducible refine Ext.setNew ?_ (by simp; omega) _))
  have r0 := rB.cell 0 _ rfl; have r1 := rB.cell 1 _ rfl; have r2 := rB.cell 2 _ rfl; have r3 := rB.cell 3 _ rfl; have r4 := rB.cell 4 _ rfl; have rz := rB.lt
  go_wp2_with fail
  refine (uHeldN ((pbN n p)) _ 1 _ _ (by rfl) (FG.out.rv.grow (by repeat (first | with_reducible exact Ext.refl _ _ | with_reducible refine Ext.trans ?_ (by assumption) | with_reducible refine Ext.drew ?_ | with_reducible refine Ext.drewN ?_ _ | with_reducible refine Ext.alloc ?_ _ | with_reducible refine Ext.setNew ?_ (by simp; done) _ | with_reducible refine Ext.setNew ?_ (by simp; omega) _))) (by omega) (by omega)).mono ?_
  rintro e w17 ⟨rfl, hg17⟩
  have z17 := hg17.size
  try simp only [World.size_alloc] at z17
  clear r0 r1 r2 r3 r4 rB rz
  go_wp2_with fail
  go_ret
  exact ⟨by simp, (by repeat (first | with_reducible exact Ext.refl _ _ | with_reducible refine Ext.trans ?_ (by assumption) | with_reducible refine Ext.drew ?_ | with_reducible refine Ext.drewN ?_ _ | with_reducible refine Ext.alloc ?_ _ | with_reducible refine Ext.setNew ?_ (by simp; done) _ | with_reducible refine Ext.setNew ?_ (by simp; omega) _))⟩
theorem lawMf_ok (n : Nd) (p : Nd) (v0 : Value) (v1 : Value) (w : World) (h0 : RV nodeRep packA w any n v0) (h1 : RV nodeRep packA w any p v1) :
    Calls Try.prog 12 #[v0, v1] w fun e w' => e = .returned (.bool true) ∧ Grow w w' := by
  by_cases hc : costN n + costN p ≤ 1048576
  · exact lawMf_main n p v0 v1 w h0 h1 hc
  · exact lawMf_big n p v0 v1 w h0 h1 hc
end Go.Proofs.Ytgfnmhfdmmnaoaa
namespace Go.Proofs.Ytgfnmhfdmmnaoaa
open Go.RowKit Go.ChangeShapes Go.WideShapes Go.Deep
section
variable {H : Type} {enc : TypeId × Value → H} {W : World} {base : Nat} {sp : Nat → Bool} {held : Bool}
theorem addr_spot {w : World} {a : Addr} {v : Value} (h : w.cell? a = some v) : ∃ b o, a = ⟨b, o, none⟩ := by
  have := World.cell?_spot h
  exact ⟨a.block, a.off, by cases a; simp_all⟩
theorem add_mk (b o i : Nat) : (⟨b, o, none⟩ : Addr).add i = ⟨b, o + i, none⟩ := by
  unfold Addr.add; split
  · rename_i h; subst h; rfl
  · rfl
theorem open_strs' {fuel : Nat} {cs : List Value} {x : DataW H × List MemPlace} (h : DataW.trod enc Try.prog W base sp held fuel 23 cs = some x) :
    ∃ a c xs, cs = [.slice a xs.length c] ∧ StrsR W any a c xs := by
  rcases open_slice Try.underlying23 h with ⟨rfl, _⟩ | ⟨a, len, cap, m, n, D, Pl, rfl, _, hl, hm, hmm, _, hi⟩
  · exact ⟨none, 0, [], rfl, by simp, by simp, by simp, .inl rfl⟩
  · have hlm : len ≤ m := by rw [hmm]; split <;> omega
    have hel : ∀ i, i < len → ∃ s : ByteArray, W.cell? (a.add i) = some (.string s) ∧ s.size ≤ maxLen := fun i hi' => by
      obtain ⟨cs', h1, h2⟩ := hi i (by omega)
      have hc : Try.prog.cellsOf 9 = 1 := by kernel_rfl
      rw [hc] at h1
      obtain ⟨_, hlen, hat⟩ := World.cells?_some h1
      obtain ⟨s, rfl, _, hs⟩ := DataW.trod_string Try.underlying9 h2
      have := hat 0 (by omega)
      exact ⟨s, by simpa [Go.Deep.add_add] using this, hs⟩
    have : Inhabited ByteArray := ⟨ByteArray.empty⟩
    obtain ⟨f, hf⟩ := choose_lt hel
    refine ⟨some a, cap, (List.range len).map f, by simp, by simpa using hl, by simp; unfold maxLen at hm; unfold big; omega, ?_, ?_⟩
    · intro x hx
      obtain ⟨i, hi', rfl⟩ := List.mem_map.1 hx
      have := (hf i (List.mem_range.1 hi')).2
      unfold maxLen at this; unfold big; omega
    · by_cases h0 : len = 0
      · subst h0; exact .inl rfl
      · obtain ⟨b, o, ha⟩ := addr_spot (hf 0 (by omega)).1
        have ha' : a = ⟨b, o, none⟩ := by simpa [Addr.add] using ha
        subst ha'
        refine .inr ⟨b, o, rfl, trivial, fun i hi' => ?_⟩
        simp at hi'
        have := (hf i hi').1
        rw [add_mk] at this
        simpa using this
theorem open_node : ∀ (fuel : Nat) (cs : List Value) (x : DataW H × List MemPlace), DataW.trod enc Try.prog W base sp held fuel 41 cs = some x →
    ∃ n na nc ka kc, cs = [.int .i64 n.kind, .int .i64 n.num, .string n.text, .slice na n.names.length nc, .slice ka n.kids.length kc] ∧ NodeC W any n na nc ka kc := by
  intro fuel
  induction fuel using Nat.strongRecOn with
  | ind fuel ih =>
    intro cs x h
    obtain ⟨xs, n, rfl, _, hlen, hxs, hf⟩ := DataW.trod_struct Try.underlying41 h
    have hc : Try.prog.cellsOf 41 = 5 := by kernel_rfl
    have c3 : Try.prog.cellsOf 3 = 1 := by kernel_rfl
    have c9 : Try.prog.cellsOf 9 = 1 := by kernel_rfl
    have c23 : Try.prog.cellsOf 23 = 1 := by kernel_rfl
    have c57 : Try.prog.cellsOf 39 = 1 := by kernel_rfl
    rw [hc] at hlen
    match cs, hlen with
    | [v0, v1, v2, v3, v4], _ =>
      obtain ⟨y0, g0⟩ : ∃ y, DataW.trod enc Try.prog W base sp held n 3 [v0] = some y := ⟨xs[0]'(by simp at hxs; omega), by
        have h := hf 0 _ rfl
        rw [List.getElem?_eq_getElem (by simp at hxs; omega)] at h
        simpa [c3, c9, c23, c57] using h⟩
      obtain ⟨y1, g1⟩ : ∃ y, DataW.trod enc Try.prog W base sp held n 3 [v1] = some y := ⟨xs[1]'(by simp at hxs; omega), by
        have h := hf 1 _ rfl
        rw [List.getElem?_eq_getElem (by simp at hxs; omega)] at h
        simpa [c3, c9, c23, c57] using h⟩
      obtain ⟨y2, g2⟩ : ∃ y, DataW.trod enc Try.prog W base sp held n 9 [v2] = some y := ⟨xs[2]'(by simp at hxs; omega), by
        have h := hf 2 _ rfl
        rw [List.getElem?_eq_getElem (by simp at hxs; omega)] at h
        simpa [c3, c9, c23, c57] using h⟩
      obtain ⟨y3, g3⟩ : ∃ y, DataW.trod enc Try.prog W base sp held n 23 [v3] = some y := ⟨xs[3]'(by simp at hxs; omega), by
        have h := hf 3 _ rfl
        rw [List.getElem?_eq_getElem (by simp at hxs; omega)] at h
        simpa [c3, c9, c23, c57] using h⟩
      obtain ⟨y4, g4⟩ : ∃ y, DataW.trod enc Try.prog W base sp held n 39 [v4] = some y := ⟨xs[4]'(by simp at hxs; omega), by
        have h := hf 4 _ rfl
        rw [List.getElem?_eq_getElem (by simp at hxs; omega)] at h
        simpa [c3, c9, c23, c57] using h⟩
      clear hf
      obtain ⟨kind, e0, _, _⟩ := DataW.trod_int Try.underlying3 g0
      obtain ⟨num, e1, _, _⟩ := DataW.trod_int Try.underlying3 g1
      obtain ⟨text, e2, _, hts⟩ := DataW.trod_string Try.underlying9 g2
      obtain ⟨na, nc, names, e3, hns⟩ := open_strs' g3
      simp only [List.cons.injEq, and_true] at e0 e1 e2 e3
      subst e0 e1 e2 e3
      have htx : text.size ≤ big := by unfold maxLen at hts; unfold big; omega
      rcases DataW.trod_slice Try.underlying39 g4 with ⟨e4, _⟩ | ⟨a, len, cap, elems, rest, n', rfl, e4, _, _, hl, hm, hel, hi, _, _⟩
      · simp only [List.cons.injEq, and_true] at e4
        subst e4
        exact ⟨⟨kind, num, text, names, []⟩, na, nc, none, 0, rfl, NodeC.mk htx hns ⟨by simp, by simp, .inl rfl⟩⟩
      · simp only [List.cons.injEq, and_true] at e4
        subst e4
        rw [hc] at hi
        have key : ∀ i, i < len → ∃ (k : Nd × (Option Addr × Nat × Option Addr × Nat)), W.cell? (a.add (i * 5)) = some (.int .i64 k.1.kind) ∧ W.cell? (a.add (i * 5 + 1)) = some (.int .i64 k.1.num) ∧ W.cell? (a.add (i * 5 + 2)) = some (.string k.1.text) ∧
            W.cell? (a.add (i * 5 + 3)) = some (.slice k.2.1 k.1.names.length k.2.2.1) ∧ W.cell? (a.add (i * 5 + 4)) = some (.slice k.2.2.2.1 k.1.kids.length k.2.2.2.2) ∧ NodeC W any k.1 k.2.1 k.2.2.1 k.2.2.2.1 k.2.2.2.2 := fun i hi' => by
          have h := hi i hi'
          rw [List.getElem?_eq_getElem (by omega)] at h
          obtain ⟨cs', h1, h2⟩ := Option.bind_eq_some_iff.1 h
          obtain ⟨_, hl5, hat⟩ := World.cells?_some h1
          obtain ⟨m, na', nc', ka', kc', rfl, hn'⟩ := ih n' (by omega) cs' _ h2
          refine ⟨⟨m, na', nc', ka', kc'⟩, ?_, ?_, ?_, ?_, ?_, hn'⟩
          · simpa [Go.Deep.add_add] using hat 0 (by omega)
          · simpa [Go.Deep.add_add] using hat 1 (by omega)
          · simpa [Go.Deep.add_add] using hat 2 (by omega)
          · simpa [Go.Deep.add_add] using hat 3 (by omega)
          · simpa [Go.Deep.add_add] using hat 4 (by omega)
        have : Inhabited (Nd × (Option Addr × Nat × Option Addr × Nat)) := ⟨⟨⟨0, 0, ByteArray.empty, [], []⟩, none, 0, none, 0⟩⟩
        obtain ⟨f, hf⟩ := choose_lt key
        have hkl : ((List.range len).map fun i => (f i).1).length = len := by simp
        have hbig : len ≤ big := by unfold maxLen at hm; unfold big; omega
        refine ⟨⟨kind, num, text, names, (List.range len).map fun i => (f i).1⟩, na, nc, some a, cap, by simp, NodeC.mk htx hns ⟨by rw [hkl]; exact hl, by rw [hkl]; exact hbig, ?_⟩⟩
        by_cases h0 : len = 0
        · subst h0; exact .inl rfl
        · obtain ⟨b, o, ha⟩ := addr_spot (hf 0 (by omega)).1
          have ha' : a = ⟨b, o, none⟩ := by simpa [Addr.add] using ha
          subst ha'
          refine .inr ⟨b, o, rfl, trivial, KidsR.of_get (fun i hi' => ?_)⟩
          rw [hkl] at hi'
          obtain ⟨k0, k1, k2, k3, k4, kn⟩ := hf i hi'
          rw [add_mk] at k0 k1 k2 k3 k4
          simp only [List.getElem_map, List.getElem_range]
          exact ⟨_, _, _, _, k0, by rw [Nat.add_assoc]; exact k1, by rw [Nat.add_assoc]; exact k2, by rw [Nat.add_assoc]; exact k3, by rw [Nat.add_assoc]; exact k4, kn⟩
end
end Go.Proofs.Ytgfnmhfdmmnaoaa
namespace Go.Proofs.Ytgfnmhfdmmnaoaa
open Go.RowKit
end Go.Proofs.Ytgfnmhfdmmnaoaa
namespace Go.Proofs.Ytgfnmhfdmmnaoaa
open Go.RowKit
end Go.Proofs.Ytgfnmhfdmmnaoaa
namespace Go.Proofs.Ytgfnmhfdmmnaoaa
open Go.RowKit
end Go.Proofs.Ytgfnmhfdmmnaoaa
namespace Go.Proofs.Ytgfnmhfdmmnaoaa
open Go.RowKit
end Go.Proofs.Ytgfnmhfdmmnaoaa
namespace Go.Proofs.Ytgfnmhfdmmnaoaa
open Go.RowKit Go.ChangeShapes Go.WideShapes Go.Deep
section
variable {H : Type} {enc : TypeId × Value → H} {W : World} {base : Nat} {sp : Nat → Bool} {held : Bool}
end
end Go.Proofs.Ytgfnmhfdmmnaoaa
namespace Go.Proofs.Ytgfnmhfdmmnaoaa
open Go.RowKit Go.ChangeShapes Go.WideShapes Go.Deep
section
variable {H : Type} {enc : TypeId × Value → H} {W : World} {base : Nat} {sp : Nat → Bool} {held : Bool}
end
end Go.Proofs.Ytgfnmhfdmmnaoaa
namespace Go.Proofs.Ytgfnmhfdmmnaoaa
open Go.RowKit
end Go.Proofs.Ytgfnmhfdmmnaoaa
namespace Go.Proofs.Ytgfnmhfdmmnaoaa
open Go.RowKit
end Go.Proofs.Ytgfnmhfdmmnaoaa
namespace Go.Proofs.Ytgfnmhfdmmnaoaa
open Go.RowKit
theorem lt_trans {a b c : ByteArray} (h1 : lt a b = true) (h2 : lt b c = true) : lt a c = true := bl_trans _ _ _ h1 h2
end Go.Proofs.Ytgfnmhfdmmnaoaa
namespace Go.Proofs.Ytgfnmhfdmmnaoaa
open Go.RowKit Go.ChangeShapes Go.WideShapes Go.Deep
section
variable {H : Type} {enc : TypeId × Value → H} {W : World} {base : Nat} {sp : Nat → Bool} {held : Bool}
theorem rv_node {fuel : Nat} {cs : Array Value} {x : DataW H × List MemPlace} (h : DataW.trod enc Try.prog W base sp held fuel 41 cs.toList = some x) : ∃ y, RV nodeRep packA W any y (.agg cs) := by
  obtain ⟨q, na, nc, ka, kc, e2, hq⟩ := open_node _ _ _ h
  exact ⟨q, cs.toList, rfl, na, nc, ka, kc, e2, hq⟩
end
end Go.Proofs.Ytgfnmhfdmmnaoaa
