/-
  Texts of this claim, joined.
-/
import Derived.Test.YtiobnaielfeeaaaPmG

set_option linter.unusedSimpArgs false
set_option linter.unusedVariables false
set_option linter.unnecessarySimpa false
set_option maxRecDepth 100000
set_option maxHeartbeats 16000000
-- EV: rows
namespace Go.Proofs.Ytiobnaielfeeaaa.Eng
open Go Go.RowKit
attribute [local simp] big size_mk ASt.pay Option.map_map Function.comp_def awant aop acall ado aev ofVal ofVal0 ASt.put ASt.add ASt.turn ASt.kill abox aalloc astore aload ASt.at cellsTo afieldAddr afield aindexAddr aindex alen abin aint acmp astr aun apick aextract anil aslice abound abuild afill abuildSlice asCells aps avCells over upd aappend asrc amax amin aconv mkSt slots rowsOf_cons rowsOf_nil usedOf_cons usedOf_nil ZK.av List.replicate ASt.back ASt.addL ASt.killL nodeA nodeT nodeTL_eq nodeL_eq strsE_get strsE_len intsE_get intsE_len strsE_at intsE_at nodeN namesRow nodeO kidsRow tab2 tab3 tab4 tab5 tab6 tab7 tab8 tab9 tab10 tab11 tab12 tab13 tab14 tab15 tab16 tab17 tab18 tab19 tab21 tab22 tab23 tab24 tab25 tab26 tab27 tab28 tab29 tab30 tab48 tab51 tab52 tab59 tab77 tab78 tab79 tab91 tab95 tab96 tab97 tab109 tab116 tab132 tab133 tab138 tab139 tab144 tab145 tab146 tab148 tab149 tab150
theorem back_copy {s : ASt} {n : Nd} {A B : Nat} (hAB : A ≠ B) (uA : s.used A = false) (uB : s.used B = false) : Back s [] (fun _ => 0) (fun k => if k = 20 then A else B) [(20, namesR n.names), (34, nodesR n.kids)] [(A, namesR n.names), (B, nodesR n.kids)] (nodeRR n 20 34) (nodeRR n A B) := by
  refine ⟨?_, ?_, ?_, ?_⟩
  · intro k hk k' hk'
    simp only [List.map_cons, List.map_nil, List.mem_cons, List.not_mem_nil, or_false] at hk hk'
    rcases hk with rfl | rfl <;> rcases hk' with rfl | rfl <;> simp <;> intro h <;> first | exact absurd h hAB | exact absurd h.symm hAB
  · intro k R hk
    right
    show s.used (if k = 20 then A else B) = false
    split
    · exact uA
    · exact uB
  · exact .cons (es := (namesR n.names).es) rfl (.refl (strsE_pur _)) (.cons (es := (nodesR n.kids).es) rfl (.refl (nodesE_pur _)) .nil)
  · exact .base (.agg (.cons (.pur pur_int) (.cons (.pur pur_int) (.cons (.pur pur_str) (.cons (.own (by simp) rfl) (.cons (.own (by simp) rfl) .nil))))))
theorem arun_copyRR {P : Program} {T : Tab} {k0 : Nat} {md : List Nat} {ops : Array Oper} {K : ASt → Prop} {o : Oper} {l : List Oper} {s : ASt} {f : FuncId} {xs : List Operand} {n : Nd} {c : AV} (A B : Nat) (hAB : A ≠ B := by decide) (hac : ACG P f [c] [] 0 (fun r l => r = nodeRR n 20 34 ∧ l = [(20, namesR n.names), (34, nodesR n.kids)]))
    (uA : s.used A = false) (uB : s.used B = false) (hw : awant ops o s = some true) (ha : acall o.op = some (f, xs)) (hargs : MvL s.rows [] (fun _ => 0) (xs.map (aev s)) [c]) (hcan : s.can 0)
    (h : ARun P T k0 md ops K l ((s.back [] (fun _ => 0) 0 [(A, namesR n.names), (B, nodesR n.kids)]).put o.dst (nodeRR n A B))) : ARun P T k0 md ops K (o :: l) s :=
  arun_callG [] (fun _ => 0) hw ha rfl ⟨hac, by simp, MvR.nil, hargs, hcan⟩ (fun r l' hp => by
    obtain ⟨rfl, rfl⟩ := hp
    exact ⟨_, _, _, back_copy hAB uA uB, h⟩)
theorem nodeL_noid (y : Nd) : NoId (.agg [.int .i64 y.kind, .int .i64 y.num, .str y.text, .view .loose 1 (strsE y.names), .view .loose 5 (y.kids.map nodeL)]) := by
  have h := node_in (U := fun _ => false) y
  unfold nodeA at h
  rw [nodeL_eq] at h
  exact h
theorem mergeValid_step (p n : Nd) (hp : Shp p) (hn : Shp n) (ih : ∀ k ∈ p.kids, ∀ m, Shp m → AC Try.prog 55 [nodeA m, nodeA k] 0 (fun r => r = nodeA (mrg k m))) : AC Try.prog 55 [nodeA n, nodeA p] 0 (fun r => r = nodeA (mrg p n)) := by
  have hcn := implCopy_ACG n hn.sml
  have hcln := node_clo n
  unfold nodeA at hcn hcln ⊢
  rw [nodeL_eq n] at hcn hcln
  rw [nodeL_eq n, nodeL_eq p]
  refine AC.of tab_ok mixed_ok Try.func55 (by rfl) (by kernel_rfl) ?_; rintro ⟨P, T, hT, hm, w0, S0, rd0, k0⟩ hP hTT; dsimp only at hP hTT; subst hP hTT; unfold initSt; rw [Try.ntmps55]
  by_cases h4 : p.kind = 4
  rotate_left
  · have hb : (p.kind != 4) = true := by simpa using h4
    have hpc := implCopy_AC p hp.sml
    unfold nodeA at hpc
    rw [nodeL_eq p] at hpc
    (repeat (first | with_reducible refine AW.seq ?_ | ((first | refine arun_kn 4 rfl (fun C hC => ?_) | refine arunD_kn 4 rfl (fun C hC => ?_)); (repeat ((conv => whnf); simp [hb])); refine hC _ ?_; clear hC C; simp only [List.drop, Nat.reduceAdd]) | ((first | refine arun_kn 1 rfl (fun C hC => ?_) | refine arunD_kn 1 rfl (fun C hC => ?_)); (repeat ((conv => whnf); simp [hb])); refine hC _ ?_; clear hC C; simp only [List.drop, Nat.reduceAdd]) | (refine arun_skip ?_ ?_; (focus (simp [awant, hb]; done))) | (refine arun_c0 (hpc) ?_; rintro _ rfl) | (refine AW.regionK [] (fun K hK => ?_)) | (refine AW.regionDK [] (pcs [] []) (by kernel_rfl) (by kernel_rfl) (fun K hK => ?_)) | (refine AW.condT ?_ ?_; (focus (simp [aev, hb]; done))) | (refine AW.condF ?_ ?_; (focus (simp [aev, hb]; done))) | with_reducible refine AW.block ?_ | ((first | ((first | refine arun_nil ?_ | refine arunD_nil ?_); refine hK _ ?_; clear hK K) | refine AW.skip ?_ | refine AW.exit ?_ | refine AW.ret ?_); simp only [thenA_exit, inBlockA_exit, if_true, if_false, Nat.reduceEqDiff, thenA_normal, inBlockA_normal, reduceIte, thenA_ret, inBlockA_ret, endQ_ret, endR_ret, endG_ret, endQ_normal, endR_normal, endG_normal])))
    exact ⟨nodeA p, by simp [ares, aresL, upd, rowsOf_cons], node_pur p, by rw [mrg_no h4]; rfl⟩
  have hb : (p.kind != 4) = false := by simp [h4]
  have h6 := hp.kids
  have hln := (hp.map h4).2
  (repeat (first | with_reducible refine AW.seq ?_ | ((first | refine arun_kn 4 rfl (fun C hC => ?_) | refine arunD_kn 4 rfl (fun C hC => ?_)); (repeat ((conv => whnf); simp [hb])); refine hC _ ?_; clear hC C; simp only [List.drop, Nat.reduceAdd]) | ((first | refine arun_kn 1 rfl (fun C hC => ?_) | refine arunD_kn 1 rfl (fun C hC => ?_)); (repeat ((conv => whnf); simp [hb])); refine hC _ ?_; clear hC C; simp only [List.drop, Nat.reduceAdd]) | (refine arun_skip ?_ ?_; (focus (simp [awant, hb]; done))) | (refine AW.regionK [] (fun K hK => ?_)) | (refine AW.regionDK [] (pcs [] []) (by kernel_rfl) (by kernel_rfl) (fun K hK => ?_)) | (refine AW.condT ?_ ?_; (focus (simp [aev, hb]; done))) | (refine AW.condF ?_ ?_; (focus (simp [aev, hb]; done))) | with_reducible refine AW.block ?_ | ((first | ((first | refine arun_nil ?_ | refine arunD_nil ?_); refine hK _ ?_; clear hK K) | refine AW.skip ?_ | refine AW.exit ?_ | refine AW.ret ?_); simp only [thenA_exit, inBlockA_exit, if_true, if_false, Nat.reduceEqDiff, thenA_normal, inBlockA_normal, reduceIte, thenA_ret, inBlockA_ret, endQ_ret, endR_ret, endG_ret, endQ_normal, endR_normal, endG_normal])))
  refine AW.cutN (fun (_ : Unit) => mkSt (slots 0 63 [(3, .ptr true 5 1 3 0 0), (4, .ptr true 5 1 4 0 0), (5, .ptr true 5 1 5 0 0)]) [(3, ⟨true, 30, 5, [nodeL p]⟩), (4, ⟨true, 30, 5, [zeroN]⟩), (5, boxRR (baseM n) 100 101), (100, namesR (baseM n).names), (101, nodesR (baseM n).kids)] [3, 4, 5, 100, 101] (rd0.map fun _ => 0)) (fun _ => True) ?_ ?_
  · by_cases hn4 : n.kind = 4
    · have hbn : (n.kind == 4) = true := by simpa using hn4
      have hbase : baseM n = n := by unfold baseM; rw [if_pos hn4]
      (repeat (first | with_reducible refine AW.seq ?_ | ((first | refine arun_kn 4 rfl (fun C hC => ?_) | refine arunD_kn 4 rfl (fun C hC => ?_)); (repeat ((conv => whnf); simp [hbn])); refine hC _ ?_; clear hC C; simp only [List.drop, Nat.reduceAdd]) | ((first | refine arun_kn 1 rfl (fun C hC => ?_) | refine arunD_kn 1 rfl (fun C hC => ?_)); (repeat ((conv => whnf); simp [hbn])); refine hC _ ?_; clear hC C; simp only [List.drop, Nat.reduceAdd]) | (refine arun_skip ?_ ?_; (focus (simp [awant, hbn]; done))) | (refine AW.regionK [] (fun K hK => ?_)) | (refine AW.regionDK [] (pcs [] []) (by kernel_rfl) (by kernel_rfl) (fun K hK => ?_)) | (refine AW.condT ?_ ?_; (focus (simp [aev, hbn]; done))) | (refine AW.condF ?_ ?_; (focus (simp [aev, hbn]; done))) | with_reducible refine AW.block ?_ | ((first | ((first | refine arun_nil ?_ | refine arunD_nil ?_); refine hK _ ?_; clear hK K) | refine AW.skip ?_ | refine AW.exit ?_ | refine AW.ret ?_); simp only [thenA_exit, inBlockA_exit, if_true, if_false, Nat.reduceEqDiff, thenA_normal, inBlockA_normal, reduceIte, thenA_ret, inBlockA_ret, endQ_ret, endR_ret, endG_ret, endQ_normal, endR_normal, endG_normal])))
      refine arun_copyRR 100 101 (hac := hcn) (uA := by simp [upd]) (uB := by simp [upd]) (hw := by simp [awant]) (ha := rfl) (hargs := .cons (.base (.clo hcln.cloTo)) .nil) (hcan := can_of (Nat.le_refl _)) (h := ?_)
      (repeat (first | with_reducible refine AW.seq ?_ | ((first | refine arun_kn 4 rfl (fun C hC => ?_) | refine arunD_kn 4 rfl (fun C hC => ?_)); (repeat ((conv => whnf); simp [hbn, nodeRR])); refine hC _ ?_; clear hC C; simp only [List.drop, Nat.reduceAdd]) | ((first | refine arun_kn 1 rfl (fun C hC => ?_) | refine arunD_kn 1 rfl (fun C hC => ?_)); (repeat ((conv => whnf); simp [hbn, nodeRR])); refine hC _ ?_; clear hC C; simp only [List.drop, Nat.reduceAdd]) | (refine arun_skip ?_ ?_; (focus (simp [awant, hbn, nodeRR]; done))) | (refine AW.regionK [] (fun K hK => ?_)) | (refine AW.regionDK [] (pcs [] []) (by kernel_rfl) (by kernel_rfl) (fun K hK => ?_)) | (refine AW.condT ?_ ?_; (focus (simp [aev, hbn, nodeRR]; done))) | (refine AW.condF ?_ ?_; (focus (simp [aev, hbn, nodeRR]; done))) | with_reducible refine AW.block ?_ | ((first | ((first | refine arun_nil ?_ | refine arunD_nil ?_); refine hK _ ?_; clear hK K) | refine AW.skip ?_ | refine AW.exit ?_ | refine AW.ret ?_); simp only [thenA_exit, inBlockA_exit, if_true, if_false, Nat.reduceEqDiff, thenA_normal, inBlockA_normal, reduceIte, thenA_ret, inBlockA_ret, endQ_ret, endR_ret, endG_ret, endQ_normal, endR_normal, endG_normal])))
      exact ⟨(), trivial, (less_of (by simp [lessL, mkSt, slots, namesR, nodesR, boxRR, zeroN, hbase, nodeN, namesRow, nodeO, kidsRow]) (by simp [upd, mkSt, rowsOf_cons, namesR, nodesR, boxRR, zeroN, hbase, nodeN, namesRow, nodeO, kidsRow]) (by simp [upd, mkSt, usedOf_cons, namesR, nodesR, boxRR, zeroN, hbase, nodeN, namesRow, nodeO, kidsRow]) (by first | exact rd_less (by omega) | simp [mkSt, namesR, nodesR, boxRR, zeroN, hbase, nodeN, namesRow, nodeO, kidsRow]) (by simp [slots, in_any, in_int, in_bool, in_str, in_ptr, in_own, in_agg, in_vnil, in_rdr, usedOf_cons, usedOf_nil, strs_in, ints_in, nodes_in, in_tup, namesR, nodesR, boxRR, zeroN, hbase, nodeN, namesRow, nodeO, kidsRow]) (by simp only [List.forall_mem_cons, List.not_mem_nil, false_implies, implies_true, and_true, true_and, namesR, nodesR, boxRR, zeroN, hbase, nodeN, namesRow, nodeO, kidsRow]; (repeat (first | with_reducible exact trivial | with_reducible refine And.intro ?_ ?_ | with_reducible exact in_int | with_reducible exact in_str | with_reducible exact in_bool | with_reducible exact strs_in _ | with_reducible exact nodes_in _ | with_reducible exact items_in _ | with_reducible exact in_vnil | with_reducible exact in_any | exact hin _ | with_reducible refine take_in ?_ | with_reducible exact strsE_in _ | with_reducible exact nodesE_in _ | with_reducible exact nodeL_in _ | with_reducible exact itemsE_in _ | with_reducible exact itemL_in _ | with_reducible refine app_in ?_ ?_ | with_reducible refine sing_in ?_ | (focus (simp [in_any, in_int, in_bool, in_str, in_ptr, in_own, in_agg, in_vnil, in_rdr, usedOf_cons, usedOf_nil, strs_in, ints_in, nodes_in, namesR, nodesR, boxRR, zeroN, hbase, nodeN, namesRow, nodeO, kidsRow]; done)))); done))⟩
    · have hbn : (n.kind == 4) = false := by simpa using hn4
      have hbase : baseM n = ⟨4, 0, ⟨#[]⟩, [], []⟩ := by unfold baseM; rw [if_neg hn4]
      refine AW.adoptB 5 3 100 9 1 ⟨_, tab9, rfl⟩ (by simp [upd]; rfl) rfl rfl (by simp [upd]) ?_
      simp only [ASt.adoptB]
      refine AW.adoptB 5 4 101 30 5 ⟨_, tab30, rfl⟩ (by simp [upd]; rfl) rfl rfl (by simp [upd]) ?_
      simp only [ASt.adoptB]
      (repeat (first | with_reducible refine AW.seq ?_ | ((first | refine arun_kn 4 rfl (fun C hC => ?_) | refine arunD_kn 4 rfl (fun C hC => ?_)); (repeat ((conv => whnf); simp [hbn])); refine hC _ ?_; clear hC C; simp only [List.drop, Nat.reduceAdd]) | ((first | refine arun_kn 1 rfl (fun C hC => ?_) | refine arunD_kn 1 rfl (fun C hC => ?_)); (repeat ((conv => whnf); simp [hbn])); refine hC _ ?_; clear hC C; simp only [List.drop, Nat.reduceAdd]) | (refine arun_skip ?_ ?_; (focus (simp [awant, hbn]; done))) | (refine AW.regionK [] (fun K hK => ?_)) | (refine AW.regionDK [] (pcs [] []) (by kernel_rfl) (by kernel_rfl) (fun K hK => ?_)) | (refine AW.condT ?_ ?_; (focus (simp [aev, hbn]; done))) | (refine AW.condF ?_ ?_; (focus (simp [aev, hbn]; done))) | with_reducible refine AW.block ?_ | ((first | ((first | refine arun_nil ?_ | refine arunD_nil ?_); refine hK _ ?_; clear hK K) | refine AW.skip ?_ | refine AW.exit ?_ | refine AW.ret ?_); simp only [thenA_exit, inBlockA_exit, if_true, if_false, Nat.reduceEqDiff, thenA_normal, inBlockA_normal, reduceIte, thenA_ret, inBlockA_ret, endQ_ret, endR_ret, endG_ret, endQ_normal, endR_normal, endG_normal])))
      exact ⟨(), trivial, (less_of (by simp [lessL, mkSt, slots, namesR, nodesR, boxRR, zeroN, hbase, strsE, nodeN, namesRow, nodeO, kidsRow]) (by simp [upd, mkSt, rowsOf_cons, namesR, nodesR, boxRR, zeroN, hbase, strsE, nodeN, namesRow, nodeO, kidsRow]) (by simp [upd, mkSt, usedOf_cons, namesR, nodesR, boxRR, zeroN, hbase, strsE, nodeN, namesRow, nodeO, kidsRow]) (by first | exact rd_less (by omega) | simp [mkSt, namesR, nodesR, boxRR, zeroN, hbase, strsE, nodeN, namesRow, nodeO, kidsRow]) (by simp [slots, in_any, in_int, in_bool, in_str, in_ptr, in_own, in_agg, in_vnil, in_rdr, usedOf_cons, usedOf_nil, strs_in, ints_in, nodes_in, in_tup, namesR, nodesR, boxRR, zeroN, hbase, strsE, nodeN, namesRow, nodeO, kidsRow]) (by simp only [List.forall_mem_cons, List.not_mem_nil, false_implies, implies_true, and_true, true_and, namesR, nodesR, boxRR, zeroN, hbase, strsE, nodeN, namesRow, nodeO, kidsRow]; (repeat (first | with_reducible exact trivial | with_reducible refine And.intro ?_ ?_ | with_reducible exact in_int | with_reducible exact in_str | with_reducible exact in_bool | with_reducible exact strs_in _ | with_reducible exact nodes_in _ | with_reducible exact items_in _ | with_reducible exact in_vnil | with_reducible exact in_any | exact hin _ | with_reducible refine take_in ?_ | with_reducible exact strsE_in _ | with_reducible exact nodesE_in _ | with_reducible exact nodeL_in _ | with_reducible exact itemsE_in _ | with_reducible exact itemL_in _ | with_reducible refine app_in ?_ ?_ | with_reducible refine sing_in ?_ | (focus (simp [in_any, in_int, in_bool, in_str, in_ptr, in_own, in_agg, in_vnil, in_rdr, usedOf_cons, usedOf_nil, strs_in, ints_in, nodes_in, namesR, nodesR, boxRR, zeroN, hbase, strsE, nodeN, namesRow, nodeO, kidsRow]; done)))); done))⟩
  rintro ⟨⟩ s' - hls
  refine AW.less _ hls ?_
  clear hls s'
  (repeat (first | with_reducible refine AW.seq ?_ | ((first | refine arun_kn 4 rfl (fun C hC => ?_) | refine arunD_kn 4 rfl (fun C hC => ?_)); (repeat ((conv => whnf); simp [nodeL_eq p, strsE_len])); refine hC _ ?_; clear hC C; simp only [List.drop, Nat.reduceAdd]) | ((first | refine arun_kn 1 rfl (fun C hC => ?_) | refine arunD_kn 1 rfl (fun C hC => ?_)); (repeat ((conv => whnf); simp [nodeL_eq p, strsE_len])); refine hC _ ?_; clear hC C; simp only [List.drop, Nat.reduceAdd]) | (refine arun_skip ?_ ?_; (focus (simp [awant, nodeL_eq p, strsE_len]; done))) | (refine AW.regionK [] (fun K hK => ?_)) | (refine AW.regionDK [] (pcs [] []) (by kernel_rfl) (by kernel_rfl) (fun K hK => ?_)) | (refine AW.condT ?_ ?_; (focus (simp [aev, nodeL_eq p, strsE_len]; done))) | (refine AW.condF ?_ ?_; (focus (simp [aev, nodeL_eq p, strsE_len]; done))) | with_reducible refine AW.block ?_ | ((first | ((first | refine arun_nil ?_ | refine arunD_nil ?_); refine hK _ ?_; clear hK K) | refine AW.skip ?_ | refine AW.exit ?_ | refine AW.ret ?_); simp only [thenA_exit, inBlockA_exit, if_true, if_false, Nat.reduceEqDiff, thenA_normal, inBlockA_normal, reduceIte, thenA_ret, inBlockA_ret, endQ_ret, endR_ret, endG_ret, endQ_normal, endR_normal, endG_normal])))
  refine AW.loopS (fun (x : Nat × Nd) => mkSt (slots 0 63 [(3, .ptr true 5 1 3 0 0), (4, .ptr true 5 1 4 0 0), (5, .ptr true 5 1 5 0 0), (23, .view .loose 1 (strsE p.names)), (24, .int .i64 p.names.length), (25, .int .i64 x.1)]) [(3, ⟨true, 30, 5, [nodeL p]⟩), (4, ⟨true, 30, 5, [zeroN]⟩), (5, boxRR x.2 100 101), (100, namesR x.2.names), (101, nodesR x.2.kids)] [3, 4, 5, 100, 101] (rd0.map fun _ => 0)) (fun x => p.names.length - x.1) (fun x => x.1 ≤ p.names.length ∧ Mid n p x.1 x.2 ∧ mrgL (p.names.drop x.1) (p.kids.drop x.1) x.2 = mrg p n) (0, baseM n) ?_ ⟨Nat.zero_le _, Mid.start hn p, by rw [mrg_map h4]; rfl⟩ ?_
  · dsimp only
    rw [nodeL_eq p]
    exact (less_of (by simp [lessL, mkSt, slots, boxRR, namesR, nodesR, zeroN, nodeN, namesRow, nodeO, kidsRow]) (by simp [upd, mkSt, rowsOf_cons, boxRR, namesR, nodesR, zeroN, nodeN, namesRow, nodeO, kidsRow]) (by simp [upd, mkSt, usedOf_cons, boxRR, namesR, nodesR, zeroN, nodeN, namesRow, nodeO, kidsRow]) (by first | exact rd_less (by omega) | simp [mkSt, boxRR, namesR, nodesR, zeroN, nodeN, namesRow, nodeO, kidsRow]) (by simp [slots, in_any, in_int, in_bool, in_str, in_ptr, in_own, in_agg, in_vnil, in_rdr, usedOf_cons, usedOf_nil, strs_in, ints_in, nodes_in, in_tup, boxRR, namesR, nodesR, zeroN, nodeN, namesRow, nodeO, kidsRow]) (by simp only [List.forall_mem_cons, List.not_mem_nil, false_implies, implies_true, and_true, true_and, boxRR, namesR, nodesR, zeroN, nodeN, namesRow, nodeO, kidsRow]; (repeat (first | with_reducible exact trivial | with_reducible refine And.intro ?_ ?_ | with_reducible exact in_int | with_reducible exact in_str | with_reducible exact in_bool | with_reducible exact strs_in _ | with_reducible exact nodes_in _ | with_reducible exact items_in _ | with_reducible exact in_vnil | with_reducible exact in_any | exact hin _ | with_reducible refine take_in ?_ | with_reducible exact strsE_in _ | with_reducible exact nodesE_in _ | with_reducible exact nodeL_in _ | with_reducible exact itemsE_in _ | with_reducible exact itemL_in _ | with_reducible refine app_in ?_ ?_ | with_reducible refine sing_in ?_ | (focus (simp [in_any, in_int, in_bool, in_str, in_ptr, in_own, in_agg, in_vnil, in_rdr, usedOf_cons, usedOf_nil, strs_in, ints_in, nodes_in, boxRR, namesR, nodesR, zeroN, nodeN, namesRow, nodeO, kidsRow]; done)))); done))
  rintro ⟨i, r⟩ ⟨hi, hm, hf⟩
  dsimp only at hi hm hf ⊢
  rw [nodeL_eq p]
  by_cases hlt : i < p.names.length
  rotate_left
  · obtain rfl : i = p.names.length := by omega
    rw [List.drop_of_length_le (Nat.le_refl _), List.drop_of_length_le (by omega), mrgL] at hf
    refine AW.hold 100 ?_
    refine AW.hold 101 ?_
    (repeat (first | with_reducible refine AW.seq ?_ | ((first | refine arun_kn 4 rfl (fun C hC => ?_) | refine arunD_kn 4 rfl (fun C hC => ?_)); (repeat ((conv => whnf); simp [strsE_len, ASt.hold, boxRR, namesR, nodesR, zeroN, AV.subL, AV.sub, Row.sub, rowsOf_cons, upd])); refine hC _ ?_; clear hC C; simp only [List.drop, Nat.reduceAdd]) | ((first | refine arun_kn 1 rfl (fun C hC => ?_) | refine arunD_kn 1 rfl (fun C hC => ?_)); (repeat ((conv => whnf); simp [strsE_len, ASt.hold, boxRR, namesR, nodesR, zeroN, AV.subL, AV.sub, Row.sub, rowsOf_cons, upd])); refine hC _ ?_; clear hC C; simp only [List.drop, Nat.reduceAdd]) | (refine arun_skip ?_ ?_; (focus (simp [awant, strsE_len, ASt.hold, boxRR, namesR, nodesR, zeroN, AV.subL, AV.sub, Row.sub, rowsOf_cons, upd]; done))) | (refine AW.regionK [] (fun K hK => ?_)) | (refine AW.regionDK [] (pcs [] []) (by kernel_rfl) (by kernel_rfl) (fun K hK => ?_)) | (refine AW.condT ?_ ?_; (focus (simp [aev, strsE_len, ASt.hold, boxRR, namesR, nodesR, zeroN, AV.subL, AV.sub, Row.sub, rowsOf_cons, upd]; done))) | (refine AW.condF ?_ ?_; (focus (simp [aev, strsE_len, ASt.hold, boxRR, namesR, nodesR, zeroN, AV.subL, AV.sub, Row.sub, rowsOf_cons, upd]; done))) | with_reducible refine AW.block ?_ | ((first | ((first | refine arun_nil ?_ | refine arunD_nil ?_); refine hK _ ?_; clear hK K) | refine AW.skip ?_ | refine AW.exit ?_ | refine AW.ret ?_); simp only [thenA_exit, inBlockA_exit, if_true, if_false, Nat.reduceEqDiff, thenA_normal, inBlockA_normal, reduceIte, thenA_ret, inBlockA_ret, endQ_ret, endR_ret, endG_ret, endQ_normal, endR_normal, endG_normal])))
    exact ⟨nodeA r, by simp [ares, aresL, upd, rowsOf_cons, boxRR, namesR, nodesR, AV.subL, AV.sub, Row.sub], node_pur r, by rw [← hf]; rfl⟩
  have hk : i < p.kids.length := by omega
  have hwi : IntKind.i64.wrap ((i : Int) + 1) = ((i + 1 : Nat) : Int) := by rw [i64_nat (by omega) (by omega)]; simp
  have hnext := hm.next hp h4 hn hlt hk
  rw [mrgL_step hlt hk] at hf
  have hwd := hm.wide
  cases hkk : p.kids[i].kind == 0
  rotate_left
  · have hst : stepN r p.names[i] p.kids[i] = dropK r p.names[i] := by unfold stepN; rw [if_pos (by simpa using hkk)]
    rw [hst] at hf hnext
    have hdn := dropName_ACG r p.names[i] hm.w.asc hm.w.len (by omega)
    (repeat (first | with_reducible refine AW.seq ?_ | ((first | refine arun_kn 4 rfl (fun C hC => ?_) | refine arunD_kn 4 rfl (fun C hC => ?_)); (repeat ((conv => whnf); simp [hlt, hk, hkk, strsE_len])); refine hC _ ?_; clear hC C; simp only [List.drop, Nat.reduceAdd]) | ((first | refine arun_kn 1 rfl (fun C hC => ?_) | refine arunD_kn 1 rfl (fun C hC => ?_)); (repeat ((conv => whnf); simp [hlt, hk, hkk, strsE_len])); refine hC _ ?_; clear hC C; simp only [List.drop, Nat.reduceAdd]) | (refine arun_skip ?_ ?_; (focus (simp [awant, hlt, hk, hkk, strsE_len]; done))) | (refine AW.regionK [] (fun K hK => ?_)) | (refine AW.regionDK [] (pcs [] []) (by kernel_rfl) (by kernel_rfl) (fun K hK => ?_)) | (refine AW.condT ?_ ?_; (focus (simp [aev, hlt, hk, hkk, strsE_len]; done))) | (refine AW.condF ?_ ?_; (focus (simp [aev, hlt, hk, hkk, strsE_len]; done))) | with_reducible refine AW.block ?_ | ((first | ((first | refine arun_nil ?_ | refine arunD_nil ?_); refine hK _ ?_; clear hK K) | refine AW.skip ?_ | refine AW.exit ?_ | refine AW.ret ?_); simp only [thenA_exit, inBlockA_exit, if_true, if_false, Nat.reduceEqDiff, thenA_normal, inBlockA_normal, reduceIte, thenA_ret, inBlockA_ret, endQ_ret, endR_ret, endG_ret, endQ_normal, endR_normal, endG_normal])))
    refine arun_callK 5 100 101 102 103 (hac := hdn) (h1 := by simp [rowsOf_cons]) (h2 := by simp [rowsOf_cons]) (h3 := by simp [rowsOf_cons]) (hd := by decide) (hD := by decide) (uA := by simp [usedOf_cons, usedOf_nil, upd]) (uB := by simp [usedOf_cons, usedOf_nil, upd]) (hw := by simp [awant]) (ha := rfl) (hargs := .cons (.base (.ptr (by simp [rowsK]) rfl)) (.cons (.base (.clo (Clo.cloTo clo_str))) .nil)) (hcan := can_of (Nat.le_refl _)) (h := ?_)
    (repeat (first | with_reducible refine AW.seq ?_ | ((first | refine arun_kn 4 rfl (fun C hC => ?_) | refine arunD_kn 4 rfl (fun C hC => ?_)); (repeat ((conv => whnf); simp [hlt, hk, hkk, hwi, backK, rowsK, nuK])); refine hC _ ?_; clear hC C; simp only [List.drop, Nat.reduceAdd]) | ((first | refine arun_kn 1 rfl (fun C hC => ?_) | refine arunD_kn 1 rfl (fun C hC => ?_)); (repeat ((conv => whnf); simp [hlt, hk, hkk, hwi, backK, rowsK, nuK])); refine hC _ ?_; clear hC C; simp only [List.drop, Nat.reduceAdd]) | (refine arun_skip ?_ ?_; (focus (simp [awant, hlt, hk, hkk, hwi, backK, rowsK, nuK]; done))) | (refine AW.regionK [] (fun K hK => ?_)) | (refine AW.regionDK [] (pcs [] []) (by kernel_rfl) (by kernel_rfl) (fun K hK => ?_)) | (refine AW.condT ?_ ?_; (focus (simp [aev, hlt, hk, hkk, hwi, backK, rowsK, nuK]; done))) | (refine AW.condF ?_ ?_; (focus (simp [aev, hlt, hk, hkk, hwi, backK, rowsK, nuK]; done))) | with_reducible refine AW.block ?_ | ((first | ((first | refine arun_nil ?_ | refine arunD_nil ?_); refine hK _ ?_; clear hK K) | refine AW.skip ?_ | refine AW.exit ?_ | refine AW.ret ?_); simp only [thenA_exit, inBlockA_exit, if_true, if_false, Nat.reduceEqDiff, thenA_normal, inBlockA_normal, reduceIte, thenA_ret, inBlockA_ret, endQ_ret, endR_ret, endG_ret, endQ_normal, endR_normal, endG_normal])))
    refine ⟨(i + 1, dropK r p.names[i]), by dsimp only; omega, ⟨by dsimp only; omega, hnext, hf⟩, ?_⟩
    dsimp only
    generalize dropK r p.names[i] = m at *
    refine Less.trans (s' := mkSt (slots 0 63 [(3, .ptr true 5 1 3 0 0), (4, .ptr true 5 1 4 0 0), (5, .ptr true 5 1 5 0 0), (23, .view .loose 1 (strsE p.names)), (24, .int .i64 p.names.length), (25, .int .i64 ((i + 1 : Nat) : Int))]) [(3, ⟨true, 30, 5, [[.int .i64 p.kind, .int .i64 p.num, .str p.text, .view .loose 1 (strsE p.names), .view .loose 5 (p.kids.map nodeL)]]⟩), (4, ⟨true, 30, 5, [zeroN]⟩), (5, boxRR m 102 103), (102, namesR m.names), (103, nodesR m.kids)] [3, 4, 5, 102, 103] (rd0.map fun _ => 0)) (less_of (by simp [lessL, mkSt, slots, backK, boxRR, namesR, nodesR, zeroN, nodeN, namesRow, nodeO, kidsRow]) (by simp [upd, mkSt, rowsOf_cons, backK, boxRR, namesR, nodesR, zeroN, nodeN, namesRow, nodeO, kidsRow]) (by simp [upd, mkSt, usedOf_cons, backK, boxRR, namesR, nodesR, zeroN, nodeN, namesRow, nodeO, kidsRow]) (by first | exact rd_less (by omega) | simp [mkSt, backK, boxRR, namesR, nodesR, zeroN, nodeN, namesRow, nodeO, kidsRow]) (by simp [slots, in_any, in_int, in_bool, in_str, in_ptr, in_own, in_agg, in_vnil, in_rdr, usedOf_cons, usedOf_nil, strs_in, ints_in, nodes_in, in_tup, backK, boxRR, namesR, nodesR, zeroN, nodeN, namesRow, nodeO, kidsRow]) (by simp only [List.forall_mem_cons, List.not_mem_nil, false_implies, implies_true, and_true, true_and, backK, boxRR, namesR, nodesR, zeroN, nodeN, namesRow, nodeO, kidsRow]; (repeat (first | with_reducible exact trivial | with_reducible refine And.intro ?_ ?_ | with_reducible exact in_int | with_reducible exact in_str | with_reducible exact in_bool | with_reducible exact strs_in _ | with_reducible exact nodes_in _ | with_reducible exact items_in _ | with_reducible exact in_vnil | with_reducible exact in_any | exact hin _ | with_reducible refine take_in ?_ | with_reducible exact strsE_in _ | with_reducible exact nodesE_in _ | with_reducible exact nodeL_in _ | with_reducible exact itemsE_in _ | with_reducible exact itemL_in _ | with_reducible refine app_in ?_ ?_ | with_reducible refine sing_in ?_ | (focus (simp [in_any, in_int, in_bool, in_str, in_ptr, in_own, in_agg, in_vnil, in_rdr, usedOf_cons, usedOf_nil, strs_in, ints_in, nodes_in, backK, boxRR, namesR, nodesR, zeroN, nodeN, namesRow, nodeO, kidsRow]; done)))); done)) (Less.trans (Less.rename 102 100 (by simp [mkSt, usedOf_cons, usedOf_nil])) (Less.trans (Less.rename 103 101 (by simp [ASt.rename, mkSt, rowsOf_cons, usedOf_cons, usedOf_nil, upd])) ?_))
    simp only [ASt.rename, mkSt, rowsOf_cons, Nat.reduceEqDiff, if_true, if_false, reduceIte, upd, boxRR, namesR, nodesR, zeroN]
    exact (less_of (by simp [lessL, mkSt, slots, AV.subL, AV.sub, Row.sub, rowsOf_nil, strsE_sub, nodesE_sub, strsE_len, boxRR, namesR, nodesR, zeroN, nodeN, namesRow, nodeO, kidsRow]) (by simp [upd, mkSt, rowsOf_cons, AV.subL, AV.sub, Row.sub, rowsOf_nil, strsE_sub, nodesE_sub, strsE_len, boxRR, namesR, nodesR, zeroN, nodeN, namesRow, nodeO, kidsRow]) (by simp [upd, mkSt, usedOf_cons, AV.subL, AV.sub, Row.sub, rowsOf_nil, strsE_sub, nodesE_sub, strsE_len, boxRR, namesR, nodesR, zeroN, nodeN, namesRow, nodeO, kidsRow]) (by first | exact rd_less (by omega) | simp [mkSt, AV.subL, AV.sub, Row.sub, rowsOf_nil, strsE_sub, nodesE_sub, strsE_len, boxRR, namesR, nodesR, zeroN, nodeN, namesRow, nodeO, kidsRow]) (by simp [slots, in_any, in_int, in_bool, in_str, in_ptr, in_own, in_agg, in_vnil, in_rdr, usedOf_cons, usedOf_nil, strs_in, ints_in, nodes_in, in_tup, AV.subL, AV.sub, Row.sub, rowsOf_nil, strsE_sub, nodesE_sub, strsE_len, boxRR, namesR, nodesR, zeroN, nodeN, namesRow, nodeO, kidsRow]) (by simp only [List.forall_mem_cons, List.not_mem_nil, false_implies, implies_true, and_true, true_and, AV.subL, AV.sub, Row.sub, rowsOf_nil, strsE_sub, nodesE_sub, strsE_len, boxRR, namesR, nodesR, zeroN, nodeN, namesRow, nodeO, kidsRow]; (repeat (first | with_reducible exact trivial | with_reducible refine And.intro ?_ ?_ | with_reducible exact in_int | with_reducible exact in_str | with_reducible exact in_bool | with_reducible exact strs_in _ | with_reducible exact nodes_in _ | with_reducible exact items_in _ | with_reducible exact in_vnil | with_reducible exact in_any | exact hin _ | with_reducible refine take_in ?_ | with_reducible exact strsE_in _ | with_reducible exact nodesE_in _ | with_reducible exact nodeL_in _ | with_reducible exact itemsE_in _ | with_reducible exact itemL_in _ | with_reducible refine app_in ?_ ?_ | with_reducible refine sing_in ?_ | (focus (simp [in_any, in_int, in_bool, in_str, in_ptr, in_own, in_agg, in_vnil, in_rdr, usedOf_cons, usedOf_nil, strs_in, ints_in, nodes_in, AV.subL, AV.sub, Row.sub, rowsOf_nil, strsE_sub, nodesE_sub, strsE_len, boxRR, namesR, nodesR, zeroN, nodeN, namesRow, nodeO, kidsRow]; done)))); done))
  · have h0 : ¬ p.kids[i].kind = 0 := by simpa using hkk
    have hst : stepN r p.names[i] p.kids[i] = putK r p.names[i] (mrg p.kids[i] (kidOf r p.names[i])) := by unfold stepN; rw [if_neg h0]
    rw [hst] at hf hnext
    have hold := base_old hn p.names[i]
    rw [← hm.kid hp h4 hn hlt] at hold
    have hmg := ih _ (List.getElem_mem hk) _ hold
    have hpn := putName_ACG r (mrg p.kids[i] (kidOf r p.names[i])) p.names[i] hm.w.asc hm.w.len (by omega)
    have pb := bsearch_AC r.names p.names[i] .lent hm.w.asc (by have := hm.w.len; omega)
    have hrl := hm.w.len
    generalize mrg p.kids[i] (kidOf r p.names[i]) = y at *
    unfold nodeA at hmg hpn
    have hcy := node_clo y
    unfold nodeA at hcy
    rw [nodeL_eq p.kids[i], nodeL_eq y] at hmg
    rw [nodeL_eq y] at hpn hcy
    cases hmm : mem r.names p.names[i]
    · rw [hmm] at pb
      rw [kidOf_no hmm, zeroA] at hmg
      have hcz := node_clo Nd.zero
      unfold nodeA at hcz
      rw [zeroA] at hcz
      (repeat (first | with_reducible refine AW.seq ?_ | ((first | refine arun_kn 4 rfl (fun C hC => ?_) | refine arunD_kn 4 rfl (fun C hC => ?_)); (repeat ((conv => whnf); simp [hlt, hk, hkk, strsE_len, boxRR, namesR])); refine hC _ ?_; clear hC C; simp only [List.drop, Nat.reduceAdd]) | ((first | refine arun_kn 1 rfl (fun C hC => ?_) | refine arunD_kn 1 rfl (fun C hC => ?_)); (repeat ((conv => whnf); simp [hlt, hk, hkk, strsE_len, boxRR, namesR])); refine hC _ ?_; clear hC C; simp only [List.drop, Nat.reduceAdd]) | (refine arun_skip ?_ ?_; (focus (simp [awant, hlt, hk, hkk, strsE_len, boxRR, namesR]; done))) | (refine arun_cL (0) (pb) ?_; rintro _ rfl) | (refine AW.regionK [] (fun K hK => ?_)) | (refine AW.condT ?_ ?_; (focus (simp [aev, hlt, hk, hkk, strsE_len, boxRR, namesR]; done))) | (refine AW.condF ?_ ?_; (focus (simp [aev, hlt, hk, hkk, strsE_len, boxRR, namesR]; done))) | with_reducible refine AW.block ?_ | ((first | ((first | refine arun_nil ?_ | refine arunD_nil ?_); refine hK _ ?_; clear hK K) | refine AW.skip ?_ | refine AW.exit ?_ | refine AW.ret ?_); simp only [thenA_exit, inBlockA_exit, if_true, if_false, Nat.reduceEqDiff, thenA_normal, inBlockA_normal, reduceIte, thenA_ret, inBlockA_ret, endQ_ret, endR_ret, endG_ret, endQ_normal, endR_normal, endG_normal])))
      refine AW.wkB 8 3 (.view .loose 1 []) (Wk.nil (fun h => by cases h)) (by simp [upd]; rfl) rfl rfl ?_
      simp only [ASt.wkB]
      refine AW.wkB 8 4 (.view .loose 5 []) (Wk.nil (fun h => by cases h)) (by simp [upd]; rfl) rfl rfl ?_
      simp only [ASt.wkB]
      refine AW.regionDK [] (pcs [(7, 0, fun r => r = .agg [.int .i64 y.kind, .int .i64 y.num, .str y.text, .view .loose 1 (strsE y.names), .view .loose 5 (y.kids.map nodeL)])] [1008]) (by kernel_rfl) (by kernel_rfl) (fun K hK => ?_)
      (repeat (first | with_reducible refine AW.seq ?_ | ((first | refine arun_kn 4 rfl (fun C hC => ?_) | refine arunD_kn 4 rfl (fun C hC => ?_)); (repeat ((conv => whnf); simp [hlt, hk, hkk, strsE_len, boxRR, namesR, nodesR])); refine hC _ ?_; clear hC C; simp only [List.drop, Nat.reduceAdd]) | ((first | refine arun_kn 1 rfl (fun C hC => ?_) | refine arunD_kn 1 rfl (fun C hC => ?_)); (repeat ((conv => whnf); simp [hlt, hk, hkk, strsE_len, boxRR, namesR, nodesR])); refine hC _ ?_; clear hC C; simp only [List.drop, Nat.reduceAdd]) | (refine arun_skip ?_ ?_; (focus (simp [awant, hlt, hk, hkk, strsE_len, boxRR, namesR, nodesR]; done))) | (refine arun_c0 (hmg) ?_; rintro _ rfl) | (refine arunD_cE (0) (hmg) (by exact ⟨_, rfl, nodeL_noid y⟩) ?_; rintro _ rfl; intro _) | (refine AW.regionK [] (fun K hK => ?_)) | (refine AW.regionDK [] (pcs [] []) (by kernel_rfl) (by kernel_rfl) (fun K hK => ?_)) | (refine AW.condT ?_ ?_; (focus (simp [aev, hlt, hk, hkk, strsE_len, boxRR, namesR, nodesR]; done))) | (refine AW.condF ?_ ?_; (focus (simp [aev, hlt, hk, hkk, strsE_len, boxRR, namesR, nodesR]; done))) | with_reducible refine AW.block ?_ | ((first | ((first | refine arun_nil ?_ | refine arunD_nil ?_); refine hK _ ?_; clear hK K) | refine AW.skip ?_ | refine AW.exit ?_ | refine AW.ret ?_); simp only [thenA_exit, inBlockA_exit, if_true, if_false, Nat.reduceEqDiff, thenA_normal, inBlockA_normal, reduceIte, thenA_ret, inBlockA_ret, endQ_ret, endR_ret, endG_ret, endQ_normal, endR_normal, endG_normal])))
      refine arunD_callK 5 100 101 102 103 (hac := hpn) (h1 := by simp [rowsOf_cons, upd, boxRR]) (h2 := by simp [rowsOf_cons, upd, namesR]) (h3 := by simp [rowsOf_cons, upd, nodesR]) (hd := by decide) (hD := by decide) (uA := by simp [usedOf_cons, usedOf_nil, upd]) (uB := by simp [usedOf_cons, usedOf_nil, upd]) (hl := rfl) (hw := by simp [awant]) (ha := rfl) (hargs := .cons (.base (.ptr (by simp [rowsK]) rfl)) (.cons (.base (.clo (Clo.cloTo clo_str))) (.cons (.base (.clo (Clo.cloTo hcy))) .nil))) (hcan := by (simp only [ASt.put, ASt.pay, Option.map_map, Function.comp_def]; exact can_of (Nat.zero_le _))) (h := ?_)
      (repeat (first | with_reducible refine AW.seq ?_ | ((first | refine arun_kn 4 rfl (fun C hC => ?_) | refine arunD_kn 4 rfl (fun C hC => ?_)); (repeat ((conv => whnf); simp [hlt, hk, hkk, hwi, backK, rowsK, nuK])); refine hC _ ?_; clear hC C; simp only [List.drop, Nat.reduceAdd]) | ((first | refine arun_kn 1 rfl (fun C hC => ?_) | refine arunD_kn 1 rfl (fun C hC => ?_)); (repeat ((conv => whnf); simp [hlt, hk, hkk, hwi, backK, rowsK, nuK])); refine hC _ ?_; clear hC C; simp only [List.drop, Nat.reduceAdd]) | (refine arun_skip ?_ ?_; (focus (simp [awant, hlt, hk, hkk, hwi, backK, rowsK, nuK]; done))) | (refine AW.regionK [] (fun K hK => ?_)) | (refine AW.regionDK [] (pcs [] []) (by kernel_rfl) (by kernel_rfl) (fun K hK => ?_)) | (refine AW.condT ?_ ?_; (focus (simp [aev, hlt, hk, hkk, hwi, backK, rowsK, nuK]; done))) | (refine AW.condF ?_ ?_; (focus (simp [aev, hlt, hk, hkk, hwi, backK, rowsK, nuK]; done))) | with_reducible refine AW.block ?_ | ((first | ((first | refine arun_nil ?_ | refine arunD_nil ?_); refine hK _ ?_; clear hK K) | refine AW.skip ?_ | refine AW.exit ?_ | refine AW.ret ?_); simp only [thenA_exit, inBlockA_exit, if_true, if_false, Nat.reduceEqDiff, thenA_normal, inBlockA_normal, reduceIte, thenA_ret, inBlockA_ret, endQ_ret, endR_ret, endG_ret, endQ_normal, endR_normal, endG_normal])))
      refine ⟨(i + 1, putK r p.names[i] y), by dsimp only; omega, ⟨by dsimp only; omega, hnext, hf⟩, ?_⟩
      dsimp only
      generalize putK r p.names[i] y = m at *
      refine Less.trans (s' := mkSt (slots 0 63 [(3, .ptr true 5 1 3 0 0), (4, .ptr true 5 1 4 0 0), (5, .ptr true 5 1 5 0 0), (23, .view .loose 1 (strsE p.names)), (24, .int .i64 p.names.length), (25, .int .i64 ((i + 1 : Nat) : Int))]) [(3, ⟨true, 30, 5, [[.int .i64 p.kind, .int .i64 p.num, .str p.text, .view .loose 1 (strsE p.names), .view .loose 5 (p.kids.map nodeL)]]⟩), (4, ⟨true, 30, 5, [zeroN]⟩), (5, boxRR m 102 103), (102, namesR m.names), (103, nodesR m.kids)] [3, 4, 5, 102, 103] (rd0.map fun _ => 0)) (less_of (by simp [lessL, mkSt, slots, backK, boxRR, namesR, nodesR, zeroN, nodeN, namesRow, nodeO, kidsRow]) (by simp [upd, mkSt, rowsOf_cons, backK, boxRR, namesR, nodesR, zeroN, nodeN, namesRow, nodeO, kidsRow]) (by simp [upd, mkSt, usedOf_cons, backK, boxRR, namesR, nodesR, zeroN, nodeN, namesRow, nodeO, kidsRow]) (by first | exact rd_less (by omega) | simp [mkSt, backK, boxRR, namesR, nodesR, zeroN, nodeN, namesRow, nodeO, kidsRow]) (by simp [slots, in_any, in_int, in_bool, in_str, in_ptr, in_own, in_agg, in_vnil, in_rdr, usedOf_cons, usedOf_nil, strs_in, ints_in, nodes_in, in_tup, backK, boxRR, namesR, nodesR, zeroN, nodeN, namesRow, nodeO, kidsRow]) (by simp only [List.forall_mem_cons, List.not_mem_nil, false_implies, implies_true, and_true, true_and, backK, boxRR, namesR, nodesR, zeroN, nodeN, namesRow, nodeO, kidsRow]; (repeat (first | with_reducible exact trivial | with_reducible refine And.intro ?_ ?_ | with_reducible exact in_int | with_reducible exact in_str | with_reducible exact in_bool | with_reducible exact strs_in _ | with_reducible exact nodes_in _ | with_reducible exact items_in _ | with_reducible exact in_vnil | with_reducible exact in_any | exact hin _ | with_reducible refine take_in ?_ | with_reducible exact strsE_in _ | with_reducible exact nodesE_in _ | with_reducible exact nodeL_in _ | with_reducible exact itemsE_in _ | with_reducible exact itemL_in _ | with_reducible refine app_in ?_ ?_ | with_reducible refine sing_in ?_ | (focus (simp [in_any, in_int, in_bool, in_str, in_ptr, in_own, in_agg, in_vnil, in_rdr, usedOf_cons, usedOf_nil, strs_in, ints_in, nodes_in, backK, boxRR, namesR, nodesR, zeroN, nodeN, namesRow, nodeO, kidsRow]; done)))); done)) (Less.trans (Less.rename 102 100 (by simp [mkSt, usedOf_cons, usedOf_nil])) (Less.trans (Less.rename 103 101 (by simp [ASt.rename, mkSt, rowsOf_cons, usedOf_cons, usedOf_nil, upd])) ?_))
      simp only [ASt.rename, mkSt, rowsOf_cons, Nat.reduceEqDiff, if_true, if_false, reduceIte, upd, boxRR, namesR, nodesR, zeroN]
      exact (less_of (by simp [lessL, mkSt, slots, AV.subL, AV.sub, Row.sub, rowsOf_nil, strsE_sub, nodesE_sub, strsE_len, boxRR, namesR, nodesR, zeroN, nodeN, namesRow, nodeO, kidsRow]) (by simp [upd, mkSt, rowsOf_cons, AV.subL, AV.sub, Row.sub, rowsOf_nil, strsE_sub, nodesE_sub, strsE_len, boxRR, namesR, nodesR, zeroN, nodeN, namesRow, nodeO, kidsRow]) (by simp [upd, mkSt, usedOf_cons, AV.subL, AV.sub, Row.sub, rowsOf_nil, strsE_sub, nodesE_sub, strsE_len, boxRR, namesR, nodesR, zeroN, nodeN, namesRow, nodeO, kidsRow]) (by first | exact rd_less (by omega) | simp [mkSt, AV.subL, AV.sub, Row.sub, rowsOf_nil, strsE_sub, nodesE_sub, strsE_len, boxRR, namesR, nodesR, zeroN, nodeN, namesRow, nodeO, kidsRow]) (by simp [slots, in_any, in_int, in_bool, in_str, in_ptr, in_own, in_agg, in_vnil, in_rdr, usedOf_cons, usedOf_nil, strs_in, ints_in, nodes_in, in_tup, AV.subL, AV.sub, Row.sub, rowsOf_nil, strsE_sub, nodesE_sub, strsE_len, boxRR, namesR, nodesR, zeroN, nodeN, namesRow, nodeO, kidsRow]) (by simp only [List.forall_mem_cons, List.not_mem_nil, false_implies, implies_true, and_true, true_and, AV.subL, AV.sub, Row.sub, rowsOf_nil, strsE_sub, nodesE_sub, strsE_len, boxRR, namesR, nodesR, zeroN, nodeN, namesRow, nodeO, kidsRow]; (repeat (first | with_reducible exact trivial | with_reducible refine And.intro ?_ ?_ | with_reducible exact in_int | with_reducible exact in_str | with_reducible exact in_bool | with_reducible exact strs_in _ | with_reducible exact nodes_in _ | with_reducible exact items_in _ | with_reducible exact in_vnil | with_reducible exact in_any | exact hin _ | with_reducible refine take_in ?_ | with_reducible exact strsE_in _ | with_reducible exact nodesE_in _ | with_reducible exact nodeL_in _ | with_reducible exact itemsE_in _ | with_reducible exact itemL_in _ | with_reducible refine app_in ?_ ?_ | with_reducible refine sing_in ?_ | (focus (simp [in_any, in_int, in_bool, in_str, in_ptr, in_own, in_agg, in_vnil, in_rdr, usedOf_cons, usedOf_nil, strs_in, ints_in, nodes_in, AV.subL, AV.sub, Row.sub, rowsOf_nil, strsE_sub, nodesE_sub, strsE_len, boxRR, namesR, nodesR, zeroN, nodeN, namesRow, nodeO, kidsRow]; done)))); done))
    · rw [hmm] at pb
      have hlb := lbn_lt hm.w.asc hmm
      have hlk : lbound r.names p.names[i] < r.kids.length := by omega
      rw [kidOf_yes hmm hlk, nodeL_eq r.kids[lbound r.names p.names[i]]] at hmg
      (repeat (first | with_reducible refine AW.seq ?_ | ((first | refine arun_kn 4 rfl (fun C hC => ?_) | refine arunD_kn 4 rfl (fun C hC => ?_)); (repeat ((conv => whnf); simp [hlt, hk, hkk, hlb, hlk, strsE_len, boxRR, namesR, nodesR])); refine hC _ ?_; clear hC C; simp only [List.drop, Nat.reduceAdd]) | ((first | refine arun_kn 1 rfl (fun C hC => ?_) | refine arunD_kn 1 rfl (fun C hC => ?_)); (repeat ((conv => whnf); simp [hlt, hk, hkk, hlb, hlk, strsE_len, boxRR, namesR, nodesR])); refine hC _ ?_; clear hC C; simp only [List.drop, Nat.reduceAdd]) | (refine arun_skip ?_ ?_; (focus (simp [awant, hlt, hk, hkk, hlb, hlk, strsE_len, boxRR, namesR, nodesR]; done))) | (refine arun_cL (0) (pb) ?_; rintro _ rfl) | (refine AW.regionK [] (fun K hK => ?_)) | (refine AW.condT ?_ ?_; (focus (simp [aev, hlt, hk, hkk, hlb, hlk, strsE_len, boxRR, namesR, nodesR]; done))) | (refine AW.condF ?_ ?_; (focus (simp [aev, hlt, hk, hkk, hlb, hlk, strsE_len, boxRR, namesR, nodesR]; done))) | with_reducible refine AW.block ?_ | ((first | ((first | refine arun_nil ?_ | refine arunD_nil ?_); refine hK _ ?_; clear hK K) | refine AW.skip ?_ | refine AW.exit ?_ | refine AW.ret ?_); simp only [thenA_exit, inBlockA_exit, if_true, if_false, Nat.reduceEqDiff, thenA_normal, inBlockA_normal, reduceIte, thenA_ret, inBlockA_ret, endQ_ret, endR_ret, endG_ret, endQ_normal, endR_normal, endG_normal])))
      refine AW.regionDK [] (pcs [(7, 0, fun r => r = .agg [.int .i64 y.kind, .int .i64 y.num, .str y.text, .view .loose 1 (strsE y.names), .view .loose 5 (y.kids.map nodeL)])] [1008]) (by kernel_rfl) (by kernel_rfl) (fun K hK => ?_)
      (repeat (first | with_reducible refine AW.seq ?_ | ((first | refine arun_kn 4 rfl (fun C hC => ?_) | refine arunD_kn 4 rfl (fun C hC => ?_)); (repeat ((conv => whnf); simp [hlt, hk, hkk, strsE_len, boxRR, namesR, nodesR])); refine hC _ ?_; clear hC C; simp only [List.drop, Nat.reduceAdd]) | ((first | refine arun_kn 1 rfl (fun C hC => ?_) | refine arunD_kn 1 rfl (fun C hC => ?_)); (repeat ((conv => whnf); simp [hlt, hk, hkk, strsE_len, boxRR, namesR, nodesR])); refine hC _ ?_; clear hC C; simp only [List.drop, Nat.reduceAdd]) | (refine arun_skip ?_ ?_; (focus (simp [awant, hlt, hk, hkk, strsE_len, boxRR, namesR, nodesR]; done))) | (refine arun_c0 (hmg) ?_; rintro _ rfl) | (refine arunD_cE (0) (hmg) (by exact ⟨_, rfl, nodeL_noid y⟩) ?_; rintro _ rfl; intro _) | (refine AW.regionK [] (fun K hK => ?_)) | (refine AW.regionDK [] (pcs [] []) (by kernel_rfl) (by kernel_rfl) (fun K hK => ?_)) | (refine AW.condT ?_ ?_; (focus (simp [aev, hlt, hk, hkk, strsE_len, boxRR, namesR, nodesR]; done))) | (refine AW.condF ?_ ?_; (focus (simp [aev, hlt, hk, hkk, strsE_len, boxRR, namesR, nodesR]; done))) | with_reducible refine AW.block ?_ | ((first | ((first | refine arun_nil ?_ | refine arunD_nil ?_); refine hK _ ?_; clear hK K) | refine AW.skip ?_ | refine AW.exit ?_ | refine AW.ret ?_); simp only [thenA_exit, inBlockA_exit, if_true, if_false, Nat.reduceEqDiff, thenA_normal, inBlockA_normal, reduceIte, thenA_ret, inBlockA_ret, endQ_ret, endR_ret, endG_ret, endQ_normal, endR_normal, endG_normal])))
      refine arunD_callK 5 100 101 102 103 (hac := hpn) (h1 := by simp [rowsOf_cons, upd, boxRR]) (h2 := by simp [rowsOf_cons, upd, namesR]) (h3 := by simp [rowsOf_cons, upd, nodesR]) (hd := by decide) (hD := by decide) (uA := by simp [usedOf_cons, usedOf_nil, upd]) (uB := by simp [usedOf_cons, usedOf_nil, upd]) (hl := rfl) (hw := by simp [awant]) (ha := rfl) (hargs := .cons (.base (.ptr (by simp [rowsK]) rfl)) (.cons (.base (.clo (Clo.cloTo clo_str))) (.cons (.base (.clo (Clo.cloTo hcy))) .nil))) (hcan := by (simp only [ASt.put, ASt.pay, Option.map_map, Function.comp_def]; exact can_of (Nat.zero_le _))) (h := ?_)
      (repeat (first | with_reducible refine AW.seq ?_ | ((first | refine arun_kn 4 rfl (fun C hC => ?_) | refine arunD_kn 4 rfl (fun C hC => ?_)); (repeat ((conv => whnf); simp [hlt, hk, hkk, hwi, backK, rowsK, nuK])); refine hC _ ?_; clear hC C; simp only [List.drop, Nat.reduceAdd]) | ((first | refine arun_kn 1 rfl (fun C hC => ?_) | refine arunD_kn 1 rfl (fun C hC => ?_)); (repeat ((conv => whnf); simp [hlt, hk, hkk, hwi, backK, rowsK, nuK])); refine hC _ ?_; clear hC C; simp only [List.drop, Nat.reduceAdd]) | (refine arun_skip ?_ ?_; (focus (simp [awant, hlt, hk, hkk, hwi, backK, rowsK, nuK]; done))) | (refine AW.regionK [] (fun K hK => ?_)) | (refine AW.regionDK [] (pcs [] []) (by kernel_rfl) (by kernel_rfl) (fun K hK => ?_)) | (refine AW.condT ?_ ?_; (focus (simp [aev, hlt, hk, hkk, hwi, backK, rowsK, nuK]; done))) | (refine AW.condF ?_ ?_; (focus (simp [aev, hlt, hk, hkk, hwi, backK, rowsK, nuK]; done))) | with_reducible refine AW.block ?_ | ((first | ((first | refine arun_nil ?_ | refine arunD_nil ?_); refine hK _ ?_; clear hK K) | refine AW.skip ?_ | refine AW.exit ?_ | refine AW.ret ?_); simp only [thenA_exit, inBlockA_exit, if_true, if_false, Nat.reduceEqDiff, thenA_normal, inBlockA_normal, reduceIte, thenA_ret, inBlockA_ret, endQ_ret, endR_ret, endG_ret, endQ_normal, endR_normal, endG_normal])))
      refine ⟨(i + 1, putK r p.names[i] y), by dsimp only; omega, ⟨by dsimp only; omega, hnext, hf⟩, ?_⟩
      dsimp only
      generalize putK r p.names[i] y = m at *
      refine Less.trans (s' := mkSt (slots 0 63 [(3, .ptr true 5 1 3 0 0), (4, .ptr true 5 1 4 0 0), (5, .ptr true 5 1 5 0 0), (23, .view .loose 1 (strsE p.names)), (24, .int .i64 p.names.length), (25, .int .i64 ((i + 1 : Nat) : Int))]) [(3, ⟨true, 30, 5, [[.int .i64 p.kind, .int .i64 p.num, .str p.text, .view .loose 1 (strsE p.names), .view .loose 5 (p.kids.map nodeL)]]⟩), (4, ⟨true, 30, 5, [zeroN]⟩), (5, boxRR m 102 103), (102, namesR m.names), (103, nodesR m.kids)] [3, 4, 5, 102, 103] (rd0.map fun _ => 0)) (less_of (by simp [lessL, mkSt, slots, backK, boxRR, namesR, nodesR, zeroN, nodeN, namesRow, nodeO, kidsRow]) (by simp [upd, mkSt, rowsOf_cons, backK, boxRR, namesR, nodesR, zeroN, nodeN, namesRow, nodeO, kidsRow]) (by simp [upd, mkSt, usedOf_cons, backK, boxRR, namesR, nodesR, zeroN, nodeN, namesRow, nodeO, kidsRow]) (by first | exact rd_less (by omega) | simp [mkSt, backK, boxRR, namesR, nodesR, zeroN, nodeN, namesRow, nodeO, kidsRow]) (by simp [slots, in_any, in_int, in_bool, in_str, in_ptr, in_own, in_agg, in_vnil, in_rdr, usedOf_cons, usedOf_nil, strs_in, ints_in, nodes_in, in_tup, backK, boxRR, namesR, nodesR, zeroN, nodeN, namesRow, nodeO, kidsRow]) (by simp only [List.forall_mem_cons, List.not_mem_nil, false_implies, implies_true, and_true, true_and, backK, boxRR, namesR, nodesR, zeroN, nodeN, namesRow, nodeO, kidsRow]; (repeat (first | with_reducible exact trivial | with_reducible refine And.intro ?_ ?_ | with_reducible exact in_int | with_reducible exact in_str | with_reducible exact in_bool | with_reducible exact strs_in _ | with_reducible exact nodes_in _ | with_reducible exact items_in _ | with_reducible exact in_vnil | with_reducible exact in_any | exact hin _ | with_reducible refine take_in ?_ | with_reducible exact strsE_in _ | with_reducible exact nodesE_in _ | with_reducible exact nodeL_in _ | with_reducible exact itemsE_in _ | with_reducible exact itemL_in _ | with_reducible refine app_in ?_ ?_ | with_reducible refine sing_in ?_ | (focus (simp [in_any, in_int, in_bool, in_str, in_ptr, in_own, in_agg, in_vnil, in_rdr, usedOf_cons, usedOf_nil, strs_in, ints_in, nodes_in, backK, boxRR, namesR, nodesR, zeroN, nodeN, namesRow, nodeO, kidsRow]; done)))); done)) (Less.trans (Less.rename 102 100 (by simp [mkSt, usedOf_cons, usedOf_nil])) (Less.trans (Less.rename 103 101 (by simp [ASt.rename, mkSt, rowsOf_cons, usedOf_cons, usedOf_nil, upd])) ?_))
      simp only [ASt.rename, mkSt, rowsOf_cons, Nat.reduceEqDiff, if_true, if_false, reduceIte, upd, boxRR, namesR, nodesR, zeroN]
      exact (less_of (by simp [lessL, mkSt, slots, AV.subL, AV.sub, Row.sub, rowsOf_nil, strsE_sub, nodesE_sub, strsE_len, boxRR, namesR, nodesR, zeroN, nodeN, namesRow, nodeO, kidsRow]) (by simp [upd, mkSt, rowsOf_cons, AV.subL, AV.sub, Row.sub, rowsOf_nil, strsE_sub, nodesE_sub, strsE_len, boxRR, namesR, nodesR, zeroN, nodeN, namesRow, nodeO, kidsRow]) (by simp [upd, mkSt, usedOf_cons, AV.subL, AV.sub, Row.sub, rowsOf_nil, strsE_sub, nodesE_sub, strsE_len, boxRR, namesR, nodesR, zeroN, nodeN, namesRow, nodeO, kidsRow]) (by first | exact rd_less (by omega) | simp [mkSt, AV.subL, AV.sub, Row.sub, rowsOf_nil, strsE_sub, nodesE_sub, strsE_len, boxRR, namesR, nodesR, zeroN, nodeN, namesRow, nodeO, kidsRow]) (by simp [slots, in_any, in_int, in_bool, in_str, in_ptr, in_own, in_agg, in_vnil, in_rdr, usedOf_cons, usedOf_nil, strs_in, ints_in, nodes_in, in_tup, AV.subL, AV.sub, Row.sub, rowsOf_nil, strsE_sub, nodesE_sub, strsE_len, boxRR, namesR, nodesR, zeroN, nodeN, namesRow, nodeO, kidsRow]) (by simp only [List.forall_mem_cons, List.not_mem_nil, false_implies, implies_true, and_true, true_and, AV.subL, AV.sub, Row.sub, rowsOf_nil, strsE_sub, nodesE_sub, strsE_len, boxRR, namesR, nodesR, zeroN, nodeN, namesRow, nodeO, kidsRow]; (repeat (first | with_reducible exact trivial | with_reducible refine And.intro ?_ ?_ | with_reducible exact in_int | with_reducible exact in_str | with_reducible exact in_bool | with_reducible exact strs_in _ | with_reducible exact nodes_in _ | with_reducible exact items_in _ | with_reducible exact in_vnil | with_reducible exact in_any | exact hin _ | with_reducible refine take_in ?_ | with_reducible exact strsE_in _ | with_reducible exact nodesE_in _ | with_reducible exact nodeL_in _ | with_reducible exact itemsE_in _ | with_reducible exact itemL_in _ | with_reducible refine app_in ?_ ?_ | with_reducible refine sing_in ?_ | (focus (simp [in_any, in_int, in_bool, in_str, in_ptr, in_own, in_agg, in_vnil, in_rdr, usedOf_cons, usedOf_nil, strs_in, ints_in, nodes_in, AV.subL, AV.sub, Row.sub, rowsOf_nil, strsE_sub, nodesE_sub, strsE_len, boxRR, namesR, nodesR, zeroN, nodeN, namesRow, nodeO, kidsRow]; done)))); done))
theorem mergeValid_AC : ∀ p, Shp p → ∀ n, Shp n → AC Try.prog 55 [nodeA n, nodeA p] 0 (fun r => r = nodeA (mrg p n)) := Nd.ind' _ (fun p ih hp n hn =>
  mergeValid_step p n hp hn (fun k hk m hm => ih k hk (hp.kid hk) m hm))
end Go.Proofs.Ytiobnaielfeeaaa.Eng
namespace Go.Proofs.Ytiobnaielfeeaaa.Eng
open Go Go.RowKit
def setK (n : Nd) (k : Nat) (v : Nd) : Nd := ⟨n.kind, n.num, n.text, n.names, n.kids.set k v⟩
def setS : Nd → List ByteArray → Nd → Option Nd
  | _, [], v => some v
  | n, s :: p, v => if 0 ≤ placeI n s then (setS ((n.kids[(placeI n s).toNat]?).getD Nd.zero) p v).map (setK n (placeI n s).toNat) else none
theorem setS_no {n v : Nd} {s : ByteArray} (p : List ByteArray) (h : placeI n s = -1) : setS n (s :: p) v = none := by
  rw [setS, if_neg (by omega)]
theorem setS_yes {n v : Nd} {s : ByteArray} (p : List ByteArray) {k : Nat} (hk : k < n.kids.length) (h : placeI n s = (k : Int)) : setS n (s :: p) v = (setS n.kids[k] p v).map (setK n k) := by
  rw [setS, h, if_pos (by omega)]
  simp [hk]
theorem setK_sml {n v : Nd} {k : Nat} (hn : Sml n) (hv : Sml v) : Sml (setK n k v) :=
  .mk _ hn.names (by simp only [setK, List.length_set]; exact hn.kids) (fun x hx => by
    rcases List.mem_or_eq_of_mem_set hx with h | rfl
    · exact hn.kid h
    · exact hv)
theorem setS_sml : ∀ (p : List ByteArray) (n v m : Nd), Shp n → Sml v → setS n p v = some m → Sml m
  | [], n, v, m, _, hv, h => by rw [setS] at h; cases h; exact hv
  | s :: p, n, v, m, hn, hv, h => by
    rcases placeI_cases n s with ⟨h1, _⟩ | ⟨k, h1, h2, _⟩
    · rw [setS_no p h1] at h; cases h
    · rw [setS_yes p h1 h2] at h
      obtain ⟨x, hx, rfl⟩ := Option.map_eq_some_iff.1 h
      exact setK_sml hn.sml (setS_sml p _ v x (hn.kid (List.getElem_mem h1)) hv hx)
def delK (n : Nd) (k : Nat) : Nd := ⟨n.kind, 0, ⟨#[]⟩, if n.kind = 4 then n.names.take k ++ n.names.drop (k + 1) else [], n.kids.take k ++ n.kids.drop (k + 1)⟩
theorem delK_sml {n : Nd} {k : Nat} (hn : Sml n) : Sml (delK n k) :=
  .mk _ (by
    have := hn.names
    unfold delK
    dsimp only
    split
    · simp only [List.length_append, List.length_take, List.length_drop]; omega
    · simp) (by
    have := hn.kids
    simp only [delK, List.length_append, List.length_take, List.length_drop]; omega) (fun x hx => by
    simp only [delK, List.mem_append] at hx
    rcases hx with h | h
    · exact hn.kid (List.mem_of_mem_take h)
    · exact hn.kid (List.mem_of_mem_drop h))
def remS (n : Nd) (p : List ByteArray) : Option Nd :=
  match p.getLast? with
  | none => none
  | some s => (getS n p.dropLast).bind (fun m => if 0 ≤ placeI m s then setS n p.dropLast (delK m (placeI m s).toNat) else none)
def nmI (st : ByteArray) : List ByteArray → Nat
  | [] => 0
  | x :: xs => if lts st x then 0 else nmI st xs + 1
theorem nmI_le (st : ByteArray) : ∀ l : List ByteArray, nmI st l ≤ l.length
  | [] => Nat.le_refl _
  | x :: xs => by
    rw [nmI]
    split
    · exact Nat.zero_le _
    · have := nmI_le st xs; simp; omega
theorem nmI_drop {st : ByteArray} {l : List ByteArray} {i : Nat} (hi : i < l.length) (h : lts st l[i] = false) : nmI st (l.drop i) + i = nmI st (l.drop (i + 1)) + (i + 1) := by
  rw [List.drop_eq_getElem_cons hi, nmI, h]
  simp only [Bool.false_eq_true, if_false]; omega
theorem nmI_at {st : ByteArray} {l : List ByteArray} {i : Nat} (hi : i < l.length) (h : lts st l[i] = true) : nmI st (l.drop i) = 0 := by
  rw [List.drop_eq_getElem_cons hi, nmI, h]; rfl
def insL {α : Type} (l : List α) (i : Nat) (x : α) : List α := l.take i ++ [x] ++ l.drop i
def insKid (n : Nd) (i : Nat) (st : ByteArray) (v : Nd) : Nd := ⟨n.kind, 0, ⟨#[]⟩, if n.kind = 4 then insL n.names i st else [], insL n.kids i v⟩
theorem insKid_sml {n v : Nd} {i : Nat} {st : ByteArray} (hn : Shp n) (hv : Sml v) : Sml (insKid n i st v) := by
  have h6 := hn.kids
  have hs := hn.sml
  have hnm := hs.names
  refine .mk _ ?_ ?_ (fun x hx => ?_)
  · unfold insKid
    dsimp only
    split
    · rename_i h4
      have := (hn.map h4).2
      simp only [insL, List.length_append, List.length_take, List.length_drop, List.length_cons, List.length_nil]; omega
    · simp
  · simp only [insKid, insL, List.length_append, List.length_take, List.length_drop, List.length_cons, List.length_nil]; omega
  · simp only [insKid, insL, List.mem_append, List.mem_singleton] at hx
    rcases hx with (h | rfl) | h
    · exact hs.kid (List.mem_of_mem_take h)
    · exact hv
    · exact hs.kid (List.mem_of_mem_drop h)
def dash : ByteArray := ⟨#[45]⟩
def slotS (n : Nd) (st : ByteArray) : Option (Nat × Bool) :=
  if 0 ≤ placeI n st then some ((placeI n st).toNat, decide (n.kind = 4))
  else if n.kind = 3 ∧ (eqs st dash || eqs st (txt (dig1 n.kids.length))) = true then some (n.kids.length, false)
  else if n.kind = 4 then some (nmI st n.names, false) else none
def addK (n : Nd) (st : ByteArray) (v : Nd) : Option Nd :=
  (slotS n st).map (fun x => if x.2 then setK n x.1 v else insKid n x.1 st v)
structure Slt (n : Nd) : Prop where
  map : n.kind = 4 → n.names.length = n.kids.length
  lst : n.kind = 3 → n.kids.length ≤ 6
  sml : Sml n
theorem Slt.plc {n : Nd} (h : Slt n) : Plc n := ⟨fun h4 => by have := h.map h4; omega, fun h3 => by have := h.lst h3; omega⟩
theorem Shp.slt {n : Nd} (h : Shp n) : Slt n := ⟨fun h4 => ((h.map h4).2).symm, fun _ => h.kids, h.sml⟩
theorem slotS_lt {n : Nd} {st : ByteArray} (h : Slt n) {i : Nat} {b : Bool} (he : slotS n st = some (i, b)) : (b = true → n.kind = 4 ∧ i < n.kids.length) ∧ (b = false → (n.kind = 3 ∨ n.kind = 4) ∧ i ≤ n.kids.length) := by
  unfold slotS at he
  rcases placeI_cases n st with ⟨h1, _⟩ | ⟨k, h1, h2, h3⟩
  · rw [h1, if_neg (by omega)] at he
    split at he
    · rename_i h3
      cases he
      exact ⟨fun h => (by cases h), fun _ => ⟨.inl h3.1, Nat.le_refl _⟩⟩
    · split at he
      · rename_i h4
        cases he
        refine ⟨fun h => (by cases h), fun _ => ⟨.inr h4, ?_⟩⟩
        rw [← h.map h4]
        exact nmI_le _ _
      · cases he
  · rw [h2, if_pos (by omega), Int.toNat_natCast] at he
    cases he
    refine ⟨fun h => ⟨by simpa using h, h1⟩, fun h4 => ⟨.inl ?_, by omega⟩⟩
    simp at h4
    simp [hitP, h4] at h3
    exact h3.1
theorem addK_sml {n v m : Nd} {st : ByteArray} (hn : Shp n) (hv : Sml v) (h : addK n st v = some m) : Sml m := by
  obtain ⟨⟨i, b⟩, _, rfl⟩ := Option.map_eq_some_iff.1 h
  dsimp only
  split
  · exact setK_sml hn.sml hv
  · exact insKid_sml hn hv
def addS (n : Nd) (p : List ByteArray) (v : Nd) : Option Nd :=
  match p.getLast? with
  | none => some v
  | some s => (getS n p.dropLast).bind (fun m => (addK m s v).bind (fun x => setS n p.dropLast x))
theorem remS_sml {n m : Nd} {p : List ByteArray} (hn : Shp n) (h : remS n p = some m) : Sml m := by
  unfold remS at h
  split at h
  · cases h
  · obtain ⟨x, hx, h⟩ := Option.bind_eq_some_iff.1 h
    split at h
    · exact setS_sml _ _ _ _ hn (delK_sml (getS_shp _ _ _ hn hx).sml) h
    · cases h
theorem addS_sml {n m v : Nd} {p : List ByteArray} (hn : Shp n) (hv : Sml v) (h : addS n p v = some m) : Sml m := by
  unfold addS at h
  split at h
  · cases h; exact hv
  · obtain ⟨x, hx, h⟩ := Option.bind_eq_some_iff.1 h
    obtain ⟨y, hy, h⟩ := Option.bind_eq_some_iff.1 h
    exact setS_sml _ _ _ _ hn (addK_sml (getS_shp _ _ _ hn hx) hv hy) h
end Go.Proofs.Ytiobnaielfeeaaa.Eng
-- EV: rows
namespace Go.Proofs.Ytiobnaielfeeaaa.Eng
open Go Go.RowKit
attribute [local simp] big size_mk ASt.pay Option.map_map Function.comp_def awant aop acall ado aev ofVal ofVal0 ASt.put ASt.add ASt.turn ASt.kill abox aalloc astore aload ASt.at cellsTo afieldAddr afield aindexAddr aindex alen abin aint acmp astr aun apick aextract anil aslice abound abuild afill abuildSlice asCells aps avCells over upd aappend asrc amax amin aconv mkSt slots rowsOf_cons rowsOf_nil usedOf_cons usedOf_nil ZK.av List.replicate ASt.back ASt.addL ASt.killL nodeA nodeT nodeTL_eq nodeL_eq strsE_get strsE_len intsE_get intsE_len strsE_at intsE_at nodeN namesRow nodeO kidsRow tab2 tab3 tab4 tab5 tab6 tab7 tab8 tab9 tab10 tab11 tab12 tab13 tab14 tab15 tab16 tab17 tab18 tab19 tab21 tab22 tab23 tab24 tab25 tab26 tab27 tab28 tab29 tab30 tab48 tab51 tab52 tab59 tab77 tab78 tab79 tab91 tab95 tab96 tab97 tab109 tab116 tab132 tab133 tab138 tab139 tab144 tab145 tab146 tab148 tab149 tab150
theorem nodeO_res (n : Nd) (id0 : Nat) : Res1 id0 (nodeO n) := Res1.agg [fun _ => .int .i64 n.kind, fun _ => .int .i64 n.num, fun _ => .str n.text, fun _ => .view .loose 1 (strsE n.names), fun id => .own id n.kids.length] (by
  simp only [List.forall_mem_cons, List.not_mem_nil, false_implies, implies_true, and_true]
  exact ⟨Res1.pur _ pur_int, Res1.pur _ pur_int, Res1.pur _ pur_str, Res1.pur _ (strs_pur _ (by decide)), Res1.own _ _⟩)
theorem optA_in (o : Option Nd) : NoId (optA o) := by
  unfold optA NoId
  have h := node_in (U := fun _ => false) (o.getD Nd.zero)
  unfold nodeA at h
  rw [nodeL_eq] at h
  simp [in_tup, in_bool]
  exact h
def optL (o : Option Nd) : AV := .tup [.agg [.int .i64 (o.getD Nd.zero).kind, .int .i64 (o.getD Nd.zero).num, .str (o.getD Nd.zero).text, .view .loose 1 (strsE (o.getD Nd.zero).names), .view .loose 5 ((o.getD Nd.zero).kids.map nodeL)], .bool o.isSome]
theorem optA_eq (o : Option Nd) : optA o = optL o := by unfold optA optL nodeA; rw [nodeL_eq]
theorem optL_in (o : Option Nd) : NoId (optL o) := by rw [← optA_eq]; exact optA_in o
theorem optA_pur (o : Option Nd) : Pur (optA o) := tup2_pur (node_pur _) pur_bool
theorem optN_in : NoId (.tup [.agg [.int .i64 0, .int .i64 0, .str ⟨#[]⟩, .view .loose 1 [], .view .loose 5 []], .bool false]) := by
  have h := optA_in none
  unfold optA nodeA at h
  rw [show nodeL ((none : Option Nd).getD Nd.zero) = nodeL Nd.zero from rfl, zeroA] at h
  exact h
theorem optS_in (m : Nd) : NoId (.tup [.agg [.int .i64 m.kind, .int .i64 m.num, .str m.text, .view .loose 1 (strsE m.names), .view .loose 5 (m.kids.map nodeL)], .bool true]) := by
  have h := optA_in (some m)
  unfold optA nodeA at h
  rw [show nodeL ((some m : Option Nd).getD Nd.zero) = nodeL m from rfl, nodeL_eq] at h
  exact h
theorem kids_set (n v : Nd) (k : Nat) : (setK n k v).kids.map nodeL = (n.kids.map nodeL).set k (nodeL v) := by simp [setK, List.map_set]
theorem withKid_ACR (n v : Nd) (k : Nat) (hn : Sml n) (hv : Sml v) (hk : k < n.kids.length) : ACR Try.prog 93 [nodeA n, .int .i64 k, nodeA v] 0 (fun _ => False) (fun f R => f = nodeO (setK n k v) ∧ R = kidsRow (setK n k v)) := by
  unfold nodeA
  rw [nodeL_eq n, nodeL_eq v]
  refine ACR.of tab_ok mixed_ok Try.func93 (by rfl) (by kernel_rfl) ?_; rintro ⟨P, T, hT, hm, w0, S0, rd0, k0⟩ hP hTT; dsimp only at hP hTT; subst hP hTT; unfold initSt; rw [Try.ntmps93]
  (repeat (first | with_reducible refine AW.seq ?_ | ((first | refine arun_kn 4 rfl (fun C hC => ?_) | refine arunD_kn 4 rfl (fun C hC => ?_)); (repeat ((conv => whnf); simp [hk])); refine hC _ ?_; clear hC C; simp only [List.drop, Nat.reduceAdd]) | ((first | refine arun_kn 1 rfl (fun C hC => ?_) | refine arunD_kn 1 rfl (fun C hC => ?_)); (repeat ((conv => whnf); simp [hk])); refine hC _ ?_; clear hC C; simp only [List.drop, Nat.reduceAdd]) | (refine arun_skip ?_ ?_; (focus (simp [awant, hk]; done))) | (refine arun_cR (0) 30 (copyNode_ACR n hn .loose) ?_; (rintro _ _ ⟨rfl, rfl⟩; unfold nodeO kidsRow)) | (refine arun_c0 (copyNode_AC v hv .loose) ?_; rintro _ rfl) | (refine arunD_c (0) (copyNode_AC v hv .loose) ?_; rintro _ rfl; intro _) | (refine AW.regionK [] (fun K hK => ?_)) | (refine AW.regionDK [] (pcs [(4, 0, fun r => r = nodeA v)] []) (by kernel_rfl) (by kernel_rfl) (fun K hK => ?_)) | (refine AW.condT ?_ ?_; (focus (simp [aev, hk]; done))) | (refine AW.condF ?_ ?_; (focus (simp [aev, hk]; done))) | with_reducible refine AW.block ?_ | ((first | ((first | refine arun_nil ?_ | refine arunD_nil ?_); refine hK _ ?_; clear hK K) | refine AW.skip ?_ | refine AW.exit ?_ | refine AW.ret ?_); simp only [thenA_exit, inBlockA_exit, if_true, if_false, Nat.reduceEqDiff, thenA_normal, inBlockA_normal, reduceIte, thenA_ret, inBlockA_ret, endQ_ret, endR_ret, endG_ret, endQ_normal, endR_normal, endG_normal])))
  exact ⟨nodeO (setK n k v) 30, by simp [nodeO, setK, ares, aresL, upd, rowsOf_cons], .inr ⟨nodeO (setK n k v), 30, kidsRow (setK n k v), rfl, by unfold kidsRow; rw [kids_set]; simp [upd, kidsRow, nodeL_eq], nodeO_res _ 30, nodesE_pur _, rfl, rfl⟩⟩
theorem withKid_AC (n v : Nd) (k : Nat) (hn : Sml n) (hv : Sml v) (hk : k < n.kids.length) : AC Try.prog 93 [nodeA n, .int .i64 k, nodeA v] 0 (fun r => r = nodeA (setK n k v)) := by
  refine (AC.ofR (withKid_ACR n v k hn hv hk) ?_).mono ?_
  · rintro r R ⟨rfl, rfl⟩
    rw [nodeO_sub]
    exact node_in _
  · rintro r (h | ⟨f, R, ⟨rfl, rfl⟩, rfl⟩)
    · exact h.elim
    · exact nodeO_sub _
theorem setAt_AC (t' : VC) : ∀ (p : List ByteArray) (n v : Nd) (t : VC), Shp n → Sml v → AC Try.prog 105 [nodeA n, .view t 1 (strsE p), nodeT t' v] 0 (fun r => r = optA (setS n p v))
  | [], n, v, t, hn, hv => by
    have p1 := copyNode_AC v hv t'
    refine AC.weak ?_
    unfold nodeA
    unfold nodeT at p1 ⊢
    rw [nodeTL_eq] at p1 ⊢
    rw [nodeL_eq]
    refine AC.of tab_ok mixed_ok Try.func105 (by rfl) (by kernel_rfl) ?_; rintro ⟨P, T, hT, hm, w0, S0, rd0, k0⟩ hP hTT; dsimp only at hP hTT; subst hP hTT; unfold initSt; rw [Try.ntmps105]
    (repeat (first | with_reducible refine AW.seq ?_ | ((first | refine arun_kn 4 rfl (fun C hC => ?_) | refine arunD_kn 4 rfl (fun C hC => ?_)); (repeat ((conv => whnf); simp [strsE_len])); refine hC _ ?_; clear hC C; simp only [List.drop, Nat.reduceAdd]) | ((first | refine arun_kn 1 rfl (fun C hC => ?_) | refine arunD_kn 1 rfl (fun C hC => ?_)); (repeat ((conv => whnf); simp [strsE_len])); refine hC _ ?_; clear hC C; simp only [List.drop, Nat.reduceAdd]) | (refine arun_skip ?_ ?_; (focus (simp [awant, strsE_len]; done))) | (refine arun_c0 (p1) ?_; rintro _ rfl) | (refine AW.regionK [] (fun K hK => ?_)) | (refine AW.regionDK [] (pcs [] []) (by kernel_rfl) (by kernel_rfl) (fun K hK => ?_)) | (refine AW.condT ?_ ?_; (focus (simp [aev, strsE_len]; done))) | (refine AW.condF ?_ ?_; (focus (simp [aev, strsE_len]; done))) | with_reducible refine AW.block ?_ | ((first | ((first | refine arun_nil ?_ | refine arunD_nil ?_); refine hK _ ?_; clear hK K) | refine AW.skip ?_ | refine AW.exit ?_ | refine AW.ret ?_); simp only [thenA_exit, inBlockA_exit, if_true, if_false, Nat.reduceEqDiff, thenA_normal, inBlockA_normal, reduceIte, thenA_ret, inBlockA_ret, endQ_ret, endR_ret, endG_ret, endQ_normal, endR_normal, endG_normal])))
    exact ⟨.tup [nodeA v, .bool true], by simp [ares, aresL, upd, rowsOf_cons], tup2_pur (node_pur v) pur_bool, _, Wk.refl _, rfl⟩
  | s :: q, n, v, t, hn, hv => by
    have e1 : strsE (s :: q) = [.str s] :: strsE q := rfl
    have pk := place_ok .loose n s hn.plc
    refine AC.weak ?_
    unfold nodeT at pk
    rw [nodeTL_eq] at pk
    unfold nodeA nodeT
    rw [nodeL_eq, nodeTL_eq, e1]
    have hlz : ((q.length + 1 : Nat) : Int) ≠ 0 := by omega
    have htk : (strsE q).take q.length = strsE q := List.take_of_length_le (by rw [strsE_len]; exact Nat.le_refl _)
    have hlo1 : ¬ (q.length : Int) + 1 < 1 := by omega
    have hlo2 : 1 ≤ q.length + 1 := by omega
    have hlo3 : (1 : Int) ≤ (q.length : Int) + 1 := by omega
    have hlz' : (((q.length : Int) + 1) == 0) = false := beq_false_of_ne (by omega)
    refine AC.of tab_ok mixed_ok Try.func105 (by rfl) (by kernel_rfl) ?_; rintro ⟨P, T, hT, hm, w0, S0, rd0, k0⟩ hP hTT; dsimp only at hP hTT; subst hP hTT; unfold initSt; rw [Try.ntmps105]
    rcases placeI_cases n s with ⟨h1, _⟩ | ⟨k, h1, h2, _⟩
    · rw [h1] at pk
      rw [setS_no q h1]
      (repeat (first | with_reducible refine AW.seq ?_ | ((first | refine arun_kn 4 rfl (fun C hC => ?_) | refine arunD_kn 4 rfl (fun C hC => ?_)); (repeat ((conv => whnf); simp [strsE_len, hlz, hlz'])); refine hC _ ?_; clear hC C; simp only [List.drop, Nat.reduceAdd]) | ((first | refine arun_kn 1 rfl (fun C hC => ?_) | refine arunD_kn 1 rfl (fun C hC => ?_)); (repeat ((conv => whnf); simp [strsE_len, hlz, hlz'])); refine hC _ ?_; clear hC C; simp only [List.drop, Nat.reduceAdd]) | (refine arun_skip ?_ ?_; (focus (simp [awant, strsE_len, hlz, hlz']; done))) | (refine arun_c0 (pk) ?_; rintro _ rfl) | (refine arunD_c (0) (pk) ?_; rintro _ rfl; intro _) | (refine AW.regionK [] (fun K hK => ?_)) | (refine AW.regionDK [] (pcs [(4, 0, fun r => r = .int .i64 (-1))] []) (by kernel_rfl) (by kernel_rfl) (fun K hK => ?_)) | (refine AW.condT ?_ ?_; (focus (simp [aev, strsE_len, hlz, hlz']; done))) | (refine AW.condF ?_ ?_; (focus (simp [aev, strsE_len, hlz, hlz']; done))) | with_reducible refine AW.block ?_ | ((first | ((first | refine arun_nil ?_ | refine arunD_nil ?_); refine hK _ ?_; clear hK K) | refine AW.skip ?_ | refine AW.exit ?_ | refine AW.ret ?_); simp only [thenA_exit, inBlockA_exit, if_true, if_false, Nat.reduceEqDiff, thenA_normal, inBlockA_normal, reduceIte, thenA_ret, inBlockA_ret, endQ_ret, endR_ret, endG_ret, endQ_normal, endR_normal, endG_normal])))
      refine ⟨.tup [node0 0 0 ⟨#[]⟩, .bool false], by simp [node0, ares, aresL, upd, rowsOf_cons], none_end.1, _, none_end.2, rfl⟩
    · rw [h2] at pk
      rw [setS_yes q h1 h2]
      have hk0 : ¬ ((k : Int) < 0) := by omega
      have hkid := hn.kid (List.getElem_mem h1)
      have ih := setAt_AC t' q n.kids[k] v t.cut hkid hv
      cases hg : setS n.kids[k] q v with
      | none =>
        rw [hg] at ih
        unfold optA nodeT nodeA at ih
        have hz : nodeL ((none : Option Nd).getD Nd.zero) = nodeL Nd.zero := rfl
        rw [hz, zeroA, nodeTL_eq, nodeL_eq, Option.isSome_none] at ih
        (repeat (first | with_reducible refine AW.seq ?_ | ((first | refine arun_kn 4 rfl (fun C hC => ?_) | refine arunD_kn 4 rfl (fun C hC => ?_)); (repeat ((conv => whnf); simp [strsE_len, hlz, hlz', h1, hk0, hlo1, hlo2, hlo3, htk])); refine hC _ ?_; clear hC C; simp only [List.drop, Nat.reduceAdd]) | ((first | refine arun_kn 1 rfl (fun C hC => ?_) | refine arunD_kn 1 rfl (fun C hC => ?_)); (repeat ((conv => whnf); simp [strsE_len, hlz, hlz', h1, hk0, hlo1, hlo2, hlo3, htk])); refine hC _ ?_; clear hC C; simp only [List.drop, Nat.reduceAdd]) | (refine arun_skip ?_ ?_; (focus (simp [awant, strsE_len, hlz, hlz', h1, hk0, hlo1, hlo2, hlo3, htk]; done))) | (refine arun_c0 (pk) ?_; rintro _ rfl) | (refine arun_c0 (ih) ?_; rintro _ rfl) | (refine arunD_c (0) (pk) ?_; rintro _ rfl; intro _) | (refine arunD_cE (0) (ih) (by exact ⟨_, rfl, optN_in⟩) ?_; rintro _ rfl; intro _) | (refine AW.regionK [] (fun K hK => ?_)) | (refine AW.regionDK [] (pcs [(4, 0, fun r => r = .int .i64 (k : Int)), (8, 0, fun r => r = .tup [.agg [.int .i64 0, .int .i64 0, .str ⟨#[]⟩, .view .loose 1 [], .view .loose 5 []], .bool false])] []) (by kernel_rfl) (by kernel_rfl) (fun K hK => ?_)) | (refine AW.condT ?_ ?_; (focus (simp [aev, strsE_len, hlz, hlz', h1, hk0, hlo1, hlo2, hlo3, htk]; done))) | (refine AW.condF ?_ ?_; (focus (simp [aev, strsE_len, hlz, hlz', h1, hk0, hlo1, hlo2, hlo3, htk]; done))) | with_reducible refine AW.block ?_ | ((first | ((first | refine arun_nil ?_ | refine arunD_nil ?_); refine hK _ ?_; clear hK K) | refine AW.skip ?_ | refine AW.exit ?_ | refine AW.ret ?_); simp only [thenA_exit, inBlockA_exit, if_true, if_false, Nat.reduceEqDiff, thenA_normal, inBlockA_normal, reduceIte, thenA_ret, inBlockA_ret, endQ_ret, endR_ret, endG_ret, endQ_normal, endR_normal, endG_normal])))
        refine ⟨.tup [node0 0 0 ⟨#[]⟩, .bool false], by simp [node0, ares, aresL, upd, rowsOf_cons], none_end.1, _, none_end.2, rfl⟩
      | some m =>
        rw [hg] at ih
        have hm := setS_sml _ _ _ _ hkid hv hg
        have pw := withKid_AC n m k hn.sml hm h1
        unfold optA nodeT nodeA at ih
        unfold nodeA at pw
        have hz : nodeL ((some m : Option Nd).getD Nd.zero) = nodeL m := rfl
        rw [hz, nodeTL_eq, nodeL_eq n.kids[k], nodeL_eq m, Option.isSome_some] at ih
        rw [nodeL_eq n, nodeL_eq m] at pw
        (repeat (first | with_reducible refine AW.seq ?_ | ((first | refine arun_kn 4 rfl (fun C hC => ?_) | refine arunD_kn 4 rfl (fun C hC => ?_)); (repeat ((conv => whnf); simp [strsE_len, hlz, hlz', h1, hk0, hlo1, hlo2, hlo3, htk])); refine hC _ ?_; clear hC C; simp only [List.drop, Nat.reduceAdd]) | ((first | refine arun_kn 1 rfl (fun C hC => ?_) | refine arunD_kn 1 rfl (fun C hC => ?_)); (repeat ((conv => whnf); simp [strsE_len, hlz, hlz', h1, hk0, hlo1, hlo2, hlo3, htk])); refine hC _ ?_; clear hC C; simp only [List.drop, Nat.reduceAdd]) | (refine arun_skip ?_ ?_; (focus (simp [awant, strsE_len, hlz, hlz', h1, hk0, hlo1, hlo2, hlo3, htk]; done))) | (refine arun_c0 (pk) ?_; rintro _ rfl) | (refine arun_c0 (ih) ?_; rintro _ rfl) | (refine arun_c0 (pw) ?_; rintro _ rfl) | (refine arunD_c (0) (pk) ?_; rintro _ rfl; intro _) | (refine arunD_cE (0) (ih) (by exact ⟨_, rfl, optS_in m⟩) ?_; rintro _ rfl; intro _) | (refine arunD_c (0) (pw) ?_; rintro _ rfl; intro _) | (refine AW.regionK [] (fun K hK => ?_)) | (refine AW.regionDK [] (pcs [(4, 0, fun r => r = .int .i64 (k : Int)), (8, 0, fun r => r = .tup [.agg [.int .i64 m.kind, .int .i64 m.num, .str m.text, .view .loose 1 (strsE m.names), .view .loose 5 (m.kids.map nodeL)], .bool true])] []) (by kernel_rfl) (by kernel_rfl) (fun K hK => ?_)) | (refine AW.condT ?_ ?_; (focus (simp [aev, strsE_len, hlz, hlz', h1, hk0, hlo1, hlo2, hlo3, htk]; done))) | (refine AW.condF ?_ ?_; (focus (simp [aev, strsE_len, hlz, hlz', h1, hk0, hlo1, hlo2, hlo3, htk]; done))) | with_reducible refine AW.block ?_ | ((first | ((first | refine arun_nil ?_ | refine arunD_nil ?_); refine hK _ ?_; clear hK K) | refine AW.skip ?_ | refine AW.exit ?_ | refine AW.ret ?_); simp only [thenA_exit, inBlockA_exit, if_true, if_false, Nat.reduceEqDiff, thenA_normal, inBlockA_normal, reduceIte, thenA_ret, inBlockA_ret, endQ_ret, endR_ret, endG_ret, endQ_normal, endR_normal, endG_normal])))
        exact ⟨.tup [nodeA (setK n k m), .bool true], by simp [setK, ares, aresL, upd, rowsOf_cons], tup2_pur (node_pur _) pur_bool, _, Wk.refl _, rfl⟩
end Go.Proofs.Ytiobnaielfeeaaa.Eng
-- EV: rows
namespace Go.Proofs.Ytiobnaielfeeaaa.Eng
open Go Go.RowKit
attribute [local simp] big size_mk ASt.pay Option.map_map Function.comp_def awant aop acall ado aev ofVal ofVal0 ASt.put ASt.add ASt.turn ASt.kill abox aalloc astore aload ASt.at cellsTo afieldAddr afield aindexAddr aindex alen abin aint acmp astr aun apick aextract anil aslice abound abuild afill abuildSlice asCells aps avCells over upd aappend asrc amax amin aconv mkSt slots rowsOf_cons rowsOf_nil usedOf_cons usedOf_nil ZK.av List.replicate ASt.back ASt.addL ASt.killL nodeA nodeT nodeTL_eq nodeL_eq strsE_get strsE_len intsE_get intsE_len strsE_at intsE_at nodeN namesRow nodeO kidsRow tab2 tab3 tab4 tab5 tab6 tab7 tab8 tab9 tab10 tab11 tab12 tab13 tab14 tab15 tab16 tab17 tab18 tab19 tab21 tab22 tab23 tab24 tab25 tab26 tab27 tab28 tab29 tab30 tab48 tab51 tab52 tab59 tab77 tab78 tab79 tab91 tab95 tab96 tab97 tab109 tab116 tab132 tab133 tab138 tab139 tab144 tab145 tab146 tab148 tab149 tab150
theorem strs_snoc (q : List ByteArray) (s : ByteArray) : strsE (q ++ [s]) = strsE q ++ [[.str s]] := by simp [strsE]
theorem snoc_cases (p : List ByteArray) : p = [] ∨ ∃ q s, p = q ++ [s] := by
  rcases List.eq_nil_or_concat p with h | ⟨q, s, h⟩
  · exact .inl h
  · exact .inr ⟨q, s, by rw [h]; simp⟩
theorem remS_snoc (n : Nd) (q : List ByteArray) (s : ByteArray) : remS n (q ++ [s]) = (getS n q).bind (fun m => if 0 ≤ placeI m s then setS n q (delK m (placeI m s).toNat) else none) := by
  unfold remS
  simp
theorem removeAt_gen (n : Nd) (q : List ByteArray) (s : ByteArray) (t : VC) (hlen : q.length ≤ 999) (pa : AC Try.prog 121 [nodeA n, .view t.cut 1 (strsE q)] 0 (fun r => r = optA (getS n q))) (hmS : ∀ m, getS n q = some m → Slt m)
    (pset : ∀ (t' : VC) (m x : Nd), getS n q = some m → Sml x → AC Try.prog 105 [nodeA n, .view t.cut 1 (strsE q), nodeT t' x] 0 (fun r => r = optA (setS n q x))) : AC Try.prog 92 [nodeA n, .view t 1 (strsE (q ++ [s]))] 0 (fun r => r = optA (remS n (q ++ [s]))) := by
  rw [remS_snoc]
  refine AC.weak ?_
  have hw : IntKind.i64.wrap (q.length : Int) = (q.length : Int) := i64_nat (by omega) (by omega)
  have htk : (strsE q ++ [[AV.str s]]).take q.length = strsE q := by rw [List.take_append_of_le_length (by rw [strsE_len]; exact Nat.le_refl _), List.take_of_length_le (by rw [strsE_len]; exact Nat.le_refl _)]
  have hget : (strsE q ++ [[AV.str s]])[q.length]? = some [AV.str s] := by rw [List.getElem?_append_right (by rw [strsE_len]; exact Nat.le_refl _), strsE_len]; simp
  have hget' : ∀ h, (strsE q ++ [[AV.str s]])[q.length]'h = [AV.str s] := fun h => by rw [List.getElem?_eq_getElem h] at hget; exact Option.some.inj hget
  have hlt : q.length < q.length + 1 := by omega
  have hle : q.length ≤ q.length + 1 := by omega
  have hle' : (q.length : Int) ≤ (q.length : Int) + 1 := by omega
  have hlt' : (q.length : Int) < (q.length : Int) + 1 := by omega
  have hn0 : ¬ (q.length : Int) < 0 := by omega
  unfold nodeA at pa ⊢
  rw [nodeL_eq] at pa ⊢
  rw [strs_snoc]
  refine AC.of tab_ok mixed_ok Try.func92 (by rfl) (by kernel_rfl) ?_; rintro ⟨P, T, hT, hm, w0, S0, rd0, k0⟩ hP hTT; dsimp only at hP hTT; subst hP hTT; unfold initSt; rw [Try.ntmps92]
  cases hg : getS n q with
  | none =>
    rw [hg] at pa
    unfold optA nodeA at pa
    rw [show nodeL ((none : Option Nd).getD Nd.zero) = nodeL Nd.zero from rfl, zeroA, Option.isSome_none] at pa
    (repeat (first | with_reducible refine AW.seq ?_ | ((first | refine arun_kn 4 rfl (fun C hC => ?_) | refine arunD_kn 4 rfl (fun C hC => ?_)); (repeat ((conv => whnf); simp [strsE_len, hw, htk, hlt, hle, hle', hlt', hn0])); refine hC _ ?_; clear hC C; simp only [List.drop, Nat.reduceAdd]) | ((first | refine arun_kn 1 rfl (fun C hC => ?_) | refine arunD_kn 1 rfl (fun C hC => ?_)); (repeat ((conv => whnf); simp [strsE_len, hw, htk, hlt, hle, hle', hlt', hn0])); refine hC _ ?_; clear hC C; simp only [List.drop, Nat.reduceAdd]) | (refine arun_skip ?_ ?_; (focus (simp [awant, strsE_len, hw, htk, hlt, hle, hle', hlt', hn0]; done))) | (refine arun_c0 (pa) ?_; rintro _ rfl) | (refine arunD_cE (0) (pa) (by exact ⟨_, rfl, optN_in⟩) ?_; rintro _ rfl; intro _) | (refine AW.regionK [] (fun K hK => ?_)) | (refine AW.regionDK [] (pcs [(4, 0, fun r => r = .tup [.agg [.int .i64 0, .int .i64 0, .str ⟨#[]⟩, .view .loose 1 [], .view .loose 5 []], .bool false])] []) (by kernel_rfl) (by kernel_rfl) (fun K hK => ?_)) | (refine AW.condT ?_ ?_; (focus (simp [aev, strsE_len, hw, htk, hlt, hle, hle', hlt', hn0]; done))) | (refine AW.condF ?_ ?_; (focus (simp [aev, strsE_len, hw, htk, hlt, hle, hle', hlt', hn0]; done))) | with_reducible refine AW.block ?_ | ((first | ((first | refine arun_nil ?_ | refine arunD_nil ?_); refine hK _ ?_; clear hK K) | refine AW.skip ?_ | refine AW.exit ?_ | refine AW.ret ?_); simp only [thenA_exit, inBlockA_exit, if_true, if_false, Nat.reduceEqDiff, thenA_normal, inBlockA_normal, reduceIte, thenA_ret, inBlockA_ret, endQ_ret, endR_ret, endG_ret, endQ_normal, endR_normal, endG_normal])))
    exact ⟨.tup [node0 0 0 ⟨#[]⟩, .bool false], by simp [node0, ares, aresL, upd, rowsOf_cons], none_end.1, _, none_end.2, rfl⟩
  | some m =>
    have hm := hmS m hg
    have pk := place_ok .loose m s hm.plc
    rw [hg] at pa
    unfold optA nodeA at pa
    rw [show nodeL ((some m : Option Nd).getD Nd.zero) = nodeL m from rfl, nodeL_eq m, Option.isSome_some] at pa
    unfold nodeT at pk
    rw [nodeTL_eq] at pk
    rw [Option.bind_some]
    rcases placeI_cases m s with ⟨h1, _⟩ | ⟨k, h1, h2, _⟩
    · rw [h1] at pk ⊢
      rw [if_neg (by omega)]
      (repeat (first | with_reducible refine AW.seq ?_ | ((first | refine arun_kn 4 rfl (fun C hC => ?_) | refine arunD_kn 4 rfl (fun C hC => ?_)); (repeat ((conv => whnf); simp [strsE_len, hw, htk, hget, hget', hlt, hle, hle', hlt', hn0])); refine hC _ ?_; clear hC C; simp only [List.drop, Nat.reduceAdd]) | ((first | refine arun_kn 1 rfl (fun C hC => ?_) | refine arunD_kn 1 rfl (fun C hC => ?_)); (repeat ((conv => whnf); simp [strsE_len, hw, htk, hget, hget', hlt, hle, hle', hlt', hn0])); refine hC _ ?_; clear hC C; simp only [List.drop, Nat.reduceAdd]) | (refine arun_skip ?_ ?_; (focus (simp [awant, strsE_len, hw, htk, hget, hget', hlt, hle, hle', hlt', hn0]; done))) | (refine arun_c0 (pa) ?_; rintro _ rfl) | (refine arun_c0 (pk) ?_; rintro _ rfl) | (refine arunD_cE (0) (pa) (by exact ⟨_, rfl, optS_in m⟩) ?_; rintro _ rfl; intro _) | (refine arunD_c (0) (pk) ?_; rintro _ rfl; intro _) | (refine AW.regionK [] (fun K hK => ?_)) | (refine AW.regionDK [] (pcs [(4, 0, fun r => r = .tup [.agg [.int .i64 m.kind, .int .i64 m.num, .str m.text, .view .loose 1 (strsE m.names), .view .loose 5 (m.kids.map nodeL)], .bool true]), (5, 0, fun r => r = .int .i64 (-1))] []) (by kernel_rfl) (by kernel_rfl) (fun K hK => ?_)) | (refine AW.condT ?_ ?_; (focus (simp [aev, strsE_len, hw, htk, hget, hget', hlt, hle, hle', hlt', hn0]; done))) | (refine AW.condF ?_ ?_; (focus (simp [aev, strsE_len, hw, htk, hget, hget', hlt, hle, hle', hlt', hn0]; done))) | with_reducible refine AW.block ?_ | ((first | ((first | refine arun_nil ?_ | refine arunD_nil ?_); refine hK _ ?_; clear hK K) | refine AW.skip ?_ | refine AW.exit ?_ | refine AW.ret ?_); simp only [thenA_exit, inBlockA_exit, if_true, if_false, Nat.reduceEqDiff, thenA_normal, inBlockA_normal, reduceIte, thenA_ret, inBlockA_ret, endQ_ret, endR_ret, endG_ret, endQ_normal, endR_normal, endG_normal])))
      exact ⟨.tup [node0 0 0 ⟨#[]⟩, .bool false], by simp [node0, ares, aresL, upd, rowsOf_cons], none_end.1, _, none_end.2, rfl⟩
    · rw [h2] at pk ⊢
      rw [if_pos (by omega), Int.toNat_natCast]
      have hk0 : ¬ ((k : Int) < 0) := by omega
      have h6 := hm.sml.kids
      have hwk : IntKind.i64.wrap ((k : Int) + 1) = (k : Int) + 1 := i64_nat (by omega) (by omega)
      have hb0 : k ≤ m.kids.length := by omega
      have hb1 : k + 1 ≤ m.kids.length := by omega
      have hb1' : (k : Int) + 1 ≤ (m.kids.length : Int) := by omega
      have hl1 : ((m.kids.map nodeL).take k).length = k := by rw [List.length_take, List.length_map]; omega
      have hl2 : ((m.kids.map nodeL).drop (k + 1)).length = m.kids.length - (k + 1) := by rw [List.length_drop, List.length_map]
      have htm : (m.kids.map nodeL).take m.kids.length = m.kids.map nodeL := List.take_of_length_le (by rw [List.length_map]; exact Nat.le_refl _)
      have hs1 : k * 80 ≤ 140737488355328 := by omega
      have hs2 : k ≤ 140737488355328 := by omega
      have hs3 : (k + (m.kids.length - (k + 1))) * 80 ≤ 140737488355328 := by omega
      have hs4 : k + (m.kids.length - (k + 1)) ≤ 140737488355328 := by omega
      (repeat (first | with_reducible refine AW.seq ?_ | ((first | refine arun_kn 4 rfl (fun C hC => ?_) | refine arunD_kn 4 rfl (fun C hC => ?_)); (repeat ((conv => whnf); simp [strsE_len, hw, htk, hget, hget', hlt, hle, hle', hlt', hn0, hk0, hwk, hb0, hb1, hb1', hl1, hl2, htm, hs1, hs2, hs3, hs4])); refine hC _ ?_; clear hC C; simp only [List.drop, Nat.reduceAdd]) | ((first | refine arun_kn 1 rfl (fun C hC => ?_) | refine arunD_kn 1 rfl (fun C hC => ?_)); (repeat ((conv => whnf); simp [strsE_len, hw, htk, hget, hget', hlt, hle, hle', hlt', hn0, hk0, hwk, hb0, hb1, hb1', hl1, hl2, htm, hs1, hs2, hs3, hs4])); refine hC _ ?_; clear hC C; simp only [List.drop, Nat.reduceAdd]) | (refine arun_skip ?_ ?_; (focus (simp [awant, strsE_len, hw, htk, hget, hget', hlt, hle, hle', hlt', hn0, hk0, hwk, hb0, hb1, hb1', hl1, hl2, htm, hs1, hs2, hs3, hs4]; done))) | (refine arun_c0 (pa) ?_; rintro _ rfl) | (refine arun_c0 (pk) ?_; rintro _ rfl) | (refine arunD_cE (0) (pa) (by exact ⟨_, rfl, optS_in m⟩) ?_; rintro _ rfl; intro _) | (refine arunD_c (0) (pk) ?_; rintro _ rfl; intro _) | (refine AW.regionK [] (fun K hK => ?_)) | (refine AW.regionDK [] (pcs [(4, 0, fun r => r = .tup [.agg [.int .i64 m.kind, .int .i64 m.num, .str m.text, .view .loose 1 (strsE m.names), .view .loose 5 (m.kids.map nodeL)], .bool true]), (5, 0, fun r => r = .int .i64 (k : Int))] []) (by kernel_rfl) (by kernel_rfl) (fun K hK => ?_)) | (refine AW.condT ?_ ?_; (focus (simp [aev, strsE_len, hw, htk, hget, hget', hlt, hle, hle', hlt', hn0, hk0, hwk, hb0, hb1, hb1', hl1, hl2, htm, hs1, hs2, hs3, hs4]; done))) | (refine AW.condF ?_ ?_; (focus (simp [aev, strsE_len, hw, htk, hget, hget', hlt, hle, hle', hlt', hn0, hk0, hwk, hb0, hb1, hb1', hl1, hl2, htm, hs1, hs2, hs3, hs4]; done))) | with_reducible refine AW.block ?_ | ((first | ((first | refine arun_nil ?_ | refine arunD_nil ?_); refine hK _ ?_; clear hK K) | refine AW.skip ?_ | refine AW.exit ?_ | refine AW.ret ?_); simp only [thenA_exit, inBlockA_exit, if_true, if_false, Nat.reduceEqDiff, thenA_normal, inBlockA_normal, reduceIte, thenA_ret, inBlockA_ret, endQ_ret, endR_ret, endG_ret, endQ_normal, endR_normal, endG_normal])))
      have hkl : (m.kids.map nodeL).take k ++ (m.kids.map nodeL).drop (k + 1) = (delK m k).kids.map nodeL := by simp [delK, List.map_take, List.map_drop]
      have hkn : k + (m.kids.length - (k + 1)) = (delK m k).kids.length := by simp [delK]; omega
      have hmin : min k m.kids.length = k := Nat.min_eq_left hb0
      have hdk : (delK m k).kind = m.kind := rfl
      have hdn : (delK m k).num = 0 := rfl
      have hdt : (delK m k).text = ⟨#[]⟩ := rfl
      have hsml := delK_sml (k := k) hm.sml
      refine AW.hold 43 ?_
      by_cases h4 : m.kind = 4
      · have hnl := hm.map h4
        have hn1 : k ≤ m.names.length := by omega
        have hn2 : k + 1 ≤ m.names.length := by omega
        have hn2' : (k : Int) + 1 ≤ (m.names.length : Int) := by omega
        have hl3 : ((strsE m.names).take k).length = k := by rw [List.length_take, strsE_len]; omega
        have hl4 : ((strsE m.names).drop (k + 1)).length = m.names.length - (k + 1) := by rw [List.length_drop, strsE_len]
        have htn : (strsE m.names).take m.names.length = strsE m.names := List.take_of_length_le (by rw [strsE_len]; exact Nat.le_refl _)
        have hs5 : k * 16 ≤ 140737488355328 := by omega
        have hs6 : (k + (m.names.length - (k + 1))) * 16 ≤ 140737488355328 := by omega
        have hs7 : k + (m.names.length - (k + 1)) ≤ 140737488355328 := by omega
        have hnn : (strsE m.names).take k ++ (strsE m.names).drop (k + 1) = strsE (delK m k).names := by simp [delK, h4, strsE, List.map_take, List.map_drop]
        have hnk : k + (m.names.length - (k + 1)) = (delK m k).names.length := by simp [delK, h4]; omega
        have hminn : min k m.names.length = k := Nat.min_eq_left hn1
        have ps := pset .loose m (delK m k) hg hsml
        refine AW.condT (by simp [aev, ASt.hold, AV.subL, AV.sub, h4]) ?_
        have hclo := nodeT_clo .loose (delK m k)
        unfold nodeA nodeT at ps
        unfold nodeT at hclo
        rw [nodeTL_eq, hdk, hdn, hdt] at hclo
        rw [nodeTL_eq, nodeL_eq, hdk, hdn, hdt, optA_eq] at ps
        (refine AW.regionDK [] (pcs [] []) (by kernel_rfl) (by kernel_rfl) (fun K hK => ?_); (repeat (refine arunD_ks 4 rfl (fun C hC => ?_); (repeat ((conv => whnf); simp [ASt.hold, upd, hmin, AV.subL, AV.sub, rowsOf_cons, Row.sub, strsE_len, hwk, hn1, hn2, hn2', hl3, hl4, htn, hs5, hs2, hs6, hs7])); refine hC _ ?_; clear hC C; simp only [List.drop_succ_cons, List.drop_zero, List.drop_nil, Nat.reduceAdd])); refine arunD_nil ?_; refine hK _ ?_; clear hK K; simp only [thenA_normal, inBlockA_normal, endQ_normal, endR_normal])
        refine AW.hold 59 ?_
        (repeat (first | with_reducible refine AW.seq ?_ | ((first | refine arun_kn 4 rfl (fun C hC => ?_) | refine arunD_kn 4 rfl (fun C hC => ?_)); (repeat ((conv => whnf); simp [ASt.hold, upd, AV.subL, AV.sub, rowsOf_cons, Row.sub, hmin, hminn, hkl, hnn, hkn, hnk, htk, hle, hle', optL])); refine hC _ ?_; clear hC C; simp only [List.drop, Nat.reduceAdd]) | ((first | refine arun_kn 1 rfl (fun C hC => ?_) | refine arunD_kn 1 rfl (fun C hC => ?_)); (repeat ((conv => whnf); simp [ASt.hold, upd, AV.subL, AV.sub, rowsOf_cons, Row.sub, hmin, hminn, hkl, hnn, hkn, hnk, htk, hle, hle', optL])); refine hC _ ?_; clear hC C; simp only [List.drop, Nat.reduceAdd]) | (refine arun_skip ?_ ?_; (focus (simp [awant, ASt.hold, upd, AV.subL, AV.sub, rowsOf_cons, Row.sub, hmin, hminn, hkl, hnn, hkn, hnk, htk, hle, hle', optL]; done))) | (refine arun_c0 (ps) ?_; rintro _ rfl) | (refine arunD_cE (0) (ps) (by exact ⟨_, rfl, optL_in _⟩) ?_; rintro _ rfl; intro _) | (refine AW.regionK [] (fun K hK => ?_)) | (refine AW.regionDK [] (pcs [(9, 0, fun r => r = optL (setS n q (delK m k)))] []) (by kernel_rfl) (by kernel_rfl) (fun K hK => ?_)) | (refine AW.condT ?_ ?_; (focus (simp [aev, ASt.hold, upd, AV.subL, AV.sub, rowsOf_cons, Row.sub, hmin, hminn, hkl, hnn, hkn, hnk, htk, hle, hle', optL]; done))) | (refine AW.condF ?_ ?_; (focus (simp [aev, ASt.hold, upd, AV.subL, AV.sub, rowsOf_cons, Row.sub, hmin, hminn, hkl, hnn, hkn, hnk, htk, hle, hle', optL]; done))) | with_reducible refine AW.block ?_ | ((first | ((first | refine arun_nil ?_ | refine arunD_nil ?_); refine hK _ ?_; clear hK K) | refine AW.skip ?_ | refine AW.exit ?_ | refine AW.ret ?_); simp only [thenA_exit, inBlockA_exit, if_true, if_false, Nat.reduceEqDiff, thenA_normal, inBlockA_normal, reduceIte, thenA_ret, inBlockA_ret, endQ_ret, endR_ret, endG_ret, endQ_normal, endR_normal, endG_normal])))
        exact ⟨optA (setS n q (delK m k)), by rw [optA_eq]; simp [optL, ares, aresL, upd, rowsOf_cons, AV.subL, AV.sub, Row.sub], optA_pur _, _, Wk.refl _, rfl⟩
      · have hnn : strsE (delK m k).names = [] := by simp [delK, h4, strsE]
        have ps := pset .tight m (delK m k) hg hsml
        have hclo := nodeT_clo .tight (delK m k)
        unfold nodeA nodeT at ps
        unfold nodeT at hclo
        rw [nodeTL_eq, hnn, hdk, hdn, hdt] at hclo
        rw [nodeTL_eq, nodeL_eq, hnn, hdk, hdn, hdt, optA_eq] at ps
        (repeat (first | with_reducible refine AW.seq ?_ | ((first | refine arun_kn 4 rfl (fun C hC => ?_) | refine arunD_kn 4 rfl (fun C hC => ?_)); (repeat ((conv => whnf); simp [h4, ASt.hold, upd, AV.subL, AV.sub, rowsOf_cons, Row.sub, hmin, hkl, hkn, htk, hle, hle', optL])); refine hC _ ?_; clear hC C; simp only [List.drop, Nat.reduceAdd]) | ((first | refine arun_kn 1 rfl (fun C hC => ?_) | refine arunD_kn 1 rfl (fun C hC => ?_)); (repeat ((conv => whnf); simp [h4, ASt.hold, upd, AV.subL, AV.sub, rowsOf_cons, Row.sub, hmin, hkl, hkn, htk, hle, hle', optL])); refine hC _ ?_; clear hC C; simp only [List.drop, Nat.reduceAdd]) | (refine arun_skip ?_ ?_; (focus (simp [awant, h4, ASt.hold, upd, AV.subL, AV.sub, rowsOf_cons, Row.sub, hmin, hkl, hkn, htk, hle, hle', optL]; done))) | (refine arun_c0 (ps) ?_; rintro _ rfl) | (refine arunD_cE (0) (ps) (by exact ⟨_, rfl, optL_in _⟩) ?_; rintro _ rfl; intro _) | (refine AW.regionK [] (fun K hK => ?_)) | (refine AW.regionDK [] (pcs [(9, 0, fun r => r = optL (setS n q (delK m k)))] []) (by kernel_rfl) (by kernel_rfl) (fun K hK => ?_)) | (refine AW.condT ?_ ?_; (focus (simp [aev, h4, ASt.hold, upd, AV.subL, AV.sub, rowsOf_cons, Row.sub, hmin, hkl, hkn, htk, hle, hle', optL]; done))) | (refine AW.condF ?_ ?_; (focus (simp [aev, h4, ASt.hold, upd, AV.subL, AV.sub, rowsOf_cons, Row.sub, hmin, hkl, hkn, htk, hle, hle', optL]; done))) | with_reducible refine AW.block ?_ | ((first | ((first | refine arun_nil ?_ | refine arunD_nil ?_); refine hK _ ?_; clear hK K) | refine AW.skip ?_ | refine AW.exit ?_ | refine AW.ret ?_); simp only [thenA_exit, inBlockA_exit, if_true, if_false, Nat.reduceEqDiff, thenA_normal, inBlockA_normal, reduceIte, thenA_ret, inBlockA_ret, endQ_ret, endR_ret, endG_ret, endQ_normal, endR_normal, endG_normal])))
        exact ⟨optA (setS n q (delK m k)), by rw [optA_eq]; simp [optL, ares, aresL, upd, rowsOf_cons, AV.subL, AV.sub, Row.sub], optA_pur _, _, Wk.refl _, rfl⟩
theorem removeAt_AC (n : Nd) (p : List ByteArray) (t : VC) (hn : Shp n) (hp : p.length ≤ 1000) : AC Try.prog 92 [nodeA n, .view t 1 (strsE p)] 0 (fun r => r = optA (remS n p)) := by
  rcases snoc_cases p with rfl | ⟨q, s, rfl⟩
  · refine AC.weak ?_
    unfold nodeA
    rw [nodeL_eq]
    refine AC.of tab_ok mixed_ok Try.func92 (by rfl) (by kernel_rfl) ?_; rintro ⟨P, T, hT, hm, w0, S0, rd0, k0⟩ hP hTT; dsimp only at hP hTT; subst hP hTT; unfold initSt; rw [Try.ntmps92]
    have hw : IntKind.i64.wrap (-1) = -1 := by decide
    (repeat (first | with_reducible refine AW.seq ?_ | ((first | refine arun_kn 4 rfl (fun C hC => ?_) | refine arunD_kn 4 rfl (fun C hC => ?_)); (repeat ((conv => whnf); simp [strsE_len, hw])); refine hC _ ?_; clear hC C; simp only [List.drop, Nat.reduceAdd]) | ((first | refine arun_kn 1 rfl (fun C hC => ?_) | refine arunD_kn 1 rfl (fun C hC => ?_)); (repeat ((conv => whnf); simp [strsE_len, hw])); refine hC _ ?_; clear hC C; simp only [List.drop, Nat.reduceAdd]) | (refine arun_skip ?_ ?_; (focus (simp [awant, strsE_len, hw]; done))) | (refine AW.regionK [] (fun K hK => ?_)) | (refine AW.regionDK [] (pcs [] []) (by kernel_rfl) (by kernel_rfl) (fun K hK => ?_)) | (refine AW.condT ?_ ?_; (focus (simp [aev, strsE_len, hw]; done))) | (refine AW.condF ?_ ?_; (focus (simp [aev, strsE_len, hw]; done))) | with_reducible refine AW.block ?_ | ((first | ((first | refine arun_nil ?_ | refine arunD_nil ?_); refine hK _ ?_; clear hK K) | refine AW.skip ?_ | refine AW.exit ?_ | refine AW.ret ?_); simp only [thenA_exit, inBlockA_exit, if_true, if_false, Nat.reduceEqDiff, thenA_normal, inBlockA_normal, reduceIte, thenA_ret, inBlockA_ret, endQ_ret, endR_ret, endG_ret, endQ_normal, endR_normal, endG_normal])))
    exact ⟨.tup [node0 0 0 ⟨#[]⟩, .bool false], by simp [node0, ares, aresL, upd, rowsOf_cons], none_end.1, _, none_end.2, rfl⟩
  · have hlen : q.length ≤ 999 := by simp at hp; omega
    exact removeAt_gen n q s t hlen (at_AC t.cut n q hn (by omega)) (fun m hg => (getS_shp q n m hn hg).slt) (fun t' m x _ hx => setAt_AC t' q n x t.cut hn hx)
end Go.Proofs.Ytiobnaielfeeaaa.Eng
-- EV: rows skip
namespace Go.Proofs.Ytiobnaielfeeaaa.Eng
open Go Go.RowKit
attribute [local simp] big size_mk ASt.pay Option.map_map Function.comp_def awant aop acall ado aev ofVal ofVal0 ASt.put ASt.add ASt.turn ASt.kill abox aalloc astore aload ASt.at cellsTo afieldAddr afield aindexAddr aindex alen abin aint acmp astr aun apick aextract anil aslice abound abuild afill abuildSlice asCells aps avCells over upd aappend asrc amax amin aconv mkSt slots rowsOf_cons rowsOf_nil usedOf_cons usedOf_nil ZK.av List.replicate ASt.back ASt.addL ASt.killL nodeA nodeT nodeTL_eq nodeL_eq strsE_get strsE_len intsE_get intsE_len strsE_at intsE_at nodeN namesRow nodeO kidsRow tab2 tab3 tab4 tab5 tab6 tab7 tab8 tab9 tab10 tab11 tab12 tab13 tab14 tab15 tab16 tab17 tab18 tab19 tab21 tab22 tab23 tab24 tab25 tab26 tab27 tab28 tab29 tab30 tab48 tab51 tab52 tab59 tab77 tab78 tab79 tab91 tab95 tab96 tab97 tab109 tab116 tab132 tab133 tab138 tab139 tab144 tab145 tab146 tab148 tab149 tab150
def slotA (o : Option (Nat × Bool)) : AV := match o with
  | none => .tup [.int .i64 (-1), .bool false]
  | some x => .tup [.int .i64 (x.1 : Nat), .bool x.2]
theorem slotG_AC (n : Nd) (st : ByteArray) (hn : Slt n) : AC Try.prog 122 [nodeA n, .str st] 0 (fun r => r = slotA (slotS n st)) := by
  have h6 := hn.sml.kids
  have pk := place_ok .loose n st hn.plc
  unfold nodeT at pk
  rw [nodeTL_eq] at pk
  unfold nodeA
  rw [nodeL_eq]
  refine AC.of tab_ok mixed_ok Try.func122 (by rfl) (by kernel_rfl) ?_; rintro ⟨P, T, hT, hm, w0, S0, rd0, k0⟩ hP hTT; dsimp only at hP hTT; subst hP hTT; unfold initSt; rw [Try.ntmps122]
  rcases placeI_cases n st with ⟨h1, _⟩ | ⟨k, h1, h2, _⟩
  · rw [h1] at pk
    by_cases h3 : n.kind = 3
    · have h4 : (n.kind == 4) = false := by rw [h3]; rfl
      have pd := decimal_AC n.kids.length (by have := hn.lst h3; omega)
      cases e1 : eqs st ⟨#[45]⟩
      · cases e2 : eqs st (txt (dig1 n.kids.length))
        · have e : slotS n st = none := by unfold slotS dash; rw [h1, if_neg (by omega), if_neg (by rw [e1, e2]; simp), if_neg (by omega)]
          generalize txt (dig1 n.kids.length) = dd at *
          (repeat (first | with_reducible refine AW.seq ?_ | ((first | refine arun_kn 4 rfl (fun C hC => ?_) | refine arunD_kn 4 rfl (fun C hC => ?_)); (repeat ((conv => whnf); simp [h3, e1, e2])); refine hC _ ?_; clear hC C; simp only [List.drop, Nat.reduceAdd]) | ((first | refine arun_kn 1 rfl (fun C hC => ?_) | refine arunD_kn 1 rfl (fun C hC => ?_)); (repeat ((conv => whnf); simp [h3, e1, e2])); refine hC _ ?_; clear hC C; simp only [List.drop, Nat.reduceAdd]) | (refine arun_skip ?_ ?_; (focus (simp [awant, h3, e1, e2]; done))) | (refine arun_c0 (hx := by (simp [h3, e1, e2] <;> fail)) (pk) ?_; rintro _ rfl) | (refine arun_c0 (pd) ?_; rintro _ rfl) | (refine arunD_skip ?_ ?_; (focus (simp [awant, h3, e1, e2]; done))) | (refine AW.regionK [] (fun K hK => ?_)) | (refine AW.regionDK [] (pcs [] []) (by kernel_rfl) (by kernel_rfl) (fun K hK => ?_)) | (refine AW.condT ?_ ?_; (focus (simp [aev, h3, e1, e2]; done))) | (refine AW.condF ?_ ?_; (focus (simp [aev, h3, e1, e2]; done))) | with_reducible refine AW.block ?_ | ((first | ((first | refine arun_nil ?_ | refine arunD_nil ?_); refine hK _ ?_; clear hK K) | refine AW.skip ?_ | refine AW.exit ?_ | refine AW.ret ?_); simp only [thenA_exit, inBlockA_exit, if_true, if_false, Nat.reduceEqDiff, thenA_normal, inBlockA_normal, reduceIte, thenA_ret, inBlockA_ret, endQ_ret, endR_ret, endG_ret, endQ_normal, endR_normal, endG_normal])))
          refine AW.loopS (fun (i : Nat) => mkSt (slots 0 62 [(1, .str st), (2, .ptr true 5 1 2 0 0), (7, .int .i64 i)]) [(2, ⟨true, 30, 5, [nodeL n]⟩)] [2] (rd0.map fun _ => 0)) (fun i => 0) (fun i => i = 0) 0 ?_ rfl ?_
          · rw [nodeL_eq]
            exact (less_of (by simp [lessL, mkSt, slots, h3, nodeN, namesRow, nodeO, kidsRow]) (by simp [upd, mkSt, rowsOf_cons, h3, nodeN, namesRow, nodeO, kidsRow]) (by simp [upd, mkSt, usedOf_cons, h3, nodeN, namesRow, nodeO, kidsRow]) (by first | exact rd_less (by omega) | simp [mkSt, h3, nodeN, namesRow, nodeO, kidsRow]) (by simp [slots, in_any, in_int, in_bool, in_str, in_ptr, in_own, in_agg, in_vnil, in_rdr, usedOf_cons, usedOf_nil, strs_in, ints_in, nodes_in, in_tup, h3, nodeN, namesRow, nodeO, kidsRow]) (by simp only [List.forall_mem_cons, List.not_mem_nil, false_implies, implies_true, and_true, true_and, h3, nodeN, namesRow, nodeO, kidsRow]; (repeat (first | with_reducible exact trivial | with_reducible refine And.intro ?_ ?_ | with_reducible exact in_int | with_reducible exact in_str | with_reducible exact in_bool | with_reducible exact strs_in _ | with_reducible exact nodes_in _ | with_reducible exact items_in _ | with_reducible exact in_vnil | with_reducible exact in_any | exact hin _ | with_reducible refine take_in ?_ | with_reducible exact strsE_in _ | with_reducible exact nodesE_in _ | with_reducible exact nodeL_in _ | with_reducible exact itemsE_in _ | with_reducible exact itemL_in _ | with_reducible refine app_in ?_ ?_ | with_reducible refine sing_in ?_ | (focus (simp [in_any, in_int, in_bool, in_str, in_ptr, in_own, in_agg, in_vnil, in_rdr, usedOf_cons, usedOf_nil, strs_in, ints_in, nodes_in, h3, nodeN, namesRow, nodeO, kidsRow]; done)))); done))
          · rintro i rfl
            rw [nodeL_eq]
            (repeat (first | with_reducible refine AW.seq ?_ | ((first | refine arun_kn 4 rfl (fun C hC => ?_) | refine arunD_kn 4 rfl (fun C hC => ?_)); (repeat ((conv => whnf); simp [h3])); refine hC _ ?_; clear hC C; simp only [List.drop, Nat.reduceAdd]) | ((first | refine arun_kn 1 rfl (fun C hC => ?_) | refine arunD_kn 1 rfl (fun C hC => ?_)); (repeat ((conv => whnf); simp [h3])); refine hC _ ?_; clear hC C; simp only [List.drop, Nat.reduceAdd]) | (refine arun_skip ?_ ?_; (focus (simp [awant, h3]; done))) | (refine arunD_skip ?_ ?_; (focus (simp [awant, h3]; done))) | (refine AW.regionK [] (fun K hK => ?_)) | (refine AW.regionDK [] (pcs [] []) (by kernel_rfl) (by kernel_rfl) (fun K hK => ?_)) | (refine AW.condT ?_ ?_; (focus (simp [aev, h3]; done))) | (refine AW.condF ?_ ?_; (focus (simp [aev, h3]; done))) | with_reducible refine AW.block ?_ | ((first | ((first | refine arun_nil ?_ | refine arunD_nil ?_); refine hK _ ?_; clear hK K) | refine AW.skip ?_ | refine AW.exit ?_ | refine AW.ret ?_); simp only [thenA_exit, inBlockA_exit, if_true, if_false, Nat.reduceEqDiff, thenA_normal, inBlockA_normal, reduceIte, thenA_ret, inBlockA_ret, endQ_ret, endR_ret, endG_ret, endQ_normal, endR_normal, endG_normal])))
            exact ⟨.tup [.int .i64 (-1), .bool false], by simp [ares, aresL], tup2_pur pur_int pur_bool, by rw [e]; rfl⟩
        · have e : slotS n st = some (n.kids.length, false) := by unfold slotS dash; rw [h1, if_neg (by omega), if_pos ⟨h3, by rw [e2]; simp⟩]
          generalize txt (dig1 n.kids.length) = dd at *
          (repeat (first | with_reducible refine AW.seq ?_ | ((first | refine arun_kn 4 rfl (fun C hC => ?_) | refine arunD_kn 4 rfl (fun C hC => ?_)); (repeat ((conv => whnf); simp [h3, e1, e2])); refine hC _ ?_; clear hC C; simp only [List.drop, Nat.reduceAdd]) | ((first | refine arun_kn 1 rfl (fun C hC => ?_) | refine arunD_kn 1 rfl (fun C hC => ?_)); (repeat ((conv => whnf); simp [h3, e1, e2])); refine hC _ ?_; clear hC C; simp only [List.drop, Nat.reduceAdd]) | (refine arun_skip ?_ ?_; (focus (simp [awant, h3, e1, e2]; done))) | (refine arun_c0 (hx := by (simp [h3, e1, e2] <;> fail)) (pk) ?_; rintro _ rfl) | (refine arun_c0 (pd) ?_; rintro _ rfl) | (refine arunD_skip ?_ ?_; (focus (simp [awant, h3, e1, e2]; done))) | (refine AW.regionK [] (fun K hK => ?_)) | (refine AW.regionDK [] (pcs [] []) (by kernel_rfl) (by kernel_rfl) (fun K hK => ?_)) | (refine AW.condT ?_ ?_; (focus (simp [aev, h3, e1, e2]; done))) | (refine AW.condF ?_ ?_; (focus (simp [aev, h3, e1, e2]; done))) | with_reducible refine AW.block ?_ | ((first | ((first | refine arun_nil ?_ | refine arunD_nil ?_); refine hK _ ?_; clear hK K) | refine AW.skip ?_ | refine AW.exit ?_ | refine AW.ret ?_); simp only [thenA_exit, inBlockA_exit, if_true, if_false, Nat.reduceEqDiff, thenA_normal, inBlockA_normal, reduceIte, thenA_ret, inBlockA_ret, endQ_ret, endR_ret, endG_ret, endQ_normal, endR_normal, endG_normal])))
          exact ⟨.tup [.int .i64 n.kids.length, .bool false], by simp [ares, aresL], tup2_pur pur_int pur_bool, by rw [e]; rfl⟩
      · have e : slotS n st = some (n.kids.length, false) := by unfold slotS dash; rw [h1, if_neg (by omega), if_pos ⟨h3, by rw [e1]; simp⟩]
        (repeat (first | with_reducible refine AW.seq ?_ | ((first | refine arun_kn 4 rfl (fun C hC => ?_) | refine arunD_kn 4 rfl (fun C hC => ?_)); (repeat ((conv => whnf); simp [h3, e1])); refine hC _ ?_; clear hC C; simp only [List.drop, Nat.reduceAdd]) | ((first | refine arun_kn 1 rfl (fun C hC => ?_) | refine arunD_kn 1 rfl (fun C hC => ?_)); (repeat ((conv => whnf); simp [h3, e1])); refine hC _ ?_; clear hC C; simp only [List.drop, Nat.reduceAdd]) | (refine arun_skip ?_ ?_; (focus (simp [awant, h3, e1]; done))) | (refine arun_c0 (hx := by (simp [h3, e1] <;> fail)) (pk) ?_; rintro _ rfl) | (refine arun_c0 (pd) ?_; rintro _ rfl) | (refine arunD_skip ?_ ?_; (focus (simp [awant, h3, e1]; done))) | (refine AW.regionK [] (fun K hK => ?_)) | (refine AW.regionDK [] (pcs [] []) (by kernel_rfl) (by kernel_rfl) (fun K hK => ?_)) | (refine AW.condT ?_ ?_; (focus (simp [aev, h3, e1]; done))) | (refine AW.condF ?_ ?_; (focus (simp [aev, h3, e1]; done))) | with_reducible refine AW.block ?_ | ((first | ((first | refine arun_nil ?_ | refine arunD_nil ?_); refine hK _ ?_; clear hK K) | refine AW.skip ?_ | refine AW.exit ?_ | refine AW.ret ?_); simp only [thenA_exit, inBlockA_exit, if_true, if_false, Nat.reduceEqDiff, thenA_normal, inBlockA_normal, reduceIte, thenA_ret, inBlockA_ret, endQ_ret, endR_ret, endG_ret, endQ_normal, endR_normal, endG_normal])))
        exact ⟨.tup [.int .i64 n.kids.length, .bool false], by simp [ares, aresL], tup2_pur pur_int pur_bool, by rw [e]; rfl⟩
    · have h3' : (n.kind == 3) = false := by simpa using h3
      by_cases h4 : n.kind = 4
      · have hnl := hn.map h4
        have e : slotS n st = some (nmI st n.names, false) := by unfold slotS; rw [h1, if_neg (by omega), if_neg (by simp [h3]), if_pos h4]
        (repeat (first | with_reducible refine AW.seq ?_ | ((first | refine arun_kn 4 rfl (fun C hC => ?_) | refine arunD_kn 4 rfl (fun C hC => ?_)); (repeat ((conv => whnf); simp [h4, h3, h3'])); refine hC _ ?_; clear hC C; simp only [List.drop, Nat.reduceAdd]) | ((first | refine arun_kn 1 rfl (fun C hC => ?_) | refine arunD_kn 1 rfl (fun C hC => ?_)); (repeat ((conv => whnf); simp [h4, h3, h3'])); refine hC _ ?_; clear hC C; simp only [List.drop, Nat.reduceAdd]) | (refine arun_skip ?_ ?_; (focus (simp [awant, h4, h3, h3']; done))) | (refine arun_c0 (hx := by (simp [h4, h3, h3'] <;> fail)) (pk) ?_; rintro _ rfl) | (refine arunD_skip ?_ ?_; (focus (simp [awant, h4, h3, h3']; done))) | (refine AW.regionK [] (fun K hK => ?_)) | (refine AW.regionDK [] (pcs [] []) (by kernel_rfl) (by kernel_rfl) (fun K hK => ?_)) | (refine AW.condT ?_ ?_; (focus (simp [aev, h4, h3, h3']; done))) | (refine AW.condF ?_ ?_; (focus (simp [aev, h4, h3, h3']; done))) | with_reducible refine AW.block ?_ | ((first | ((first | refine arun_nil ?_ | refine arunD_nil ?_); refine hK _ ?_; clear hK K) | refine AW.skip ?_ | refine AW.exit ?_ | refine AW.ret ?_); simp only [thenA_exit, inBlockA_exit, if_true, if_false, Nat.reduceEqDiff, thenA_normal, inBlockA_normal, reduceIte, thenA_ret, inBlockA_ret, endQ_ret, endR_ret, endG_ret, endQ_normal, endR_normal, endG_normal])))
        refine AW.loopS (fun (i : Nat) => mkSt (slots 0 62 [(1, .str st), (2, .ptr true 5 1 2 0 0), (7, .int .i64 i)]) [(2, ⟨true, 30, 5, [nodeL n]⟩)] [2] (rd0.map fun _ => 0)) (fun i => n.kids.length - i) (fun i => i ≤ n.kids.length ∧ nmI st n.names = nmI st (n.names.drop i) + i) 0 ?_ ⟨Nat.zero_le _, rfl⟩ ?_
        · rw [nodeL_eq]
          exact (less_of (by simp [lessL, mkSt, slots, h4, nodeN, namesRow, nodeO, kidsRow]) (by simp [upd, mkSt, rowsOf_cons, h4, nodeN, namesRow, nodeO, kidsRow]) (by simp [upd, mkSt, usedOf_cons, h4, nodeN, namesRow, nodeO, kidsRow]) (by first | exact rd_less (by omega) | simp [mkSt, h4, nodeN, namesRow, nodeO, kidsRow]) (by simp [slots, in_any, in_int, in_bool, in_str, in_ptr, in_own, in_agg, in_vnil, in_rdr, usedOf_cons, usedOf_nil, strs_in, ints_in, nodes_in, in_tup, h4, nodeN, namesRow, nodeO, kidsRow]) (by simp only [List.forall_mem_cons, List.not_mem_nil, false_implies, implies_true, and_true, true_and, h4, nodeN, namesRow, nodeO, kidsRow]; (repeat (first | with_reducible exact trivial | with_reducible refine And.intro ?_ ?_ | with_reducible exact in_int | with_reducible exact in_str | with_reducible exact in_bool | with_reducible exact strs_in _ | with_reducible exact nodes_in _ | with_reducible exact items_in _ | with_reducible exact in_vnil | with_reducible exact in_any | exact hin _ | with_reducible refine take_in ?_ | with_reducible exact strsE_in _ | with_reducible exact nodesE_in _ | with_reducible exact nodeL_in _ | with_reducible exact itemsE_in _ | with_reducible exact itemL_in _ | with_reducible refine app_in ?_ ?_ | with_reducible refine sing_in ?_ | (focus (simp [in_any, in_int, in_bool, in_str, in_ptr, in_own, in_agg, in_vnil, in_rdr, usedOf_cons, usedOf_nil, strs_in, ints_in, nodes_in, h4, nodeN, namesRow, nodeO, kidsRow]; done)))); done))
        · rintro i ⟨hi, hf⟩
          rw [nodeL_eq]
          have hi' : (i : Int) ≤ (n.kids.length : Int) := by omega
          by_cases hlt : i < n.kids.length
          · have hni : i < n.names.length := by omega
            have hw : IntKind.i64.wrap ((i : Int) + 1) = (i : Int) + 1 := i64_nat (by omega) (by omega)
            have hne : ¬ i = n.kids.length := by omega
            have hbi : ((i : Int) == (n.kids.length : Int)) = false := beq_false_of_ne (by omega)
            cases hb : lts st n.names[i]
            · rw [nmI_drop hni hb] at hf
              (repeat (first | with_reducible refine AW.seq ?_ | ((first | refine arun_kn 4 rfl (fun C hC => ?_) | refine arunD_kn 4 rfl (fun C hC => ?_)); (repeat ((conv => whnf); simp [h4, hi', hi, hne, hbi, hni, hb, hw])); refine hC _ ?_; clear hC C; simp only [List.drop, Nat.reduceAdd]) | ((first | refine arun_kn 1 rfl (fun C hC => ?_) | refine arunD_kn 1 rfl (fun C hC => ?_)); (repeat ((conv => whnf); simp [h4, hi', hi, hne, hbi, hni, hb, hw])); refine hC _ ?_; clear hC C; simp only [List.drop, Nat.reduceAdd]) | (refine arun_skip ?_ ?_; (focus (simp [awant, h4, hi', hi, hne, hbi, hni, hb, hw]; done))) | (refine arunD_skip ?_ ?_; (focus (simp [awant, h4, hi', hi, hne, hbi, hni, hb, hw]; done))) | (refine AW.regionK [] (fun K hK => ?_)) | (refine AW.regionDK [] (pcs [] []) (by kernel_rfl) (by kernel_rfl) (fun K hK => ?_)) | (refine AW.condT ?_ ?_; (focus (simp [aev, h4, hi', hi, hne, hbi, hni, hb, hw]; done))) | (refine AW.condF ?_ ?_; (focus (simp [aev, h4, hi', hi, hne, hbi, hni, hb, hw]; done))) | with_reducible refine AW.block ?_ | ((first | ((first | refine arun_nil ?_ | refine arunD_nil ?_); refine hK _ ?_; clear hK K) | refine AW.skip ?_ | refine AW.exit ?_ | refine AW.ret ?_); simp only [thenA_exit, inBlockA_exit, if_true, if_false, Nat.reduceEqDiff, thenA_normal, inBlockA_normal, reduceIte, thenA_ret, inBlockA_ret, endQ_ret, endR_ret, endG_ret, endQ_normal, endR_normal, endG_normal])))
              exact ⟨i + 1, by omega, ⟨by omega, hf⟩, (less_of (by simp [lessL, mkSt, slots, h4, nodeN, namesRow, nodeO, kidsRow]) (by simp [upd, mkSt, rowsOf_cons, h4, nodeN, namesRow, nodeO, kidsRow]) (by simp [upd, mkSt, usedOf_cons, h4, nodeN, namesRow, nodeO, kidsRow]) (by first | exact rd_less (by omega) | simp [mkSt, h4, nodeN, namesRow, nodeO, kidsRow]) (by simp [slots, in_any, in_int, in_bool, in_str, in_ptr, in_own, in_agg, in_vnil, in_rdr, usedOf_cons, usedOf_nil, strs_in, ints_in, nodes_in, in_tup, h4, nodeN, namesRow, nodeO, kidsRow]) (by simp only [List.forall_mem_cons, List.not_mem_nil, false_implies, implies_true, and_true, true_and, h4, nodeN, namesRow, nodeO, kidsRow]; (repeat (first | with_reducible exact trivial | with_reducible refine And.intro ?_ ?_ | with_reducible exact in_int | with_reducible exact in_str | with_reducible exact in_bool | with_reducible exact strs_in _ | with_reducible exact nodes_in _ | with_reducible exact items_in _ | with_reducible exact in_vnil | with_reducible exact in_any | exact hin _ | with_reducible refine take_in ?_ | with_reducible exact strsE_in _ | with_reducible exact nodesE_in _ | with_reducible exact nodeL_in _ | with_reducible exact itemsE_in _ | with_reducible exact itemL_in _ | with_reducible refine app_in ?_ ?_ | with_reducible refine sing_in ?_ | (focus (simp [in_any, in_int, in_bool, in_str, in_ptr, in_own, in_agg, in_vnil, in_rdr, usedOf_cons, usedOf_nil, strs_in, ints_in, nodes_in, h4, nodeN, namesRow, nodeO, kidsRow]; done)))); done))⟩
            · rw [nmI_at hni hb] at hf
              (repeat (first | with_reducible refine AW.seq ?_ | ((first | refine arun_kn 4 rfl (fun C hC => ?_) | refine arunD_kn 4 rfl (fun C hC => ?_)); (repeat ((conv => whnf); simp [h4, hi', hi, hne, hbi, hni, hb, hw])); refine hC _ ?_; clear hC C; simp only [List.drop, Nat.reduceAdd]) | ((first | refine arun_kn 1 rfl (fun C hC => ?_) | refine arunD_kn 1 rfl (fun C hC => ?_)); (repeat ((conv => whnf); simp [h4, hi', hi, hne, hbi, hni, hb, hw])); refine hC _ ?_; clear hC C; simp only [List.drop, Nat.reduceAdd]) | (refine arun_skip ?_ ?_; (focus (simp [awant, h4, hi', hi, hne, hbi, hni, hb, hw]; done))) | (refine arunD_skip ?_ ?_; (focus (simp [awant, h4, hi', hi, hne, hbi, hni, hb, hw]; done))) | (refine AW.regionK [] (fun K hK => ?_)) | (refine AW.regionDK [] (pcs [] []) (by kernel_rfl) (by kernel_rfl) (fun K hK => ?_)) | (refine AW.condT ?_ ?_; (focus (simp [aev, h4, hi', hi, hne, hbi, hni, hb, hw]; done))) | (refine AW.condF ?_ ?_; (focus (simp [aev, h4, hi', hi, hne, hbi, hni, hb, hw]; done))) | with_reducible refine AW.block ?_ | ((first | ((first | refine arun_nil ?_ | refine arunD_nil ?_); refine hK _ ?_; clear hK K) | refine AW.skip ?_ | refine AW.exit ?_ | refine AW.ret ?_); simp only [thenA_exit, inBlockA_exit, if_true, if_false, Nat.reduceEqDiff, thenA_normal, inBlockA_normal, reduceIte, thenA_ret, inBlockA_ret, endQ_ret, endR_ret, endG_ret, endQ_normal, endR_normal, endG_normal])))
              exact ⟨.tup [.int .i64 i, .bool false], by simp [ares, aresL], tup2_pur pur_int pur_bool, by rw [e, hf, Nat.zero_add]; rfl⟩
          · obtain rfl : i = n.kids.length := by omega
            rw [List.drop_eq_nil_of_le (by omega), nmI, Nat.zero_add] at hf
            (repeat (first | with_reducible refine AW.seq ?_ | ((first | refine arun_kn 4 rfl (fun C hC => ?_) | refine arunD_kn 4 rfl (fun C hC => ?_)); (repeat ((conv => whnf); simp [h4])); refine hC _ ?_; clear hC C; simp only [List.drop, Nat.reduceAdd]) | ((first | refine arun_kn 1 rfl (fun C hC => ?_) | refine arunD_kn 1 rfl (fun C hC => ?_)); (repeat ((conv => whnf); simp [h4])); refine hC _ ?_; clear hC C; simp only [List.drop, Nat.reduceAdd]) | (refine arun_skip ?_ ?_; (focus (simp [awant, h4]; done))) | (refine arunD_skip ?_ ?_; (focus (simp [awant, h4]; done))) | (refine AW.regionK [] (fun K hK => ?_)) | (refine AW.regionDK [] (pcs [] []) (by kernel_rfl) (by kernel_rfl) (fun K hK => ?_)) | (refine AW.condT ?_ ?_; (focus (simp [aev, h4]; done))) | (refine AW.condF ?_ ?_; (focus (simp [aev, h4]; done))) | with_reducible refine AW.block ?_ | ((first | ((first | refine arun_nil ?_ | refine arunD_nil ?_); refine hK _ ?_; clear hK K) | refine AW.skip ?_ | refine AW.exit ?_ | refine AW.ret ?_); simp only [thenA_exit, inBlockA_exit, if_true, if_false, Nat.reduceEqDiff, thenA_normal, inBlockA_normal, reduceIte, thenA_ret, inBlockA_ret, endQ_ret, endR_ret, endG_ret, endQ_normal, endR_normal, endG_normal])))
            exact ⟨.tup [.int .i64 n.kids.length, .bool false], by simp [ares, aresL], tup2_pur pur_int pur_bool, by rw [e, hf]; rfl⟩
      · have h4' : (n.kind == 4) = false := by simpa using h4
        have e : slotS n st = none := by unfold slotS; rw [h1, if_neg (by omega), if_neg (by simp [h3]), if_neg h4]
        (repeat (first | with_reducible refine AW.seq ?_ | ((first | refine arun_kn 4 rfl (fun C hC => ?_) | refine arunD_kn 4 rfl (fun C hC => ?_)); (repeat ((conv => whnf); simp [h4', h3'])); refine hC _ ?_; clear hC C; simp only [List.drop, Nat.reduceAdd]) | ((first | refine arun_kn 1 rfl (fun C hC => ?_) | refine arunD_kn 1 rfl (fun C hC => ?_)); (repeat ((conv => whnf); simp [h4', h3'])); refine hC _ ?_; clear hC C; simp only [List.drop, Nat.reduceAdd]) | (refine arun_skip ?_ ?_; (focus (simp [awant, h4', h3']; done))) | (refine arun_c0 (hx := by (simp [h4', h3'] <;> fail)) (pk) ?_; rintro _ rfl) | (refine arunD_skip ?_ ?_; (focus (simp [awant, h4', h3']; done))) | (refine AW.regionK [] (fun K hK => ?_)) | (refine AW.regionDK [] (pcs [] []) (by kernel_rfl) (by kernel_rfl) (fun K hK => ?_)) | (refine AW.condT ?_ ?_; (focus (simp [aev, h4', h3']; done))) | (refine AW.condF ?_ ?_; (focus (simp [aev, h4', h3']; done))) | with_reducible refine AW.block ?_ | ((first | ((first | refine arun_nil ?_ | refine arunD_nil ?_); refine hK _ ?_; clear hK K) | refine AW.skip ?_ | refine AW.exit ?_ | refine AW.ret ?_); simp only [thenA_exit, inBlockA_exit, if_true, if_false, Nat.reduceEqDiff, thenA_normal, inBlockA_normal, reduceIte, thenA_ret, inBlockA_ret, endQ_ret, endR_ret, endG_ret, endQ_normal, endR_normal, endG_normal])))
        refine AW.loopS (fun (i : Nat) => mkSt (slots 0 62 [(1, .str st), (2, .ptr true 5 1 2 0 0), (7, .int .i64 i)]) [(2, ⟨true, 30, 5, [nodeL n]⟩)] [2] (rd0.map fun _ => 0)) (fun i => 0) (fun i => i = 0) 0 ?_ rfl ?_
        · rw [nodeL_eq]
          exact less_a
        · rintro i rfl
          rw [nodeL_eq]
          (repeat (first | with_reducible refine AW.seq ?_ | ((first | refine arun_kn 4 rfl (fun C hC => ?_) | refine arunD_kn 4 rfl (fun C hC => ?_)); (repeat ((conv => whnf); simp [h4'])); refine hC _ ?_; clear hC C; simp only [List.drop, Nat.reduceAdd]) | ((first | refine arun_kn 1 rfl (fun C hC => ?_) | refine arunD_kn 1 rfl (fun C hC => ?_)); (repeat ((conv => whnf); simp [h4'])); refine hC _ ?_; clear hC C; simp only [List.drop, Nat.reduceAdd]) | (refine arun_skip ?_ ?_; (focus (simp [awant, h4']; done))) | (refine arunD_skip ?_ ?_; (focus (simp [awant, h4']; done))) | (refine AW.regionK [] (fun K hK => ?_)) | (refine AW.regionDK [] (pcs [] []) (by kernel_rfl) (by kernel_rfl) (fun K hK => ?_)) | (refine AW.condT ?_ ?_; (focus (simp [aev, h4']; done))) | (refine AW.condF ?_ ?_; (focus (simp [aev, h4']; done))) | with_reducible refine AW.block ?_ | ((first | ((first | refine arun_nil ?_ | refine arunD_nil ?_); refine hK _ ?_; clear hK K) | refine AW.skip ?_ | refine AW.exit ?_ | refine AW.ret ?_); simp only [thenA_exit, inBlockA_exit, if_true, if_false, Nat.reduceEqDiff, thenA_normal, inBlockA_normal, reduceIte, thenA_ret, inBlockA_ret, endQ_ret, endR_ret, endG_ret, endQ_normal, endR_normal, endG_normal])))
          exact ⟨.tup [.int .i64 (-1), .bool false], by simp [ares, aresL], tup2_pur pur_int pur_bool, by rw [e]; rfl⟩
  · rw [h2] at pk
    have hk0 : (0 : Int) ≤ (k : Int) := by omega
    by_cases h4 : n.kind = 4
    · have e : slotS n st = some (k, true) := by unfold slotS; rw [h2, if_pos hk0, Int.toNat_natCast, decide_eq_true h4]
      (repeat (first | with_reducible refine AW.seq ?_ | ((first | refine arun_kn 4 rfl (fun C hC => ?_) | refine arunD_kn 4 rfl (fun C hC => ?_)); (repeat ((conv => whnf); simp [h4, hk0])); refine hC _ ?_; clear hC C; simp only [List.drop, Nat.reduceAdd]) | ((first | refine arun_kn 1 rfl (fun C hC => ?_) | refine arunD_kn 1 rfl (fun C hC => ?_)); (repeat ((conv => whnf); simp [h4, hk0])); refine hC _ ?_; clear hC C; simp only [List.drop, Nat.reduceAdd]) | (refine arun_skip ?_ ?_; (focus (simp [awant, h4, hk0]; done))) | (refine arun_c0 (hx := by (simp [h4, hk0] <;> fail)) (pk) ?_; rintro _ rfl) | (refine arunD_skip ?_ ?_; (focus (simp [awant, h4, hk0]; done))) | (refine AW.regionK [] (fun K hK => ?_)) | (refine AW.regionDK [] (pcs [] []) (by kernel_rfl) (by kernel_rfl) (fun K hK => ?_)) | (refine AW.condT ?_ ?_; (focus (simp [aev, h4, hk0]; done))) | (refine AW.condF ?_ ?_; (focus (simp [aev, h4, hk0]; done))) | with_reducible refine AW.block ?_ | ((first | ((first | refine arun_nil ?_ | refine arunD_nil ?_); refine hK _ ?_; clear hK K) | refine AW.skip ?_ | refine AW.exit ?_ | refine AW.ret ?_); simp only [thenA_exit, inBlockA_exit, if_true, if_false, Nat.reduceEqDiff, thenA_normal, inBlockA_normal, reduceIte, thenA_ret, inBlockA_ret, endQ_ret, endR_ret, endG_ret, endQ_normal, endR_normal, endG_normal])))
      exact ⟨.tup [.int .i64 k, .bool true], by simp [ares, aresL], tup2_pur pur_int pur_bool, by rw [e]; rfl⟩
    · have h4' : (n.kind == 4) = false := by simpa using h4
      have e : slotS n st = some (k, false) := by unfold slotS; rw [h2, if_pos hk0, Int.toNat_natCast, decide_eq_false h4]
      (repeat (first | with_reducible refine AW.seq ?_ | ((first | refine arun_kn 4 rfl (fun C hC => ?_) | refine arunD_kn 4 rfl (fun C hC => ?_)); (repeat ((conv => whnf); simp [h4, h4', hk0])); refine hC _ ?_; clear hC C; simp only [List.drop, Nat.reduceAdd]) | ((first | refine arun_kn 1 rfl (fun C hC => ?_) | refine arunD_kn 1 rfl (fun C hC => ?_)); (repeat ((conv => whnf); simp [h4, h4', hk0])); refine hC _ ?_; clear hC C; simp only [List.drop, Nat.reduceAdd]) | (refine arun_skip ?_ ?_; (focus (simp [awant, h4, h4', hk0]; done))) | (refine arun_c0 (hx := by (simp [h4, h4', hk0] <;> fail)) (pk) ?_; rintro _ rfl) | (refine arunD_skip ?_ ?_; (focus (simp [awant, h4, h4', hk0]; done))) | (refine AW.regionK [] (fun K hK => ?_)) | (refine AW.regionDK [] (pcs [] []) (by kernel_rfl) (by kernel_rfl) (fun K hK => ?_)) | (refine AW.condT ?_ ?_; (focus (simp [aev, h4, h4', hk0]; done))) | (refine AW.condF ?_ ?_; (focus (simp [aev, h4, h4', hk0]; done))) | with_reducible refine AW.block ?_ | ((first | ((first | refine arun_nil ?_ | refine arunD_nil ?_); refine hK _ ?_; clear hK K) | refine AW.skip ?_ | refine AW.exit ?_ | refine AW.ret ?_); simp only [thenA_exit, inBlockA_exit, if_true, if_false, Nat.reduceEqDiff, thenA_normal, inBlockA_normal, reduceIte, thenA_ret, inBlockA_ret, endQ_ret, endR_ret, endG_ret, endQ_normal, endR_normal, endG_normal])))
      exact ⟨.tup [.int .i64 k, .bool false], by simp [ares, aresL], tup2_pur pur_int pur_bool, by rw [e]; rfl⟩
theorem insKid_kids (n v : Nd) (i : Nat) (st : ByteArray) : (insKid n i st v).kids.map nodeL = (n.kids.map nodeL).take i ++ nodeL v :: (n.kids.map nodeL).drop i := by
  simp [insKid, insL, List.map_take, List.map_drop]
theorem insKid_names (n v : Nd) (i : Nat) (st : ByteArray) (h4 : n.kind = 4) : strsE (insKid n i st v).names = (strsE n.names).take i ++ [.str st] :: (strsE n.names).drop i := by
  simp [insKid, insL, h4, strsE, List.map_take, List.map_drop]
theorem insKid_klen {n v : Nd} {i : Nat} {st : ByteArray} (h : i ≤ n.kids.length) : (insKid n i st v).kids.length = i + (n.kids.length - i + 1) := by
  simp [insKid, insL]; omega
theorem ins3_pur (n : Nd) (ks : List Nd) : Pur (.tup [.agg [.int .i64 n.kind, .int .i64 0, .str ⟨#[]⟩, .view .tight 1 [], .view .loose 5 (ks.map nodeL)], .bool true]) := tup2_pur (pur_agg (by
  simp only [List.forall_mem_cons, List.not_mem_nil, false_implies, implies_true, and_true]
  exact ⟨pur_int, pur_int, pur_str, pur_view (by decide) (fun e he => by cases he), nodes_pur _ (by decide)⟩)) pur_bool
theorem ins3_wk {n v : Nd} {i : Nat} {st : ByteArray} (h : (insKid n i st v).names = []) : Wk (.tup [.agg [.int .i64 n.kind, .int .i64 0, .str ⟨#[]⟩, .view .tight 1 [], .view .loose 5 ((insKid n i st v).kids.map nodeL)], .bool true]) (optA (some (insKid n i st v))) := by
  rw [optA_eq]
  unfold optL
  dsimp only [Option.getD_some, Option.isSome_some]
  rw [h]
  exact tup2_wk' (Wk.agg (.cons (Wk.refl _) (.cons (Wk.refl _) (.cons (Wk.refl _) (.cons (Wk.nil (fun h => by cases h)) (.cons (Wk.refl _) .nil)))))) (Wk.refl _)
theorem addHereG_AC (n v : Nd) (st : ByteArray) (hn : Slt n) (hv : Sml v) : AC Try.prog 94 [nodeA n, .str st, nodeA v] 0 (fun r => r = optA (addK n st v)) := by
  have hs1 := hn.sml.names
  have hs2 := hn.sml.kids
  have psl := slotG_AC n st hn
  refine AC.weak ?_
  cases hs : slotS n st with
  | none =>
    have e : addK n st v = none := by unfold addK; rw [hs]; rfl
    rw [hs] at psl
    dsimp only [slotA] at psl
    unfold nodeA at psl ⊢
    rw [nodeL_eq] at psl
    rw [nodeL_eq n, nodeL_eq v]
    refine AC.of tab_ok mixed_ok Try.func94 (by rfl) (by kernel_rfl) ?_; rintro ⟨P, T, hT, hm, w0, S0, rd0, k0⟩ hP hTT; dsimp only at hP hTT; subst hP hTT; unfold initSt; rw [Try.ntmps94]
    (repeat (first | with_reducible refine AW.seq ?_ | ((first | refine arun_kn 4 rfl (fun C hC => ?_) | refine arunD_kn 4 rfl (fun C hC => ?_)); (repeat ((conv => whnf); simp)); refine hC _ ?_; clear hC C; simp only [List.drop, Nat.reduceAdd]) | ((first | refine arun_kn 1 rfl (fun C hC => ?_) | refine arunD_kn 1 rfl (fun C hC => ?_)); (repeat ((conv => whnf); simp)); refine hC _ ?_; clear hC C; simp only [List.drop, Nat.reduceAdd]) | (refine arun_skip ?_ ?_; (focus (simp [awant]; done))) | (refine arun_c0 (psl) ?_; rintro _ rfl) | (refine arunD_skip ?_ ?_; (focus (simp [awant]; done))) | (refine AW.regionK [] (fun K hK => ?_)) | (refine AW.regionDK [] (pcs [] []) (by kernel_rfl) (by kernel_rfl) (fun K hK => ?_)) | (refine AW.condT ?_ ?_; (focus (simp [aev]; done))) | (refine AW.condF ?_ ?_; (focus (simp [aev]; done))) | with_reducible refine AW.block ?_ | ((first | ((first | refine arun_nil ?_ | refine arunD_nil ?_); refine hK _ ?_; clear hK K) | refine AW.skip ?_ | refine AW.exit ?_ | refine AW.ret ?_); simp only [thenA_exit, inBlockA_exit, if_true, if_false, Nat.reduceEqDiff, thenA_normal, inBlockA_normal, reduceIte, thenA_ret, inBlockA_ret, endQ_ret, endR_ret, endG_ret, endQ_normal, endR_normal, endG_normal])))
    exact ⟨.tup [node0 0 0 ⟨#[]⟩, .bool false], by simp [node0, ares, aresL, upd, rowsOf_cons], none_end.1, _, none_end.2, by rw [e]; rfl⟩
  | some x =>
    obtain ⟨i, b⟩ := x
    have hlt := slotS_lt hn hs
    rw [hs] at psl
    dsimp only [slotA] at psl
    have hi0 : ¬ ((i : Int) < 0) := by omega
    cases b
    · obtain ⟨hk, hi⟩ := hlt.2 rfl
      have e : addK n st v = some (insKid n i st v) := by unfold addK; rw [hs]; rfl
      have pc := copyNode_AC n hn.sml .loose
      have pv := copyNode_AC v hv .loose
      unfold nodeT at pc pv
      rw [nodeTL_eq] at pc pv
      unfold nodeA at psl pc pv ⊢
      rw [nodeL_eq] at psl pc pv
      rw [nodeL_eq n, nodeL_eq v]
      have hl1 : ((n.kids.map nodeL).take i).length = i := by rw [List.length_take, List.length_map]; omega
      have hl2 : ((n.kids.map nodeL).drop i).length = n.kids.length - i := by rw [List.length_drop, List.length_map]
      have hb1 : i * 80 ≤ 140737488355328 := by omega
      have hb2 : i ≤ 140737488355328 := by omega
      have hb3 : (i + 1) * 80 ≤ 140737488355328 := by omega
      have hb4 : i + 1 ≤ 140737488355328 := by omega
      have hb5 : (i + 1 + (n.kids.length - i)) * 80 ≤ 140737488355328 := by omega
      have hb6 : i + 1 + (n.kids.length - i) ≤ 140737488355328 := by omega
      have htk1 : (n.kids.map nodeL).take n.kids.length = n.kids.map nodeL := List.take_of_length_le (by rw [List.length_map]; exact Nat.le_refl _)
      have hkl := insKid_kids n v i st
      rw [nodeL_eq v] at hkl
      have hkn := insKid_klen (v := v) (st := st) hi
      have q1 : (insKid n i st v).kind = n.kind := rfl
      have q2 : (insKid n i st v).num = 0 := rfl
      have q3 : (insKid n i st v).text = ⟨#[]⟩ := rfl
      refine AC.of tab_ok mixed_ok Try.func94 (by rfl) (by kernel_rfl) ?_; rintro ⟨P, T, hT, hm, w0, S0, rd0, k0⟩ hP hTT; dsimp only at hP hTT; subst hP hTT; unfold initSt; rw [Try.ntmps94]
      (repeat (first | with_reducible refine AW.seq ?_ | ((first | refine arun_kn 4 rfl (fun C hC => ?_) | refine arunD_kn 4 rfl (fun C hC => ?_)); (repeat ((conv => whnf); simp [hi0, hi, hl1, hl2, hb1, hb2, hb3, hb4, hb5, hb6, htk1])); refine hC _ ?_; clear hC C; simp only [List.drop, Nat.reduceAdd]) | ((first | refine arun_kn 1 rfl (fun C hC => ?_) | refine arunD_kn 1 rfl (fun C hC => ?_)); (repeat ((conv => whnf); simp [hi0, hi, hl1, hl2, hb1, hb2, hb3, hb4, hb5, hb6, htk1])); refine hC _ ?_; clear hC C; simp only [List.drop, Nat.reduceAdd]) | (refine arun_skip ?_ ?_; (focus (simp [awant, hi0, hi, hl1, hl2, hb1, hb2, hb3, hb4, hb5, hb6, htk1]; done))) | (refine arun_c0 (psl) ?_; rintro _ rfl) | (refine arun_c0 (pc) ?_; rintro _ rfl) | (refine arun_c0 (pv) ?_; rintro _ rfl) | (refine arunD_skip ?_ ?_; (focus (simp [awant, hi0, hi, hl1, hl2, hb1, hb2, hb3, hb4, hb5, hb6, htk1]; done))) | (refine arunD_c (0) (psl) ?_; rintro _ rfl; intro _) | (refine arunD_c (0) (pc) ?_; rintro _ rfl; intro _) | (refine arunD_c (0) (pv) ?_; rintro _ rfl; intro _) | (refine AW.regionK [] (fun K hK => ?_)) | (refine AW.regionDK [] (pcs [(7, 0, fun r => r = .agg [.int .i64 v.kind, .int .i64 v.num, .str v.text, .view .loose 1 (strsE v.names), .view .loose 5 (v.kids.map nodeL)])] []) (by kernel_rfl) (by kernel_rfl) (fun K hK => ?_)) | (refine AW.condT ?_ ?_; (focus (simp [aev, hi0, hi, hl1, hl2, hb1, hb2, hb3, hb4, hb5, hb6, htk1]; done))) | (refine AW.condF ?_ ?_; (focus (simp [aev, hi0, hi, hl1, hl2, hb1, hb2, hb3, hb4, hb5, hb6, htk1]; done))) | with_reducible refine AW.block ?_ | ((first | ((first | refine arun_nil ?_ | refine arunD_nil ?_); refine hK _ ?_; clear hK K) | refine AW.skip ?_ | refine AW.exit ?_ | refine AW.ret ?_); simp only [thenA_exit, inBlockA_exit, if_true, if_false, Nat.reduceEqDiff, thenA_normal, inBlockA_normal, reduceIte, thenA_ret, inBlockA_ret, endQ_ret, endR_ret, endG_ret, endQ_normal, endR_normal, endG_normal])))
      refine AW.hold 34 ?_
      rcases hk with h3 | h4
      · have q4 : (insKid n i st v).names = [] := by simp [insKid, h3]
        (repeat (first | with_reducible refine AW.seq ?_ | ((first | refine arun_kn 4 rfl (fun C hC => ?_) | refine arunD_kn 4 rfl (fun C hC => ?_)); (repeat ((conv => whnf); simp [h3, ASt.hold, upd, AV.subL, AV.sub, rowsOf_cons, Row.sub, hl1, hl2])); refine hC _ ?_; clear hC C; simp only [List.drop, Nat.reduceAdd]) | ((first | refine arun_kn 1 rfl (fun C hC => ?_) | refine arunD_kn 1 rfl (fun C hC => ?_)); (repeat ((conv => whnf); simp [h3, ASt.hold, upd, AV.subL, AV.sub, rowsOf_cons, Row.sub, hl1, hl2])); refine hC _ ?_; clear hC C; simp only [List.drop, Nat.reduceAdd]) | (refine arun_skip ?_ ?_; (focus (simp [awant, h3, ASt.hold, upd, AV.subL, AV.sub, rowsOf_cons, Row.sub, hl1, hl2]; done))) | (refine arunD_skip ?_ ?_; (focus (simp [awant, h3, ASt.hold, upd, AV.subL, AV.sub, rowsOf_cons, Row.sub, hl1, hl2]; done))) | (refine AW.regionK [] (fun K hK => ?_)) | (refine AW.regionDK [] (pcs [] []) (by kernel_rfl) (by kernel_rfl) (fun K hK => ?_)) | (refine AW.condT ?_ ?_; (focus (simp [aev, h3, ASt.hold, upd, AV.subL, AV.sub, rowsOf_cons, Row.sub, hl1, hl2]; done))) | (refine AW.condF ?_ ?_; (focus (simp [aev, h3, ASt.hold, upd, AV.subL, AV.sub, rowsOf_cons, Row.sub, hl1, hl2]; done))) | with_reducible refine AW.block ?_ | ((first | ((first | refine arun_nil ?_ | refine arunD_nil ?_); refine hK _ ?_; clear hK K) | refine AW.skip ?_ | refine AW.exit ?_ | refine AW.ret ?_); simp only [thenA_exit, inBlockA_exit, if_true, if_false, Nat.reduceEqDiff, thenA_normal, inBlockA_normal, reduceIte, thenA_ret, inBlockA_ret, endQ_ret, endR_ret, endG_ret, endQ_normal, endR_normal, endG_normal])))
        exact ⟨.tup [.agg [.int .i64 n.kind, .int .i64 0, .str ⟨#[]⟩, .view .tight 1 [], .view .loose 5 ((insKid n i st v).kids.map nodeL)], .bool true], by rw [hkl]; simp [ares, aresL, h3], ins3_pur n _, _, ins3_wk q4, by rw [e]⟩
      · have hl3 : ((strsE n.names).take i).length = i := by rw [List.length_take, strsE_len]; have := hn.map h4; omega
        have hl4 : ((strsE n.names).drop i).length = n.kids.length - i := by rw [List.length_drop, strsE_len]; have := hn.map h4; omega
        have hin : i ≤ n.names.length := by have := hn.map h4; omega
        have hb7 : i * 16 ≤ 140737488355328 := by omega
        have hb8 : (i + 1) * 16 ≤ 140737488355328 := by omega
        have hb9 : (i + 1 + (n.kids.length - i)) * 16 ≤ 140737488355328 := by omega
        have htk2 : (strsE n.names).take n.names.length = strsE n.names := List.take_of_length_le (by rw [strsE_len]; exact Nat.le_refl _)
        have hnn := insKid_names n v i st h4
        have hmin : min i n.kids.length = i := Nat.min_eq_left hi
        refine AW.condF (by simp [aev, ASt.hold, upd, AV.subL, AV.sub, h4]) ?_
        refine AW.skip ?_
        simp only [thenA_normal]
        repeat refine AW.seq ?_
        (refine AW.regionK [] (fun K hK => ?_); (repeat (refine arun_ks 4 rfl (fun C hC => ?_); (repeat ((conv => whnf); simp [hmin, ASt.hold, upd, AV.subL, AV.sub, rowsOf_cons, Row.sub, hin, hl3, strsE_len, hb7, hb8, hb2, hb4])); refine hC _ ?_; clear hC C; simp only [List.drop_succ_cons, List.drop_zero, List.drop_nil])); refine arun_nil ?_; refine hK _ ?_; clear hK K; simp only [thenA_normal, inBlockA_normal, endQ_normal, endR_normal])
        repeat refine AW.seq ?_
        (refine AW.regionK [] (fun K hK => ?_); (repeat (refine arun_ks 4 rfl (fun C hC => ?_); (repeat ((conv => whnf); simp [hmin, ASt.hold, upd, AV.subL, AV.sub, rowsOf_cons, Row.sub, hin, hl3, hl4, strsE_len, hb9, hb6, htk2])); refine hC _ ?_; clear hC C; simp only [List.drop_succ_cons, List.drop_zero, List.drop_nil])); refine arun_nil ?_; refine hK _ ?_; clear hK K; simp only [thenA_normal, inBlockA_normal, endQ_normal, endR_normal])
        refine AW.hold 58 ?_
        (repeat (first | with_reducible refine AW.seq ?_ | ((first | refine arun_kn 4 rfl (fun C hC => ?_) | refine arunD_kn 4 rfl (fun C hC => ?_)); (repeat ((conv => whnf); simp [h4, hmin, ASt.hold, upd, AV.subL, AV.sub, rowsOf_cons, Row.sub, hl1, hl2, hl3, hl4, strsE_len])); refine hC _ ?_; clear hC C; simp only [List.drop, Nat.reduceAdd]) | ((first | refine arun_kn 1 rfl (fun C hC => ?_) | refine arunD_kn 1 rfl (fun C hC => ?_)); (repeat ((conv => whnf); simp [h4, hmin, ASt.hold, upd, AV.subL, AV.sub, rowsOf_cons, Row.sub, hl1, hl2, hl3, hl4, strsE_len])); refine hC _ ?_; clear hC C; simp only [List.drop, Nat.reduceAdd]) | (refine arun_skip ?_ ?_; (focus (simp [awant, h4, hmin, ASt.hold, upd, AV.subL, AV.sub, rowsOf_cons, Row.sub, hl1, hl2, hl3, hl4, strsE_len]; done))) | (refine arunD_skip ?_ ?_; (focus (simp [awant, h4, hmin, ASt.hold, upd, AV.subL, AV.sub, rowsOf_cons, Row.sub, hl1, hl2, hl3, hl4, strsE_len]; done))) | (refine AW.regionK [] (fun K hK => ?_)) | (refine AW.regionDK [] (pcs [] []) (by kernel_rfl) (by kernel_rfl) (fun K hK => ?_)) | (refine AW.condT ?_ ?_; (focus (simp [aev, h4, hmin, ASt.hold, upd, AV.subL, AV.sub, rowsOf_cons, Row.sub, hl1, hl2, hl3, hl4, strsE_len]; done))) | (refine AW.condF ?_ ?_; (focus (simp [aev, h4, hmin, ASt.hold, upd, AV.subL, AV.sub, rowsOf_cons, Row.sub, hl1, hl2, hl3, hl4, strsE_len]; done))) | with_reducible refine AW.block ?_ | ((first | ((first | refine arun_nil ?_ | refine arunD_nil ?_); refine hK _ ?_; clear hK K) | refine AW.skip ?_ | refine AW.exit ?_ | refine AW.ret ?_); simp only [thenA_exit, inBlockA_exit, if_true, if_false, Nat.reduceEqDiff, thenA_normal, inBlockA_normal, reduceIte, thenA_ret, inBlockA_ret, endQ_ret, endR_ret, endG_ret, endQ_normal, endR_normal, endG_normal])))
        exact ⟨optA (some (insKid n i st v)), by rw [optA_eq]; simp [optL, ares, aresL, q1, q2, q3, hkl, hnn, h4], optA_pur _, _, Wk.refl _, by rw [e]⟩
    · obtain ⟨h4, hi⟩ := hlt.1 rfl
      have e : addK n st v = some (setK n i v) := by unfold addK; rw [hs]; rfl
      have pw := withKid_AC n v i hn.sml hv hi
      unfold nodeA at psl pw ⊢
      rw [nodeL_eq] at psl
      rw [nodeL_eq n, nodeL_eq v] at pw
      rw [nodeL_eq n, nodeL_eq v]
      refine AC.of tab_ok mixed_ok Try.func94 (by rfl) (by kernel_rfl) ?_; rintro ⟨P, T, hT, hm, w0, S0, rd0, k0⟩ hP hTT; dsimp only at hP hTT; subst hP hTT; unfold initSt; rw [Try.ntmps94]
      (repeat (first | with_reducible refine AW.seq ?_ | ((first | refine arun_kn 4 rfl (fun C hC => ?_) | refine arunD_kn 4 rfl (fun C hC => ?_)); (repeat ((conv => whnf); simp [hi0])); refine hC _ ?_; clear hC C; simp only [List.drop, Nat.reduceAdd]) | ((first | refine arun_kn 1 rfl (fun C hC => ?_) | refine arunD_kn 1 rfl (fun C hC => ?_)); (repeat ((conv => whnf); simp [hi0])); refine hC _ ?_; clear hC C; simp only [List.drop, Nat.reduceAdd]) | (refine arun_skip ?_ ?_; (focus (simp [awant, hi0]; done))) | (refine arun_c0 (psl) ?_; rintro _ rfl) | (refine arun_c0 (pw) ?_; rintro _ rfl) | (refine arunD_skip ?_ ?_; (focus (simp [awant, hi0]; done))) | (refine AW.regionK [] (fun K hK => ?_)) | (refine AW.regionDK [] (pcs [] []) (by kernel_rfl) (by kernel_rfl) (fun K hK => ?_)) | (refine AW.condT ?_ ?_; (focus (simp [aev, hi0]; done))) | (refine AW.condF ?_ ?_; (focus (simp [aev, hi0]; done))) | with_reducible refine AW.block ?_ | ((first | ((first | refine arun_nil ?_ | refine arunD_nil ?_); refine hK _ ?_; clear hK K) | refine AW.skip ?_ | refine AW.exit ?_ | refine AW.ret ?_); simp only [thenA_exit, inBlockA_exit, if_true, if_false, Nat.reduceEqDiff, thenA_normal, inBlockA_normal, reduceIte, thenA_ret, inBlockA_ret, endQ_ret, endR_ret, endG_ret, endQ_normal, endR_normal, endG_normal])))
      exact ⟨.tup [nodeA (setK n i v), .bool true], by simp [setK, ares, aresL, upd, rowsOf_cons], tup2_pur (node_pur _) pur_bool, _, Wk.refl _, by rw [e]; rfl⟩
end Go.Proofs.Ytiobnaielfeeaaa.Eng
-- EV: rows
namespace Go.Proofs.Ytiobnaielfeeaaa.Eng
open Go Go.RowKit
attribute [local simp] big size_mk ASt.pay Option.map_map Function.comp_def awant aop acall ado aev ofVal ofVal0 ASt.put ASt.add ASt.turn ASt.kill abox aalloc astore aload ASt.at cellsTo afieldAddr afield aindexAddr aindex alen abin aint acmp astr aun apick aextract anil aslice abound abuild afill abuildSlice asCells aps avCells over upd aappend asrc amax amin aconv mkSt slots rowsOf_cons rowsOf_nil usedOf_cons usedOf_nil ZK.av List.replicate ASt.back ASt.addL ASt.killL nodeA nodeT nodeTL_eq nodeL_eq strsE_get strsE_len intsE_get intsE_len strsE_at intsE_at nodeN namesRow nodeO kidsRow tab2 tab3 tab4 tab5 tab6 tab7 tab8 tab9 tab10 tab11 tab12 tab13 tab14 tab15 tab16 tab17 tab18 tab19 tab21 tab22 tab23 tab24 tab25 tab26 tab27 tab28 tab29 tab30 tab48 tab51 tab52 tab59 tab77 tab78 tab79 tab91 tab95 tab96 tab97 tab109 tab116 tab132 tab133 tab138 tab139 tab144 tab145 tab146 tab148 tab149 tab150
theorem addS_snoc (n : Nd) (q : List ByteArray) (s : ByteArray) (v : Nd) : addS n (q ++ [s]) v = (getS n q).bind (fun m => (addK m s v).bind (fun x => setS n q x)) := by
  unfold addS
  simp
theorem opt_none : optL none = .tup [.agg [.int .i64 0, .int .i64 0, .str ⟨#[]⟩, .view .loose 1 [], .view .loose 5 []], .bool false] := rfl
theorem opt_some (m : Nd) : optL (some m) = .tup [.agg [.int .i64 m.kind, .int .i64 m.num, .str m.text, .view .loose 1 (strsE m.names), .view .loose 5 (m.kids.map nodeL)], .bool true] := rfl
theorem addAt_AC (n v : Nd) (p : List ByteArray) (t : VC) (hn : Shp n) (hv : Sml v) (hp : p.length ≤ 1000) : AC Try.prog 103 [nodeA n, .view t 1 (strsE p), nodeA v] 0 (fun r => r = optA (addS n p v)) := by
  rcases snoc_cases p with rfl | ⟨q, s, rfl⟩
  · have p1 := copyNode_AC v hv .loose
    refine AC.weak ?_
    unfold nodeT at p1
    rw [nodeTL_eq] at p1
    unfold nodeA at p1 ⊢
    rw [nodeL_eq] at p1
    rw [nodeL_eq, nodeL_eq]
    refine AC.of tab_ok mixed_ok Try.func103 (by rfl) (by kernel_rfl) ?_; rintro ⟨P, T, hT, hm, w0, S0, rd0, k0⟩ hP hTT; dsimp only at hP hTT; subst hP hTT; unfold initSt; rw [Try.ntmps103]
    (repeat (first | with_reducible refine AW.seq ?_ | ((first | refine arun_kn 4 rfl (fun C hC => ?_) | refine arunD_kn 4 rfl (fun C hC => ?_)); (repeat ((conv => whnf); simp [strsE_len])); refine hC _ ?_; clear hC C; simp only [List.drop, Nat.reduceAdd]) | ((first | refine arun_kn 1 rfl (fun C hC => ?_) | refine arunD_kn 1 rfl (fun C hC => ?_)); (repeat ((conv => whnf); simp [strsE_len])); refine hC _ ?_; clear hC C; simp only [List.drop, Nat.reduceAdd]) | (refine arun_skip ?_ ?_; (focus (simp [awant, strsE_len]; done))) | (refine arun_c0 (p1) ?_; rintro _ rfl) | (refine AW.regionK [] (fun K hK => ?_)) | (refine AW.regionDK [] (pcs [] []) (by kernel_rfl) (by kernel_rfl) (fun K hK => ?_)) | (refine AW.condT ?_ ?_; (focus (simp [aev, strsE_len]; done))) | (refine AW.condF ?_ ?_; (focus (simp [aev, strsE_len]; done))) | with_reducible refine AW.block ?_ | ((first | ((first | refine arun_nil ?_ | refine arunD_nil ?_); refine hK _ ?_; clear hK K) | refine AW.skip ?_ | refine AW.exit ?_ | refine AW.ret ?_); simp only [thenA_exit, inBlockA_exit, if_true, if_false, Nat.reduceEqDiff, thenA_normal, inBlockA_normal, reduceIte, thenA_ret, inBlockA_ret, endQ_ret, endR_ret, endG_ret, endQ_normal, endR_normal, endG_normal])))
    exact ⟨.tup [nodeA v, .bool true], by simp [ares, aresL, upd, rowsOf_cons], tup2_pur (node_pur v) pur_bool, _, Wk.refl _, rfl⟩
  · rw [addS_snoc]
    refine AC.weak ?_
    have hlen : q.length ≤ 999 := by simp at hp; omega
    have hw : IntKind.i64.wrap (q.length : Int) = (q.length : Int) := i64_nat (by omega) (by omega)
    have htk : (strsE q ++ [[AV.str s]]).take q.length = strsE q := by rw [List.take_append_of_le_length (by rw [strsE_len]; exact Nat.le_refl _), List.take_of_length_le (by rw [strsE_len]; exact Nat.le_refl _)]
    have hget : (strsE q ++ [[AV.str s]])[q.length]? = some [AV.str s] := by rw [List.getElem?_append_right (by rw [strsE_len]; exact Nat.le_refl _), strsE_len]; simp
    have hget' : ∀ h, (strsE q ++ [[AV.str s]])[q.length]'h = [AV.str s] := fun h => by rw [List.getElem?_eq_getElem h] at hget; exact Option.some.inj hget
    have hlt : q.length < q.length + 1 := by omega
    have hle : q.length ≤ q.length + 1 := by omega
    have hle' : (q.length : Int) ≤ (q.length : Int) + 1 := by omega
    have hlt' : (q.length : Int) < (q.length : Int) + 1 := by omega
    have hn0 : ¬ (q.length : Int) < 0 := by omega
    have hz0 : ((q.length : Int) + 1 == 0) = false := by simp; omega
    have hz1 : ¬ (q.length : Int) + 1 = 0 := by omega
    have pa := at_AC t.cut n q hn (by omega)
    unfold nodeA at pa ⊢
    rw [nodeL_eq, optA_eq] at pa
    rw [nodeL_eq n, nodeL_eq v]
    rw [strs_snoc]
    refine AC.of tab_ok mixed_ok Try.func103 (by rfl) (by kernel_rfl) ?_; rintro ⟨P, T, hT, hm, w0, S0, rd0, k0⟩ hP hTT; dsimp only at hP hTT; subst hP hTT; unfold initSt; rw [Try.ntmps103]
    cases hg : getS n q with
    | none =>
      rw [hg] at pa
      (repeat (first | with_reducible refine AW.seq ?_ | ((first | refine arun_kn 4 rfl (fun C hC => ?_) | refine arunD_kn 4 rfl (fun C hC => ?_)); (repeat ((conv => whnf); simp [strsE_len, hw, htk, hlt, hle, hle', hlt', hn0, hz0, hz1, opt_none, opt_some])); refine hC _ ?_; clear hC C; simp only [List.drop, Nat.reduceAdd]) | ((first | refine arun_kn 1 rfl (fun C hC => ?_) | refine arunD_kn 1 rfl (fun C hC => ?_)); (repeat ((conv => whnf); simp [strsE_len, hw, htk, hlt, hle, hle', hlt', hn0, hz0, hz1, opt_none, opt_some])); refine hC _ ?_; clear hC C; simp only [List.drop, Nat.reduceAdd]) | (refine arun_skip ?_ ?_; (focus (simp [awant, strsE_len, hw, htk, hlt, hle, hle', hlt', hn0, hz0, hz1, opt_none, opt_some]; done))) | (refine arun_c0 (pa) ?_; rintro _ rfl) | (refine arunD_cE (0) (pa) (by exact ⟨_, rfl, optL_in _⟩) ?_; rintro _ rfl; intro _) | (refine AW.regionK [] (fun K hK => ?_)) | (refine AW.regionDK [] (pcs [(4, 0, fun r => r = optL none)] []) (by kernel_rfl) (by kernel_rfl) (fun K hK => ?_)) | (refine AW.condT ?_ ?_; (focus (simp [aev, strsE_len, hw, htk, hlt, hle, hle', hlt', hn0, hz0, hz1, opt_none, opt_some]; done))) | (refine AW.condF ?_ ?_; (focus (simp [aev, strsE_len, hw, htk, hlt, hle, hle', hlt', hn0, hz0, hz1, opt_none, opt_some]; done))) | with_reducible refine AW.block ?_ | ((first | ((first | refine arun_nil ?_ | refine arunD_nil ?_); refine hK _ ?_; clear hK K) | refine AW.skip ?_ | refine AW.exit ?_ | refine AW.ret ?_); simp only [thenA_exit, inBlockA_exit, if_true, if_false, Nat.reduceEqDiff, thenA_normal, inBlockA_normal, reduceIte, thenA_ret, inBlockA_ret, endQ_ret, endR_ret, endG_ret, endQ_normal, endR_normal, endG_normal])))
      exact ⟨.tup [node0 0 0 ⟨#[]⟩, .bool false], by simp [node0, ares, aresL, upd, rowsOf_cons], none_end.1, _, none_end.2, rfl⟩
    | some m =>
      have hm := getS_shp q n m hn hg
      have ph := addHereG_AC m v s hm.slt hv
      rw [hg] at pa
      rw [Option.bind_some]
      unfold nodeA at ph
      rw [nodeL_eq m, nodeL_eq v, optA_eq] at ph
      cases ha : addK m s v with
      | none =>
        rw [ha] at ph
        (repeat (first | with_reducible refine AW.seq ?_ | ((first | refine arun_kn 4 rfl (fun C hC => ?_) | refine arunD_kn 4 rfl (fun C hC => ?_)); (repeat ((conv => whnf); simp [strsE_len, hw, htk, hget, hget', hlt, hle, hle', hlt', hn0, hz0, hz1, opt_none, opt_some])); refine hC _ ?_; clear hC C; simp only [List.drop, Nat.reduceAdd]) | ((first | refine arun_kn 1 rfl (fun C hC => ?_) | refine arunD_kn 1 rfl (fun C hC => ?_)); (repeat ((conv => whnf); simp [strsE_len, hw, htk, hget, hget', hlt, hle, hle', hlt', hn0, hz0, hz1, opt_none, opt_some])); refine hC _ ?_; clear hC C; simp only [List.drop, Nat.reduceAdd]) | (refine arun_skip ?_ ?_; (focus (simp [awant, strsE_len, hw, htk, hget, hget', hlt, hle, hle', hlt', hn0, hz0, hz1, opt_none, opt_some]; done))) | (refine arun_c0 (pa) ?_; rintro _ rfl) | (refine arun_c0 (ph) ?_; rintro _ rfl) | (refine arunD_cE (0) (pa) (by exact ⟨_, rfl, optL_in _⟩) ?_; rintro _ rfl; intro _) | (refine arunD_cE (0) (ph) (by exact ⟨_, rfl, optL_in _⟩) ?_; rintro _ rfl; intro _) | (refine AW.regionK [] (fun K hK => ?_)) | (refine AW.regionDK [] (pcs [(4, 0, fun r => r = optL (some m)), (6, 0, fun r => r = optL none)] []) (by kernel_rfl) (by kernel_rfl) (fun K hK => ?_)) | (refine AW.condT ?_ ?_; (focus (simp [aev, strsE_len, hw, htk, hget, hget', hlt, hle, hle', hlt', hn0, hz0, hz1, opt_none, opt_some]; done))) | (refine AW.condF ?_ ?_; (focus (simp [aev, strsE_len, hw, htk, hget, hget', hlt, hle, hle', hlt', hn0, hz0, hz1, opt_none, opt_some]; done))) | with_reducible refine AW.block ?_ | ((first | ((first | refine arun_nil ?_ | refine arunD_nil ?_); refine hK _ ?_; clear hK K) | refine AW.skip ?_ | refine AW.exit ?_ | refine AW.ret ?_); simp only [thenA_exit, inBlockA_exit, if_true, if_false, Nat.reduceEqDiff, thenA_normal, inBlockA_normal, reduceIte, thenA_ret, inBlockA_ret, endQ_ret, endR_ret, endG_ret, endQ_normal, endR_normal, endG_normal])))
        exact ⟨.tup [node0 0 0 ⟨#[]⟩, .bool false], by simp [node0, ares, aresL, upd, rowsOf_cons], none_end.1, _, none_end.2, rfl⟩
      | some x =>
        have hx := addK_sml hm hv ha
        have ps := setAt_AC .loose q n x t.cut hn hx
        unfold nodeA nodeT at ps
        rw [nodeTL_eq, nodeL_eq n, optA_eq] at ps
        rw [ha] at ph
        rw [Option.bind_some]
        (repeat (first | with_reducible refine AW.seq ?_ | ((first | refine arun_kn 4 rfl (fun C hC => ?_) | refine arunD_kn 4 rfl (fun C hC => ?_)); (repeat ((conv => whnf); simp [strsE_len, hw, htk, hget, hget', hlt, hle, hle', hlt', hn0, hz0, hz1, opt_none, opt_some])); refine hC _ ?_; clear hC C; simp only [List.drop, Nat.reduceAdd]) | ((first | refine arun_kn 1 rfl (fun C hC => ?_) | refine arunD_kn 1 rfl (fun C hC => ?_)); (repeat ((conv => whnf); simp [strsE_len, hw, htk, hget, hget', hlt, hle, hle', hlt', hn0, hz0, hz1, opt_none, opt_some])); refine hC _ ?_; clear hC C; simp only [List.drop, Nat.reduceAdd]) | (refine arun_skip ?_ ?_; (focus (simp [awant, strsE_len, hw, htk, hget, hget', hlt, hle, hle', hlt', hn0, hz0, hz1, opt_none, opt_some]; done))) | (refine arun_c0 (pa) ?_; rintro _ rfl) | (refine arun_c0 (ph) ?_; rintro _ rfl) | (refine arun_c0 (ps) ?_; rintro _ rfl) | (refine arunD_cE (0) (pa) (by exact ⟨_, rfl, optL_in _⟩) ?_; rintro _ rfl; intro _) | (refine arunD_cE (0) (ph) (by exact ⟨_, rfl, optL_in _⟩) ?_; rintro _ rfl; intro _) | (refine arunD_cE (0) (ps) (by exact ⟨_, rfl, optL_in _⟩) ?_; rintro _ rfl; intro _) | (refine AW.regionK [] (fun K hK => ?_)) | (refine AW.regionDK [] (pcs [(4, 0, fun r => r = optL (some m)), (6, 0, fun r => r = optL (some x)), (5, 0, fun r => r = optL (setS n q x))] []) (by kernel_rfl) (by kernel_rfl) (fun K hK => ?_)) | (refine AW.condT ?_ ?_; (focus (simp [aev, strsE_len, hw, htk, hget, hget', hlt, hle, hle', hlt', hn0, hz0, hz1, opt_none, opt_some]; done))) | (refine AW.condF ?_ ?_; (focus (simp [aev, strsE_len, hw, htk, hget, hget', hlt, hle, hle', hlt', hn0, hz0, hz1, opt_none, opt_some]; done))) | with_reducible refine AW.block ?_ | ((first | ((first | refine arun_nil ?_ | refine arunD_nil ?_); refine hK _ ?_; clear hK K) | refine AW.skip ?_ | refine AW.exit ?_ | refine AW.ret ?_); simp only [thenA_exit, inBlockA_exit, if_true, if_false, Nat.reduceEqDiff, thenA_normal, inBlockA_normal, reduceIte, thenA_ret, inBlockA_ret, endQ_ret, endR_ret, endG_ret, endQ_normal, endR_normal, endG_normal])))
        exact ⟨optA (setS n q x), by rw [optA_eq]; simp [optL, ares, aresL, upd, rowsOf_cons], optA_pur _, _, Wk.refl _, rfl⟩
end Go.Proofs.Ytiobnaielfeeaaa.Eng
