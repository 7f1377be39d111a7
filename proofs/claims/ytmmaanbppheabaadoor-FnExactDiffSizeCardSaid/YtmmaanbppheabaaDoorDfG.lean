/-
  Texts of this claim, joined.
-/
import Derived.Lib.Bytealg
import Derived.Test.YtmmaanbppheabaaDoorDfF

set_option linter.unusedSimpArgs false
set_option linter.unusedVariables false
set_option linter.unnecessarySimpa false
set_option maxRecDepth 100000
set_option maxHeartbeats 16000000
-- EV: skip
namespace Go.Proofs.YtmmaanbppheabaaDoor.Eng
open Go Go.RowKit
attribute [local simp] big size_mk ASt.pay Option.map_map Function.comp_def awant aop acall ado aev ofVal ofVal0 ASt.put ASt.add ASt.turn ASt.kill abox aalloc astore aload aloadD astoreD idOf ASt.at cellsTo afieldAddr afield aindexAddr aindex alen abin aint acmp astr aun apick aextract anil aslice abound abuild afill abuildSlice asCells aps avCells over upd aappend asrc amax amin aconv mkSt slots rowsOf_cons rowsOf_nil usedOf_cons usedOf_nil ZK.av List.replicate ASt.back ASt.addL ASt.killL nodeA nodeT nodeTL_eq nodeL_eq strsE_get strsE_len intsE_get intsE_len strsE_at intsE_at tab2 tab3 tab4 tab5 tab6 tab7 tab8 tab9 tab10 tab11 tab12 tab13 tab14 tab15 tab16 tab17 tab18 tab19 tab21 tab22 tab23 tab24 tab25 tab26 tab27 tab31 tab32 tab33 tab35 tab36 tab41 tab58 tab67 tab69 tab70 tab81 tab82 tab85 tab86 tab92 tab93 tab95 tab105 tab111 tab117 tab124 tab125 tab130 tab131 tab133 tab134 tab135
def VisC (d : Nat) (a b : Nd) : Prop := ∀ (p : List ByteArray) (es : List (List AV)), p.length + d ≤ 900 → OpsP es → es.length + difD d a b ≤ 10000000000 →
  ACG Tryd.prog 48 [.ptr true 1 1 1000 0 0, nodeA a, nodeA b, .view .loose 1 (strsE p)] (rowsDf es) 0 (PostDf es (difD d a b))
theorem bs_lt {xs : List ByteArray} {nm : ByteArray} (ha : Asc xs) (h : mem xs nm = true) : lbound xs nm < xs.length := by
  obtain ⟨i, hi, he⟩ := List.getElem_of_mem (mem_iff.1 h)
  subst he
  rw [lb_at ha hi]; exact hi
theorem endDf {es E : List (List AV)} {k : Nat} (hE : OpsP E) (hl : E.length = es.length + k) (A : Nat) (hA : A ≠ 1000) : PostDf es k (.tup []) [(1000, boxD A E.length), (A, opsR E)] := ⟨E, A, hE, hl, hA, rfl, rfl⟩
set_option maxRecDepth 100000
set_option maxHeartbeats 16000000
theorem visitMaps_ACG (d : Nat) (a b : Nd) (ha : Shp a) (hb : Shp b) (ka : a.count ≤ 40) (kb : b.count ≤ 40) (h4a : a.kind = 4) (h4b : b.kind = 4) (ih : ∀ x ∈ a.kids, ∀ y ∈ b.kids, VisC d x y)
    (p : List ByteArray) (hp : p.length + (d + 1) ≤ 900) (es : List (List AV)) (hes : OpsP es) (hle : es.length + (sumN (difA (difD d) a b) a.kids.length + sumN (difB a b) b.kids.length) ≤ 10000000000) :
    ACG Tryd.prog 73 [.ptr true 1 1 1000 0 0, nodeA a, nodeA b, .view .loose 1 (strsE p)] (rowsDf es) 0 (PostDf es (sumN (difA (difD d) a b) a.kids.length + sumN (difB a b) b.kids.length)) := by
  have asca := ha.asc h4a
  have lena := (ha.map h4a).2
  have ascb := hb.asc h4b
  have lenb := (hb.map h4b).2
  have kla := kids_lt a
  have klb := kids_lt b
  have zs : Sml Nd.zero := (Shp.of (n := Nd.zero) (by decide +kernel)).sml
  have hsm : ∀ y ∈ b.kids, Sml y := fun y hy => (hb.kid hy).sml
  clear h4a h4b
  unfold nodeA rowsDf boxD opsR
  rw [nodeL_eq a, nodeL_eq b]
  refine ACG.of tab_ok mixed_ok Tryd.func73 (by rfl) (by kernel_rfl) (by simp) ?_; rintro ⟨P, T, hT, hm, w0, S0, rd0, k0⟩ hP hTT; dsimp only at hP hTT; subst hP hTT; unfold initStG; rw [Tryd.ntmps73]
  (repeat (first | with_reducible refine AW.seq ?_ | ((first | refine arun_kn 4 rfl (fun C hC => ?_) | refine arunD_kn 4 rfl (fun C hC => ?_)); (repeat ((conv => whnf); simp [strsE_len])); refine hC _ ?_; clear hC C; simp only [List.drop, Nat.reduceAdd]) | ((first | refine arun_kn 1 rfl (fun C hC => ?_) | refine arunD_kn 1 rfl (fun C hC => ?_)); (repeat ((conv => whnf); simp [strsE_len])); refine hC _ ?_; clear hC C; simp only [List.drop, Nat.reduceAdd]) | (refine arun_skip ?_ ?_; (focus (simp [awant, strsE_len]; done))) | (refine arunD_skip ?_ ?_; (focus (simp [awant, strsE_len]; done))) | (refine AW.regionK [] (fun K hK => ?_)) | (refine AW.regionDK [] (pcs [] []) (by kernel_rfl) (by kernel_rfl) (fun K hK => ?_)) | (refine AW.condT ?_ ?_; (focus (simp [aev, strsE_len]; done))) | (refine AW.condF ?_ ?_; (focus (simp [aev, strsE_len]; done))) | with_reducible refine AW.block ?_ | ((first | ((first | refine arun_nil ?_ | refine arunD_nil ?_); refine hK _ ?_; clear hK K) | refine AW.skip ?_ | refine AW.exit ?_ | refine AW.ret ?_); simp only [thenA_exit, inBlockA_exit, if_true, if_false, Nat.reduceEqDiff, thenA_normal, inBlockA_normal, reduceIte, thenA_ret, inBlockA_ret, endQ_ret, endR_ret, endG_ret, endQ_normal, endR_normal, endG_normal])))
  refine AW.loopS (fun (x : Nat × List (List AV)) => mkSt (slots 0 82 [(0, .ptr true 1 1 1000 0 0), (3, .view .loose 1 (strsE p)), (5, .ptr true 5 1 5 0 0), (6, .ptr true 5 1 6 0 0), (17, .view .loose 1 (strsE a.names)), (18, .int .i64 a.names.length), (19, .int .i64 x.1)]) [(5, ⟨true, 33, 5, [nodeL a]⟩), (6, ⟨true, 33, 5, [nodeL b]⟩), (1000, boxD 50 x.2.length), (50, opsR x.2)] [5, 6, 50] (rd0.map fun _ => 0)) (fun x => a.names.length - x.1) (fun x => x.1 ≤ a.names.length ∧ OpsP x.2 ∧ x.2.length = es.length + sumN (difA (difD d) a b) x.1) (0, es) ?_ ⟨Nat.zero_le _, hes, rfl⟩ ?_
  · dsimp only
    have hin := hes.in
    have hs := fun id m c => hes.sub (id := id) (m := m) (c := c)
    rw [nodeL_eq a, nodeL_eq b]
    refine Less.trans (s' := mkSt (slots 0 82 [(0, .ptr true 1 1 1000 0 0), (3, .view .loose 1 (strsE p)), (5, .ptr true 5 1 5 0 0), (6, .ptr true 5 1 6 0 0), (17, .view .loose 1 (strsE a.names)), (18, .int .i64 a.names.length), (19, .int .i64 0)]) [(5, ⟨true, 33, 5, [[.int .i64 a.kind, .int .i64 a.num, .str a.text, .view .loose 1 (strsE a.names), .view .loose 5 (a.kids.map nodeL)]]⟩), (6, ⟨true, 33, 5, [[.int .i64 b.kind, .int .i64 b.num, .str b.text, .view .loose 1 (strsE b.names), .view .loose 5 (b.kids.map nodeL)]]⟩), (1000, boxD 1001 es.length), (1001, opsR es)] [5, 6] (rd0.map fun _ => 0)) (less_of (by simp [lessL, mkSt, slots, boxD, opsR, rowsDf, backD]) (by simp [upd, mkSt, rowsOf_cons, boxD, opsR, rowsDf, backD]) (by simp [upd, mkSt, usedOf_cons, boxD, opsR, rowsDf, backD]) (by first | exact rd_less (by omega) | simp [mkSt, boxD, opsR, rowsDf, backD]) (by simp [slots, in_any, in_int, in_bool, in_str, in_ptr, in_own, in_agg, in_vnil, in_rdr, usedOf_cons, usedOf_nil, strs_in, ints_in, nodes_in, in_tup, boxD, opsR, rowsDf, backD]) (by simp only [List.forall_mem_cons, List.not_mem_nil, false_implies, implies_true, and_true, true_and, boxD, opsR, rowsDf, backD]; (repeat (first | with_reducible exact trivial | with_reducible refine And.intro ?_ ?_ | with_reducible exact in_int | with_reducible exact in_str | with_reducible exact in_bool | with_reducible exact strs_in _ | with_reducible exact nodes_in _ | with_reducible exact items_in _ | with_reducible exact in_vnil | with_reducible exact in_any | exact hin _ | with_reducible refine take_in ?_ | with_reducible exact strsE_in _ | with_reducible exact nodesE_in _ | with_reducible exact nodeL_in _ | with_reducible exact itemsE_in _ | with_reducible exact itemL_in _ | with_reducible refine app_in ?_ ?_ | with_reducible refine sing_in ?_ | (focus (simp [in_any, in_int, in_bool, in_str, in_ptr, in_own, in_agg, in_vnil, in_rdr, usedOf_cons, usedOf_nil, strs_in, ints_in, nodes_in, boxD, opsR, rowsDf, backD]; done)))); done)) (Less.trans (Less.rename 1001 50 (by simp [mkSt, usedOf_cons, usedOf_nil])) ?_)
    simp only [ASt.rename, mkSt, rowsOf_cons, Nat.reduceEqDiff, if_true, if_false, reduceIte, upd, boxD, opsR]
    exact (less_of (by simp [lessL, mkSt, slots, AV.subL, AV.sub, Row.sub, rowsOf_nil, strsE_sub, nodesE_sub, strsE_len, boxD, opsR, hs]) (by simp [upd, mkSt, rowsOf_cons, AV.subL, AV.sub, Row.sub, rowsOf_nil, strsE_sub, nodesE_sub, strsE_len, boxD, opsR, hs]) (by simp [upd, mkSt, usedOf_cons, AV.subL, AV.sub, Row.sub, rowsOf_nil, strsE_sub, nodesE_sub, strsE_len, boxD, opsR, hs]) (by first | exact rd_less (by omega) | simp [mkSt, AV.subL, AV.sub, Row.sub, rowsOf_nil, strsE_sub, nodesE_sub, strsE_len, boxD, opsR, hs]) (by simp [slots, in_any, in_int, in_bool, in_str, in_ptr, in_own, in_agg, in_vnil, in_rdr, usedOf_cons, usedOf_nil, strs_in, ints_in, nodes_in, in_tup, AV.subL, AV.sub, Row.sub, rowsOf_nil, strsE_sub, nodesE_sub, strsE_len, boxD, opsR, hs]) (by simp only [List.forall_mem_cons, List.not_mem_nil, false_implies, implies_true, and_true, true_and, AV.subL, AV.sub, Row.sub, rowsOf_nil, strsE_sub, nodesE_sub, strsE_len, boxD, opsR, hs]; (repeat (first | with_reducible exact trivial | with_reducible refine And.intro ?_ ?_ | with_reducible exact in_int | with_reducible exact in_str | with_reducible exact in_bool | with_reducible exact strs_in _ | with_reducible exact nodes_in _ | with_reducible exact items_in _ | with_reducible exact in_vnil | with_reducible exact in_any | exact hin _ | with_reducible refine take_in ?_ | with_reducible exact strsE_in _ | with_reducible exact nodesE_in _ | with_reducible exact nodeL_in _ | with_reducible exact itemsE_in _ | with_reducible exact itemL_in _ | with_reducible refine app_in ?_ ?_ | with_reducible refine sing_in ?_ | (focus (simp [in_any, in_int, in_bool, in_str, in_ptr, in_own, in_agg, in_vnil, in_rdr, usedOf_cons, usedOf_nil, strs_in, ints_in, nodes_in, AV.subL, AV.sub, Row.sub, rowsOf_nil, strsE_sub, nodesE_sub, strsE_len, boxD, opsR, hs]; done)))); done))
  rintro ⟨i, E⟩ ⟨hi, hE, hEl⟩
  dsimp only at hi hE hEl ⊢
  rw [nodeL_eq a, nodeL_eq b]
  unfold boxD opsR
  by_cases hlt : i < a.names.length
  · have hk1 : i < a.kids.length := by omega
    have hw : IntKind.i64.wrap ((i : Int) + 1) = (i : Int) + 1 := i64_nat (by omega) (by omega)
    have hst := sumN_step (difA (difD d) a b) hk1
    have pb := bsearch_AC b.names a.names[i] .loose ascb (by omega)
    have p2 := stepBehind_AC .loose p a.names[i] (by omega)
    have hcx := node_clo a.kids[i]
    unfold nodeA at hcx
    rw [nodeL_eq] at hcx
    cases hm : mem b.names a.names[i] with
    | true =>
      have hj0 := bs_lt ascb hm
      rw [hm] at pb
      have hfi : difA (difD d) a b i = difD d (kidAt a i) (kidAt b (lbound b.names a.names[i])) := by unfold difA; rw [nmAt_eq hlt, hm, if_pos rfl]
      generalize lbound b.names a.names[i] = j at *
      have hk2 : j < b.kids.length := by omega
      rw [kidAt_eq hk1, kidAt_eq hk2] at hfi
      have hcy := node_clo b.kids[j]
      have hih := ih a.kids[i] (List.getElem_mem hk1) b.kids[j] (List.getElem_mem hk2) (p ++ [a.names[i]]) E (by rw [List.length_append, List.length_singleton]; omega) hE (by omega)
      rw [← hfi] at hih
      unfold nodeA at hih hcy
      rw [nodeL_eq a.kids[i], nodeL_eq b.kids[j]] at hih
      rw [nodeL_eq] at hcy
      (repeat (first | with_reducible refine AW.seq ?_ | ((first | refine arun_kn 4 rfl (fun C hC => ?_) | refine arunD_kn 4 rfl (fun C hC => ?_)); (repeat ((conv => whnf); simp [hlt, strsE_len])); refine hC _ ?_; clear hC C; simp only [List.drop, Nat.reduceAdd]) | ((first | refine arun_kn 1 rfl (fun C hC => ?_) | refine arunD_kn 1 rfl (fun C hC => ?_)); (repeat ((conv => whnf); simp [hlt, strsE_len])); refine hC _ ?_; clear hC C; simp only [List.drop, Nat.reduceAdd]) | (refine arun_skip ?_ ?_; (focus (simp [awant, hlt, strsE_len]; done))) | (refine arun_c0 (pb) ?_; rintro _ rfl) | (refine arunD_skip ?_ ?_; (focus (simp [awant, hlt, strsE_len]; done))) | (refine AW.regionK [] (fun K hK => ?_)) | (refine AW.condT ?_ ?_; (focus (simp [aev, hlt, strsE_len]; done))) | (refine AW.condF ?_ ?_; (focus (simp [aev, hlt, strsE_len]; done))) | with_reducible refine AW.block ?_ | ((first | ((first | refine arun_nil ?_ | refine arunD_nil ?_); refine hK _ ?_; clear hK K) | refine AW.skip ?_ | refine AW.exit ?_ | refine AW.ret ?_); simp only [thenA_exit, inBlockA_exit, if_true, if_false, Nat.reduceEqDiff, thenA_normal, inBlockA_normal, reduceIte, thenA_ret, inBlockA_ret, endQ_ret, endR_ret, endG_ret, endQ_normal, endR_normal, endG_normal])))
      refine AW.regionDK [] (pcs [(13, 0, fun r => r = .view .loose 1 (strsE (p ++ [a.names[i]])))] [1014]) (by kernel_rfl) (by kernel_rfl) (fun K hK => ?_)
      (repeat (first | with_reducible refine AW.seq ?_ | ((first | refine arun_kn 4 rfl (fun C hC => ?_) | refine arunD_kn 4 rfl (fun C hC => ?_)); (repeat ((conv => whnf); simp [hlt, hk1, hk2, strsE_len])); refine hC _ ?_; clear hC C; simp only [List.drop, Nat.reduceAdd]) | ((first | refine arun_kn 1 rfl (fun C hC => ?_) | refine arunD_kn 1 rfl (fun C hC => ?_)); (repeat ((conv => whnf); simp [hlt, hk1, hk2, strsE_len])); refine hC _ ?_; clear hC C; simp only [List.drop, Nat.reduceAdd]) | (refine arun_skip ?_ ?_; (focus (simp [awant, hlt, hk1, hk2, strsE_len]; done))) | (refine arun_c0 (p2) ?_; rintro _ rfl) | (refine arunD_skip ?_ ?_; (focus (simp [awant, hlt, hk1, hk2, strsE_len]; done))) | (refine arunD_cE (0) (p2) (by exact ⟨_, rfl, strs_in _⟩) ?_; rintro _ rfl; intro _) | (refine AW.regionK [] (fun K hK => ?_)) | (refine AW.regionDK [] (pcs [] []) (by kernel_rfl) (by kernel_rfl) (fun K hK => ?_)) | (refine AW.condT ?_ ?_; (focus (simp [aev, hlt, hk1, hk2, strsE_len]; done))) | (refine AW.condF ?_ ?_; (focus (simp [aev, hlt, hk1, hk2, strsE_len]; done))) | with_reducible refine AW.block ?_ | ((first | ((first | refine arun_nil ?_ | refine arunD_nil ?_); refine hK _ ?_; clear hK K) | refine AW.skip ?_ | refine AW.exit ?_ | refine AW.ret ?_); simp only [thenA_exit, inBlockA_exit, if_true, if_false, Nat.reduceEqDiff, thenA_normal, inBlockA_normal, reduceIte, thenA_ret, inBlockA_ret, endQ_ret, endR_ret, endG_ret, endQ_normal, endR_normal, endG_normal])))
      refine arunD_callDf hE 1000 50 46 (hac := hih) (h1 := by simp [rowsOf_cons, upd, boxD]) (h2 := by simp [rowsOf_cons, upd, opsR]) (hd := by decide) (hB := by decide) (uB := by simp [usedOf_cons, usedOf_nil, upd]) (hl := rfl) (hw := by simp [awant]) (ha := rfl) (hargs := .cons (.base (.ptr (by simp [rowsDf]) rfl)) (.cons (.base (.clo (Clo.cloTo hcx))) (.cons (.base (.clo (Clo.cloTo hcy))) (.cons (.base (.clo (Clo.cloTo (strs_clo _)))) .nil)))) (hcan := by (first | exact can_of (Nat.zero_le _) | (simp only [ASt.put, ASt.pay, Option.map_map, Function.comp_def]; exact can_of (Nat.zero_le _)))) (h := ?_)
      intro E' hE' hl'
      (repeat (first | with_reducible refine AW.seq ?_ | ((first | refine arun_kn 4 rfl (fun C hC => ?_) | refine arunD_kn 4 rfl (fun C hC => ?_)); (repeat ((conv => whnf); simp [hw, backD, rowsDf, nuD])); refine hC _ ?_; clear hC C; simp only [List.drop, Nat.reduceAdd]) | ((first | refine arun_kn 1 rfl (fun C hC => ?_) | refine arunD_kn 1 rfl (fun C hC => ?_)); (repeat ((conv => whnf); simp [hw, backD, rowsDf, nuD])); refine hC _ ?_; clear hC C; simp only [List.drop, Nat.reduceAdd]) | (refine arun_skip ?_ ?_; (focus (simp [awant, hw, backD, rowsDf, nuD]; done))) | (refine arunD_skip ?_ ?_; (focus (simp [awant, hw, backD, rowsDf, nuD]; done))) | (refine AW.regionK [] (fun K hK => ?_)) | (refine AW.regionDK [] (pcs [] []) (by kernel_rfl) (by kernel_rfl) (fun K hK => ?_)) | (refine AW.condT ?_ ?_; (focus (simp [aev, hw, backD, rowsDf, nuD]; done))) | (refine AW.condF ?_ ?_; (focus (simp [aev, hw, backD, rowsDf, nuD]; done))) | with_reducible refine AW.block ?_ | ((first | ((first | refine arun_nil ?_ | refine arunD_nil ?_); refine hK _ ?_; clear hK K) | refine AW.skip ?_ | refine AW.exit ?_ | refine AW.ret ?_); simp only [thenA_exit, inBlockA_exit, if_true, if_false, Nat.reduceEqDiff, thenA_normal, inBlockA_normal, reduceIte, thenA_ret, inBlockA_ret, endQ_ret, endR_ret, endG_ret, endQ_normal, endR_normal, endG_normal])))
      refine ⟨(i + 1, E'), by dsimp only; omega, ⟨by dsimp only; omega, hE', by dsimp only; rw [hl', hEl]; rw [sumN_succ]; omega⟩, ?_⟩
      dsimp only
      have hin := hE'.in
      have hs := fun id m c => hE'.sub (id := id) (m := m) (c := c)
      refine Less.trans (s' := mkSt (slots 0 82 [(0, .ptr true 1 1 1000 0 0), (3, .view .loose 1 (strsE p)), (5, .ptr true 5 1 5 0 0), (6, .ptr true 5 1 6 0 0), (17, .view .loose 1 (strsE a.names)), (18, .int .i64 a.names.length), (19, .int .i64 ((i : Int) + 1))]) [(5, ⟨true, 33, 5, [[.int .i64 a.kind, .int .i64 a.num, .str a.text, .view .loose 1 (strsE a.names), .view .loose 5 (a.kids.map nodeL)]]⟩), (6, ⟨true, 33, 5, [[.int .i64 b.kind, .int .i64 b.num, .str b.text, .view .loose 1 (strsE b.names), .view .loose 5 (b.kids.map nodeL)]]⟩), (1000, boxD 46 E'.length), (46, opsR E')] [5, 6, 46] (rd0.map fun _ => 0)) (less_of (by simp [lessL, mkSt, slots, boxD, opsR, rowsDf, backD]) (by simp [upd, mkSt, rowsOf_cons, boxD, opsR, rowsDf, backD]) (by simp [upd, mkSt, usedOf_cons, boxD, opsR, rowsDf, backD]) (by first | exact rd_less (by omega) | simp [mkSt, boxD, opsR, rowsDf, backD]) (by simp [slots, in_any, in_int, in_bool, in_str, in_ptr, in_own, in_agg, in_vnil, in_rdr, usedOf_cons, usedOf_nil, strs_in, ints_in, nodes_in, in_tup, boxD, opsR, rowsDf, backD]) (by simp only [List.forall_mem_cons, List.not_mem_nil, false_implies, implies_true, and_true, true_and, boxD, opsR, rowsDf, backD]; (repeat (first | with_reducible exact trivial | with_reducible refine And.intro ?_ ?_ | with_reducible exact in_int | with_reducible exact in_str | with_reducible exact in_bool | with_reducible exact strs_in _ | with_reducible exact nodes_in _ | with_reducible exact items_in _ | with_reducible exact in_vnil | with_reducible exact in_any | exact hin _ | with_reducible refine take_in ?_ | with_reducible exact strsE_in _ | with_reducible exact nodesE_in _ | with_reducible exact nodeL_in _ | with_reducible exact itemsE_in _ | with_reducible exact itemL_in _ | with_reducible refine app_in ?_ ?_ | with_reducible refine sing_in ?_ | (focus (simp [in_any, in_int, in_bool, in_str, in_ptr, in_own, in_agg, in_vnil, in_rdr, usedOf_cons, usedOf_nil, strs_in, ints_in, nodes_in, boxD, opsR, rowsDf, backD]; done)))); done)) (Less.trans (Less.rename 46 50 (by simp [mkSt, usedOf_cons, usedOf_nil])) ?_)
      simp only [ASt.rename, mkSt, rowsOf_cons, Nat.reduceEqDiff, if_true, if_false, reduceIte, upd, boxD, opsR]
      exact (less_of (by simp [lessL, mkSt, slots, AV.subL, AV.sub, Row.sub, rowsOf_nil, strsE_sub, nodesE_sub, strsE_len, boxD, opsR, hs]) (by simp [upd, mkSt, rowsOf_cons, AV.subL, AV.sub, Row.sub, rowsOf_nil, strsE_sub, nodesE_sub, strsE_len, boxD, opsR, hs]) (by simp [upd, mkSt, usedOf_cons, AV.subL, AV.sub, Row.sub, rowsOf_nil, strsE_sub, nodesE_sub, strsE_len, boxD, opsR, hs]) (by first | exact rd_less (by omega) | simp [mkSt, AV.subL, AV.sub, Row.sub, rowsOf_nil, strsE_sub, nodesE_sub, strsE_len, boxD, opsR, hs]) (by simp [slots, in_any, in_int, in_bool, in_str, in_ptr, in_own, in_agg, in_vnil, in_rdr, usedOf_cons, usedOf_nil, strs_in, ints_in, nodes_in, in_tup, AV.subL, AV.sub, Row.sub, rowsOf_nil, strsE_sub, nodesE_sub, strsE_len, boxD, opsR, hs]) (by simp only [List.forall_mem_cons, List.not_mem_nil, false_implies, implies_true, and_true, true_and, AV.subL, AV.sub, Row.sub, rowsOf_nil, strsE_sub, nodesE_sub, strsE_len, boxD, opsR, hs]; (repeat (first | with_reducible exact trivial | with_reducible refine And.intro ?_ ?_ | with_reducible exact in_int | with_reducible exact in_str | with_reducible exact in_bool | with_reducible exact strs_in _ | with_reducible exact nodes_in _ | with_reducible exact items_in _ | with_reducible exact in_vnil | with_reducible exact in_any | exact hin _ | with_reducible refine take_in ?_ | with_reducible exact strsE_in _ | with_reducible exact nodesE_in _ | with_reducible exact nodeL_in _ | with_reducible exact itemsE_in _ | with_reducible exact itemL_in _ | with_reducible refine app_in ?_ ?_ | with_reducible refine sing_in ?_ | (focus (simp [in_any, in_int, in_bool, in_str, in_ptr, in_own, in_agg, in_vnil, in_rdr, usedOf_cons, usedOf_nil, strs_in, ints_in, nodes_in, AV.subL, AV.sub, Row.sub, rowsOf_nil, strsE_sub, nodesE_sub, strsE_len, boxD, opsR, hs]; done)))); done))
    | false =>
      rw [hm] at pb
      have hfi : difA (difD d) a b i = 1 := by unfold difA; rw [nmAt_eq hlt, hm]; rfl
      have hput := put_ACG .loose 2 (p ++ [a.names[i]]) Nd.zero zs (by rw [List.length_append, List.length_singleton]; omega) E hE (by omega)
      (repeat (first | with_reducible refine AW.seq ?_ | ((first | refine arun_kn 4 rfl (fun C hC => ?_) | refine arunD_kn 4 rfl (fun C hC => ?_)); (repeat ((conv => whnf); simp [hlt, strsE_len])); refine hC _ ?_; clear hC C; simp only [List.drop, Nat.reduceAdd]) | ((first | refine arun_kn 1 rfl (fun C hC => ?_) | refine arunD_kn 1 rfl (fun C hC => ?_)); (repeat ((conv => whnf); simp [hlt, strsE_len])); refine hC _ ?_; clear hC C; simp only [List.drop, Nat.reduceAdd]) | (refine arun_skip ?_ ?_; (focus (simp [awant, hlt, strsE_len]; done))) | (refine arun_c0 (pb) ?_; rintro _ rfl) | (refine arun_c0 (p2) ?_; rintro _ rfl) | (refine arunD_skip ?_ ?_; (focus (simp [awant, hlt, strsE_len]; done))) | (refine AW.regionK [] (fun K hK => ?_)) | (refine AW.condT ?_ ?_; (focus (simp [aev, hlt, strsE_len]; done))) | (refine AW.condF ?_ ?_; (focus (simp [aev, hlt, strsE_len]; done))) | with_reducible refine AW.block ?_ | ((first | ((first | refine arun_nil ?_ | refine arunD_nil ?_); refine hK _ ?_; clear hK K) | refine AW.skip ?_ | refine AW.exit ?_ | refine AW.ret ?_); simp only [thenA_exit, inBlockA_exit, if_true, if_false, Nat.reduceEqDiff, thenA_normal, inBlockA_normal, reduceIte, thenA_ret, inBlockA_ret, endQ_ret, endR_ret, endG_ret, endQ_normal, endR_normal, endG_normal])))
      refine arun_callDf hE 1000 50 52 (hac := hput) (h1 := by simp [rowsOf_cons, upd, boxD]) (h2 := by simp [rowsOf_cons, upd, opsR]) (hd := by decide) (hB := by decide) (uB := by simp [usedOf_cons, usedOf_nil, upd]) (hw := by simp [awant]) (ha := rfl) (hargs := .cons (.base (.ptr (by simp [rowsDf]) rfl)) (.cons (.base (.clo (Clo.cloTo clo_int))) (.cons (.base (.clo (Clo.cloTo (strs_clo _)))) (.cons (.base (.clo (Wk.cloTo zero_wk (node_clo _)))) .nil)))) (hcan := by (first | exact can_of (Nat.zero_le _) | (simp only [ASt.put, ASt.pay, Option.map_map, Function.comp_def]; exact can_of (Nat.zero_le _)))) (h := ?_)
      intro E' hE' hl'
      (repeat (first | with_reducible refine AW.seq ?_ | ((first | refine arun_kn 4 rfl (fun C hC => ?_) | refine arunD_kn 4 rfl (fun C hC => ?_)); (repeat ((conv => whnf); simp [hw, backD, rowsDf, nuD])); refine hC _ ?_; clear hC C; simp only [List.drop, Nat.reduceAdd]) | ((first | refine arun_kn 1 rfl (fun C hC => ?_) | refine arunD_kn 1 rfl (fun C hC => ?_)); (repeat ((conv => whnf); simp [hw, backD, rowsDf, nuD])); refine hC _ ?_; clear hC C; simp only [List.drop, Nat.reduceAdd]) | (refine arun_skip ?_ ?_; (focus (simp [awant, hw, backD, rowsDf, nuD]; done))) | (refine arunD_skip ?_ ?_; (focus (simp [awant, hw, backD, rowsDf, nuD]; done))) | (refine AW.regionK [] (fun K hK => ?_)) | (refine AW.regionDK [] (pcs [] []) (by kernel_rfl) (by kernel_rfl) (fun K hK => ?_)) | (refine AW.condT ?_ ?_; (focus (simp [aev, hw, backD, rowsDf, nuD]; done))) | (refine AW.condF ?_ ?_; (focus (simp [aev, hw, backD, rowsDf, nuD]; done))) | with_reducible refine AW.block ?_ | ((first | ((first | refine arun_nil ?_ | refine arunD_nil ?_); refine hK _ ?_; clear hK K) | refine AW.skip ?_ | refine AW.exit ?_ | refine AW.ret ?_); simp only [thenA_exit, inBlockA_exit, if_true, if_false, Nat.reduceEqDiff, thenA_normal, inBlockA_normal, reduceIte, thenA_ret, inBlockA_ret, endQ_ret, endR_ret, endG_ret, endQ_normal, endR_normal, endG_normal])))
      refine ⟨(i + 1, E'), by dsimp only; omega, ⟨by dsimp only; omega, hE', by dsimp only; rw [hl', hEl]; rw [sumN_succ]; omega⟩, ?_⟩
      dsimp only
      have hin := hE'.in
      have hs := fun id m c => hE'.sub (id := id) (m := m) (c := c)
      refine Less.trans (s' := mkSt (slots 0 82 [(0, .ptr true 1 1 1000 0 0), (3, .view .loose 1 (strsE p)), (5, .ptr true 5 1 5 0 0), (6, .ptr true 5 1 6 0 0), (17, .view .loose 1 (strsE a.names)), (18, .int .i64 a.names.length), (19, .int .i64 ((i : Int) + 1))]) [(5, ⟨true, 33, 5, [[.int .i64 a.kind, .int .i64 a.num, .str a.text, .view .loose 1 (strsE a.names), .view .loose 5 (a.kids.map nodeL)]]⟩), (6, ⟨true, 33, 5, [[.int .i64 b.kind, .int .i64 b.num, .str b.text, .view .loose 1 (strsE b.names), .view .loose 5 (b.kids.map nodeL)]]⟩), (1000, boxD 52 E'.length), (52, opsR E')] [5, 6, 52] (rd0.map fun _ => 0)) (less_of (by simp [lessL, mkSt, slots, boxD, opsR, rowsDf, backD]) (by simp [upd, mkSt, rowsOf_cons, boxD, opsR, rowsDf, backD]) (by simp [upd, mkSt, usedOf_cons, boxD, opsR, rowsDf, backD]) (by first | exact rd_less (by omega) | simp [mkSt, boxD, opsR, rowsDf, backD]) (by simp [slots, in_any, in_int, in_bool, in_str, in_ptr, in_own, in_agg, in_vnil, in_rdr, usedOf_cons, usedOf_nil, strs_in, ints_in, nodes_in, in_tup, boxD, opsR, rowsDf, backD]) (by simp only [List.forall_mem_cons, List.not_mem_nil, false_implies, implies_true, and_true, true_and, boxD, opsR, rowsDf, backD]; (repeat (first | with_reducible exact trivial | with_reducible refine And.intro ?_ ?_ | with_reducible exact in_int | with_reducible exact in_str | with_reducible exact in_bool | with_reducible exact strs_in _ | with_reducible exact nodes_in _ | with_reducible exact items_in _ | with_reducible exact in_vnil | with_reducible exact in_any | exact hin _ | with_reducible refine take_in ?_ | with_reducible exact strsE_in _ | with_reducible exact nodesE_in _ | with_reducible exact nodeL_in _ | with_reducible exact itemsE_in _ | with_reducible exact itemL_in _ | with_reducible refine app_in ?_ ?_ | with_reducible refine sing_in ?_ | (focus (simp [in_any, in_int, in_bool, in_str, in_ptr, in_own, in_agg, in_vnil, in_rdr, usedOf_cons, usedOf_nil, strs_in, ints_in, nodes_in, boxD, opsR, rowsDf, backD]; done)))); done)) (Less.trans (Less.rename 52 50 (by simp [mkSt, usedOf_cons, usedOf_nil])) ?_)
      simp only [ASt.rename, mkSt, rowsOf_cons, Nat.reduceEqDiff, if_true, if_false, reduceIte, upd, boxD, opsR]
      exact (less_of (by simp [lessL, mkSt, slots, AV.subL, AV.sub, Row.sub, rowsOf_nil, strsE_sub, nodesE_sub, strsE_len, boxD, opsR, hs]) (by simp [upd, mkSt, rowsOf_cons, AV.subL, AV.sub, Row.sub, rowsOf_nil, strsE_sub, nodesE_sub, strsE_len, boxD, opsR, hs]) (by simp [upd, mkSt, usedOf_cons, AV.subL, AV.sub, Row.sub, rowsOf_nil, strsE_sub, nodesE_sub, strsE_len, boxD, opsR, hs]) (by first | exact rd_less (by omega) | simp [mkSt, AV.subL, AV.sub, Row.sub, rowsOf_nil, strsE_sub, nodesE_sub, strsE_len, boxD, opsR, hs]) (by simp [slots, in_any, in_int, in_bool, in_str, in_ptr, in_own, in_agg, in_vnil, in_rdr, usedOf_cons, usedOf_nil, strs_in, ints_in, nodes_in, in_tup, AV.subL, AV.sub, Row.sub, rowsOf_nil, strsE_sub, nodesE_sub, strsE_len, boxD, opsR, hs]) (by simp only [List.forall_mem_cons, List.not_mem_nil, false_implies, implies_true, and_true, true_and, AV.subL, AV.sub, Row.sub, rowsOf_nil, strsE_sub, nodesE_sub, strsE_len, boxD, opsR, hs]; (repeat (first | with_reducible exact trivial | with_reducible refine And.intro ?_ ?_ | with_reducible exact in_int | with_reducible exact in_str | with_reducible exact in_bool | with_reducible exact strs_in _ | with_reducible exact nodes_in _ | with_reducible exact items_in _ | with_reducible exact in_vnil | with_reducible exact in_any | exact hin _ | with_reducible refine take_in ?_ | with_reducible exact strsE_in _ | with_reducible exact nodesE_in _ | with_reducible exact nodeL_in _ | with_reducible exact itemsE_in _ | with_reducible exact itemL_in _ | with_reducible refine app_in ?_ ?_ | with_reducible refine sing_in ?_ | (focus (simp [in_any, in_int, in_bool, in_str, in_ptr, in_own, in_agg, in_vnil, in_rdr, usedOf_cons, usedOf_nil, strs_in, ints_in, nodes_in, AV.subL, AV.sub, Row.sub, rowsOf_nil, strsE_sub, nodesE_sub, strsE_len, boxD, opsR, hs]; done)))); done))
  · obtain rfl : i = a.names.length := by omega
    rw [← lena] at hEl
    generalize sumN (difA (difD d) a b) a.kids.length = N1 at *
    (repeat (first | with_reducible refine AW.seq ?_ | ((first | refine arun_kn 4 rfl (fun C hC => ?_) | refine arunD_kn 4 rfl (fun C hC => ?_)); (repeat ((conv => whnf); simp [strsE_len])); refine hC _ ?_; clear hC C; simp only [List.drop, Nat.reduceAdd]) | ((first | refine arun_kn 1 rfl (fun C hC => ?_) | refine arunD_kn 1 rfl (fun C hC => ?_)); (repeat ((conv => whnf); simp [strsE_len])); refine hC _ ?_; clear hC C; simp only [List.drop, Nat.reduceAdd]) | (refine arun_skip ?_ ?_; (focus (simp [awant, strsE_len]; done))) | (refine arunD_skip ?_ ?_; (focus (simp [awant, strsE_len]; done))) | (refine AW.regionK [] (fun K hK => ?_)) | (refine AW.regionDK [] (pcs [] []) (by kernel_rfl) (by kernel_rfl) (fun K hK => ?_)) | (refine AW.condT ?_ ?_; (focus (simp [aev, strsE_len]; done))) | (refine AW.condF ?_ ?_; (focus (simp [aev, strsE_len]; done))) | with_reducible refine AW.block ?_ | ((first | ((first | refine arun_nil ?_ | refine arunD_nil ?_); refine hK _ ?_; clear hK K) | refine AW.skip ?_ | refine AW.exit ?_ | refine AW.ret ?_); simp only [thenA_exit, inBlockA_exit, if_true, if_false, Nat.reduceEqDiff, thenA_normal, inBlockA_normal, reduceIte, thenA_ret, inBlockA_ret, endQ_ret, endR_ret, endG_ret, endQ_normal, endR_normal, endG_normal])))
    refine AW.loopS (fun (x : Nat × List (List AV)) => mkSt (slots 0 82 [(0, .ptr true 1 1 1000 0 0), (3, .view .loose 1 (strsE p)), (5, .ptr true 5 1 5 0 0), (6, .ptr true 5 1 6 0 0), (55, .view .loose 1 (strsE b.names)), (56, .int .i64 b.names.length), (57, .int .i64 x.1)]) [(5, ⟨true, 33, 5, [nodeL a]⟩), (6, ⟨true, 33, 5, [nodeL b]⟩), (1000, boxD 50 x.2.length), (50, opsR x.2)] [5, 6, 50] (rd0.map fun _ => 0)) (fun x => b.names.length - x.1) (fun x => x.1 ≤ b.names.length ∧ OpsP x.2 ∧ x.2.length = es.length + N1 + sumN (difB a b) x.1) (0, E) ?_ ⟨Nat.zero_le _, hE, hEl⟩ ?_
    · dsimp only
      have hin := hE.in
      rw [nodeL_eq a, nodeL_eq b]
      exact (less_of (by simp [lessL, mkSt, slots, boxD, opsR]) (by simp [upd, mkSt, rowsOf_cons, boxD, opsR]) (by simp [upd, mkSt, usedOf_cons, boxD, opsR]) (by first | exact rd_less (by omega) | simp [mkSt, boxD, opsR]) (by simp [slots, in_any, in_int, in_bool, in_str, in_ptr, in_own, in_agg, in_vnil, in_rdr, usedOf_cons, usedOf_nil, strs_in, ints_in, nodes_in, in_tup, boxD, opsR]) (by simp only [List.forall_mem_cons, List.not_mem_nil, false_implies, implies_true, and_true, true_and, boxD, opsR]; (repeat (first | with_reducible exact trivial | with_reducible refine And.intro ?_ ?_ | with_reducible exact in_int | with_reducible exact in_str | with_reducible exact in_bool | with_reducible exact strs_in _ | with_reducible exact nodes_in _ | with_reducible exact items_in _ | with_reducible exact in_vnil | with_reducible exact in_any | exact hin _ | with_reducible refine take_in ?_ | with_reducible exact strsE_in _ | with_reducible exact nodesE_in _ | with_reducible exact nodeL_in _ | with_reducible exact itemsE_in _ | with_reducible exact itemL_in _ | with_reducible refine app_in ?_ ?_ | with_reducible refine sing_in ?_ | (focus (simp [in_any, in_int, in_bool, in_str, in_ptr, in_own, in_agg, in_vnil, in_rdr, usedOf_cons, usedOf_nil, strs_in, ints_in, nodes_in, boxD, opsR]; done)))); done))
    clear hE hEl hi
    rintro ⟨i, E⟩ ⟨hi, hE, hEl⟩
    dsimp only at hi hE hEl ⊢
    rw [nodeL_eq a, nodeL_eq b]
    unfold boxD opsR
    by_cases hlt : i < b.names.length
    · have hk1 : i < b.kids.length := by omega
      have hw : IntKind.i64.wrap ((i : Int) + 1) = (i : Int) + 1 := i64_nat (by omega) (by omega)
      have hst := sumN_step (difB a b) hk1
      have pb := bsearch_AC a.names b.names[i] .loose asca (by omega)
      have p2 := stepBehind_AC .loose p b.names[i] (by omega)
      have hcy := node_clo b.kids[i]
      cases hm : mem a.names b.names[i] with
      | true =>
        rw [hm] at pb
        have hfi : difB a b i = 0 := by unfold difB; rw [nmAt_eq hlt, hm]; rfl
        (repeat (first | with_reducible refine AW.seq ?_ | ((first | refine arun_kn 4 rfl (fun C hC => ?_) | refine arunD_kn 4 rfl (fun C hC => ?_)); (repeat ((conv => whnf); simp [hlt, hw, strsE_len])); refine hC _ ?_; clear hC C; simp only [List.drop, Nat.reduceAdd]) | ((first | refine arun_kn 1 rfl (fun C hC => ?_) | refine arunD_kn 1 rfl (fun C hC => ?_)); (repeat ((conv => whnf); simp [hlt, hw, strsE_len])); refine hC _ ?_; clear hC C; simp only [List.drop, Nat.reduceAdd]) | (refine arun_skip ?_ ?_; (focus (simp [awant, hlt, hw, strsE_len]; done))) | (refine arun_c0 (pb) ?_; rintro _ rfl) | (refine arunD_skip ?_ ?_; (focus (simp [awant, hlt, hw, strsE_len]; done))) | (refine AW.regionK [] (fun K hK => ?_)) | (refine AW.condT ?_ ?_; (focus (simp [aev, hlt, hw, strsE_len]; done))) | (refine AW.condF ?_ ?_; (focus (simp [aev, hlt, hw, strsE_len]; done))) | with_reducible refine AW.block ?_ | ((first | ((first | refine arun_nil ?_ | refine arunD_nil ?_); refine hK _ ?_; clear hK K) | refine AW.skip ?_ | refine AW.exit ?_ | refine AW.ret ?_); simp only [thenA_exit, inBlockA_exit, if_true, if_false, Nat.reduceEqDiff, thenA_normal, inBlockA_normal, reduceIte, thenA_ret, inBlockA_ret, endQ_ret, endR_ret, endG_ret, endQ_normal, endR_normal, endG_normal])))
        refine ⟨(i + 1, E), by dsimp only; omega, ⟨by dsimp only; omega, hE, by dsimp only; rw [hEl, sumN_succ]; omega⟩, ?_⟩
        dsimp only
        have hin := hE.in
        exact (less_of (by simp [lessL, mkSt, slots, boxD, opsR]) (by simp [upd, mkSt, rowsOf_cons, boxD, opsR]) (by simp [upd, mkSt, usedOf_cons, boxD, opsR]) (by first | exact rd_less (by omega) | simp [mkSt, boxD, opsR]) (by simp [slots, in_any, in_int, in_bool, in_str, in_ptr, in_own, in_agg, in_vnil, in_rdr, usedOf_cons, usedOf_nil, strs_in, ints_in, nodes_in, in_tup, boxD, opsR]) (by simp only [List.forall_mem_cons, List.not_mem_nil, false_implies, implies_true, and_true, true_and, boxD, opsR]; (repeat (first | with_reducible exact trivial | with_reducible refine And.intro ?_ ?_ | with_reducible exact in_int | with_reducible exact in_str | with_reducible exact in_bool | with_reducible exact strs_in _ | with_reducible exact nodes_in _ | with_reducible exact items_in _ | with_reducible exact in_vnil | with_reducible exact in_any | exact hin _ | with_reducible refine take_in ?_ | with_reducible exact strsE_in _ | with_reducible exact nodesE_in _ | with_reducible exact nodeL_in _ | with_reducible exact itemsE_in _ | with_reducible exact itemL_in _ | with_reducible refine app_in ?_ ?_ | with_reducible refine sing_in ?_ | (focus (simp [in_any, in_int, in_bool, in_str, in_ptr, in_own, in_agg, in_vnil, in_rdr, usedOf_cons, usedOf_nil, strs_in, ints_in, nodes_in, boxD, opsR]; done)))); done))
      | false =>
        rw [hm] at pb
        have hfi : difB a b i = 1 := by unfold difB; rw [nmAt_eq hlt, hm]; rfl
        have hput := put_ACG .loose 1 (p ++ [b.names[i]]) b.kids[i] (hsm _ (List.getElem_mem hk1)) (by rw [List.length_append, List.length_singleton]; omega) E hE (by omega)
        unfold nodeA at hput hcy
        rw [nodeL_eq b.kids[i]] at hput
        rw [nodeL_eq] at hcy
        (repeat (first | with_reducible refine AW.seq ?_ | ((first | refine arun_kn 4 rfl (fun C hC => ?_) | refine arunD_kn 4 rfl (fun C hC => ?_)); (repeat ((conv => whnf); simp [hlt, strsE_len])); refine hC _ ?_; clear hC C; simp only [List.drop, Nat.reduceAdd]) | ((first | refine arun_kn 1 rfl (fun C hC => ?_) | refine arunD_kn 1 rfl (fun C hC => ?_)); (repeat ((conv => whnf); simp [hlt, strsE_len])); refine hC _ ?_; clear hC C; simp only [List.drop, Nat.reduceAdd]) | (refine arun_skip ?_ ?_; (focus (simp [awant, hlt, strsE_len]; done))) | (refine arun_c0 (pb) ?_; rintro _ rfl) | (refine arunD_skip ?_ ?_; (focus (simp [awant, hlt, strsE_len]; done))) | (refine AW.regionK [] (fun K hK => ?_)) | (refine AW.condT ?_ ?_; (focus (simp [aev, hlt, strsE_len]; done))) | (refine AW.condF ?_ ?_; (focus (simp [aev, hlt, strsE_len]; done))) | with_reducible refine AW.block ?_ | ((first | ((first | refine arun_nil ?_ | refine arunD_nil ?_); refine hK _ ?_; clear hK K) | refine AW.skip ?_ | refine AW.exit ?_ | refine AW.ret ?_); simp only [thenA_exit, inBlockA_exit, if_true, if_false, Nat.reduceEqDiff, thenA_normal, inBlockA_normal, reduceIte, thenA_ret, inBlockA_ret, endQ_ret, endR_ret, endG_ret, endQ_normal, endR_normal, endG_normal])))
        refine AW.regionDK [] (pcs [(3, 0, fun r => r = .view .loose 1 (strsE (p ++ [b.names[i]])))] [1009]) (by kernel_rfl) (by kernel_rfl) (fun K hK => ?_)
        (repeat (first | with_reducible refine AW.seq ?_ | ((first | refine arun_kn 4 rfl (fun C hC => ?_) | refine arunD_kn 4 rfl (fun C hC => ?_)); (repeat ((conv => whnf); simp [hlt, hk1, strsE_len])); refine hC _ ?_; clear hC C; simp only [List.drop, Nat.reduceAdd]) | ((first | refine arun_kn 1 rfl (fun C hC => ?_) | refine arunD_kn 1 rfl (fun C hC => ?_)); (repeat ((conv => whnf); simp [hlt, hk1, strsE_len])); refine hC _ ?_; clear hC C; simp only [List.drop, Nat.reduceAdd]) | (refine arun_skip ?_ ?_; (focus (simp [awant, hlt, hk1, strsE_len]; done))) | (refine arun_c0 (p2) ?_; rintro _ rfl) | (refine arunD_skip ?_ ?_; (focus (simp [awant, hlt, hk1, strsE_len]; done))) | (refine arunD_cE (0) (p2) (by exact ⟨_, rfl, strs_in _⟩) ?_; rintro _ rfl; intro _) | (refine AW.regionK [] (fun K hK => ?_)) | (refine AW.regionDK [] (pcs [] []) (by kernel_rfl) (by kernel_rfl) (fun K hK => ?_)) | (refine AW.condT ?_ ?_; (focus (simp [aev, hlt, hk1, strsE_len]; done))) | (refine AW.condF ?_ ?_; (focus (simp [aev, hlt, hk1, strsE_len]; done))) | with_reducible refine AW.block ?_ | ((first | ((first | refine arun_nil ?_ | refine arunD_nil ?_); refine hK _ ?_; clear hK K) | refine AW.skip ?_ | refine AW.exit ?_ | refine AW.ret ?_); simp only [thenA_exit, inBlockA_exit, if_true, if_false, Nat.reduceEqDiff, thenA_normal, inBlockA_normal, reduceIte, thenA_ret, inBlockA_ret, endQ_ret, endR_ret, endG_ret, endQ_normal, endR_normal, endG_normal])))
        refine arunD_callDf hE 1000 50 80 (hac := hput) (h1 := by simp [rowsOf_cons, upd, boxD]) (h2 := by simp [rowsOf_cons, upd, opsR]) (hd := by decide) (hB := by decide) (uB := by simp [usedOf_cons, usedOf_nil, upd]) (hl := rfl) (hw := by simp [awant]) (ha := rfl) (hargs := .cons (.base (.ptr (by simp [rowsDf]) rfl)) (.cons (.base (.clo (Clo.cloTo clo_int))) (.cons (.base (.clo (Clo.cloTo (strs_clo _)))) (.cons (.base (.clo (Clo.cloTo hcy))) .nil)))) (hcan := by (first | exact can_of (Nat.zero_le _) | (simp only [ASt.put, ASt.pay, Option.map_map, Function.comp_def]; exact can_of (Nat.zero_le _)))) (h := ?_)
        intro E' hE' hl'
        (repeat (first | with_reducible refine AW.seq ?_ | ((first | refine arun_kn 4 rfl (fun C hC => ?_) | refine arunD_kn 4 rfl (fun C hC => ?_)); (repeat ((conv => whnf); simp [hw, backD, rowsDf, nuD])); refine hC _ ?_; clear hC C; simp only [List.drop, Nat.reduceAdd]) | ((first | refine arun_kn 1 rfl (fun C hC => ?_) | refine arunD_kn 1 rfl (fun C hC => ?_)); (repeat ((conv => whnf); simp [hw, backD, rowsDf, nuD])); refine hC _ ?_; clear hC C; simp only [List.drop, Nat.reduceAdd]) | (refine arun_skip ?_ ?_; (focus (simp [awant, hw, backD, rowsDf, nuD]; done))) | (refine arunD_skip ?_ ?_; (focus (simp [awant, hw, backD, rowsDf, nuD]; done))) | (refine AW.regionK [] (fun K hK => ?_)) | (refine AW.regionDK [] (pcs [] []) (by kernel_rfl) (by kernel_rfl) (fun K hK => ?_)) | (refine AW.condT ?_ ?_; (focus (simp [aev, hw, backD, rowsDf, nuD]; done))) | (refine AW.condF ?_ ?_; (focus (simp [aev, hw, backD, rowsDf, nuD]; done))) | with_reducible refine AW.block ?_ | ((first | ((first | refine arun_nil ?_ | refine arunD_nil ?_); refine hK _ ?_; clear hK K) | refine AW.skip ?_ | refine AW.exit ?_ | refine AW.ret ?_); simp only [thenA_exit, inBlockA_exit, if_true, if_false, Nat.reduceEqDiff, thenA_normal, inBlockA_normal, reduceIte, thenA_ret, inBlockA_ret, endQ_ret, endR_ret, endG_ret, endQ_normal, endR_normal, endG_normal])))
        refine ⟨(i + 1, E'), by dsimp only; omega, ⟨by dsimp only; omega, hE', by dsimp only; rw [hl', hEl, sumN_succ]; omega⟩, ?_⟩
        dsimp only
        have hin := hE'.in
        have hs := fun id m c => hE'.sub (id := id) (m := m) (c := c)
        refine Less.trans (s' := mkSt (slots 0 82 [(0, .ptr true 1 1 1000 0 0), (3, .view .loose 1 (strsE p)), (5, .ptr true 5 1 5 0 0), (6, .ptr true 5 1 6 0 0), (55, .view .loose 1 (strsE b.names)), (56, .int .i64 b.names.length), (57, .int .i64 ((i : Int) + 1))]) [(5, ⟨true, 33, 5, [[.int .i64 a.kind, .int .i64 a.num, .str a.text, .view .loose 1 (strsE a.names), .view .loose 5 (a.kids.map nodeL)]]⟩), (6, ⟨true, 33, 5, [[.int .i64 b.kind, .int .i64 b.num, .str b.text, .view .loose 1 (strsE b.names), .view .loose 5 (b.kids.map nodeL)]]⟩), (1000, boxD 80 E'.length), (80, opsR E')] [5, 6, 80] (rd0.map fun _ => 0)) (less_of (by simp [lessL, mkSt, slots, boxD, opsR, rowsDf, backD]) (by simp [upd, mkSt, rowsOf_cons, boxD, opsR, rowsDf, backD]) (by simp [upd, mkSt, usedOf_cons, boxD, opsR, rowsDf, backD]) (by first | exact rd_less (by omega) | simp [mkSt, boxD, opsR, rowsDf, backD]) (by simp [slots, in_any, in_int, in_bool, in_str, in_ptr, in_own, in_agg, in_vnil, in_rdr, usedOf_cons, usedOf_nil, strs_in, ints_in, nodes_in, in_tup, boxD, opsR, rowsDf, backD]) (by simp only [List.forall_mem_cons, List.not_mem_nil, false_implies, implies_true, and_true, true_and, boxD, opsR, rowsDf, backD]; (repeat (first | with_reducible exact trivial | with_reducible refine And.intro ?_ ?_ | with_reducible exact in_int | with_reducible exact in_str | with_reducible exact in_bool | with_reducible exact strs_in _ | with_reducible exact nodes_in _ | with_reducible exact items_in _ | with_reducible exact in_vnil | with_reducible exact in_any | exact hin _ | with_reducible refine take_in ?_ | with_reducible exact strsE_in _ | with_reducible exact nodesE_in _ | with_reducible exact nodeL_in _ | with_reducible exact itemsE_in _ | with_reducible exact itemL_in _ | with_reducible refine app_in ?_ ?_ | with_reducible refine sing_in ?_ | (focus (simp [in_any, in_int, in_bool, in_str, in_ptr, in_own, in_agg, in_vnil, in_rdr, usedOf_cons, usedOf_nil, strs_in, ints_in, nodes_in, boxD, opsR, rowsDf, backD]; done)))); done)) (Less.trans (Less.rename 80 50 (by simp [mkSt, usedOf_cons, usedOf_nil])) ?_)
        simp only [ASt.rename, mkSt, rowsOf_cons, Nat.reduceEqDiff, if_true, if_false, reduceIte, upd, boxD, opsR]
        exact (less_of (by simp [lessL, mkSt, slots, AV.subL, AV.sub, Row.sub, rowsOf_nil, strsE_sub, nodesE_sub, strsE_len, boxD, opsR, hs]) (by simp [upd, mkSt, rowsOf_cons, AV.subL, AV.sub, Row.sub, rowsOf_nil, strsE_sub, nodesE_sub, strsE_len, boxD, opsR, hs]) (by simp [upd, mkSt, usedOf_cons, AV.subL, AV.sub, Row.sub, rowsOf_nil, strsE_sub, nodesE_sub, strsE_len, boxD, opsR, hs]) (by first | exact rd_less (by omega) | simp [mkSt, AV.subL, AV.sub, Row.sub, rowsOf_nil, strsE_sub, nodesE_sub, strsE_len, boxD, opsR, hs]) (by simp [slots, in_any, in_int, in_bool, in_str, in_ptr, in_own, in_agg, in_vnil, in_rdr, usedOf_cons, usedOf_nil, strs_in, ints_in, nodes_in, in_tup, AV.subL, AV.sub, Row.sub, rowsOf_nil, strsE_sub, nodesE_sub, strsE_len, boxD, opsR, hs]) (by simp only [List.forall_mem_cons, List.not_mem_nil, false_implies, implies_true, and_true, true_and, AV.subL, AV.sub, Row.sub, rowsOf_nil, strsE_sub, nodesE_sub, strsE_len, boxD, opsR, hs]; (repeat (first | with_reducible exact trivial | with_reducible refine And.intro ?_ ?_ | with_reducible exact in_int | with_reducible exact in_str | with_reducible exact in_bool | with_reducible exact strs_in _ | with_reducible exact nodes_in _ | with_reducible exact items_in _ | with_reducible exact in_vnil | with_reducible exact in_any | exact hin _ | with_reducible refine take_in ?_ | with_reducible exact strsE_in _ | with_reducible exact nodesE_in _ | with_reducible exact nodeL_in _ | with_reducible exact itemsE_in _ | with_reducible exact itemL_in _ | with_reducible refine app_in ?_ ?_ | with_reducible refine sing_in ?_ | (focus (simp [in_any, in_int, in_bool, in_str, in_ptr, in_own, in_agg, in_vnil, in_rdr, usedOf_cons, usedOf_nil, strs_in, ints_in, nodes_in, AV.subL, AV.sub, Row.sub, rowsOf_nil, strsE_sub, nodesE_sub, strsE_len, boxD, opsR, hs]; done)))); done))
    · obtain rfl : i = b.names.length := by omega
      rw [← lenb] at hEl
      (repeat (first | with_reducible refine AW.seq ?_ | ((first | refine arun_kn 4 rfl (fun C hC => ?_) | refine arunD_kn 4 rfl (fun C hC => ?_)); (repeat ((conv => whnf); simp [strsE_len])); refine hC _ ?_; clear hC C; simp only [List.drop, Nat.reduceAdd]) | ((first | refine arun_kn 1 rfl (fun C hC => ?_) | refine arunD_kn 1 rfl (fun C hC => ?_)); (repeat ((conv => whnf); simp [strsE_len])); refine hC _ ?_; clear hC C; simp only [List.drop, Nat.reduceAdd]) | (refine arun_skip ?_ ?_; (focus (simp [awant, strsE_len]; done))) | (refine arunD_skip ?_ ?_; (focus (simp [awant, strsE_len]; done))) | (refine AW.regionK [] (fun K hK => ?_)) | (refine AW.regionDK [] (pcs [] []) (by kernel_rfl) (by kernel_rfl) (fun K hK => ?_)) | (refine AW.condT ?_ ?_; (focus (simp [aev, strsE_len]; done))) | (refine AW.condF ?_ ?_; (focus (simp [aev, strsE_len]; done))) | with_reducible refine AW.block ?_ | ((first | ((first | refine arun_nil ?_ | refine arunD_nil ?_); refine hK _ ?_; clear hK K) | refine AW.skip ?_ | refine AW.exit ?_ | refine AW.ret ?_); simp only [thenA_exit, inBlockA_exit, if_true, if_false, Nat.reduceEqDiff, thenA_normal, inBlockA_normal, reduceIte, thenA_ret, inBlockA_ret, endQ_ret, endR_ret, endG_ret, endQ_normal, endR_normal, endG_normal])))
      refine ⟨.tup [], [(1000, boxD 50 E.length), (50, opsR E)], by simp [ares, aresL], ?_, purR_tup (fun _ h => by cases h), purD hE, ⟨in_tup.2 (fun _ h => by cases h), inD' hE⟩, endDf hE (by rw [hEl]; omega) 50 (by decide)⟩
      unfold boxD opsR
      simp only [List.forall_mem_cons, List.not_mem_nil, false_implies, implies_true, and_true]
      exact ⟨rfl, rfl⟩
end Go.Proofs.YtmmaanbppheabaaDoor.Eng
-- EV: skip
namespace Go.Proofs.YtmmaanbppheabaaDoor.Eng
open Go Go.RowKit
attribute [local simp] big size_mk ASt.pay Option.map_map Function.comp_def awant aop acall ado aev ofVal ofVal0 ASt.put ASt.add ASt.turn ASt.kill abox aalloc astore aload aloadD astoreD idOf ASt.at cellsTo afieldAddr afield aindexAddr aindex alen abin aint acmp astr aun apick aextract anil aslice abound abuild afill abuildSlice asCells aps avCells over upd aappend asrc amax amin aconv mkSt slots rowsOf_cons rowsOf_nil usedOf_cons usedOf_nil ZK.av List.replicate ASt.back ASt.addL ASt.killL nodeA nodeT nodeTL_eq nodeL_eq strsE_get strsE_len intsE_get intsE_len strsE_at intsE_at tab2 tab3 tab4 tab5 tab6 tab7 tab8 tab9 tab10 tab11 tab12 tab13 tab14 tab15 tab16 tab17 tab18 tab19 tab21 tab22 tab23 tab24 tab25 tab26 tab27 tab31 tab32 tab33 tab35 tab36 tab41 tab58 tab67 tab69 tab70 tab81 tab82 tab85 tab86 tab92 tab93 tab95 tab105 tab111 tab117 tab124 tab125 tab130 tab131 tab133 tab134 tab135
set_option maxRecDepth 100000
set_option maxHeartbeats 16000000
theorem visitLists_ACG (d : Nat) (a b : Nd) (ha : Shp a) (hb : Shp b) (ih : ∀ x ∈ a.kids, ∀ y ∈ b.kids, VisC d x y)
    (p : List ByteArray) (hp : p.length + (d + 1) ≤ 900) (es : List (List AV)) (hes : OpsP es) (hle : es.length + (sumN (fun i => difD d (kidAt a i) (kidAt b i)) (min a.kids.length b.kids.length) + (a.kids.length - min a.kids.length b.kids.length) + (b.kids.length - min a.kids.length b.kids.length)) ≤ 10000000000) :
    ACG Tryd.prog 74 [.ptr true 1 1 1000 0 0, nodeA a, nodeA b, .view .loose 1 (strsE p)] (rowsDf es) 0 (PostDf es (sumN (fun i => difD d (kidAt a i) (kidAt b i)) (min a.kids.length b.kids.length) + (a.kids.length - min a.kids.length b.kids.length) + (b.kids.length - min a.kids.length b.kids.length))) := by
  have la6 := ha.kids
  have lb6 := hb.kids
  have zs : Sml Nd.zero := (Shp.of (n := Nd.zero) (by decide +kernel)).sml
  have hsm : ∀ y ∈ b.kids, Sml y := fun y hy => (hb.kid hy).sml
  obtain ⟨M, hM⟩ : ∃ M, M = min a.kids.length b.kids.length := ⟨_, rfl⟩
  have hmi : min (a.kids.length : Int) (b.kids.length : Int) = (M : Int) := by omega
  have hmi2 : (if b.kids.length < a.kids.length then (b.kids.length : Int) else (a.kids.length : Int)) = (M : Int) := by split <;> omega
  have hMa : M ≤ a.kids.length := by omega
  have hMb : M ≤ b.kids.length := by omega
  rw [← hM] at hle ⊢
  clear hM
  unfold nodeA rowsDf boxD opsR
  rw [nodeL_eq a, nodeL_eq b]
  refine ACG.of tab_ok mixed_ok Tryd.func74 (by rfl) (by kernel_rfl) (by simp) ?_; rintro ⟨P, T, hT, hm, w0, S0, rd0, k0⟩ hP hTT; dsimp only at hP hTT; subst hP hTT; unfold initStG; rw [Tryd.ntmps74]
  (repeat (first | with_reducible refine AW.seq ?_ | ((first | refine arun_kn 4 rfl (fun C hC => ?_) | refine arunD_kn 4 rfl (fun C hC => ?_)); (repeat ((conv => whnf); simp [hmi, hmi2])); refine hC _ ?_; clear hC C; simp only [List.drop, Nat.reduceAdd]) | ((first | refine arun_kn 1 rfl (fun C hC => ?_) | refine arunD_kn 1 rfl (fun C hC => ?_)); (repeat ((conv => whnf); simp [hmi, hmi2])); refine hC _ ?_; clear hC C; simp only [List.drop, Nat.reduceAdd]) | (refine arun_skip ?_ ?_; (focus (simp [awant, hmi, hmi2]; done))) | (refine arunD_skip ?_ ?_; (focus (simp [awant, hmi, hmi2]; done))) | (refine AW.regionK [] (fun K hK => ?_)) | (refine AW.regionDK [] (pcs [] []) (by kernel_rfl) (by kernel_rfl) (fun K hK => ?_)) | (refine AW.condT ?_ ?_; (focus (simp [aev, hmi, hmi2]; done))) | (refine AW.condF ?_ ?_; (focus (simp [aev, hmi, hmi2]; done))) | with_reducible refine AW.block ?_ | ((first | ((first | refine arun_nil ?_ | refine arunD_nil ?_); refine hK _ ?_; clear hK K) | refine AW.skip ?_ | refine AW.exit ?_ | refine AW.ret ?_); simp only [thenA_exit, inBlockA_exit, if_true, if_false, Nat.reduceEqDiff, thenA_normal, inBlockA_normal, reduceIte, thenA_ret, inBlockA_ret, endQ_ret, endR_ret, endG_ret, endQ_normal, endR_normal, endG_normal])))
  refine AW.loopS (fun (x : Nat × List (List AV)) => mkSt (slots 0 75 [(0, .ptr true 1 1 1000 0 0), (3, .view .loose 1 (strsE p)), (5, .ptr true 5 1 5 0 0), (6, .ptr true 5 1 6 0 0), (8, .int .i64 M), (19, .int .i64 M), (20, .int .i64 x.1)]) [(5, ⟨true, 33, 5, [nodeL a]⟩), (6, ⟨true, 33, 5, [nodeL b]⟩), (1000, boxD 50 x.2.length), (50, opsR x.2)] [5, 6, 50] (rd0.map fun _ => 0)) (fun x => M - x.1) (fun x => x.1 ≤ M ∧ OpsP x.2 ∧ x.2.length = es.length + sumN (fun i => difD d (kidAt a i) (kidAt b i)) x.1) (0, es) ?_ ⟨Nat.zero_le _, hes, rfl⟩ ?_
  · dsimp only
    have hin := hes.in
    have hs := fun id m c => hes.sub (id := id) (m := m) (c := c)
    rw [nodeL_eq a, nodeL_eq b]
    refine Less.trans (s' := mkSt (slots 0 75 [(0, .ptr true 1 1 1000 0 0), (3, .view .loose 1 (strsE p)), (5, .ptr true 5 1 5 0 0), (6, .ptr true 5 1 6 0 0), (8, .int .i64 M), (19, .int .i64 M), (20, .int .i64 0)]) [(5, ⟨true, 33, 5, [[.int .i64 a.kind, .int .i64 a.num, .str a.text, .view .loose 1 (strsE a.names), .view .loose 5 (a.kids.map nodeL)]]⟩), (6, ⟨true, 33, 5, [[.int .i64 b.kind, .int .i64 b.num, .str b.text, .view .loose 1 (strsE b.names), .view .loose 5 (b.kids.map nodeL)]]⟩), (1000, boxD 1001 es.length), (1001, opsR es)] [5, 6] (rd0.map fun _ => 0)) (less_of (by simp [lessL, mkSt, slots, boxD, opsR, rowsDf, backD]) (by simp [upd, mkSt, rowsOf_cons, boxD, opsR, rowsDf, backD]) (by simp [upd, mkSt, usedOf_cons, boxD, opsR, rowsDf, backD]) (by first | exact rd_less (by omega) | simp [mkSt, boxD, opsR, rowsDf, backD]) (by simp [slots, in_any, in_int, in_bool, in_str, in_ptr, in_own, in_agg, in_vnil, in_rdr, usedOf_cons, usedOf_nil, strs_in, ints_in, nodes_in, in_tup, boxD, opsR, rowsDf, backD]) (by simp only [List.forall_mem_cons, List.not_mem_nil, false_implies, implies_true, and_true, true_and, boxD, opsR, rowsDf, backD]; (repeat (first | with_reducible exact trivial | with_reducible refine And.intro ?_ ?_ | with_reducible exact in_int | with_reducible exact in_str | with_reducible exact in_bool | with_reducible exact strs_in _ | with_reducible exact nodes_in _ | with_reducible exact items_in _ | with_reducible exact in_vnil | with_reducible exact in_any | exact hin _ | with_reducible refine take_in ?_ | with_reducible exact strsE_in _ | with_reducible exact nodesE_in _ | with_reducible exact nodeL_in _ | with_reducible exact itemsE_in _ | with_reducible exact itemL_in _ | with_reducible refine app_in ?_ ?_ | with_reducible refine sing_in ?_ | (focus (simp [in_any, in_int, in_bool, in_str, in_ptr, in_own, in_agg, in_vnil, in_rdr, usedOf_cons, usedOf_nil, strs_in, ints_in, nodes_in, boxD, opsR, rowsDf, backD]; done)))); done)) (Less.trans (Less.rename 1001 50 (by simp [mkSt, usedOf_cons, usedOf_nil])) ?_)
    simp only [ASt.rename, mkSt, rowsOf_cons, Nat.reduceEqDiff, if_true, if_false, reduceIte, upd, boxD, opsR]
    exact (less_of (by simp [lessL, mkSt, slots, AV.subL, AV.sub, Row.sub, rowsOf_nil, strsE_sub, nodesE_sub, strsE_len, boxD, opsR, hs]) (by simp [upd, mkSt, rowsOf_cons, AV.subL, AV.sub, Row.sub, rowsOf_nil, strsE_sub, nodesE_sub, strsE_len, boxD, opsR, hs]) (by simp [upd, mkSt, usedOf_cons, AV.subL, AV.sub, Row.sub, rowsOf_nil, strsE_sub, nodesE_sub, strsE_len, boxD, opsR, hs]) (by first | exact rd_less (by omega) | simp [mkSt, AV.subL, AV.sub, Row.sub, rowsOf_nil, strsE_sub, nodesE_sub, strsE_len, boxD, opsR, hs]) (by simp [slots, in_any, in_int, in_bool, in_str, in_ptr, in_own, in_agg, in_vnil, in_rdr, usedOf_cons, usedOf_nil, strs_in, ints_in, nodes_in, in_tup, AV.subL, AV.sub, Row.sub, rowsOf_nil, strsE_sub, nodesE_sub, strsE_len, boxD, opsR, hs]) (by simp only [List.forall_mem_cons, List.not_mem_nil, false_implies, implies_true, and_true, true_and, AV.subL, AV.sub, Row.sub, rowsOf_nil, strsE_sub, nodesE_sub, strsE_len, boxD, opsR, hs]; (repeat (first | with_reducible exact trivial | with_reducible refine And.intro ?_ ?_ | with_reducible exact in_int | with_reducible exact in_str | with_reducible exact in_bool | with_reducible exact strs_in _ | with_reducible exact nodes_in _ | with_reducible exact items_in _ | with_reducible exact in_vnil | with_reducible exact in_any | exact hin _ | with_reducible refine take_in ?_ | with_reducible exact strsE_in _ | with_reducible exact nodesE_in _ | with_reducible exact nodeL_in _ | with_reducible exact itemsE_in _ | with_reducible exact itemL_in _ | with_reducible refine app_in ?_ ?_ | with_reducible refine sing_in ?_ | (focus (simp [in_any, in_int, in_bool, in_str, in_ptr, in_own, in_agg, in_vnil, in_rdr, usedOf_cons, usedOf_nil, strs_in, ints_in, nodes_in, AV.subL, AV.sub, Row.sub, rowsOf_nil, strsE_sub, nodesE_sub, strsE_len, boxD, opsR, hs]; done)))); done))
  rintro ⟨i, E⟩ ⟨hi, hE, hEl⟩
  dsimp only at hi hE hEl ⊢
  rw [nodeL_eq a, nodeL_eq b]
  unfold boxD opsR
  by_cases hlt : i < M
  · have hk1 : i < a.kids.length := by omega
    have hk2 : i < b.kids.length := by omega
    have hw : IntKind.i64.wrap ((i : Int) + 1) = (i : Int) + 1 := i64_nat (by omega) (by omega)
    have hst := sumN_step (fun i => difD d (kidAt a i) (kidAt b i)) hlt
    replace hst : sumN (fun i => difD d (kidAt a i) (kidAt b i)) i + difD d (kidAt a i) (kidAt b i) ≤ sumN (fun i => difD d (kidAt a i) (kidAt b i)) M := hst
    rw [kidAt_eq hk1, kidAt_eq hk2] at hst
    have p1 := Itoa_AC i (by omega)
    have p2 := stepBehind_AC .loose p (txt (dig1 i)) (by omega)
    have hcx := node_clo a.kids[i]
    have hcy := node_clo b.kids[i]
    have hih := ih a.kids[i] (List.getElem_mem hk1) b.kids[i] (List.getElem_mem hk2) (p ++ [txt (dig1 i)]) E (by rw [List.length_append, List.length_singleton]; omega) hE (by omega)
    unfold nodeA at hih hcx hcy
    rw [nodeL_eq a.kids[i], nodeL_eq b.kids[i]] at hih
    rw [nodeL_eq] at hcx hcy
    generalize txt (dig1 i) = st at *
    (repeat (first | with_reducible refine AW.seq ?_ | ((first | refine arun_kn 4 rfl (fun C hC => ?_) | refine arunD_kn 4 rfl (fun C hC => ?_)); (repeat ((conv => whnf); simp [hlt])); refine hC _ ?_; clear hC C; simp only [List.drop, Nat.reduceAdd]) | ((first | refine arun_kn 1 rfl (fun C hC => ?_) | refine arunD_kn 1 rfl (fun C hC => ?_)); (repeat ((conv => whnf); simp [hlt])); refine hC _ ?_; clear hC C; simp only [List.drop, Nat.reduceAdd]) | (refine arun_skip ?_ ?_; (focus (simp [awant, hlt]; done))) | (refine arunD_skip ?_ ?_; (focus (simp [awant, hlt]; done))) | (refine AW.regionK [] (fun K hK => ?_)) | (refine AW.condT ?_ ?_; (focus (simp [aev, hlt]; done))) | (refine AW.condF ?_ ?_; (focus (simp [aev, hlt]; done))) | with_reducible refine AW.block ?_ | ((first | ((first | refine arun_nil ?_ | refine arunD_nil ?_); refine hK _ ?_; clear hK K) | refine AW.skip ?_ | refine AW.exit ?_ | refine AW.ret ?_); simp only [thenA_exit, inBlockA_exit, if_true, if_false, Nat.reduceEqDiff, thenA_normal, inBlockA_normal, reduceIte, thenA_ret, inBlockA_ret, endQ_ret, endR_ret, endG_ret, endQ_normal, endR_normal, endG_normal])))
    refine AW.regionDK [] (pcs [(13, 0, fun r => r = .str st), (14, 0, fun r => r = .view .loose 1 (strsE (p ++ [st])))] [1015]) (by kernel_rfl) (by kernel_rfl) (fun K hK => ?_)
    (repeat (first | with_reducible refine AW.seq ?_ | ((first | refine arun_kn 4 rfl (fun C hC => ?_) | refine arunD_kn 4 rfl (fun C hC => ?_)); (repeat ((conv => whnf); simp [hlt, hk1, hk2])); refine hC _ ?_; clear hC C; simp only [List.drop, Nat.reduceAdd]) | ((first | refine arun_kn 1 rfl (fun C hC => ?_) | refine arunD_kn 1 rfl (fun C hC => ?_)); (repeat ((conv => whnf); simp [hlt, hk1, hk2])); refine hC _ ?_; clear hC C; simp only [List.drop, Nat.reduceAdd]) | (refine arun_skip ?_ ?_; (focus (simp [awant, hlt, hk1, hk2]; done))) | (refine arun_c0 (p1) ?_; rintro _ rfl) | (refine arun_c0 (p2) ?_; rintro _ rfl) | (refine arunD_skip ?_ ?_; (focus (simp [awant, hlt, hk1, hk2]; done))) | (refine arunD_cE (0) (p1) (by exact ⟨_, rfl, in_str⟩) ?_; rintro _ rfl; intro _) | (refine arunD_cE (0) (p2) (by exact ⟨_, rfl, strs_in _⟩) ?_; rintro _ rfl; intro _) | (refine AW.regionK [] (fun K hK => ?_)) | (refine AW.regionDK [] (pcs [] []) (by kernel_rfl) (by kernel_rfl) (fun K hK => ?_)) | (refine AW.condT ?_ ?_; (focus (simp [aev, hlt, hk1, hk2]; done))) | (refine AW.condF ?_ ?_; (focus (simp [aev, hlt, hk1, hk2]; done))) | with_reducible refine AW.block ?_ | ((first | ((first | refine arun_nil ?_ | refine arunD_nil ?_); refine hK _ ?_; clear hK K) | refine AW.skip ?_ | refine AW.exit ?_ | refine AW.ret ?_); simp only [thenA_exit, inBlockA_exit, if_true, if_false, Nat.reduceEqDiff, thenA_normal, inBlockA_normal, reduceIte, thenA_ret, inBlockA_ret, endQ_ret, endR_ret, endG_ret, endQ_normal, endR_normal, endG_normal])))
    refine arunD_callDf hE 1000 50 38 (hac := hih) (h1 := by simp [rowsOf_cons, upd, boxD]) (h2 := by simp [rowsOf_cons, upd, opsR]) (hd := by decide) (hB := by decide) (uB := by simp [usedOf_cons, usedOf_nil, upd]) (hl := rfl) (hw := by simp [awant]) (ha := rfl) (hargs := .cons (.base (.ptr (by simp [rowsDf]) rfl)) (.cons (.base (.clo (Clo.cloTo hcx))) (.cons (.base (.clo (Clo.cloTo hcy))) (.cons (.base (.clo (Clo.cloTo (strs_clo _)))) .nil)))) (hcan := by (first | exact can_of (Nat.zero_le _) | (simp only [ASt.put, ASt.pay, Option.map_map, Function.comp_def]; exact can_of (Nat.zero_le _)))) (h := ?_)
    intro E' hE' hl'
    (repeat (first | with_reducible refine AW.seq ?_ | ((first | refine arun_kn 4 rfl (fun C hC => ?_) | refine arunD_kn 4 rfl (fun C hC => ?_)); (repeat ((conv => whnf); simp [hw, backD, rowsDf, nuD])); refine hC _ ?_; clear hC C; simp only [List.drop, Nat.reduceAdd]) | ((first | refine arun_kn 1 rfl (fun C hC => ?_) | refine arunD_kn 1 rfl (fun C hC => ?_)); (repeat ((conv => whnf); simp [hw, backD, rowsDf, nuD])); refine hC _ ?_; clear hC C; simp only [List.drop, Nat.reduceAdd]) | (refine arun_skip ?_ ?_; (focus (simp [awant, hw, backD, rowsDf, nuD]; done))) | (refine arunD_skip ?_ ?_; (focus (simp [awant, hw, backD, rowsDf, nuD]; done))) | (refine AW.regionK [] (fun K hK => ?_)) | (refine AW.regionDK [] (pcs [] []) (by kernel_rfl) (by kernel_rfl) (fun K hK => ?_)) | (refine AW.condT ?_ ?_; (focus (simp [aev, hw, backD, rowsDf, nuD]; done))) | (refine AW.condF ?_ ?_; (focus (simp [aev, hw, backD, rowsDf, nuD]; done))) | with_reducible refine AW.block ?_ | ((first | ((first | refine arun_nil ?_ | refine arunD_nil ?_); refine hK _ ?_; clear hK K) | refine AW.skip ?_ | refine AW.exit ?_ | refine AW.ret ?_); simp only [thenA_exit, inBlockA_exit, if_true, if_false, Nat.reduceEqDiff, thenA_normal, inBlockA_normal, reduceIte, thenA_ret, inBlockA_ret, endQ_ret, endR_ret, endG_ret, endQ_normal, endR_normal, endG_normal])))
    refine ⟨(i + 1, E'), by dsimp only; omega, ⟨by dsimp only; omega, hE', by dsimp only; rw [hl', hEl, sumN_succ, kidAt_eq hk1, kidAt_eq hk2]; omega⟩, ?_⟩
    dsimp only
    have hin := hE'.in
    have hs := fun id m c => hE'.sub (id := id) (m := m) (c := c)
    refine Less.trans (s' := mkSt (slots 0 75 [(0, .ptr true 1 1 1000 0 0), (3, .view .loose 1 (strsE p)), (5, .ptr true 5 1 5 0 0), (6, .ptr true 5 1 6 0 0), (8, .int .i64 M), (19, .int .i64 M), (20, .int .i64 ((i : Int) + 1))]) [(5, ⟨true, 33, 5, [[.int .i64 a.kind, .int .i64 a.num, .str a.text, .view .loose 1 (strsE a.names), .view .loose 5 (a.kids.map nodeL)]]⟩), (6, ⟨true, 33, 5, [[.int .i64 b.kind, .int .i64 b.num, .str b.text, .view .loose 1 (strsE b.names), .view .loose 5 (b.kids.map nodeL)]]⟩), (1000, boxD 38 E'.length), (38, opsR E')] [5, 6, 38] (rd0.map fun _ => 0)) (less_of (by simp [lessL, mkSt, slots, boxD, opsR, rowsDf, backD]) (by simp [upd, mkSt, rowsOf_cons, boxD, opsR, rowsDf, backD]) (by simp [upd, mkSt, usedOf_cons, boxD, opsR, rowsDf, backD]) (by first | exact rd_less (by omega) | simp [mkSt, boxD, opsR, rowsDf, backD]) (by simp [slots, in_any, in_int, in_bool, in_str, in_ptr, in_own, in_agg, in_vnil, in_rdr, usedOf_cons, usedOf_nil, strs_in, ints_in, nodes_in, in_tup, boxD, opsR, rowsDf, backD]) (by simp only [List.forall_mem_cons, List.not_mem_nil, false_implies, implies_true, and_true, true_and, boxD, opsR, rowsDf, backD]; (repeat (first | with_reducible exact trivial | with_reducible refine And.intro ?_ ?_ | with_reducible exact in_int | with_reducible exact in_str | with_reducible exact in_bool | with_reducible exact strs_in _ | with_reducible exact nodes_in _ | with_reducible exact items_in _ | with_reducible exact in_vnil | with_reducible exact in_any | exact hin _ | with_reducible refine take_in ?_ | with_reducible exact strsE_in _ | with_reducible exact nodesE_in _ | with_reducible exact nodeL_in _ | with_reducible exact itemsE_in _ | with_reducible exact itemL_in _ | with_reducible refine app_in ?_ ?_ | with_reducible refine sing_in ?_ | (focus (simp [in_any, in_int, in_bool, in_str, in_ptr, in_own, in_agg, in_vnil, in_rdr, usedOf_cons, usedOf_nil, strs_in, ints_in, nodes_in, boxD, opsR, rowsDf, backD]; done)))); done)) (Less.trans (Less.rename 38 50 (by simp [mkSt, usedOf_cons, usedOf_nil])) ?_)
    simp only [ASt.rename, mkSt, rowsOf_cons, Nat.reduceEqDiff, if_true, if_false, reduceIte, upd, boxD, opsR]
    exact (less_of (by simp [lessL, mkSt, slots, AV.subL, AV.sub, Row.sub, rowsOf_nil, strsE_sub, nodesE_sub, strsE_len, boxD, opsR, hs]) (by simp [upd, mkSt, rowsOf_cons, AV.subL, AV.sub, Row.sub, rowsOf_nil, strsE_sub, nodesE_sub, strsE_len, boxD, opsR, hs]) (by simp [upd, mkSt, usedOf_cons, AV.subL, AV.sub, Row.sub, rowsOf_nil, strsE_sub, nodesE_sub, strsE_len, boxD, opsR, hs]) (by first | exact rd_less (by omega) | simp [mkSt, AV.subL, AV.sub, Row.sub, rowsOf_nil, strsE_sub, nodesE_sub, strsE_len, boxD, opsR, hs]) (by simp [slots, in_any, in_int, in_bool, in_str, in_ptr, in_own, in_agg, in_vnil, in_rdr, usedOf_cons, usedOf_nil, strs_in, ints_in, nodes_in, in_tup, AV.subL, AV.sub, Row.sub, rowsOf_nil, strsE_sub, nodesE_sub, strsE_len, boxD, opsR, hs]) (by simp only [List.forall_mem_cons, List.not_mem_nil, false_implies, implies_true, and_true, true_and, AV.subL, AV.sub, Row.sub, rowsOf_nil, strsE_sub, nodesE_sub, strsE_len, boxD, opsR, hs]; (repeat (first | with_reducible exact trivial | with_reducible refine And.intro ?_ ?_ | with_reducible exact in_int | with_reducible exact in_str | with_reducible exact in_bool | with_reducible exact strs_in _ | with_reducible exact nodes_in _ | with_reducible exact items_in _ | with_reducible exact in_vnil | with_reducible exact in_any | exact hin _ | with_reducible refine take_in ?_ | with_reducible exact strsE_in _ | with_reducible exact nodesE_in _ | with_reducible exact nodeL_in _ | with_reducible exact itemsE_in _ | with_reducible exact itemL_in _ | with_reducible refine app_in ?_ ?_ | with_reducible refine sing_in ?_ | (focus (simp [in_any, in_int, in_bool, in_str, in_ptr, in_own, in_agg, in_vnil, in_rdr, usedOf_cons, usedOf_nil, strs_in, ints_in, nodes_in, AV.subL, AV.sub, Row.sub, rowsOf_nil, strsE_sub, nodesE_sub, strsE_len, boxD, opsR, hs]; done)))); done))
  obtain rfl : i = M := by omega
  generalize sumN (fun i => difD d (kidAt a i) (kidAt b i)) i = N1 at *
  have hwa : IntKind.i64.wrap ((a.kids.length : Int) - 1) = (a.kids.length : Int) - 1 := i64_nat (by omega) (by omega)
  (repeat (first | with_reducible refine AW.seq ?_ | ((first | refine arun_kn 4 rfl (fun C hC => ?_) | refine arunD_kn 4 rfl (fun C hC => ?_)); (repeat ((conv => whnf); simp [hwa])); refine hC _ ?_; clear hC C; simp only [List.drop, Nat.reduceAdd]) | ((first | refine arun_kn 1 rfl (fun C hC => ?_) | refine arunD_kn 1 rfl (fun C hC => ?_)); (repeat ((conv => whnf); simp [hwa])); refine hC _ ?_; clear hC C; simp only [List.drop, Nat.reduceAdd]) | (refine arun_skip ?_ ?_; (focus (simp [awant, hwa]; done))) | (refine arunD_skip ?_ ?_; (focus (simp [awant, hwa]; done))) | (refine AW.regionK [] (fun K hK => ?_)) | (refine AW.regionDK [] (pcs [] []) (by kernel_rfl) (by kernel_rfl) (fun K hK => ?_)) | (refine AW.condT ?_ ?_; (focus (simp [aev, hwa]; done))) | (refine AW.condF ?_ ?_; (focus (simp [aev, hwa]; done))) | with_reducible refine AW.block ?_ | ((first | ((first | refine arun_nil ?_ | refine arunD_nil ?_); refine hK _ ?_; clear hK K) | refine AW.skip ?_ | refine AW.exit ?_ | refine AW.ret ?_); simp only [thenA_exit, inBlockA_exit, if_true, if_false, Nat.reduceEqDiff, thenA_normal, inBlockA_normal, reduceIte, thenA_ret, inBlockA_ret, endQ_ret, endR_ret, endG_ret, endQ_normal, endR_normal, endG_normal])))
  refine AW.loopS (fun (x : Nat × List (List AV)) => mkSt (slots 0 75 [(0, .ptr true 1 1 1000 0 0), (3, .view .loose 1 (strsE p)), (5, .ptr true 5 1 5 0 0), (6, .ptr true 5 1 6 0 0), (8, .int .i64 i), (10, .int .i64 ((x.1 : Int) - 1))]) [(5, ⟨true, 33, 5, [nodeL a]⟩), (6, ⟨true, 33, 5, [nodeL b]⟩), (1000, boxD 50 x.2.length), (50, opsR x.2)] [5, 6, 50] (rd0.map fun _ => 0)) (fun x => x.1) (fun x => i ≤ x.1 ∧ x.1 ≤ a.kids.length ∧ OpsP x.2 ∧ x.2.length + x.1 = es.length + N1 + a.kids.length) (a.kids.length, E) ?_ ⟨hMa, Nat.le_refl _, hE, by dsimp only; omega⟩ ?_
  · dsimp only
    have hin := hE.in
    rw [nodeL_eq a, nodeL_eq b]
    exact (less_of (by simp [lessL, mkSt, slots, boxD, opsR]) (by simp [upd, mkSt, rowsOf_cons, boxD, opsR]) (by simp [upd, mkSt, usedOf_cons, boxD, opsR]) (by first | exact rd_less (by omega) | simp [mkSt, boxD, opsR]) (by simp [slots, in_any, in_int, in_bool, in_str, in_ptr, in_own, in_agg, in_vnil, in_rdr, usedOf_cons, usedOf_nil, strs_in, ints_in, nodes_in, in_tup, boxD, opsR]) (by simp only [List.forall_mem_cons, List.not_mem_nil, false_implies, implies_true, and_true, true_and, boxD, opsR]; (repeat (first | with_reducible exact trivial | with_reducible refine And.intro ?_ ?_ | with_reducible exact in_int | with_reducible exact in_str | with_reducible exact in_bool | with_reducible exact strs_in _ | with_reducible exact nodes_in _ | with_reducible exact items_in _ | with_reducible exact in_vnil | with_reducible exact in_any | exact hin _ | with_reducible refine take_in ?_ | with_reducible exact strsE_in _ | with_reducible exact nodesE_in _ | with_reducible exact nodeL_in _ | with_reducible exact itemsE_in _ | with_reducible exact itemL_in _ | with_reducible refine app_in ?_ ?_ | with_reducible refine sing_in ?_ | (focus (simp [in_any, in_int, in_bool, in_str, in_ptr, in_own, in_agg, in_vnil, in_rdr, usedOf_cons, usedOf_nil, strs_in, ints_in, nodes_in, boxD, opsR]; done)))); done))
  clear hE hEl
  rintro ⟨c, E⟩ ⟨hc, hc2, hE, hEl⟩
  dsimp only at hc hc2 hE hEl ⊢
  rw [nodeL_eq a, nodeL_eq b]
  unfold boxD opsR
  by_cases hlt : i < c
  · obtain ⟨k, rfl⟩ : ∃ k, c = k + 1 := ⟨c - 1, by omega⟩
    have e1 : (((k + 1 : Nat) : Int)) - 1 = (k : Int) := by omega
    have hge : (i : Int) ≤ (k : Int) := by omega
    have hge' : i ≤ k := by omega
    have hw : IntKind.i64.wrap ((k : Int) - 1) = (k : Int) - 1 := i64_nat (by omega) (by omega)
    have p1 := Itoa_AC k (by omega)
    have p2 := stepBehind_AC .loose p (txt (dig1 k)) (by omega)
    have hput := put_ACG .loose 2 (p ++ [txt (dig1 k)]) Nd.zero zs (by rw [List.length_append, List.length_singleton]; omega) E hE (by omega)
    generalize txt (dig1 k) = st at *
    rw [e1]
    (repeat (first | with_reducible refine AW.seq ?_ | ((first | refine arun_kn 4 rfl (fun C hC => ?_) | refine arunD_kn 4 rfl (fun C hC => ?_)); (repeat ((conv => whnf); simp [hge, hge'])); refine hC _ ?_; clear hC C; simp only [List.drop, Nat.reduceAdd]) | ((first | refine arun_kn 1 rfl (fun C hC => ?_) | refine arunD_kn 1 rfl (fun C hC => ?_)); (repeat ((conv => whnf); simp [hge, hge'])); refine hC _ ?_; clear hC C; simp only [List.drop, Nat.reduceAdd]) | (refine arun_skip ?_ ?_; (focus (simp [awant, hge, hge']; done))) | (refine arun_c0 (p1) ?_; rintro _ rfl) | (refine arun_c0 (p2) ?_; rintro _ rfl) | (refine arunD_skip ?_ ?_; (focus (simp [awant, hge, hge']; done))) | (refine AW.regionK [] (fun K hK => ?_)) | (refine AW.regionDK [] (pcs [] []) (by kernel_rfl) (by kernel_rfl) (fun K hK => ?_)) | (refine AW.condT ?_ ?_; (focus (simp [aev, hge, hge']; done))) | (refine AW.condF ?_ ?_; (focus (simp [aev, hge, hge']; done))) | with_reducible refine AW.block ?_ | ((first | ((first | refine arun_nil ?_ | refine arunD_nil ?_); refine hK _ ?_; clear hK K) | refine AW.skip ?_ | refine AW.exit ?_ | refine AW.ret ?_); simp only [thenA_exit, inBlockA_exit, if_true, if_false, Nat.reduceEqDiff, thenA_normal, inBlockA_normal, reduceIte, thenA_ret, inBlockA_ret, endQ_ret, endR_ret, endG_ret, endQ_normal, endR_normal, endG_normal])))
    refine arun_callDf hE 1000 50 55 (hac := hput) (h1 := by simp [rowsOf_cons, upd, boxD]) (h2 := by simp [rowsOf_cons, upd, opsR]) (hd := by decide) (hB := by decide) (uB := by simp [usedOf_cons, usedOf_nil, upd]) (hw := by simp [awant]) (ha := rfl) (hargs := .cons (.base (.ptr (by simp [rowsDf]) rfl)) (.cons (.base (.clo (Clo.cloTo clo_int))) (.cons (.base (.clo (Clo.cloTo (strs_clo _)))) (.cons (.base (.clo (Wk.cloTo zero_wk (node_clo _)))) .nil)))) (hcan := by (first | exact can_of (Nat.zero_le _) | (simp only [ASt.put, ASt.pay, Option.map_map, Function.comp_def]; exact can_of (Nat.zero_le _)))) (h := ?_)
    intro E' hE' hl'
    (repeat (first | with_reducible refine AW.seq ?_ | ((first | refine arun_kn 4 rfl (fun C hC => ?_) | refine arunD_kn 4 rfl (fun C hC => ?_)); (repeat ((conv => whnf); simp [hw, backD, rowsDf, nuD])); refine hC _ ?_; clear hC C; simp only [List.drop, Nat.reduceAdd]) | ((first | refine arun_kn 1 rfl (fun C hC => ?_) | refine arunD_kn 1 rfl (fun C hC => ?_)); (repeat ((conv => whnf); simp [hw, backD, rowsDf, nuD])); refine hC _ ?_; clear hC C; simp only [List.drop, Nat.reduceAdd]) | (refine arun_skip ?_ ?_; (focus (simp [awant, hw, backD, rowsDf, nuD]; done))) | (refine arunD_skip ?_ ?_; (focus (simp [awant, hw, backD, rowsDf, nuD]; done))) | (refine AW.regionK [] (fun K hK => ?_)) | (refine AW.regionDK [] (pcs [] []) (by kernel_rfl) (by kernel_rfl) (fun K hK => ?_)) | (refine AW.condT ?_ ?_; (focus (simp [aev, hw, backD, rowsDf, nuD]; done))) | (refine AW.condF ?_ ?_; (focus (simp [aev, hw, backD, rowsDf, nuD]; done))) | with_reducible refine AW.block ?_ | ((first | ((first | refine arun_nil ?_ | refine arunD_nil ?_); refine hK _ ?_; clear hK K) | refine AW.skip ?_ | refine AW.exit ?_ | refine AW.ret ?_); simp only [thenA_exit, inBlockA_exit, if_true, if_false, Nat.reduceEqDiff, thenA_normal, inBlockA_normal, reduceIte, thenA_ret, inBlockA_ret, endQ_ret, endR_ret, endG_ret, endQ_normal, endR_normal, endG_normal])))
    refine ⟨(k, E'), by dsimp only; omega, ⟨by dsimp only; omega, by dsimp only; omega, hE', by dsimp only; omega⟩, ?_⟩
    dsimp only
    have hin := hE'.in
    have hs := fun id m c => hE'.sub (id := id) (m := m) (c := c)
    refine Less.trans (s' := mkSt (slots 0 75 [(0, .ptr true 1 1 1000 0 0), (3, .view .loose 1 (strsE p)), (5, .ptr true 5 1 5 0 0), (6, .ptr true 5 1 6 0 0), (8, .int .i64 i), (10, .int .i64 ((k : Int) - 1))]) [(5, ⟨true, 33, 5, [[.int .i64 a.kind, .int .i64 a.num, .str a.text, .view .loose 1 (strsE a.names), .view .loose 5 (a.kids.map nodeL)]]⟩), (6, ⟨true, 33, 5, [[.int .i64 b.kind, .int .i64 b.num, .str b.text, .view .loose 1 (strsE b.names), .view .loose 5 (b.kids.map nodeL)]]⟩), (1000, boxD 55 E'.length), (55, opsR E')] [5, 6, 55] (rd0.map fun _ => 0)) (less_of (by simp [lessL, mkSt, slots, boxD, opsR, rowsDf, backD]) (by simp [upd, mkSt, rowsOf_cons, boxD, opsR, rowsDf, backD]) (by simp [upd, mkSt, usedOf_cons, boxD, opsR, rowsDf, backD]) (by first | exact rd_less (by omega) | simp [mkSt, boxD, opsR, rowsDf, backD]) (by simp [slots, in_any, in_int, in_bool, in_str, in_ptr, in_own, in_agg, in_vnil, in_rdr, usedOf_cons, usedOf_nil, strs_in, ints_in, nodes_in, in_tup, boxD, opsR, rowsDf, backD]) (by simp only [List.forall_mem_cons, List.not_mem_nil, false_implies, implies_true, and_true, true_and, boxD, opsR, rowsDf, backD]; (repeat (first | with_reducible exact trivial | with_reducible refine And.intro ?_ ?_ | with_reducible exact in_int | with_reducible exact in_str | with_reducible exact in_bool | with_reducible exact strs_in _ | with_reducible exact nodes_in _ | with_reducible exact items_in _ | with_reducible exact in_vnil | with_reducible exact in_any | exact hin _ | with_reducible refine take_in ?_ | with_reducible exact strsE_in _ | with_reducible exact nodesE_in _ | with_reducible exact nodeL_in _ | with_reducible exact itemsE_in _ | with_reducible exact itemL_in _ | with_reducible refine app_in ?_ ?_ | with_reducible refine sing_in ?_ | (focus (simp [in_any, in_int, in_bool, in_str, in_ptr, in_own, in_agg, in_vnil, in_rdr, usedOf_cons, usedOf_nil, strs_in, ints_in, nodes_in, boxD, opsR, rowsDf, backD]; done)))); done)) (Less.trans (Less.rename 55 50 (by simp [mkSt, usedOf_cons, usedOf_nil])) ?_)
    simp only [ASt.rename, mkSt, rowsOf_cons, Nat.reduceEqDiff, if_true, if_false, reduceIte, upd, boxD, opsR]
    exact (less_of (by simp [lessL, mkSt, slots, AV.subL, AV.sub, Row.sub, rowsOf_nil, strsE_sub, nodesE_sub, strsE_len, boxD, opsR, hs]) (by simp [upd, mkSt, rowsOf_cons, AV.subL, AV.sub, Row.sub, rowsOf_nil, strsE_sub, nodesE_sub, strsE_len, boxD, opsR, hs]) (by simp [upd, mkSt, usedOf_cons, AV.subL, AV.sub, Row.sub, rowsOf_nil, strsE_sub, nodesE_sub, strsE_len, boxD, opsR, hs]) (by first | exact rd_less (by omega) | simp [mkSt, AV.subL, AV.sub, Row.sub, rowsOf_nil, strsE_sub, nodesE_sub, strsE_len, boxD, opsR, hs]) (by simp [slots, in_any, in_int, in_bool, in_str, in_ptr, in_own, in_agg, in_vnil, in_rdr, usedOf_cons, usedOf_nil, strs_in, ints_in, nodes_in, in_tup, AV.subL, AV.sub, Row.sub, rowsOf_nil, strsE_sub, nodesE_sub, strsE_len, boxD, opsR, hs]) (by simp only [List.forall_mem_cons, List.not_mem_nil, false_implies, implies_true, and_true, true_and, AV.subL, AV.sub, Row.sub, rowsOf_nil, strsE_sub, nodesE_sub, strsE_len, boxD, opsR, hs]; (repeat (first | with_reducible exact trivial | with_reducible refine And.intro ?_ ?_ | with_reducible exact in_int | with_reducible exact in_str | with_reducible exact in_bool | with_reducible exact strs_in _ | with_reducible exact nodes_in _ | with_reducible exact items_in _ | with_reducible exact in_vnil | with_reducible exact in_any | exact hin _ | with_reducible refine take_in ?_ | with_reducible exact strsE_in _ | with_reducible exact nodesE_in _ | with_reducible exact nodeL_in _ | with_reducible exact itemsE_in _ | with_reducible exact itemL_in _ | with_reducible refine app_in ?_ ?_ | with_reducible refine sing_in ?_ | (focus (simp [in_any, in_int, in_bool, in_str, in_ptr, in_own, in_agg, in_vnil, in_rdr, usedOf_cons, usedOf_nil, strs_in, ints_in, nodes_in, AV.subL, AV.sub, Row.sub, rowsOf_nil, strsE_sub, nodesE_sub, strsE_len, boxD, opsR, hs]; done)))); done))
  obtain rfl : i = c := by omega
  have hng : ¬ (i : Int) ≤ (i : Int) - 1 := by omega
  (repeat (first | with_reducible refine AW.seq ?_ | ((first | refine arun_kn 4 rfl (fun C hC => ?_) | refine arunD_kn 4 rfl (fun C hC => ?_)); (repeat ((conv => whnf); simp [hng])); refine hC _ ?_; clear hC C; simp only [List.drop, Nat.reduceAdd]) | ((first | refine arun_kn 1 rfl (fun C hC => ?_) | refine arunD_kn 1 rfl (fun C hC => ?_)); (repeat ((conv => whnf); simp [hng])); refine hC _ ?_; clear hC C; simp only [List.drop, Nat.reduceAdd]) | (refine arun_skip ?_ ?_; (focus (simp [awant, hng]; done))) | (refine arunD_skip ?_ ?_; (focus (simp [awant, hng]; done))) | (refine AW.regionK [] (fun K hK => ?_)) | (refine AW.regionDK [] (pcs [] []) (by kernel_rfl) (by kernel_rfl) (fun K hK => ?_)) | (refine AW.condT ?_ ?_; (focus (simp [aev, hng]; done))) | (refine AW.condF ?_ ?_; (focus (simp [aev, hng]; done))) | with_reducible refine AW.block ?_ | ((first | ((first | refine arun_nil ?_ | refine arunD_nil ?_); refine hK _ ?_; clear hK K) | refine AW.skip ?_ | refine AW.exit ?_ | refine AW.ret ?_); simp only [thenA_exit, inBlockA_exit, if_true, if_false, Nat.reduceEqDiff, thenA_normal, inBlockA_normal, reduceIte, thenA_ret, inBlockA_ret, endQ_ret, endR_ret, endG_ret, endQ_normal, endR_normal, endG_normal])))
  refine AW.loopS (fun (x : Nat × List (List AV)) => mkSt (slots 0 75 [(0, .ptr true 1 1 1000 0 0), (3, .view .loose 1 (strsE p)), (5, .ptr true 5 1 5 0 0), (6, .ptr true 5 1 6 0 0), (8, .int .i64 i), (11, .int .i64 x.1)]) [(5, ⟨true, 33, 5, [nodeL a]⟩), (6, ⟨true, 33, 5, [nodeL b]⟩), (1000, boxD 50 x.2.length), (50, opsR x.2)] [5, 6, 50] (rd0.map fun _ => 0)) (fun x => b.kids.length - x.1) (fun x => i ≤ x.1 ∧ x.1 ≤ b.kids.length ∧ OpsP x.2 ∧ x.2.length + i = es.length + N1 + (a.kids.length - i) + x.1) (i, E) ?_ ⟨Nat.le_refl _, hMb, hE, by dsimp only; omega⟩ ?_
  · dsimp only
    have hin := hE.in
    rw [nodeL_eq a, nodeL_eq b]
    exact (less_of (by simp [lessL, mkSt, slots, boxD, opsR]) (by simp [upd, mkSt, rowsOf_cons, boxD, opsR]) (by simp [upd, mkSt, usedOf_cons, boxD, opsR]) (by first | exact rd_less (by omega) | simp [mkSt, boxD, opsR]) (by simp [slots, in_any, in_int, in_bool, in_str, in_ptr, in_own, in_agg, in_vnil, in_rdr, usedOf_cons, usedOf_nil, strs_in, ints_in, nodes_in, in_tup, boxD, opsR]) (by simp only [List.forall_mem_cons, List.not_mem_nil, false_implies, implies_true, and_true, true_and, boxD, opsR]; (repeat (first | with_reducible exact trivial | with_reducible refine And.intro ?_ ?_ | with_reducible exact in_int | with_reducible exact in_str | with_reducible exact in_bool | with_reducible exact strs_in _ | with_reducible exact nodes_in _ | with_reducible exact items_in _ | with_reducible exact in_vnil | with_reducible exact in_any | exact hin _ | with_reducible refine take_in ?_ | with_reducible exact strsE_in _ | with_reducible exact nodesE_in _ | with_reducible exact nodeL_in _ | with_reducible exact itemsE_in _ | with_reducible exact itemL_in _ | with_reducible refine app_in ?_ ?_ | with_reducible refine sing_in ?_ | (focus (simp [in_any, in_int, in_bool, in_str, in_ptr, in_own, in_agg, in_vnil, in_rdr, usedOf_cons, usedOf_nil, strs_in, ints_in, nodes_in, boxD, opsR]; done)))); done))
  clear hE hEl
  rintro ⟨k, E⟩ ⟨hc3, hc4, hE, hEl⟩
  dsimp only at hc3 hc4 hE hEl ⊢
  rw [nodeL_eq a, nodeL_eq b]
  unfold boxD opsR
  by_cases hlt : k < b.kids.length
  · have hw : IntKind.i64.wrap ((k : Int) + 1) = (k : Int) + 1 := i64_nat (by omega) (by omega)
    have p1 := Itoa_AC k (by omega)
    have p2 := stepBehind_AC .loose p (txt (dig1 k)) (by omega)
    have hcy := node_clo b.kids[k]
    have hput := put_ACG .loose 1 (p ++ [txt (dig1 k)]) b.kids[k] (hsm _ (List.getElem_mem hlt)) (by rw [List.length_append, List.length_singleton]; omega) E hE (by omega)
    unfold nodeA at hput hcy
    rw [nodeL_eq b.kids[k]] at hput
    rw [nodeL_eq] at hcy
    generalize txt (dig1 k) = st at *
    (repeat (first | with_reducible refine AW.seq ?_ | ((first | refine arun_kn 4 rfl (fun C hC => ?_) | refine arunD_kn 4 rfl (fun C hC => ?_)); (repeat ((conv => whnf); simp [hlt])); refine hC _ ?_; clear hC C; simp only [List.drop, Nat.reduceAdd]) | ((first | refine arun_kn 1 rfl (fun C hC => ?_) | refine arunD_kn 1 rfl (fun C hC => ?_)); (repeat ((conv => whnf); simp [hlt])); refine hC _ ?_; clear hC C; simp only [List.drop, Nat.reduceAdd]) | (refine arun_skip ?_ ?_; (focus (simp [awant, hlt]; done))) | (refine arunD_skip ?_ ?_; (focus (simp [awant, hlt]; done))) | (refine AW.regionK [] (fun K hK => ?_)) | (refine AW.condT ?_ ?_; (focus (simp [aev, hlt]; done))) | (refine AW.condF ?_ ?_; (focus (simp [aev, hlt]; done))) | with_reducible refine AW.block ?_ | ((first | ((first | refine arun_nil ?_ | refine arunD_nil ?_); refine hK _ ?_; clear hK K) | refine AW.skip ?_ | refine AW.exit ?_ | refine AW.ret ?_); simp only [thenA_exit, inBlockA_exit, if_true, if_false, Nat.reduceEqDiff, thenA_normal, inBlockA_normal, reduceIte, thenA_ret, inBlockA_ret, endQ_ret, endR_ret, endG_ret, endQ_normal, endR_normal, endG_normal])))
    refine AW.regionDK [] (pcs [(3, 0, fun r => r = .str st), (4, 0, fun r => r = .view .loose 1 (strsE (p ++ [st])))] [1010]) (by kernel_rfl) (by kernel_rfl) (fun K hK => ?_)
    (repeat (first | with_reducible refine AW.seq ?_ | ((first | refine arun_kn 4 rfl (fun C hC => ?_) | refine arunD_kn 4 rfl (fun C hC => ?_)); (repeat ((conv => whnf); simp [hlt])); refine hC _ ?_; clear hC C; simp only [List.drop, Nat.reduceAdd]) | ((first | refine arun_kn 1 rfl (fun C hC => ?_) | refine arunD_kn 1 rfl (fun C hC => ?_)); (repeat ((conv => whnf); simp [hlt])); refine hC _ ?_; clear hC C; simp only [List.drop, Nat.reduceAdd]) | (refine arun_skip ?_ ?_; (focus (simp [awant, hlt]; done))) | (refine arun_c0 (p1) ?_; rintro _ rfl) | (refine arun_c0 (p2) ?_; rintro _ rfl) | (refine arunD_skip ?_ ?_; (focus (simp [awant, hlt]; done))) | (refine arunD_cE (0) (p1) (by exact ⟨_, rfl, in_str⟩) ?_; rintro _ rfl; intro _) | (refine arunD_cE (0) (p2) (by exact ⟨_, rfl, strs_in _⟩) ?_; rintro _ rfl; intro _) | (refine AW.regionK [] (fun K hK => ?_)) | (refine AW.regionDK [] (pcs [] []) (by kernel_rfl) (by kernel_rfl) (fun K hK => ?_)) | (refine AW.condT ?_ ?_; (focus (simp [aev, hlt]; done))) | (refine AW.condF ?_ ?_; (focus (simp [aev, hlt]; done))) | with_reducible refine AW.block ?_ | ((first | ((first | refine arun_nil ?_ | refine arunD_nil ?_); refine hK _ ?_; clear hK K) | refine AW.skip ?_ | refine AW.exit ?_ | refine AW.ret ?_); simp only [thenA_exit, inBlockA_exit, if_true, if_false, Nat.reduceEqDiff, thenA_normal, inBlockA_normal, reduceIte, thenA_ret, inBlockA_ret, endQ_ret, endR_ret, endG_ret, endQ_normal, endR_normal, endG_normal])))
    refine arunD_callDf hE 1000 50 74 (hac := hput) (h1 := by simp [rowsOf_cons, upd, boxD]) (h2 := by simp [rowsOf_cons, upd, opsR]) (hd := by decide) (hB := by decide) (uB := by simp [usedOf_cons, usedOf_nil, upd]) (hl := rfl) (hw := by simp [awant]) (ha := rfl) (hargs := .cons (.base (.ptr (by simp [rowsDf]) rfl)) (.cons (.base (.clo (Clo.cloTo clo_int))) (.cons (.base (.clo (Clo.cloTo (strs_clo _)))) (.cons (.base (.clo (Clo.cloTo hcy))) .nil)))) (hcan := by (first | exact can_of (Nat.zero_le _) | (simp only [ASt.put, ASt.pay, Option.map_map, Function.comp_def]; exact can_of (Nat.zero_le _)))) (h := ?_)
    intro E' hE' hl'
    (repeat (first | with_reducible refine AW.seq ?_ | ((first | refine arun_kn 4 rfl (fun C hC => ?_) | refine arunD_kn 4 rfl (fun C hC => ?_)); (repeat ((conv => whnf); simp [hw, backD, rowsDf, nuD])); refine hC _ ?_; clear hC C; simp only [List.drop, Nat.reduceAdd]) | ((first | refine arun_kn 1 rfl (fun C hC => ?_) | refine arunD_kn 1 rfl (fun C hC => ?_)); (repeat ((conv => whnf); simp [hw, backD, rowsDf, nuD])); refine hC _ ?_; clear hC C; simp only [List.drop, Nat.reduceAdd]) | (refine arun_skip ?_ ?_; (focus (simp [awant, hw, backD, rowsDf, nuD]; done))) | (refine arunD_skip ?_ ?_; (focus (simp [awant, hw, backD, rowsDf, nuD]; done))) | (refine AW.regionK [] (fun K hK => ?_)) | (refine AW.regionDK [] (pcs [] []) (by kernel_rfl) (by kernel_rfl) (fun K hK => ?_)) | (refine AW.condT ?_ ?_; (focus (simp [aev, hw, backD, rowsDf, nuD]; done))) | (refine AW.condF ?_ ?_; (focus (simp [aev, hw, backD, rowsDf, nuD]; done))) | with_reducible refine AW.block ?_ | ((first | ((first | refine arun_nil ?_ | refine arunD_nil ?_); refine hK _ ?_; clear hK K) | refine AW.skip ?_ | refine AW.exit ?_ | refine AW.ret ?_); simp only [thenA_exit, inBlockA_exit, if_true, if_false, Nat.reduceEqDiff, thenA_normal, inBlockA_normal, reduceIte, thenA_ret, inBlockA_ret, endQ_ret, endR_ret, endG_ret, endQ_normal, endR_normal, endG_normal])))
    refine ⟨(k + 1, E'), by dsimp only; omega, ⟨by dsimp only; omega, by dsimp only; omega, hE', by dsimp only; omega⟩, ?_⟩
    dsimp only
    have hin := hE'.in
    have hs := fun id m c => hE'.sub (id := id) (m := m) (c := c)
    refine Less.trans (s' := mkSt (slots 0 75 [(0, .ptr true 1 1 1000 0 0), (3, .view .loose 1 (strsE p)), (5, .ptr true 5 1 5 0 0), (6, .ptr true 5 1 6 0 0), (8, .int .i64 i), (11, .int .i64 ((k : Int) + 1))]) [(5, ⟨true, 33, 5, [[.int .i64 a.kind, .int .i64 a.num, .str a.text, .view .loose 1 (strsE a.names), .view .loose 5 (a.kids.map nodeL)]]⟩), (6, ⟨true, 33, 5, [[.int .i64 b.kind, .int .i64 b.num, .str b.text, .view .loose 1 (strsE b.names), .view .loose 5 (b.kids.map nodeL)]]⟩), (1000, boxD 74 E'.length), (74, opsR E')] [5, 6, 74] (rd0.map fun _ => 0)) (less_of (by simp [lessL, mkSt, slots, boxD, opsR, rowsDf, backD]) (by simp [upd, mkSt, rowsOf_cons, boxD, opsR, rowsDf, backD]) (by simp [upd, mkSt, usedOf_cons, boxD, opsR, rowsDf, backD]) (by first | exact rd_less (by omega) | simp [mkSt, boxD, opsR, rowsDf, backD]) (by simp [slots, in_any, in_int, in_bool, in_str, in_ptr, in_own, in_agg, in_vnil, in_rdr, usedOf_cons, usedOf_nil, strs_in, ints_in, nodes_in, in_tup, boxD, opsR, rowsDf, backD]) (by simp only [List.forall_mem_cons, List.not_mem_nil, false_implies, implies_true, and_true, true_and, boxD, opsR, rowsDf, backD]; (repeat (first | with_reducible exact trivial | with_reducible refine And.intro ?_ ?_ | with_reducible exact in_int | with_reducible exact in_str | with_reducible exact in_bool | with_reducible exact strs_in _ | with_reducible exact nodes_in _ | with_reducible exact items_in _ | with_reducible exact in_vnil | with_reducible exact in_any | exact hin _ | with_reducible refine take_in ?_ | with_reducible exact strsE_in _ | with_reducible exact nodesE_in _ | with_reducible exact nodeL_in _ | with_reducible exact itemsE_in _ | with_reducible exact itemL_in _ | with_reducible refine app_in ?_ ?_ | with_reducible refine sing_in ?_ | (focus (simp [in_any, in_int, in_bool, in_str, in_ptr, in_own, in_agg, in_vnil, in_rdr, usedOf_cons, usedOf_nil, strs_in, ints_in, nodes_in, boxD, opsR, rowsDf, backD]; done)))); done)) (Less.trans (Less.rename 74 50 (by simp [mkSt, usedOf_cons, usedOf_nil])) ?_)
    simp only [ASt.rename, mkSt, rowsOf_cons, Nat.reduceEqDiff, if_true, if_false, reduceIte, upd, boxD, opsR]
    exact (less_of (by simp [lessL, mkSt, slots, AV.subL, AV.sub, Row.sub, rowsOf_nil, strsE_sub, nodesE_sub, strsE_len, boxD, opsR, hs]) (by simp [upd, mkSt, rowsOf_cons, AV.subL, AV.sub, Row.sub, rowsOf_nil, strsE_sub, nodesE_sub, strsE_len, boxD, opsR, hs]) (by simp [upd, mkSt, usedOf_cons, AV.subL, AV.sub, Row.sub, rowsOf_nil, strsE_sub, nodesE_sub, strsE_len, boxD, opsR, hs]) (by first | exact rd_less (by omega) | simp [mkSt, AV.subL, AV.sub, Row.sub, rowsOf_nil, strsE_sub, nodesE_sub, strsE_len, boxD, opsR, hs]) (by simp [slots, in_any, in_int, in_bool, in_str, in_ptr, in_own, in_agg, in_vnil, in_rdr, usedOf_cons, usedOf_nil, strs_in, ints_in, nodes_in, in_tup, AV.subL, AV.sub, Row.sub, rowsOf_nil, strsE_sub, nodesE_sub, strsE_len, boxD, opsR, hs]) (by simp only [List.forall_mem_cons, List.not_mem_nil, false_implies, implies_true, and_true, true_and, AV.subL, AV.sub, Row.sub, rowsOf_nil, strsE_sub, nodesE_sub, strsE_len, boxD, opsR, hs]; (repeat (first | with_reducible exact trivial | with_reducible refine And.intro ?_ ?_ | with_reducible exact in_int | with_reducible exact in_str | with_reducible exact in_bool | with_reducible exact strs_in _ | with_reducible exact nodes_in _ | with_reducible exact items_in _ | with_reducible exact in_vnil | with_reducible exact in_any | exact hin _ | with_reducible refine take_in ?_ | with_reducible exact strsE_in _ | with_reducible exact nodesE_in _ | with_reducible exact nodeL_in _ | with_reducible exact itemsE_in _ | with_reducible exact itemL_in _ | with_reducible refine app_in ?_ ?_ | with_reducible refine sing_in ?_ | (focus (simp [in_any, in_int, in_bool, in_str, in_ptr, in_own, in_agg, in_vnil, in_rdr, usedOf_cons, usedOf_nil, strs_in, ints_in, nodes_in, AV.subL, AV.sub, Row.sub, rowsOf_nil, strsE_sub, nodesE_sub, strsE_len, boxD, opsR, hs]; done)))); done))
  · obtain rfl : k = b.kids.length := by omega
    (repeat (first | with_reducible refine AW.seq ?_ | ((first | refine arun_kn 4 rfl (fun C hC => ?_) | refine arunD_kn 4 rfl (fun C hC => ?_)); (repeat ((conv => whnf); simp)); refine hC _ ?_; clear hC C; simp only [List.drop, Nat.reduceAdd]) | ((first | refine arun_kn 1 rfl (fun C hC => ?_) | refine arunD_kn 1 rfl (fun C hC => ?_)); (repeat ((conv => whnf); simp)); refine hC _ ?_; clear hC C; simp only [List.drop, Nat.reduceAdd]) | (refine arun_skip ?_ ?_; (focus (simp [awant]; done))) | (refine arunD_skip ?_ ?_; (focus (simp [awant]; done))) | (refine AW.regionK [] (fun K hK => ?_)) | (refine AW.regionDK [] (pcs [] []) (by kernel_rfl) (by kernel_rfl) (fun K hK => ?_)) | (refine AW.condT ?_ ?_; (focus (simp [aev]; done))) | (refine AW.condF ?_ ?_; (focus (simp [aev]; done))) | with_reducible refine AW.block ?_ | ((first | ((first | refine arun_nil ?_ | refine arunD_nil ?_); refine hK _ ?_; clear hK K) | refine AW.skip ?_ | refine AW.exit ?_ | refine AW.ret ?_); simp only [thenA_exit, inBlockA_exit, if_true, if_false, Nat.reduceEqDiff, thenA_normal, inBlockA_normal, reduceIte, thenA_ret, inBlockA_ret, endQ_ret, endR_ret, endG_ret, endQ_normal, endR_normal, endG_normal])))
    refine ⟨.tup [], [(1000, boxD 50 E.length), (50, opsR E)], by simp [ares, aresL], ?_, purR_tup (fun _ h => by cases h), purD hE, ⟨in_tup.2 (fun _ h => by cases h), inD' hE⟩, endDf hE (by omega) 50 (by decide)⟩
    unfold boxD opsR
    simp only [List.forall_mem_cons, List.not_mem_nil, false_implies, implies_true, and_true]
    exact ⟨rfl, rfl⟩
end Go.Proofs.YtmmaanbppheabaaDoor.Eng
-- EV: skip
namespace Go.Proofs.YtmmaanbppheabaaDoor.Eng
open Go Go.RowKit
attribute [local simp] big size_mk ASt.pay Option.map_map Function.comp_def awant aop acall ado aev ofVal ofVal0 ASt.put ASt.add ASt.turn ASt.kill abox aalloc astore aload aloadD astoreD idOf ASt.at cellsTo afieldAddr afield aindexAddr aindex alen abin aint acmp astr aun apick aextract anil aslice abound abuild afill abuildSlice asCells aps avCells over upd aappend asrc amax amin aconv mkSt slots rowsOf_cons rowsOf_nil usedOf_cons usedOf_nil ZK.av List.replicate ASt.back ASt.addL ASt.killL nodeA nodeT nodeTL_eq nodeL_eq strsE_get strsE_len intsE_get intsE_len strsE_at intsE_at tab2 tab3 tab4 tab5 tab6 tab7 tab8 tab9 tab10 tab11 tab12 tab13 tab14 tab15 tab16 tab17 tab18 tab19 tab21 tab22 tab23 tab24 tab25 tab26 tab27 tab31 tab32 tab33 tab35 tab36 tab41 tab58 tab67 tab69 tab70 tab81 tab82 tab85 tab86 tab92 tab93 tab95 tab105 tab111 tab117 tab124 tab125 tab130 tab131 tab133 tab134 tab135
set_option maxRecDepth 100000
set_option maxHeartbeats 16000000
theorem visit_step (d : Nat) (a b : Nd) (ha : shapeB a (d + 1) = true) (hb : shapeB b (d + 1) = true) (ka : a.count ≤ 40) (kb : b.count ≤ 40) (ih : ∀ x y, shapeB x d = true → shapeB y d = true → x.count ≤ 40 → y.count ≤ 40 → VisC d x y) : VisC (d + 1) a b := by
  intro p es hp hes hle
  have sa : Shp a := ⟨_, ha⟩
  have sb : Shp b := ⟨_, hb⟩
  have kid : ∀ n : Nd, shapeB n (d + 1) = true → ∀ x ∈ n.kids, shapeB x d = true := fun n hn x hx => by
    rw [shapeB_eq] at hn
    simp only [Bool.and_eq_true] at hn
    have h := hn.2
    rw [shapeL_all, List.all_eq_true] at h
    exact h x hx
  have ihk : ∀ x ∈ a.kids, ∀ y ∈ b.kids, VisC d x y := fun x hx y hy => ih x y (kid a ha x hx) (kid b hb y hy) (by have := count_kid hx; omega) (by have := count_kid hy; omega)
  have pS := sameNode_AC a b ⟨_, ha⟩ ⟨_, hb⟩
  have hca := node_clo a
  have hcb := node_clo b
  have hM := fun h4a h4b => visitMaps_ACG d a b sa sb ka kb h4a h4b ihk p hp es hes
  have hL := visitLists_ACG d a b sa sb ihk p hp es hes
  have hP := put_ACG .loose 3 p b sb.sml (by omega) es hes
  clear ihk kid ih ha hb
  unfold difD at hle ⊢
  unfold nodeA at *
  rw [nodeL_eq a, nodeL_eq b] at pS
  rw [nodeL_eq a] at hca
  rw [nodeL_eq b] at hcb hP
  rw [nodeL_eq a, nodeL_eq b] at hL
  cases hc : cmpN a b == 0
  rotate_left
  · rw [hc] at pS
    rw [if_pos rfl]
    unfold rowsDf boxD opsR
    rw [nodeL_eq a, nodeL_eq b]
    refine ACG.of tab_ok mixed_ok Tryd.func48 (by rfl) (by kernel_rfl) (by simp) ?_; rintro ⟨P, T, hT, hm, w0, S0, rd0, k0⟩ hP hTT; dsimp only at hP hTT; subst hP hTT; unfold initStG; rw [Tryd.ntmps48]
    (repeat (first | with_reducible refine AW.seq ?_ | ((first | refine arun_kn 4 rfl (fun C hC => ?_) | refine arunD_kn 4 rfl (fun C hC => ?_)); (repeat ((conv => whnf); simp)); refine hC _ ?_; clear hC C; simp only [List.drop, Nat.reduceAdd]) | ((first | refine arun_kn 1 rfl (fun C hC => ?_) | refine arunD_kn 1 rfl (fun C hC => ?_)); (repeat ((conv => whnf); simp)); refine hC _ ?_; clear hC C; simp only [List.drop, Nat.reduceAdd]) | (refine arun_skip ?_ ?_; (focus (simp [awant]; done))) | (refine arun_c0 (pS) ?_; rintro _ rfl) | (refine arunD_skip ?_ ?_; (focus (simp [awant]; done))) | (refine AW.regionK [] (fun K hK => ?_)) | (refine AW.regionDK [] (pcs [] []) (by kernel_rfl) (by kernel_rfl) (fun K hK => ?_)) | (refine AW.condT ?_ ?_; (focus (simp [aev]; done))) | (refine AW.condF ?_ ?_; (focus (simp [aev]; done))) | with_reducible refine AW.block ?_ | ((first | ((first | refine arun_nil ?_ | refine arunD_nil ?_); refine hK _ ?_; clear hK K) | refine AW.skip ?_ | refine AW.exit ?_ | refine AW.ret ?_); simp only [thenA_exit, inBlockA_exit, if_true, if_false, Nat.reduceEqDiff, thenA_normal, inBlockA_normal, reduceIte, thenA_ret, inBlockA_ret, endQ_ret, endR_ret, endG_ret, endQ_normal, endR_normal, endG_normal])))
    refine ⟨.tup [], [(1000, boxD 1001 es.length), (1001, opsR es)], by simp [ares, aresL], ?_, purR_tup (fun _ h => by cases h), purD hes, ⟨in_tup.2 (fun _ h => by cases h), inD' hes⟩, endDf hes rfl 1001 (by decide)⟩
    unfold boxD opsR
    simp only [List.forall_mem_cons, List.not_mem_nil, false_implies, implies_true, and_true]
    exact ⟨rfl, rfl⟩
  rw [hc] at pS hle
  rw [if_neg (by simp)] at hle ⊢
  by_cases hmk : a.kind = 4 ∧ b.kind = 4
  · rw [if_pos hmk] at hle ⊢
    have hMM := hM hmk.1 hmk.2 hle
    rw [nodeL_eq a, nodeL_eq b] at hMM
    have f1 : (a.kind == 4) = true := by simpa using hmk.1
    have f2 : (b.kind == 4) = true := by simpa using hmk.2
    clear hM hL hP
    unfold rowsDf boxD opsR
    rw [nodeL_eq a, nodeL_eq b]
    refine ACG.of tab_ok mixed_ok Tryd.func48 (by rfl) (by kernel_rfl) (by simp) ?_; rintro ⟨P, T, hT, hm, w0, S0, rd0, k0⟩ hP hTT; dsimp only at hP hTT; subst hP hTT; unfold initStG; rw [Tryd.ntmps48]
    (repeat (first | with_reducible refine AW.seq ?_ | ((first | refine arun_kn 4 rfl (fun C hC => ?_) | refine arunD_kn 4 rfl (fun C hC => ?_)); (repeat ((conv => whnf); simp [f1, f2])); refine hC _ ?_; clear hC C; simp only [List.drop, Nat.reduceAdd]) | ((first | refine arun_kn 1 rfl (fun C hC => ?_) | refine arunD_kn 1 rfl (fun C hC => ?_)); (repeat ((conv => whnf); simp [f1, f2])); refine hC _ ?_; clear hC C; simp only [List.drop, Nat.reduceAdd]) | (refine arun_skip ?_ ?_; (focus (simp [awant, f1, f2]; done))) | (refine arun_c0 (pS) ?_; rintro _ rfl) | (refine arunD_skip ?_ ?_; (focus (simp [awant, f1, f2]; done))) | (refine AW.regionK [] (fun K hK => ?_)) | (refine AW.regionDK [] (pcs [] []) (by kernel_rfl) (by kernel_rfl) (fun K hK => ?_)) | (refine AW.condT ?_ ?_; (focus (simp [aev, f1, f2]; done))) | (refine AW.condF ?_ ?_; (focus (simp [aev, f1, f2]; done))) | with_reducible refine AW.block ?_ | ((first | ((first | refine arun_nil ?_ | refine arunD_nil ?_); refine hK _ ?_; clear hK K) | refine AW.skip ?_ | refine AW.exit ?_ | refine AW.ret ?_); simp only [thenA_exit, inBlockA_exit, if_true, if_false, Nat.reduceEqDiff, thenA_normal, inBlockA_normal, reduceIte, thenA_ret, inBlockA_ret, endQ_ret, endR_ret, endG_ret, endQ_normal, endR_normal, endG_normal])))
    refine arun_callDf hes 1000 1001 29 (hac := hMM) (h1 := by simp [rowsOf_cons, upd, boxD]) (h2 := by simp [rowsOf_cons, upd, opsR]) (hd := by decide) (hB := by decide) (uB := by simp [usedOf_cons, usedOf_nil, upd]) (hw := by simp [awant]) (ha := rfl) (hargs := .cons (.base (.ptr (by simp [rowsDf]) rfl)) (.cons (.base (.clo (Clo.cloTo hca))) (.cons (.base (.clo (Clo.cloTo hcb))) (.cons (.base (.clo (Clo.cloTo (strs_clo _)))) .nil)))) (hcan := by (first | exact can_of (Nat.zero_le _) | (simp only [ASt.put, ASt.pay, Option.map_map, Function.comp_def]; exact can_of (Nat.zero_le _)))) (h := ?_)
    intro E' hE' hl'
    (repeat (first | with_reducible refine AW.seq ?_ | ((first | refine arun_kn 4 rfl (fun C hC => ?_) | refine arunD_kn 4 rfl (fun C hC => ?_)); (repeat ((conv => whnf); simp [backD, rowsDf, nuD])); refine hC _ ?_; clear hC C; simp only [List.drop, Nat.reduceAdd]) | ((first | refine arun_kn 1 rfl (fun C hC => ?_) | refine arunD_kn 1 rfl (fun C hC => ?_)); (repeat ((conv => whnf); simp [backD, rowsDf, nuD])); refine hC _ ?_; clear hC C; simp only [List.drop, Nat.reduceAdd]) | (refine arun_skip ?_ ?_; (focus (simp [awant, backD, rowsDf, nuD]; done))) | (refine arunD_skip ?_ ?_; (focus (simp [awant, backD, rowsDf, nuD]; done))) | (refine AW.regionK [] (fun K hK => ?_)) | (refine AW.regionDK [] (pcs [] []) (by kernel_rfl) (by kernel_rfl) (fun K hK => ?_)) | (refine AW.condT ?_ ?_; (focus (simp [aev, backD, rowsDf, nuD]; done))) | (refine AW.condF ?_ ?_; (focus (simp [aev, backD, rowsDf, nuD]; done))) | with_reducible refine AW.block ?_ | ((first | ((first | refine arun_nil ?_ | refine arunD_nil ?_); refine hK _ ?_; clear hK K) | refine AW.skip ?_ | refine AW.exit ?_ | refine AW.ret ?_); simp only [thenA_exit, inBlockA_exit, if_true, if_false, Nat.reduceEqDiff, thenA_normal, inBlockA_normal, reduceIte, thenA_ret, inBlockA_ret, endQ_ret, endR_ret, endG_ret, endQ_normal, endR_normal, endG_normal])))
    refine ⟨.tup [], [(1000, boxD 29 E'.length), (29, opsR E')], by simp [ares, aresL], ?_, purR_tup (fun _ h => by cases h), purD hE', ⟨in_tup.2 (fun _ h => by cases h), inD' hE'⟩, endDf hE' hl' 29 (by decide)⟩
    unfold boxD opsR
    simp only [List.forall_mem_cons, List.not_mem_nil, false_implies, implies_true, and_true]
    exact ⟨rfl, rfl⟩
  rw [if_neg hmk] at hle ⊢
  by_cases hl : a.kind = 3 ∧ b.kind = 3
  · rw [if_pos hl] at hle ⊢
    have hLL := hL hle
    have f1 : (a.kind == 4) = false := by rw [hl.1]; rfl
    have f2 : (a.kind == 3) = true := by simpa using hl.1
    have f3 : (b.kind == 3) = true := by simpa using hl.2
    clear hM hL hP
    unfold rowsDf boxD opsR
    rw [nodeL_eq a, nodeL_eq b]
    refine ACG.of tab_ok mixed_ok Tryd.func48 (by rfl) (by kernel_rfl) (by simp) ?_; rintro ⟨P, T, hT, hm, w0, S0, rd0, k0⟩ hP hTT; dsimp only at hP hTT; subst hP hTT; unfold initStG; rw [Tryd.ntmps48]
    (repeat (first | with_reducible refine AW.seq ?_ | ((first | refine arun_kn 4 rfl (fun C hC => ?_) | refine arunD_kn 4 rfl (fun C hC => ?_)); (repeat ((conv => whnf); simp [f1, f2, f3])); refine hC _ ?_; clear hC C; simp only [List.drop, Nat.reduceAdd]) | ((first | refine arun_kn 1 rfl (fun C hC => ?_) | refine arunD_kn 1 rfl (fun C hC => ?_)); (repeat ((conv => whnf); simp [f1, f2, f3])); refine hC _ ?_; clear hC C; simp only [List.drop, Nat.reduceAdd]) | (refine arun_skip ?_ ?_; (focus (simp [awant, f1, f2, f3]; done))) | (refine arun_c0 (pS) ?_; rintro _ rfl) | (refine arunD_skip ?_ ?_; (focus (simp [awant, f1, f2, f3]; done))) | (refine AW.regionK [] (fun K hK => ?_)) | (refine AW.regionDK [] (pcs [] []) (by kernel_rfl) (by kernel_rfl) (fun K hK => ?_)) | (refine AW.condT ?_ ?_; (focus (simp [aev, f1, f2, f3]; done))) | (refine AW.condF ?_ ?_; (focus (simp [aev, f1, f2, f3]; done))) | with_reducible refine AW.block ?_ | ((first | ((first | refine arun_nil ?_ | refine arunD_nil ?_); refine hK _ ?_; clear hK K) | refine AW.skip ?_ | refine AW.exit ?_ | refine AW.ret ?_); simp only [thenA_exit, inBlockA_exit, if_true, if_false, Nat.reduceEqDiff, thenA_normal, inBlockA_normal, reduceIte, thenA_ret, inBlockA_ret, endQ_ret, endR_ret, endG_ret, endQ_normal, endR_normal, endG_normal])))
    refine arun_callDf hes 1000 1001 43 (hac := hLL) (h1 := by simp [rowsOf_cons, upd, boxD]) (h2 := by simp [rowsOf_cons, upd, opsR]) (hd := by decide) (hB := by decide) (uB := by simp [usedOf_cons, usedOf_nil, upd]) (hw := by simp [awant]) (ha := rfl) (hargs := .cons (.base (.ptr (by simp [rowsDf]) rfl)) (.cons (.base (.clo (Clo.cloTo hca))) (.cons (.base (.clo (Clo.cloTo hcb))) (.cons (.base (.clo (Clo.cloTo (strs_clo _)))) .nil)))) (hcan := by (first | exact can_of (Nat.zero_le _) | (simp only [ASt.put, ASt.pay, Option.map_map, Function.comp_def]; exact can_of (Nat.zero_le _)))) (h := ?_)
    intro E' hE' hl'
    (repeat (first | with_reducible refine AW.seq ?_ | ((first | refine arun_kn 4 rfl (fun C hC => ?_) | refine arunD_kn 4 rfl (fun C hC => ?_)); (repeat ((conv => whnf); simp [backD, rowsDf, nuD])); refine hC _ ?_; clear hC C; simp only [List.drop, Nat.reduceAdd]) | ((first | refine arun_kn 1 rfl (fun C hC => ?_) | refine arunD_kn 1 rfl (fun C hC => ?_)); (repeat ((conv => whnf); simp [backD, rowsDf, nuD])); refine hC _ ?_; clear hC C; simp only [List.drop, Nat.reduceAdd]) | (refine arun_skip ?_ ?_; (focus (simp [awant, backD, rowsDf, nuD]; done))) | (refine arunD_skip ?_ ?_; (focus (simp [awant, backD, rowsDf, nuD]; done))) | (refine AW.regionK [] (fun K hK => ?_)) | (refine AW.regionDK [] (pcs [] []) (by kernel_rfl) (by kernel_rfl) (fun K hK => ?_)) | (refine AW.condT ?_ ?_; (focus (simp [aev, backD, rowsDf, nuD]; done))) | (refine AW.condF ?_ ?_; (focus (simp [aev, backD, rowsDf, nuD]; done))) | with_reducible refine AW.block ?_ | ((first | ((first | refine arun_nil ?_ | refine arunD_nil ?_); refine hK _ ?_; clear hK K) | refine AW.skip ?_ | refine AW.exit ?_ | refine AW.ret ?_); simp only [thenA_exit, inBlockA_exit, if_true, if_false, Nat.reduceEqDiff, thenA_normal, inBlockA_normal, reduceIte, thenA_ret, inBlockA_ret, endQ_ret, endR_ret, endG_ret, endQ_normal, endR_normal, endG_normal])))
    refine ⟨.tup [], [(1000, boxD 43 E'.length), (43, opsR E')], by simp [ares, aresL], ?_, purR_tup (fun _ h => by cases h), purD hE', ⟨in_tup.2 (fun _ h => by cases h), inD' hE'⟩, endDf hE' hl' 43 (by decide)⟩
    unfold boxD opsR
    simp only [List.forall_mem_cons, List.not_mem_nil, false_implies, implies_true, and_true]
    exact ⟨rfl, rfl⟩
  rw [if_neg hl] at hle ⊢
  have hPP := hP hle
  clear hM hL hP
  unfold rowsDf boxD opsR
  rw [nodeL_eq a, nodeL_eq b]
  refine ACG.of tab_ok mixed_ok Tryd.func48 (by rfl) (by kernel_rfl) (by simp) ?_; rintro ⟨P, T, hT, hm, w0, S0, rd0, k0⟩ hP hTT; dsimp only at hP hTT; subst hP hTT; unfold initStG; rw [Tryd.ntmps48]
  cases f1 : a.kind == 4
  · cases f3 : a.kind == 3
    · (repeat (first | with_reducible refine AW.seq ?_ | ((first | refine arun_kn 4 rfl (fun C hC => ?_) | refine arunD_kn 4 rfl (fun C hC => ?_)); (repeat ((conv => whnf); simp [f1, f3])); refine hC _ ?_; clear hC C; simp only [List.drop, Nat.reduceAdd]) | ((first | refine arun_kn 1 rfl (fun C hC => ?_) | refine arunD_kn 1 rfl (fun C hC => ?_)); (repeat ((conv => whnf); simp [f1, f3])); refine hC _ ?_; clear hC C; simp only [List.drop, Nat.reduceAdd]) | (refine arun_skip ?_ ?_; (focus (simp [awant, f1, f3]; done))) | (refine arun_c0 (pS) ?_; rintro _ rfl) | (refine arunD_skip ?_ ?_; (focus (simp [awant, f1, f3]; done))) | (refine AW.regionK [] (fun K hK => ?_)) | (refine AW.regionDK [] (pcs [] []) (by kernel_rfl) (by kernel_rfl) (fun K hK => ?_)) | (refine AW.condT ?_ ?_; (focus (simp [aev, f1, f3]; done))) | (refine AW.condF ?_ ?_; (focus (simp [aev, f1, f3]; done))) | with_reducible refine AW.block ?_ | ((first | ((first | refine arun_nil ?_ | refine arunD_nil ?_); refine hK _ ?_; clear hK K) | refine AW.skip ?_ | refine AW.exit ?_ | refine AW.ret ?_); simp only [thenA_exit, inBlockA_exit, if_true, if_false, Nat.reduceEqDiff, thenA_normal, inBlockA_normal, reduceIte, thenA_ret, inBlockA_ret, endQ_ret, endR_ret, endG_ret, endQ_normal, endR_normal, endG_normal])))
      refine arun_callDf hes 1000 1001 11 (hac := hPP) (h1 := by simp [rowsOf_cons, upd, boxD]) (h2 := by simp [rowsOf_cons, upd, opsR]) (hd := by decide) (hB := by decide) (uB := by simp [usedOf_cons, usedOf_nil, upd]) (hw := by simp [awant]) (ha := rfl) (hargs := .cons (.base (.ptr (by simp [rowsDf]) rfl)) (.cons (.base (.clo (Clo.cloTo clo_int))) (.cons (.base (.clo (Clo.cloTo (strs_clo _)))) (.cons (.base (.clo (Clo.cloTo hcb))) .nil)))) (hcan := by (first | exact can_of (Nat.zero_le _) | (simp only [ASt.put, ASt.pay, Option.map_map, Function.comp_def]; exact can_of (Nat.zero_le _)))) (h := ?_)
      intro E' hE' hl'
      (repeat (first | with_reducible refine AW.seq ?_ | ((first | refine arun_kn 4 rfl (fun C hC => ?_) | refine arunD_kn 4 rfl (fun C hC => ?_)); (repeat ((conv => whnf); simp [backD, rowsDf, nuD])); refine hC _ ?_; clear hC C; simp only [List.drop, Nat.reduceAdd]) | ((first | refine arun_kn 1 rfl (fun C hC => ?_) | refine arunD_kn 1 rfl (fun C hC => ?_)); (repeat ((conv => whnf); simp [backD, rowsDf, nuD])); refine hC _ ?_; clear hC C; simp only [List.drop, Nat.reduceAdd]) | (refine arun_skip ?_ ?_; (focus (simp [awant, backD, rowsDf, nuD]; done))) | (refine arunD_skip ?_ ?_; (focus (simp [awant, backD, rowsDf, nuD]; done))) | (refine AW.regionK [] (fun K hK => ?_)) | (refine AW.regionDK [] (pcs [] []) (by kernel_rfl) (by kernel_rfl) (fun K hK => ?_)) | (refine AW.condT ?_ ?_; (focus (simp [aev, backD, rowsDf, nuD]; done))) | (refine AW.condF ?_ ?_; (focus (simp [aev, backD, rowsDf, nuD]; done))) | with_reducible refine AW.block ?_ | ((first | ((first | refine arun_nil ?_ | refine arunD_nil ?_); refine hK _ ?_; clear hK K) | refine AW.skip ?_ | refine AW.exit ?_ | refine AW.ret ?_); simp only [thenA_exit, inBlockA_exit, if_true, if_false, Nat.reduceEqDiff, thenA_normal, inBlockA_normal, reduceIte, thenA_ret, inBlockA_ret, endQ_ret, endR_ret, endG_ret, endQ_normal, endR_normal, endG_normal])))
      refine ⟨.tup [], [(1000, boxD 11 E'.length), (11, opsR E')], by simp [ares, aresL], ?_, purR_tup (fun _ h => by cases h), purD hE', ⟨in_tup.2 (fun _ h => by cases h), inD' hE'⟩, endDf hE' hl' 11 (by decide)⟩
      unfold boxD opsR
      simp only [List.forall_mem_cons, List.not_mem_nil, false_implies, implies_true, and_true]
      exact ⟨rfl, rfl⟩
    · have f4 : (b.kind == 3) = false := by
        rw [beq_iff_eq] at f3
        simpa using fun h => hl ⟨f3, h⟩
      (repeat (first | with_reducible refine AW.seq ?_ | ((first | refine arun_kn 4 rfl (fun C hC => ?_) | refine arunD_kn 4 rfl (fun C hC => ?_)); (repeat ((conv => whnf); simp [f1, f3, f4])); refine hC _ ?_; clear hC C; simp only [List.drop, Nat.reduceAdd]) | ((first | refine arun_kn 1 rfl (fun C hC => ?_) | refine arunD_kn 1 rfl (fun C hC => ?_)); (repeat ((conv => whnf); simp [f1, f3, f4])); refine hC _ ?_; clear hC C; simp only [List.drop, Nat.reduceAdd]) | (refine arun_skip ?_ ?_; (focus (simp [awant, f1, f3, f4]; done))) | (refine arun_c0 (pS) ?_; rintro _ rfl) | (refine arunD_skip ?_ ?_; (focus (simp [awant, f1, f3, f4]; done))) | (refine AW.regionK [] (fun K hK => ?_)) | (refine AW.regionDK [] (pcs [] []) (by kernel_rfl) (by kernel_rfl) (fun K hK => ?_)) | (refine AW.condT ?_ ?_; (focus (simp [aev, f1, f3, f4]; done))) | (refine AW.condF ?_ ?_; (focus (simp [aev, f1, f3, f4]; done))) | with_reducible refine AW.block ?_ | ((first | ((first | refine arun_nil ?_ | refine arunD_nil ?_); refine hK _ ?_; clear hK K) | refine AW.skip ?_ | refine AW.exit ?_ | refine AW.ret ?_); simp only [thenA_exit, inBlockA_exit, if_true, if_false, Nat.reduceEqDiff, thenA_normal, inBlockA_normal, reduceIte, thenA_ret, inBlockA_ret, endQ_ret, endR_ret, endG_ret, endQ_normal, endR_normal, endG_normal])))
      refine arun_callDf hes 1000 1001 11 (hac := hPP) (h1 := by simp [rowsOf_cons, upd, boxD]) (h2 := by simp [rowsOf_cons, upd, opsR]) (hd := by decide) (hB := by decide) (uB := by simp [usedOf_cons, usedOf_nil, upd]) (hw := by simp [awant]) (ha := rfl) (hargs := .cons (.base (.ptr (by simp [rowsDf]) rfl)) (.cons (.base (.clo (Clo.cloTo clo_int))) (.cons (.base (.clo (Clo.cloTo (strs_clo _)))) (.cons (.base (.clo (Clo.cloTo hcb))) .nil)))) (hcan := by (first | exact can_of (Nat.zero_le _) | (simp only [ASt.put, ASt.pay, Option.map_map, Function.comp_def]; exact can_of (Nat.zero_le _)))) (h := ?_)
      intro E' hE' hl'
      (repeat (first | with_reducible refine AW.seq ?_ | ((first | refine arun_kn 4 rfl (fun C hC => ?_) | refine arunD_kn 4 rfl (fun C hC => ?_)); (repeat ((conv => whnf); simp [backD, rowsDf, nuD])); refine hC _ ?_; clear hC C; simp only [List.drop, Nat.reduceAdd]) | ((first | refine arun_kn 1 rfl (fun C hC => ?_) | refine arunD_kn 1 rfl (fun C hC => ?_)); (repeat ((conv => whnf); simp [backD, rowsDf, nuD])); refine hC _ ?_; clear hC C; simp only [List.drop, Nat.reduceAdd]) | (refine arun_skip ?_ ?_; (focus (simp [awant, backD, rowsDf, nuD]; done))) | (refine arunD_skip ?_ ?_; (focus (simp [awant, backD, rowsDf, nuD]; done))) | (refine AW.regionK [] (fun K hK => ?_)) | (refine AW.regionDK [] (pcs [] []) (by kernel_rfl) (by kernel_rfl) (fun K hK => ?_)) | (refine AW.condT ?_ ?_; (focus (simp [aev, backD, rowsDf, nuD]; done))) | (refine AW.condF ?_ ?_; (focus (simp [aev, backD, rowsDf, nuD]; done))) | with_reducible refine AW.block ?_ | ((first | ((first | refine arun_nil ?_ | refine arunD_nil ?_); refine hK _ ?_; clear hK K) | refine AW.skip ?_ | refine AW.exit ?_ | refine AW.ret ?_); simp only [thenA_exit, inBlockA_exit, if_true, if_false, Nat.reduceEqDiff, thenA_normal, inBlockA_normal, reduceIte, thenA_ret, inBlockA_ret, endQ_ret, endR_ret, endG_ret, endQ_normal, endR_normal, endG_normal])))
      refine ⟨.tup [], [(1000, boxD 11 E'.length), (11, opsR E')], by simp [ares, aresL], ?_, purR_tup (fun _ h => by cases h), purD hE', ⟨in_tup.2 (fun _ h => by cases h), inD' hE'⟩, endDf hE' hl' 11 (by decide)⟩
      unfold boxD opsR
      simp only [List.forall_mem_cons, List.not_mem_nil, false_implies, implies_true, and_true]
      exact ⟨rfl, rfl⟩
  · have f2 : (b.kind == 4) = false := by
      rw [beq_iff_eq] at f1
      simpa using fun h => hmk ⟨f1, h⟩
    have f3 : (a.kind == 3) = false := by
      rw [beq_iff_eq] at f1
      rw [f1]; rfl
    (repeat (first | with_reducible refine AW.seq ?_ | ((first | refine arun_kn 4 rfl (fun C hC => ?_) | refine arunD_kn 4 rfl (fun C hC => ?_)); (repeat ((conv => whnf); simp [f1, f2, f3])); refine hC _ ?_; clear hC C; simp only [List.drop, Nat.reduceAdd]) | ((first | refine arun_kn 1 rfl (fun C hC => ?_) | refine arunD_kn 1 rfl (fun C hC => ?_)); (repeat ((conv => whnf); simp [f1, f2, f3])); refine hC _ ?_; clear hC C; simp only [List.drop, Nat.reduceAdd]) | (refine arun_skip ?_ ?_; (focus (simp [awant, f1, f2, f3]; done))) | (refine arun_c0 (pS) ?_; rintro _ rfl) | (refine arunD_skip ?_ ?_; (focus (simp [awant, f1, f2, f3]; done))) | (refine AW.regionK [] (fun K hK => ?_)) | (refine AW.regionDK [] (pcs [] []) (by kernel_rfl) (by kernel_rfl) (fun K hK => ?_)) | (refine AW.condT ?_ ?_; (focus (simp [aev, f1, f2, f3]; done))) | (refine AW.condF ?_ ?_; (focus (simp [aev, f1, f2, f3]; done))) | with_reducible refine AW.block ?_ | ((first | ((first | refine arun_nil ?_ | refine arunD_nil ?_); refine hK _ ?_; clear hK K) | refine AW.skip ?_ | refine AW.exit ?_ | refine AW.ret ?_); simp only [thenA_exit, inBlockA_exit, if_true, if_false, Nat.reduceEqDiff, thenA_normal, inBlockA_normal, reduceIte, thenA_ret, inBlockA_ret, endQ_ret, endR_ret, endG_ret, endQ_normal, endR_normal, endG_normal])))
    refine arun_callDf hes 1000 1001 11 (hac := hPP) (h1 := by simp [rowsOf_cons, upd, boxD]) (h2 := by simp [rowsOf_cons, upd, opsR]) (hd := by decide) (hB := by decide) (uB := by simp [usedOf_cons, usedOf_nil, upd]) (hw := by simp [awant]) (ha := rfl) (hargs := .cons (.base (.ptr (by simp [rowsDf]) rfl)) (.cons (.base (.clo (Clo.cloTo clo_int))) (.cons (.base (.clo (Clo.cloTo (strs_clo _)))) (.cons (.base (.clo (Clo.cloTo hcb))) .nil)))) (hcan := by (first | exact can_of (Nat.zero_le _) | (simp only [ASt.put, ASt.pay, Option.map_map, Function.comp_def]; exact can_of (Nat.zero_le _)))) (h := ?_)
    intro E' hE' hl'
    (repeat (first | with_reducible refine AW.seq ?_ | ((first | refine arun_kn 4 rfl (fun C hC => ?_) | refine arunD_kn 4 rfl (fun C hC => ?_)); (repeat ((conv => whnf); simp [backD, rowsDf, nuD])); refine hC _ ?_; clear hC C; simp only [List.drop, Nat.reduceAdd]) | ((first | refine arun_kn 1 rfl (fun C hC => ?_) | refine arunD_kn 1 rfl (fun C hC => ?_)); (repeat ((conv => whnf); simp [backD, rowsDf, nuD])); refine hC _ ?_; clear hC C; simp only [List.drop, Nat.reduceAdd]) | (refine arun_skip ?_ ?_; (focus (simp [awant, backD, rowsDf, nuD]; done))) | (refine arunD_skip ?_ ?_; (focus (simp [awant, backD, rowsDf, nuD]; done))) | (refine AW.regionK [] (fun K hK => ?_)) | (refine AW.regionDK [] (pcs [] []) (by kernel_rfl) (by kernel_rfl) (fun K hK => ?_)) | (refine AW.condT ?_ ?_; (focus (simp [aev, backD, rowsDf, nuD]; done))) | (refine AW.condF ?_ ?_; (focus (simp [aev, backD, rowsDf, nuD]; done))) | with_reducible refine AW.block ?_ | ((first | ((first | refine arun_nil ?_ | refine arunD_nil ?_); refine hK _ ?_; clear hK K) | refine AW.skip ?_ | refine AW.exit ?_ | refine AW.ret ?_); simp only [thenA_exit, inBlockA_exit, if_true, if_false, Nat.reduceEqDiff, thenA_normal, inBlockA_normal, reduceIte, thenA_ret, inBlockA_ret, endQ_ret, endR_ret, endG_ret, endQ_normal, endR_normal, endG_normal])))
    refine ⟨.tup [], [(1000, boxD 11 E'.length), (11, opsR E')], by simp [ares, aresL], ?_, purR_tup (fun _ h => by cases h), purD hE', ⟨in_tup.2 (fun _ h => by cases h), inD' hE'⟩, endDf hE' hl' 11 (by decide)⟩
    unfold boxD opsR
    simp only [List.forall_mem_cons, List.not_mem_nil, false_implies, implies_true, and_true]
    exact ⟨rfl, rfl⟩
theorem visit_ACG : ∀ (d : Nat) (a b : Nd), shapeB a d = true → shapeB b d = true → a.count ≤ 40 → b.count ≤ 40 → VisC d a b
  | 0, a, _, h, _, _, _ => by rw [shapeB_eq] at h; simp at h
  | d + 1, a, b, h1, h2, h3, h4 => visit_step d a b h1 h2 h3 h4 (visit_ACG d)
def dfZ (a b : Nd) : Int := if validB a && validB b then (difD 5 a b : Int) else -1
theorem valid_two {n : Nd} (h : validB n = true) : shapeB n 5 = true ∧ n.count ≤ 40 := by
  unfold validB at h
  rw [Bool.and_eq_true, decide_eq_true_eq] at h
  exact h
theorem implDiffSize_AC (a b : Nd) : AC Tryd.prog 20 [nodeA a, nodeA b] 0 (fun r => r = .int .i64 (dfZ a b)) := by
  have p1 := ValidNode_AC a .loose
  have p2 := ValidNode_AC b .loose
  rw [nodeT_loose] at p1 p2
  have hca := node_clo a
  have hcb := node_clo b
  unfold nodeA at *
  rw [nodeL_eq a] at p1 hca ⊢
  rw [nodeL_eq b] at p2 hcb ⊢
  cases ha : validB a
  · have hz : dfZ a b = -1 := by unfold dfZ; rw [ha]; rfl
    rw [ha] at p1
    refine AC.of tab_ok mixed_ok Tryd.func20 (by rfl) (by kernel_rfl) ?_; rintro ⟨P, T, hT, hm, w0, S0, rd0, k0⟩ hP hTT; dsimp only at hP hTT; subst hP hTT; unfold initSt; rw [Tryd.ntmps20]
    (repeat (first | with_reducible refine AW.seq ?_ | ((first | refine arun_kn 4 rfl (fun C hC => ?_) | refine arunD_kn 4 rfl (fun C hC => ?_)); (repeat ((conv => whnf); simp)); refine hC _ ?_; clear hC C; simp only [List.drop, Nat.reduceAdd]) | ((first | refine arun_kn 1 rfl (fun C hC => ?_) | refine arunD_kn 1 rfl (fun C hC => ?_)); (repeat ((conv => whnf); simp)); refine hC _ ?_; clear hC C; simp only [List.drop, Nat.reduceAdd]) | (refine arun_skip ?_ ?_; (focus (simp [awant]; done))) | (refine arun_c0 (p1) ?_; rintro _ rfl) | (refine arunD_skip ?_ ?_; (focus (simp [awant]; done))) | (refine AW.regionK [] (fun K hK => ?_)) | (refine AW.regionDK [] (pcs [] []) (by kernel_rfl) (by kernel_rfl) (fun K hK => ?_)) | (refine AW.condT ?_ ?_; (focus (simp [aev]; done))) | (refine AW.condF ?_ ?_; (focus (simp [aev]; done))) | with_reducible refine AW.block ?_ | ((first | ((first | refine arun_nil ?_ | refine arunD_nil ?_); refine hK _ ?_; clear hK K) | refine AW.skip ?_ | refine AW.exit ?_ | refine AW.ret ?_); simp only [thenA_exit, inBlockA_exit, if_true, if_false, Nat.reduceEqDiff, thenA_normal, inBlockA_normal, reduceIte, thenA_ret, inBlockA_ret, endQ_ret, endR_ret, endG_ret, endQ_normal, endR_normal, endG_normal])))
    exact ⟨.int .i64 (-1), by simp [ares, aresL], pur_int, by rw [hz]⟩
  rw [ha] at p1
  cases hb : validB b
  · have hz : dfZ a b = -1 := by unfold dfZ; rw [ha, hb]; rfl
    rw [hb] at p2
    refine AC.of tab_ok mixed_ok Tryd.func20 (by rfl) (by kernel_rfl) ?_; rintro ⟨P, T, hT, hm, w0, S0, rd0, k0⟩ hP hTT; dsimp only at hP hTT; subst hP hTT; unfold initSt; rw [Tryd.ntmps20]
    (repeat (first | with_reducible refine AW.seq ?_ | ((first | refine arun_kn 4 rfl (fun C hC => ?_) | refine arunD_kn 4 rfl (fun C hC => ?_)); (repeat ((conv => whnf); simp)); refine hC _ ?_; clear hC C; simp only [List.drop, Nat.reduceAdd]) | ((first | refine arun_kn 1 rfl (fun C hC => ?_) | refine arunD_kn 1 rfl (fun C hC => ?_)); (repeat ((conv => whnf); simp)); refine hC _ ?_; clear hC C; simp only [List.drop, Nat.reduceAdd]) | (refine arun_skip ?_ ?_; (focus (simp [awant]; done))) | (refine arun_c0 (p1) ?_; rintro _ rfl) | (refine arun_c0 (p2) ?_; rintro _ rfl) | (refine arunD_skip ?_ ?_; (focus (simp [awant]; done))) | (refine AW.regionK [] (fun K hK => ?_)) | (refine AW.regionDK [] (pcs [] []) (by kernel_rfl) (by kernel_rfl) (fun K hK => ?_)) | (refine AW.condT ?_ ?_; (focus (simp [aev]; done))) | (refine AW.condF ?_ ?_; (focus (simp [aev]; done))) | with_reducible refine AW.block ?_ | ((first | ((first | refine arun_nil ?_ | refine arunD_nil ?_); refine hK _ ?_; clear hK K) | refine AW.skip ?_ | refine AW.exit ?_ | refine AW.ret ?_); simp only [thenA_exit, inBlockA_exit, if_true, if_false, Nat.reduceEqDiff, thenA_normal, inBlockA_normal, reduceIte, thenA_ret, inBlockA_ret, endQ_ret, endR_ret, endG_ret, endQ_normal, endR_normal, endG_normal])))
    exact ⟨.int .i64 (-1), by simp [ares, aresL], pur_int, by rw [hz]⟩
  rw [hb] at p2
  obtain ⟨sa, ka⟩ := valid_two ha
  obtain ⟨sb, kb⟩ := valid_two hb
  have hz : dfZ a b = (difD 5 a b : Int) := by unfold dfZ; rw [ha, hb]; rfl
  have hle := difD_le 5 a b ka kb
  have hV := visit_ACG 5 a b sa sb ka kb [] [] (by simp) OpsP.nil (by have h80 : (80 : Nat) ^ 5 ≤ 10000000000 := (by decide); simp only [List.length_nil]; omega)
  rw [hz]
  unfold nodeA at hV
  rw [nodeL_eq a, nodeL_eq b] at hV
  generalize difD 5 a b = D at *
  refine AC.of tab_ok mixed_ok Tryd.func20 (by rfl) (by kernel_rfl) ?_; rintro ⟨P, T, hT, hm, w0, S0, rd0, k0⟩ hP hTT; dsimp only at hP hTT; subst hP hTT; unfold initSt; rw [Tryd.ntmps20]
  (repeat (first | with_reducible refine AW.seq ?_ | ((first | refine arun_kn 4 rfl (fun C hC => ?_) | refine arunD_kn 4 rfl (fun C hC => ?_)); (repeat ((conv => whnf); simp)); refine hC _ ?_; clear hC C; simp only [List.drop, Nat.reduceAdd]) | ((first | refine arun_kn 1 rfl (fun C hC => ?_) | refine arunD_kn 1 rfl (fun C hC => ?_)); (repeat ((conv => whnf); simp)); refine hC _ ?_; clear hC C; simp only [List.drop, Nat.reduceAdd]) | (refine arun_skip ?_ ?_; (focus (simp [awant]; done))) | (refine arunD_skip ?_ ?_; (focus (simp [awant]; done))) | (refine AW.condT ?_ ?_; (focus (simp [aev]; done))) | (refine AW.condF ?_ ?_; (focus (simp [aev]; done))) | with_reducible refine AW.block ?_ | ((first | ((first | refine arun_nil ?_ | refine arunD_nil ?_); refine hK _ ?_; clear hK K) | refine AW.skip ?_ | refine AW.exit ?_ | refine AW.ret ?_); simp only [thenA_exit, inBlockA_exit, if_true, if_false, Nat.reduceEqDiff, thenA_normal, inBlockA_normal, reduceIte, thenA_ret, inBlockA_ret, endQ_ret, endR_ret, endG_ret, endQ_normal, endR_normal, endG_normal])))
  refine AW.regionK [] (fun K hK => ?_)
  (repeat (first | with_reducible refine AW.seq ?_ | ((first | refine arun_kn 4 rfl (fun C hC => ?_) | refine arunD_kn 4 rfl (fun C hC => ?_)); (repeat ((conv => whnf); simp)); refine hC _ ?_; clear hC C; simp only [List.drop, Nat.reduceAdd]) | ((first | refine arun_kn 1 rfl (fun C hC => ?_) | refine arunD_kn 1 rfl (fun C hC => ?_)); (repeat ((conv => whnf); simp)); refine hC _ ?_; clear hC C; simp only [List.drop, Nat.reduceAdd]) | (refine arun_skip ?_ ?_; (focus (simp [awant]; done))) | (refine arunD_skip ?_ ?_; (focus (simp [awant]; done))) | (refine AW.condT ?_ ?_; (focus (simp [aev]; done))) | (refine AW.condF ?_ ?_; (focus (simp [aev]; done))) | with_reducible refine AW.block ?_ | ((first | ((first | refine arun_nil ?_ | refine arunD_nil ?_); refine hK _ ?_; clear hK K) | refine AW.skip ?_ | refine AW.exit ?_ | refine AW.ret ?_); simp only [thenA_exit, inBlockA_exit, if_true, if_false, Nat.reduceEqDiff, thenA_normal, inBlockA_normal, reduceIte, thenA_ret, inBlockA_ret, endQ_ret, endR_ret, endG_ret, endQ_normal, endR_normal, endG_normal])))
  refine AW.regionK [] (fun K hK => ?_)
  (repeat (first | with_reducible refine AW.seq ?_ | ((first | refine arun_kn 4 rfl (fun C hC => ?_) | refine arunD_kn 4 rfl (fun C hC => ?_)); (repeat ((conv => whnf); simp)); refine hC _ ?_; clear hC C; simp only [List.drop, Nat.reduceAdd]) | ((first | refine arun_kn 1 rfl (fun C hC => ?_) | refine arunD_kn 1 rfl (fun C hC => ?_)); (repeat ((conv => whnf); simp)); refine hC _ ?_; clear hC C; simp only [List.drop, Nat.reduceAdd]) | (refine arun_skip ?_ ?_; (focus (simp [awant]; done))) | (refine arun_c0 (p1) ?_; rintro _ rfl) | (refine arun_c0 (p2) ?_; rintro _ rfl) | (refine arunD_skip ?_ ?_; (focus (simp [awant]; done))) | (refine AW.condT ?_ ?_; (focus (simp [aev]; done))) | (refine AW.condF ?_ ?_; (focus (simp [aev]; done))) | with_reducible refine AW.block ?_ | ((first | ((first | refine arun_nil ?_ | refine arunD_nil ?_); refine hK _ ?_; clear hK K) | refine AW.skip ?_ | refine AW.exit ?_ | refine AW.ret ?_); simp only [thenA_exit, inBlockA_exit, if_true, if_false, Nat.reduceEqDiff, thenA_normal, inBlockA_normal, reduceIte, thenA_ret, inBlockA_ret, endQ_ret, endR_ret, endG_ret, endQ_normal, endR_normal, endG_normal])))
  refine AW.regionK [] (fun K hK => ?_)
  (repeat (first | with_reducible refine AW.seq ?_ | ((first | refine arun_kn 4 rfl (fun C hC => ?_) | refine arunD_kn 4 rfl (fun C hC => ?_)); (repeat ((conv => whnf); simp)); refine hC _ ?_; clear hC C; simp only [List.drop, Nat.reduceAdd]) | ((first | refine arun_kn 1 rfl (fun C hC => ?_) | refine arunD_kn 1 rfl (fun C hC => ?_)); (repeat ((conv => whnf); simp)); refine hC _ ?_; clear hC C; simp only [List.drop, Nat.reduceAdd]) | (refine arun_skip ?_ ?_; (focus (simp [awant]; done))) | (refine arunD_skip ?_ ?_; (focus (simp [awant]; done))) | (refine AW.condT ?_ ?_; (focus (simp [aev]; done))) | (refine AW.condF ?_ ?_; (focus (simp [aev]; done))) | with_reducible refine AW.block ?_ | ((first | ((first | refine arun_nil ?_ | refine arunD_nil ?_); refine hK _ ?_; clear hK K) | refine AW.skip ?_ | refine AW.exit ?_ | refine AW.ret ?_); simp only [thenA_exit, inBlockA_exit, if_true, if_false, Nat.reduceEqDiff, thenA_normal, inBlockA_normal, reduceIte, thenA_ret, inBlockA_ret, endQ_ret, endR_ret, endG_ret, endQ_normal, endR_normal, endG_normal])))
  refine AW.adoptB 5 0 50 93 8 ⟨_, tab93, rfl⟩ (by simp [upd]; rfl) rfl rfl (by simp [upd]) ?_
  simp only [ASt.adoptB]
  (repeat (first | with_reducible refine AW.seq ?_ | ((first | refine arun_kn 4 rfl (fun C hC => ?_) | refine arunD_kn 4 rfl (fun C hC => ?_)); (repeat ((conv => whnf); simp)); refine hC _ ?_; clear hC C; simp only [List.drop, Nat.reduceAdd]) | ((first | refine arun_kn 1 rfl (fun C hC => ?_) | refine arunD_kn 1 rfl (fun C hC => ?_)); (repeat ((conv => whnf); simp)); refine hC _ ?_; clear hC C; simp only [List.drop, Nat.reduceAdd]) | (refine arun_skip ?_ ?_; (focus (simp [awant]; done))) | (refine arunD_skip ?_ ?_; (focus (simp [awant]; done))) | (refine AW.regionK [] (fun K hK => ?_)) | (refine AW.regionDK [] (pcs [] []) (by kernel_rfl) (by kernel_rfl) (fun K hK => ?_)) | (refine AW.condT ?_ ?_; (focus (simp [aev]; done))) | (refine AW.condF ?_ ?_; (focus (simp [aev]; done))) | with_reducible refine AW.block ?_ | ((first | ((first | refine arun_nil ?_ | refine arunD_nil ?_); refine hK _ ?_; clear hK K) | refine AW.skip ?_ | refine AW.exit ?_ | refine AW.ret ?_); simp only [thenA_exit, inBlockA_exit, if_true, if_false, Nat.reduceEqDiff, thenA_normal, inBlockA_normal, reduceIte, thenA_ret, inBlockA_ret, endQ_ret, endR_ret, endG_ret, endQ_normal, endR_normal, endG_normal])))
  refine arun_callDf OpsP.nil 5 50 16 (hac := hV) (h1 := by simp [rowsOf_cons, upd, boxD]) (h2 := by simp [rowsOf_cons, upd, opsR]) (hd := by decide) (hB := by decide) (uB := by simp [usedOf_cons, usedOf_nil, upd]) (hw := by simp [awant]) (ha := rfl) (hargs := .cons (.base (.ptr (by simp [rowsDf]) rfl)) (.cons (.base (.clo (Clo.cloTo hca))) (.cons (.base (.clo (Clo.cloTo hcb))) (.cons (.base (.clo (Wk.cloTo (Wk.nil (fun h => by cases h)) (strs_clo [])))) .nil)))) (hcan := by (first | exact can_of (Nat.zero_le _) | (simp only [ASt.put, ASt.pay, Option.map_map, Function.comp_def]; exact can_of (Nat.zero_le _)))) (h := ?_)
  intro E' hE' hl'
  rw [List.length_nil, Nat.zero_add] at hl'
  (repeat (first | with_reducible refine AW.seq ?_ | ((first | refine arun_kn 4 rfl (fun C hC => ?_) | refine arunD_kn 4 rfl (fun C hC => ?_)); (repeat ((conv => whnf); simp [backD, rowsDf, nuD, boxD, opsR])); refine hC _ ?_; clear hC C; simp only [List.drop, Nat.reduceAdd]) | ((first | refine arun_kn 1 rfl (fun C hC => ?_) | refine arunD_kn 1 rfl (fun C hC => ?_)); (repeat ((conv => whnf); simp [backD, rowsDf, nuD, boxD, opsR])); refine hC _ ?_; clear hC C; simp only [List.drop, Nat.reduceAdd]) | (refine arun_skip ?_ ?_; (focus (simp [awant, backD, rowsDf, nuD, boxD, opsR]; done))) | (refine arunD_skip ?_ ?_; (focus (simp [awant, backD, rowsDf, nuD, boxD, opsR]; done))) | (refine AW.regionK [] (fun K hK => ?_)) | (refine AW.regionDK [] (pcs [] []) (by kernel_rfl) (by kernel_rfl) (fun K hK => ?_)) | (refine AW.condT ?_ ?_; (focus (simp [aev, backD, rowsDf, nuD, boxD, opsR]; done))) | (refine AW.condF ?_ ?_; (focus (simp [aev, backD, rowsDf, nuD, boxD, opsR]; done))) | with_reducible refine AW.block ?_ | ((first | ((first | refine arun_nil ?_ | refine arunD_nil ?_); refine hK _ ?_; clear hK K) | refine AW.skip ?_ | refine AW.exit ?_ | refine AW.ret ?_); simp only [thenA_exit, inBlockA_exit, if_true, if_false, Nat.reduceEqDiff, thenA_normal, inBlockA_normal, reduceIte, thenA_ret, inBlockA_ret, endQ_ret, endR_ret, endG_ret, endQ_normal, endR_normal, endG_normal])))
  exact ⟨.int .i64 D, by simp [ares, aresL, hl'], pur_int, rfl⟩
end Go.Proofs.YtmmaanbppheabaaDoor.Eng
-- EV: skip
namespace Go.Proofs.YtmmaanbppheabaaDoor.Eng
open Go Go.RowKit
attribute [local simp] big size_mk ASt.pay Option.map_map Function.comp_def awant aop acall ado aev ofVal ofVal0 ASt.put ASt.add ASt.turn ASt.kill abox aalloc astore aload aloadD astoreD idOf ASt.at cellsTo afieldAddr afield aindexAddr aindex alen abin aint acmp astr aun apick aextract anil aslice abound abuild afill abuildSlice asCells aps avCells over upd aappend asrc amax amin aconv mkSt slots rowsOf_cons rowsOf_nil usedOf_cons usedOf_nil ZK.av List.replicate ASt.back ASt.addL ASt.killL nodeA nodeT nodeTL_eq nodeL_eq strsE_get strsE_len intsE_get intsE_len strsE_at intsE_at tab2 tab3 tab4 tab5 tab6 tab7 tab8 tab9 tab10 tab11 tab12 tab13 tab14 tab15 tab16 tab17 tab18 tab19 tab21 tab22 tab23 tab24 tab25 tab26 tab27 tab31 tab32 tab33 tab35 tab36 tab41 tab58 tab67 tab69 tab70 tab81 tab82 tab85 tab86 tab92 tab93 tab95 tab105 tab111 tab117 tab124 tab125 tab130 tab131 tab133 tab134 tab135
set_option maxRecDepth 100000
set_option maxHeartbeats 16000000
theorem diff_AC : ∀ (d : Nat) (a b : Nd), d ≤ 5 → shapeB a d = true → shapeB b d = true → a.count ≤ 40 → b.count ≤ 40 → DifC d a b
  | 0, a, _, _, h, _, _, _ => by rw [shapeB_eq] at h; simp at h
  | d + 1, a, b, h0, h1, h2, h3, h4 => diff_step d a b (by omega) h1 h2 h3 h4 (by
      have q := difD_le (d + 1) a b h3 h4
      have q2 : 80 ^ (d + 1) ≤ 80 ^ 5 := Nat.pow_le_pow_right (by omega) h0
      have q3 : (80 : Nat) ^ 5 ≤ 10000000000 := (by decide)
      omega) (fun x y g1 g2 g3 g4 => diff_AC d x y (by omega) g1 g2 g3 g4)
theorem specDiffSize_AC (a b : Nd) : AC Tryd.prog 19 [nodeA a, nodeA b] 0 (fun r => r = .int .i64 (dfZ a b)) := by
  have p1 := validNode_AC a .loose
  have p2 := validNode_AC b .loose
  rw [nodeT_loose] at p1 p2
  have hca := node_clo a
  have hcb := node_clo b
  unfold nodeA at *
  rw [nodeL_eq a] at p1 hca ⊢
  rw [nodeL_eq b] at p2 hcb ⊢
  cases ha : validB a
  · have hz : dfZ a b = -1 := by unfold dfZ; rw [ha]; rfl
    rw [ha] at p1
    refine AC.of tab_ok mixed_ok Tryd.func19 (by rfl) (by kernel_rfl) ?_; rintro ⟨P, T, hT, hm, w0, S0, rd0, k0⟩ hP hTT; dsimp only at hP hTT; subst hP hTT; unfold initSt; rw [Tryd.ntmps19]
    (repeat (first | with_reducible refine AW.seq ?_ | ((first | refine arun_kn 4 rfl (fun C hC => ?_) | refine arunD_kn 4 rfl (fun C hC => ?_)); (repeat ((conv => whnf); simp)); refine hC _ ?_; clear hC C; simp only [List.drop, Nat.reduceAdd]) | ((first | refine arun_kn 1 rfl (fun C hC => ?_) | refine arunD_kn 1 rfl (fun C hC => ?_)); (repeat ((conv => whnf); simp)); refine hC _ ?_; clear hC C; simp only [List.drop, Nat.reduceAdd]) | (refine arun_skip ?_ ?_; (focus (simp [awant]; done))) | (refine arun_c0 (p1) ?_; rintro _ rfl) | (refine arunD_skip ?_ ?_; (focus (simp [awant]; done))) | (refine AW.regionK [] (fun K hK => ?_)) | (refine AW.regionDK [] (pcs [] []) (by kernel_rfl) (by kernel_rfl) (fun K hK => ?_)) | (refine AW.condT ?_ ?_; (focus (simp [aev]; done))) | (refine AW.condF ?_ ?_; (focus (simp [aev]; done))) | with_reducible refine AW.block ?_ | ((first | ((first | refine arun_nil ?_ | refine arunD_nil ?_); refine hK _ ?_; clear hK K) | refine AW.skip ?_ | refine AW.exit ?_ | refine AW.ret ?_); simp only [thenA_exit, inBlockA_exit, if_true, if_false, Nat.reduceEqDiff, thenA_normal, inBlockA_normal, reduceIte, thenA_ret, inBlockA_ret, endQ_ret, endR_ret, endG_ret, endQ_normal, endR_normal, endG_normal])))
    exact ⟨.int .i64 (-1), by simp [ares, aresL], pur_int, by rw [hz]⟩
  rw [ha] at p1
  cases hb : validB b
  · have hz : dfZ a b = -1 := by unfold dfZ; rw [ha, hb]; rfl
    rw [hb] at p2
    refine AC.of tab_ok mixed_ok Tryd.func19 (by rfl) (by kernel_rfl) ?_; rintro ⟨P, T, hT, hm, w0, S0, rd0, k0⟩ hP hTT; dsimp only at hP hTT; subst hP hTT; unfold initSt; rw [Tryd.ntmps19]
    (repeat (first | with_reducible refine AW.seq ?_ | ((first | refine arun_kn 4 rfl (fun C hC => ?_) | refine arunD_kn 4 rfl (fun C hC => ?_)); (repeat ((conv => whnf); simp)); refine hC _ ?_; clear hC C; simp only [List.drop, Nat.reduceAdd]) | ((first | refine arun_kn 1 rfl (fun C hC => ?_) | refine arunD_kn 1 rfl (fun C hC => ?_)); (repeat ((conv => whnf); simp)); refine hC _ ?_; clear hC C; simp only [List.drop, Nat.reduceAdd]) | (refine arun_skip ?_ ?_; (focus (simp [awant]; done))) | (refine arun_c0 (p1) ?_; rintro _ rfl) | (refine arun_c0 (p2) ?_; rintro _ rfl) | (refine arunD_skip ?_ ?_; (focus (simp [awant]; done))) | (refine AW.regionK [] (fun K hK => ?_)) | (refine AW.regionDK [] (pcs [] []) (by kernel_rfl) (by kernel_rfl) (fun K hK => ?_)) | (refine AW.condT ?_ ?_; (focus (simp [aev]; done))) | (refine AW.condF ?_ ?_; (focus (simp [aev]; done))) | with_reducible refine AW.block ?_ | ((first | ((first | refine arun_nil ?_ | refine arunD_nil ?_); refine hK _ ?_; clear hK K) | refine AW.skip ?_ | refine AW.exit ?_ | refine AW.ret ?_); simp only [thenA_exit, inBlockA_exit, if_true, if_false, Nat.reduceEqDiff, thenA_normal, inBlockA_normal, reduceIte, thenA_ret, inBlockA_ret, endQ_ret, endR_ret, endG_ret, endQ_normal, endR_normal, endG_normal])))
    exact ⟨.int .i64 (-1), by simp [ares, aresL], pur_int, by rw [hz]⟩
  rw [hb] at p2
  obtain ⟨sa, ka⟩ := valid_two ha
  obtain ⟨sb, kb⟩ := valid_two hb
  have hz : dfZ a b = (difD 5 a b : Int) := by unfold dfZ; rw [ha, hb]; rfl
  have hV := diff_AC 5 a b (by omega) sa sb ka kb
  rw [hz]
  unfold DifC at hV
  unfold nodeA at hV
  rw [nodeL_eq a, nodeL_eq b] at hV
  generalize difD 5 a b = D at *
  refine AC.of tab_ok mixed_ok Tryd.func19 (by rfl) (by kernel_rfl) ?_; rintro ⟨P, T, hT, hm, w0, S0, rd0, k0⟩ hP hTT; dsimp only at hP hTT; subst hP hTT; unfold initSt; rw [Tryd.ntmps19]
  (repeat (first | with_reducible refine AW.seq ?_ | ((first | refine arun_kn 4 rfl (fun C hC => ?_) | refine arunD_kn 4 rfl (fun C hC => ?_)); (repeat ((conv => whnf); simp)); refine hC _ ?_; clear hC C; simp only [List.drop, Nat.reduceAdd]) | ((first | refine arun_kn 1 rfl (fun C hC => ?_) | refine arunD_kn 1 rfl (fun C hC => ?_)); (repeat ((conv => whnf); simp)); refine hC _ ?_; clear hC C; simp only [List.drop, Nat.reduceAdd]) | (refine arun_skip ?_ ?_; (focus (simp [awant]; done))) | (refine arun_c0 (p1) ?_; rintro _ rfl) | (refine arun_c0 (p2) ?_; rintro _ rfl) | (refine arun_c0 (hV) ?_; (rintro _ ⟨l, hl, hlp, rfl⟩)) | (refine arunD_skip ?_ ?_; (focus (simp [awant]; done))) | (refine AW.regionK [] (fun K hK => ?_)) | (refine AW.regionDK [] (pcs [] []) (by kernel_rfl) (by kernel_rfl) (fun K hK => ?_)) | (refine AW.condT ?_ ?_; (focus (simp [aev]; done))) | (refine AW.condF ?_ ?_; (focus (simp [aev]; done))) | with_reducible refine AW.block ?_ | ((first | ((first | refine arun_nil ?_ | refine arunD_nil ?_); refine hK _ ?_; clear hK K) | refine AW.skip ?_ | refine AW.exit ?_ | refine AW.ret ?_); simp only [thenA_exit, inBlockA_exit, if_true, if_false, Nat.reduceEqDiff, thenA_normal, inBlockA_normal, reduceIte, thenA_ret, inBlockA_ret, endQ_ret, endR_ret, endG_ret, endQ_normal, endR_normal, endG_normal])))
  exact ⟨.int .i64 D, by simp [ares, aresL, opsE_len, hl], pur_int, rfl⟩
theorem ac_int2 {P : Program} {f : FuncId} {args : List AV} {k : IntKind} {b : Int} (h : AC P f args 0 (fun r => r = .int k b)) (w : World) (vs : List Value) (hargs : RepL w (pureC nil (fun k => k < w.heap.size) none) args vs) :
    Calls P f vs.toArray w fun e w' => e = .returned (.int k b) ∧ Grow w w' := by
  refine (h.2 w nil (fun k => k < w.heap.size) none 0 vs (fun _ h => h.elim) (fun _ h => h) (fun _ h => by cases h) hargs).mono ?_
  rintro e w' ⟨v, r, S', rfl, hx, hS1, hS2, _, hr, rfl⟩
  rw [rep_int] at hr
  subst hr
  exact ⟨rfl, Grow.ofNone hx⟩
end Go.Proofs.YtmmaanbppheabaaDoor.Eng
namespace Go.Proofs.YtmmaanbppheabaaDoor
open Go.RowKit
theorem implDiffSize_ok (n p : Nd) (v u : Value) (w : World) (h : RV nodeRep packA w any n v) (k : RV nodeRep packA w any p u) :
    Calls Tryd.prog 20 #[v, u] w fun e w' => e = .returned (.int .i64 (Eng.dfZ n p)) ∧ Grow w w' :=
  Eng.ac_int2 (Eng.implDiffSize_AC n p) w [v, u] (Eng.args2 (Eng.arg_node h) (Eng.arg_node k))
theorem specDiffSize_ok (n p : Nd) (v u : Value) (w : World) (h : RV nodeRep packA w any n v) (k : RV nodeRep packA w any p u) :
    Calls Tryd.prog 19 #[v, u] w fun e w' => e = .returned (.int .i64 (Eng.dfZ n p)) ∧ Grow w w' :=
  Eng.ac_int2 (Eng.specDiffSize_AC n p) w [v, u] (Eng.args2 (Eng.arg_node h) (Eng.arg_node k))
end Go.Proofs.YtmmaanbppheabaaDoor
namespace Go.Proofs.YtmmaanbppheabaaDoor
open Go.RowKit
def lawDifR (a : Nd) (b : Nd) (w : World) (v : Value) : Prop := v = .int .i64 (Eng.dfZ a b)
theorem lawDifR_grow {a : Nd} {b : Nd} {w w' : World} {v : Value} (h : lawDifR a b w v) (hg : Grow w w') : lawDifR a b w' v := h
theorem lawDif_big (a : Nd) (b : Nd) (v0 : Value) (v1 : Value) (w : World) (h0 : RV nodeRep packA w any a v0) (h1 : RV nodeRep packA w any b v1) (hbig : ¬ costN a + costN b ≤ 1048576) :
    Calls Tryd.prog 5 #[v0, v1] w fun e w' => e = .returned (.bool true) ∧ Grow w w' := by
  have HV0 := Lib.hid h0
  have HV1 := Lib.hid h1
  obtain ⟨na0, nc0, ka0, kc0, rfl⟩ := openV_node h0
  obtain ⟨na1, nc1, ka1, kc1, rfl⟩ := openV_node h1
  clear h0 h1
  unfold nodeV at *
  by_cases c0 : (costN a : Int) ≤ 1048576
  rotate_left
  ·
    have Hs0 := Lib.hid (szR_neg (c := costN a) (left := 1048576) (by omega))
    clear c0 hbig
    have HB0 := Lib.hid ((BoxN.new w [.int .i64 a.kind, .int .i64 a.num, .string a.text, .slice na0 a.names.length nc0, .slice ka0 a.kids.length kc0] 25).grow ((Ext.refl nil _).alloc (.cells ([.int .i64 b.kind, .int .i64 b.num, .string b.text, .slice na1 b.names.length nc1, .slice ka1 b.kids.length kc1] : List Value).toArray 25)))
    have HB1 := Lib.hid (BoxN.new1 w (.cells ([.int .i64 a.kind, .int .i64 a.num, .string a.text, .slice na0 a.names.length nc0, .slice ka0 a.kids.length kc0] : List Value).toArray 25) [.int .i64 b.kind, .int .i64 b.num, .string b.text, .slice na1 b.names.length nc1, .slice ka1 b.kids.length kc1] 25)
    go_enter Tryd.func5, Tryd.ntmps5
    go_wp2_with fail
    refine (uSzN a _ _ _ (by omega) (by omega) (HV0.out.grow (by repeat (first | with_reducible exact Ext.refl _ _ | with_reducible refine Ext.trans ?_ (by assumption) | with_reducible refine Ext.drew ?_ | with_reducible refine Ext.drewN ?_ _ | with_reducible refine Ext.alloc ?_ _ | with_reducible refine Ext.setNew ?_ (by simp; done) _ | with_reducible refine Ext.setNew ?_ (by simp; omega) _)))).mono ?_
    rintro e w1 ⟨rfl, hg1⟩
    simp only [Hs0.out]
    have z1 := hg1.size
    try simp only [World.size_alloc] at z1
    go_wp2_with fail
    go_ret
    exact ⟨by simp, (by repeat (first | with_reducible exact Ext.refl _ _ | with_reducible refine Ext.trans ?_ (by assumption) | with_reducible refine Ext.drew ?_ | with_reducible refine Ext.drewN ?_ _ | with_reducible refine Ext.alloc ?_ _ | with_reducible refine Ext.setNew ?_ (by simp; done) _ | with_reducible refine Ext.setNew ?_ (by simp; omega) _))⟩
  have Hs0 := Lib.hid (szR_pos (c := costN a) (left := 1048576) (by omega))
  by_cases c1 : (costN b : Int) ≤ 1048576 - costN a
  rotate_left
  ·
    have Hs1 := Lib.hid (szR_neg (c := costN b) (left := 1048576 - costN a) (by omega))
    clear c1 hbig
    have HB0 := Lib.hid ((BoxN.new w [.int .i64 a.kind, .int .i64 a.num, .string a.text, .slice na0 a.names.length nc0, .slice ka0 a.kids.length kc0] 25).grow ((Ext.refl nil _).alloc (.cells ([.int .i64 b.kind, .int .i64 b.num, .string b.text, .slice na1 b.names.length nc1, .slice ka1 b.kids.length kc1] : List Value).toArray 25)))
    have HB1 := Lib.hid (BoxN.new1 w (.cells ([.int .i64 a.kind, .int .i64 a.num, .string a.text, .slice na0 a.names.length nc0, .slice ka0 a.kids.length kc0] : List Value).toArray 25) [.int .i64 b.kind, .int .i64 b.num, .string b.text, .slice na1 b.names.length nc1, .slice ka1 b.kids.length kc1] 25)
    go_enter Tryd.func5, Tryd.ntmps5
    go_wp2_with fail
    refine (uSzN a _ _ _ (by omega) (by omega) (HV0.out.grow (by repeat (first | with_reducible exact Ext.refl _ _ | with_reducible refine Ext.trans ?_ (by assumption) | with_reducible refine Ext.drew ?_ | with_reducible refine Ext.drewN ?_ _ | with_reducible refine Ext.alloc ?_ _ | with_reducible refine Ext.setNew ?_ (by simp; done) _ | with_reducible refine Ext.setNew ?_ (by simp; omega) _)))).mono ?_
    rintro e w1 ⟨rfl, hg1⟩
    simp only [Hs0.out]
    have z1 := hg1.size
    try simp only [World.size_alloc] at z1
    have pB := HB1.out.grow (w' := w1) (by repeat (first | with_reducible exact Ext.refl _ _ | with_reducible refine Ext.trans ?_ (by assumption) | with_reducible refine Ext.drew ?_ | with_reducible refine Ext.drewN ?_ _ | with_reducible refine Ext.alloc ?_ _ | with_reducible refine Ext.setNew ?_ (by simp; done) _ | with_reducible refine Ext.setNew ?_ (by simp; omega) _))
    have p0 := pB.cell 0 _ rfl; have p1 := pB.cell 1 _ rfl; have p2 := pB.cell 2 _ rfl; have p3 := pB.cell 3 _ rfl; have p4 := pB.cell 4 _ rfl
    go_wp2_with fail
    refine (uSzN b _ _ _ (by omega) (by omega) (HV1.out.grow (by repeat (first | with_reducible exact Ext.refl _ _ | with_reducible refine Ext.trans ?_ (by assumption) | with_reducible refine Ext.drew ?_ | with_reducible refine Ext.drewN ?_ _ | with_reducible refine Ext.alloc ?_ _ | with_reducible refine Ext.setNew ?_ (by simp; done) _ | with_reducible refine Ext.setNew ?_ (by simp; omega) _)))).mono ?_
    rintro e w2 ⟨rfl, hg2⟩
    simp only [Hs1.out]
    have z2 := hg2.size
    try simp only [World.size_alloc] at z2
    clear p0 p1 p2 p3 p4 pB
    go_wp2_with fail
    go_ret
    exact ⟨by simp, (by repeat (first | with_reducible exact Ext.refl _ _ | with_reducible refine Ext.trans ?_ (by assumption) | with_reducible refine Ext.drew ?_ | with_reducible refine Ext.drewN ?_ _ | with_reducible refine Ext.alloc ?_ _ | with_reducible refine Ext.setNew ?_ (by simp; done) _ | with_reducible refine Ext.setNew ?_ (by simp; omega) _))⟩
  have Hs1 := Lib.hid (szR_pos (c := costN b) (left := 1048576 - costN a) (by omega))
  omega
theorem lawDif_main (a : Nd) (b : Nd) (v0 : Value) (v1 : Value) (w : World) (h0 : RV nodeRep packA w any a v0) (h1 : RV nodeRep packA w any b v1) (hcost : costN a + costN b ≤ 1048576) :
    Calls Tryd.prog 5 #[v0, v1] w fun e w' => e = .returned (.bool true) ∧ Grow w w' := by
  have HV0 := Lib.hid h0
  have HV1 := Lib.hid h1
  obtain ⟨na0, nc0, ka0, kc0, rfl⟩ := openV_node h0
  obtain ⟨na1, nc1, ka1, kc1, rfl⟩ := openV_node h1
  clear h0 h1
  unfold nodeV at *
  have Hs0 := Lib.hid (szR_pos (c := costN a) (left := 1048576) (by omega))
  have Hs1 := Lib.hid (szR_pos (c := costN b) (left := 1048576 - costN a) (by omega))
  have C0 : Hid (costN a ≤ 1048576) := Lib.hid (by omega)
  have C1 : Hid (costN b ≤ 1048576) := Lib.hid (by omega)
  have HB0 := Lib.hid ((BoxN.new w [.int .i64 a.kind, .int .i64 a.num, .string a.text, .slice na0 a.names.length nc0, .slice ka0 a.kids.length kc0] 25).grow ((Ext.refl nil _).alloc (.cells ([.int .i64 b.kind, .int .i64 b.num, .string b.text, .slice na1 b.names.length nc1, .slice ka1 b.kids.length kc1] : List Value).toArray 25)))
  have HB1 := Lib.hid (BoxN.new1 w (.cells ([.int .i64 a.kind, .int .i64 a.num, .string a.text, .slice na0 a.names.length nc0, .slice ka0 a.kids.length kc0] : List Value).toArray 25) [.int .i64 b.kind, .int .i64 b.num, .string b.text, .slice na1 b.names.length nc1, .slice ka1 b.kids.length kc1] 25)
  go_enter Tryd.func5, Tryd.ntmps5
  go_wp2_with fail
  refine (uSzN a _ _ _ (by omega) (by omega) (HV0.out.grow (by repeat (first | with_reducible exact Ext.refl _ _ | with_reducible refine Ext.trans ?_ (by assumption) | with_reducible refine Ext.drew ?_ | with_reducible refine Ext.drewN ?_ _ | with_reducible refine Ext.alloc ?_ _ | with_reducible refine Ext.setNew ?_ (by simp; done) _ | with_reducible refine Ext.setNew ?_ (by simp; omega) _)))).mono ?_
  rintro e w1 ⟨rfl, hg1⟩
  simp only [Hs0.out]
  have z1 := hg1.size
  try simp only [World.size_alloc] at z1
  have pB := HB1.out.grow (w' := w1) (by repeat (first | with_reducible exact Ext.refl _ _ | with_reducible refine Ext.trans ?_ (by assumption) | with_reducible refine Ext.drew ?_ | with_reducible refine Ext.drewN ?_ _ | with_reducible refine Ext.alloc ?_ _ | with_reducible refine Ext.setNew ?_ (by simp; done) _ | with_reducible refine Ext.setNew ?_ (by simp; omega) _))
  have p0 := pB.cell 0 _ rfl; have p1 := pB.cell 1 _ rfl; have p2 := pB.cell 2 _ rfl; have p3 := pB.cell 3 _ rfl; have p4 := pB.cell 4 _ rfl
  go_wp2_with fail
  refine (uSzN b _ _ _ (by omega) (by omega) (HV1.out.grow (by repeat (first | with_reducible exact Ext.refl _ _ | with_reducible refine Ext.trans ?_ (by assumption) | with_reducible refine Ext.drew ?_ | with_reducible refine Ext.drewN ?_ _ | with_reducible refine Ext.alloc ?_ _ | with_reducible refine Ext.setNew ?_ (by simp; done) _ | with_reducible refine Ext.setNew ?_ (by simp; omega) _)))).mono ?_
  rintro e w2 ⟨rfl, hg2⟩
  simp only [Hs1.out]
  have z2 := hg2.size
  try simp only [World.size_alloc] at z2
  clear p0 p1 p2 p3 p4 pB
  go_wp2_with fail
  have pB := HB0.out.grow (w' := w2) (by repeat (first | with_reducible exact Ext.refl _ _ | with_reducible refine Ext.trans ?_ (by assumption) | with_reducible refine Ext.drew ?_ | with_reducible refine Ext.drewN ?_ _ | with_reducible refine Ext.alloc ?_ _ | with_reducible refine Ext.setNew ?_ (by simp; done) _ | with_reducible refine Ext.setNew ?_ (by simp; omega) _))
  have p0 := pB.cell 0 _ rfl; have p1 := pB.cell 1 _ rfl; have p2 := pB.cell 2 _ rfl; have p3 := pB.cell 3 _ rfl; have p4 := pB.cell 4 _ rfl
  have qB := HB1.out.grow (w' := w2) (by repeat (first | with_reducible exact Ext.refl _ _ | with_reducible refine Ext.trans ?_ (by assumption) | with_reducible refine Ext.drew ?_ | with_reducible refine Ext.drewN ?_ _ | with_reducible refine Ext.alloc ?_ _ | with_reducible refine Ext.setNew ?_ (by simp; done) _ | with_reducible refine Ext.setNew ?_ (by simp; omega) _))
  have q0 := qB.cell 0 _ rfl; have q1 := qB.cell 1 _ rfl; have q2 := qB.cell 2 _ rfl; have q3 := qB.cell 3 _ rfl; have q4 := qB.cell 4 _ rfl
  refine wp_region_stab Grow (fun i => if i = 1 then some (fun v w' => RV nodeRep packA w' any a v) else if i = 3 then some (fun v w' => RV nodeRep packA w' any b v) else if i = 4 then some (fun v w' => lawDifR a b w' v) else none) (by kernel_rfl) (by kernel_rfl) ⟨Ext.refl nil, fun _ _ h1 h2 => h2.trans h1, ?_⟩ ?_
  · intro i V hV v w1 w2 hr hv
    by_cases q1 : i = 1
    · simp [q1] at hV; subst hV; exact RV.grow hv hr
    by_cases q3 : i = 3
    · simp [q3] at hV; subst hV; exact RV.grow hv hr
    by_cases q4 : i = 4
    · simp [q4] at hV; subst hV; exact lawDifR_grow hv hr
    simp [q1, q3, q4] at hV
  (repeat (refine wpStab_quiet (by kernel_rfl) (by kernel_rfl) (by simp; done) ?_; intro K hK; go_big_quiet_op; go_big_quiet_on))
  refine wpStab_made (fun v w' => RV nodeRep packA w' any a v) ?_ ?_ ?_ ?_
  · go_simp
  · simp
  · intro y _
    refine stabAt_call (f := 9) (args := #[.agg #[.int .i64 a.kind, .int .i64 a.num, .string a.text, .slice na0 a.names.length nc0, .slice ka0 a.kids.length kc0]]) ?_ ?_
    · go_simp
    · refine (uToN a _ _ C0.out (HV0.out.grow (((by repeat (first | with_reducible exact Ext.refl _ _ | with_reducible refine Ext.trans ?_ (by assumption) | with_reducible refine Ext.drew ?_ | with_reducible refine Ext.drewN ?_ _ | with_reducible refine Ext.alloc ?_ _ | with_reducible refine Ext.setNew ?_ (by simp; done) _ | with_reducible refine Ext.setNew ?_ (by simp; omega) _)) : Grow w w2).trans (later_grow _ _)))).mono ?_
      rintro e w' ⟨v', fp, rfl, hg, hF, _⟩
      exact ⟨_, rfl, hg, hF.rv⟩
  intro uu0
  go_frame
  (repeat (refine wpStab_quiet (by kernel_rfl) (by kernel_rfl) (by simp; done) ?_; intro K hK; go_big_quiet_op; go_big_quiet_on))
  refine wpStab_made (fun v w' => RV nodeRep packA w' any b v) ?_ ?_ ?_ ?_
  · go_simp
  · simp
  · intro y _
    refine stabAt_call (f := 9) (args := #[.agg #[.int .i64 b.kind, .int .i64 b.num, .string b.text, .slice na1 b.names.length nc1, .slice ka1 b.kids.length kc1]]) ?_ ?_
    · go_simp
    · refine (uToN b _ _ C1.out (HV1.out.grow (((by repeat (first | with_reducible exact Ext.refl _ _ | with_reducible refine Ext.trans ?_ (by assumption) | with_reducible refine Ext.drew ?_ | with_reducible refine Ext.drewN ?_ _ | with_reducible refine Ext.alloc ?_ _ | with_reducible refine Ext.setNew ?_ (by simp; done) _ | with_reducible refine Ext.setNew ?_ (by simp; omega) _)) : Grow w w2).trans (later_grow _ _)))).mono ?_
      rintro e w' ⟨v', fp, rfl, hg, hF, _⟩
      exact ⟨_, rfl, hg, hF.rv⟩
  intro uu1
  go_frame
  refine wpStab_made (fun v w' => lawDifR a b w' v) ?_ ?_ ?_ ?_
  · go_simp
  · simp
  · intro y hE
    have K0 : RV nodeRep packA (later w2 y) any a uu0 := ((hE ⟨1, .data⟩ (by simp) (by decide)).1).2 rfl
    have K1 : RV nodeRep packA (later w2 y) any b uu1 := (hE ⟨3, .data⟩ (by simp) (by decide)).2 rfl
    refine stabAt_call (f := 19) (args := #[uu0, uu1]) ?_ ?_
    · go_simp
    · refine (specDiffSize_ok a b _ _ _  K0 K1).mono ?_
      rintro e w' ⟨rfl, hg⟩
      exact ⟨_, rfl, hg, rfl⟩
  intro vvs
  go_frame
  first | (repeat (refine wpStab_quiet (by kernel_rfl) (by kernel_rfl) (by simp; done) ?_; intro K hK; go_big_quiet_op; go_big_quiet_on)) | skip
  refine wpStab_end' ?_
  intro w3 hg3 hE
  obtain rfl : lawDifR a b w3 vvs := (hE 4).2 rfl
  clear hE p0 p1 p2 p3 p4 pB q0 q1 q2 q3 q4 qB
  have z3 := hg3.size
  have hpB := HB0.out.grow (w' := w3) (by repeat (first | with_reducible exact Ext.refl _ _ | with_reducible refine Ext.trans ?_ (by assumption) | with_reducible refine Ext.drew ?_ | with_reducible refine Ext.drewN ?_ _ | with_reducible refine Ext.alloc ?_ _ | with_reducible refine Ext.setNew ?_ (by simp; done) _ | with_reducible refine Ext.setNew ?_ (by simp; omega) _))
  have p0 := hpB.cell 0 _ rfl; have p1 := hpB.cell 1 _ rfl; have p2 := hpB.cell 2 _ rfl; have p3 := hpB.cell 3 _ rfl; have p4 := hpB.cell 4 _ rfl; have pz := hpB.lt
  go_wp2_with fail
  refine (uToN a _ _ C0.out (HV0.out.grow (by repeat (first | with_reducible exact Ext.refl _ _ | with_reducible refine Ext.trans ?_ (by assumption) | with_reducible refine Ext.drew ?_ | with_reducible refine Ext.drewN ?_ _ | with_reducible refine Ext.alloc ?_ _ | with_reducible refine Ext.setNew ?_ (by simp; done) _ | with_reducible refine Ext.setNew ?_ (by simp; omega) _)))).mono ?_
  rintro e w4 ⟨y0, f0, rfl, hg4, hF, hfr⟩
  have z4 := hg4.size
  try simp only [World.size_alloc] at z4
  try simp only [World.size_alloc] at hfr
  have F0 := Lib.hid hF
  have S0 := Lib.hid (Seg.of hfr)
  obtain ⟨nax0, ncx0, kax0, kcx0, rfl⟩ := openV_node hF.rv
  unfold nodeV at *
  clear hF hfr p0 p1 p2 p3 p4 hpB pz
  have HBx0 := Lib.hid (BoxN.new w4 [.int .i64 a.kind, .int .i64 a.num, .string a.text, .slice nax0 a.names.length ncx0, .slice kax0 a.kids.length kcx0] 33)
  have hpB := HB1.out.grow (w' := w4) (by repeat (first | with_reducible exact Ext.refl _ _ | with_reducible refine Ext.trans ?_ (by assumption) | with_reducible refine Ext.drew ?_ | with_reducible refine Ext.drewN ?_ _ | with_reducible refine Ext.alloc ?_ _ | with_reducible refine Ext.setNew ?_ (by simp; done) _ | with_reducible refine Ext.setNew ?_ (by simp; omega) _))
  have p0 := hpB.cell 0 _ rfl; have p1 := hpB.cell 1 _ rfl; have p2 := hpB.cell 2 _ rfl; have p3 := hpB.cell 3 _ rfl; have p4 := hpB.cell 4 _ rfl; have pz := hpB.lt
  go_wp2_with fail
  refine (uToN b _ _ C1.out (HV1.out.grow (by repeat (first | with_reducible exact Ext.refl _ _ | with_reducible refine Ext.trans ?_ (by assumption) | with_reducible refine Ext.drew ?_ | with_reducible refine Ext.drewN ?_ _ | with_reducible refine Ext.alloc ?_ _ | with_reducible refine Ext.setNew ?_ (by simp; done) _ | with_reducible refine Ext.setNew ?_ (by simp; omega) _)))).mono ?_
  rintro e w5 ⟨y1, f1, rfl, hg5, hF, hfr⟩
  have z5 := hg5.size
  try simp only [World.size_alloc] at z5
  try simp only [World.size_alloc] at hfr
  have F1 := Lib.hid hF
  have S1 := Lib.hid (Seg.of hfr)
  obtain ⟨nax1, ncx1, kax1, kcx1, rfl⟩ := openV_node hF.rv
  unfold nodeV at *
  clear hF hfr p0 p1 p2 p3 p4 hpB pz
  have HBx1 := Lib.hid (BoxN.new w5 [.int .i64 b.kind, .int .i64 b.num, .string b.text, .slice nax1 b.names.length ncx1, .slice kax1 b.kids.length kcx1] 33)
  have pB0 := HBx0.out.grow (w' := w5) (by repeat (first | with_reducible exact Ext.refl _ _ | with_reducible refine Ext.trans ?_ (by assumption) | with_reducible refine Ext.drew ?_ | with_reducible refine Ext.drewN ?_ _ | with_reducible refine Ext.alloc ?_ _ | with_reducible refine Ext.setNew ?_ (by simp; done) _ | with_reducible refine Ext.setNew ?_ (by simp; omega) _))
  have p0 := pB0.cell 0 _ rfl; have p1 := pB0.cell 1 _ rfl; have p2 := pB0.cell 2 _ rfl; have p3 := pB0.cell 3 _ rfl; have p4 := pB0.cell 4 _ rfl; have pz := pB0.lt
  go_wp2_with fail
  refine (implDiffSize_ok a b _ _ _  (F0.out.rv.grow (by repeat (first | with_reducible exact Ext.refl _ _ | with_reducible refine Ext.trans ?_ (by assumption) | with_reducible refine Ext.drew ?_ | with_reducible refine Ext.drewN ?_ _ | with_reducible refine Ext.alloc ?_ _ | with_reducible refine Ext.setNew ?_ (by simp; done) _ | with_reducible refine Ext.setNew ?_ (by simp; omega) _))) (F1.out.rv.grow (by repeat (first | with_reducible exact Ext.refl _ _ | with_reducible refine Ext.trans ?_ (by assumption) | with_reducible refine Ext.drew ?_ | with_reducible refine Ext.drewN ?_ _ | with_reducible refine Ext.alloc ?_ _ | with_reducible refine Ext.setNew ?_ (by simp; done) _ | with_reducible refine Ext.setNew ?_ (by simp; omega) _)))).mono ?_
  rintro e w6 ⟨rfl, hg6⟩
  have z6 := hg6.size
  try simp only [World.size_alloc] at z6
  clear p0 p1 p2 p3 p4 pB0 pz
  go_wp2_with fail
  have pB := HBx0.out.grow (w' := w6) (by repeat (first | with_reducible exact Ext.refl _ _ | with_reducible refine Ext.trans ?_ (by assumption) | with_reducible refine Ext.drew ?_ | with_reducible refine Ext.drewN ?_ _ | with_reducible refine Ext.alloc ?_ _ | with_reducible refine Ext.setNew ?_ (by simp; done) _ | with_reducible refine Ext.setNew ?_ (by simp; omega) _))
  have p0 := pB.cell 0 _ rfl; have p1 := pB.cell 1 _ rfl; have p2 := pB.cell 2 _ rfl; have p3 := pB.cell 3 _ rfl; have p4 := pB.cell 4 _ rfl
  have qB := HB0.out.grow (w' := w6) (by repeat (first | with_reducible exact Ext.refl _ _ | with_reducible refine Ext.trans ?_ (by assumption) | with_reducible refine Ext.drew ?_ | with_reducible refine Ext.drewN ?_ _ | with_reducible refine Ext.alloc ?_ _ | with_reducible refine Ext.setNew ?_ (by simp; done) _ | with_reducible refine Ext.setNew ?_ (by simp; omega) _))
  have q0 := qB.cell 0 _ rfl; have q1 := qB.cell 1 _ rfl; have q2 := qB.cell 2 _ rfl; have q3 := qB.cell 3 _ rfl; have q4 := qB.cell 4 _ rfl
  refine wp_region_stab Grow (fun i => if i = 2 then some (fun v w' => RV nodeRep packA w' any a v) else if i = 3 then some (fun v _ => v = .bool true) else none) (by kernel_rfl) (by kernel_rfl) ⟨Ext.refl nil, fun _ _ h1 h2 => h2.trans h1, ?_⟩ ?_
  · intro i V hV v w1 w2 hr hv
    by_cases h1 : i = 2
    · simp only [h1, if_true, Option.some.injEq] at hV; subst hV; exact RV.grow hv hr
    · by_cases h3 : i = 3
      · simp [h3] at hV; subst hV; exact hv
      · simp [h1, h3] at hV
  (refine wpStab_quiet (by kernel_rfl) (by kernel_rfl) (by simp) ?_; intro K hK; go_big_quiet_op; go_big_quiet_on)
  (refine wpStab_quiet (by kernel_rfl) (by kernel_rfl) (by simp) ?_; intro K hK; go_big_quiet_op; go_big_quiet_on)
  refine wpStab_made (fun v w' => RV nodeRep packA w' any a v) ?_ ?_ ?_ ?_
  · go_simp
  · simp
  · intro y _
    refine stabAt_call (f := 9) (args := #[.agg #[.int .i64 a.kind, .int .i64 a.num, .string a.text, .slice na0 a.names.length nc0, .slice ka0 a.kids.length kc0]]) ?_ ?_
    · go_simp
    · refine (uToN a _ _ C0.out (HV0.out.grow (((by repeat (first | with_reducible exact Ext.refl _ _ | with_reducible refine Ext.trans ?_ (by assumption) | with_reducible refine Ext.drew ?_ | with_reducible refine Ext.drewN ?_ _ | with_reducible refine Ext.alloc ?_ _ | with_reducible refine Ext.setNew ?_ (by simp; done) _ | with_reducible refine Ext.setNew ?_ (by simp; omega) _)) : Grow w w6).trans (later_grow _ _)))).mono ?_
      rintro e w' ⟨v', fp, rfl, hg, hF, _⟩
      exact ⟨_, rfl, hg, hF.rv⟩
  intro vt
  go_frame
  refine wpStab_const (.bool true) ?_ ?_ ?_ ?_
  · go_simp
  · simp
  · intro y hE
    have Hr6 : RV nodeRep packA (later w6 y) any a vt := (hE ⟨2, .data⟩ (by simp) (by decide)).2 rfl
    clear hE
    refine stabAt_call (f := 12) (args := #[.agg #[.int .i64 a.kind, .int .i64 a.num, .string a.text, .slice nax0 a.names.length ncx0, .slice kax0 a.kids.length kcx0], vt]) ?_ ?_
    · go_simp
    · refine (uEqN a _ _ _ (F0.out.rv.grow (((by repeat (first | with_reducible exact Ext.refl _ _ | with_reducible refine Ext.trans ?_ (by assumption) | with_reducible refine Ext.drew ?_ | with_reducible refine Ext.drewN ?_ _ | with_reducible refine Ext.alloc ?_ _ | with_reducible refine Ext.setNew ?_ (by simp; done) _ | with_reducible refine Ext.setNew ?_ (by simp; omega) _)) : Grow _ w6).trans (later_grow _ _))) Hr6).mono ?_
      rintro e w' ⟨rfl, hg⟩
      exact ⟨_, rfl, hg, rfl⟩
  go_frame
  (refine wpStab_quiet (by kernel_rfl) (by kernel_rfl) (by simp) ?_; intro K hK; go_big_quiet_op; go_big_quiet_on)
  refine wpStab_end ?_
  intro w7 hg7
  clear p0 p1 p2 p3 p4 pB q0 q1 q2 q3 q4 qB
  have z7 := hg7.size
  go_wp2_with fail
  have pB := HBx1.out.grow (w' := w7) (by repeat (first | with_reducible exact Ext.refl _ _ | with_reducible refine Ext.trans ?_ (by assumption) | with_reducible refine Ext.drew ?_ | with_reducible refine Ext.drewN ?_ _ | with_reducible refine Ext.alloc ?_ _ | with_reducible refine Ext.setNew ?_ (by simp; done) _ | with_reducible refine Ext.setNew ?_ (by simp; omega) _))
  have p0 := pB.cell 0 _ rfl; have p1 := pB.cell 1 _ rfl; have p2 := pB.cell 2 _ rfl; have p3 := pB.cell 3 _ rfl; have p4 := pB.cell 4 _ rfl
  have qB := HB1.out.grow (w' := w7) (by repeat (first | with_reducible exact Ext.refl _ _ | with_reducible refine Ext.trans ?_ (by assumption) | with_reducible refine Ext.drew ?_ | with_reducible refine Ext.drewN ?_ _ | with_reducible refine Ext.alloc ?_ _ | with_reducible refine Ext.setNew ?_ (by simp; done) _ | with_reducible refine Ext.setNew ?_ (by simp; omega) _))
  have q0 := qB.cell 0 _ rfl; have q1 := qB.cell 1 _ rfl; have q2 := qB.cell 2 _ rfl; have q3 := qB.cell 3 _ rfl; have q4 := qB.cell 4 _ rfl
  refine wp_region_stab Grow (fun i => if i = 2 then some (fun v w' => RV nodeRep packA w' any b v) else if i = 3 then some (fun v _ => v = .bool true) else none) (by kernel_rfl) (by kernel_rfl) ⟨Ext.refl nil, fun _ _ h1 h2 => h2.trans h1, ?_⟩ ?_
  · intro i V hV v w1 w2 hr hv
    by_cases h1 : i = 2
    · simp only [h1, if_true, Option.some.injEq] at hV; subst hV; exact RV.grow hv hr
    · by_cases h3 : i = 3
      · simp [h3] at hV; subst hV; exact hv
      · simp [h1, h3] at hV
  (refine wpStab_quiet (by kernel_rfl) (by kernel_rfl) (by simp) ?_; intro K hK; go_big_quiet_op; go_big_quiet_on)
  (refine wpStab_quiet (by kernel_rfl) (by kernel_rfl) (by simp) ?_; intro K hK; go_big_quiet_op; go_big_quiet_on)
  refine wpStab_made (fun v w' => RV nodeRep packA w' any b v) ?_ ?_ ?_ ?_
  · go_simp
  · simp
  · intro y _
    refine stabAt_call (f := 9) (args := #[.agg #[.int .i64 b.kind, .int .i64 b.num, .string b.text, .slice na1 b.names.length nc1, .slice ka1 b.kids.length kc1]]) ?_ ?_
    · go_simp
    · refine (uToN b _ _ C1.out (HV1.out.grow (((by repeat (first | with_reducible exact Ext.refl _ _ | with_reducible refine Ext.trans ?_ (by assumption) | with_reducible refine Ext.drew ?_ | with_reducible refine Ext.drewN ?_ _ | with_reducible refine Ext.alloc ?_ _ | with_reducible refine Ext.setNew ?_ (by simp; done) _ | with_reducible refine Ext.setNew ?_ (by simp; omega) _)) : Grow w w7).trans (later_grow _ _)))).mono ?_
      rintro e w' ⟨v', fp, rfl, hg, hF, _⟩
      exact ⟨_, rfl, hg, hF.rv⟩
  intro vt
  go_frame
  refine wpStab_const (.bool true) ?_ ?_ ?_ ?_
  · go_simp
  · simp
  · intro y hE
    have Hr6 : RV nodeRep packA (later w7 y) any b vt := (hE ⟨2, .data⟩ (by simp) (by decide)).2 rfl
    clear hE
    refine stabAt_call (f := 12) (args := #[.agg #[.int .i64 b.kind, .int .i64 b.num, .string b.text, .slice nax1 b.names.length ncx1, .slice kax1 b.kids.length kcx1], vt]) ?_ ?_
    · go_simp
    · refine (uEqN b _ _ _ (F1.out.rv.grow (((by repeat (first | with_reducible exact Ext.refl _ _ | with_reducible refine Ext.trans ?_ (by assumption) | with_reducible refine Ext.drew ?_ | with_reducible refine Ext.drewN ?_ _ | with_reducible refine Ext.alloc ?_ _ | with_reducible refine Ext.setNew ?_ (by simp; done) _ | with_reducible refine Ext.setNew ?_ (by simp; omega) _)) : Grow _ w7).trans (later_grow _ _))) Hr6).mono ?_
      rintro e w' ⟨rfl, hg⟩
      exact ⟨_, rfl, hg, rfl⟩
  go_frame
  (refine wpStab_quiet (by kernel_rfl) (by kernel_rfl) (by simp) ?_; intro K hK; go_big_quiet_op; go_big_quiet_on)
  refine wpStab_end ?_
  intro w8 hg8
  clear p0 p1 p2 p3 p4 pB q0 q1 q2 q3 q4 qB
  have z8 := hg8.size
  go_wp2_with fail
  go_ret
  exact ⟨by simp, (by repeat (first | with_reducible exact Ext.refl _ _ | with_reducible refine Ext.trans ?_ (by assumption) | with_reducible refine Ext.drew ?_ | with_reducible refine Ext.drewN ?_ _ | with_reducible refine Ext.alloc ?_ _ | with_reducible refine Ext.setNew ?_ (by simp; done) _ | with_reducible refine Ext.setNew ?_ (by simp; omega) _))⟩
theorem lawDif_ok (a : Nd) (b : Nd) (v0 : Value) (v1 : Value) (w : World) (h0 : RV nodeRep packA w any a v0) (h1 : RV nodeRep packA w any b v1) :
    Calls Tryd.prog 5 #[v0, v1] w fun e w' => e = .returned (.bool true) ∧ Grow w w' := by
  by_cases hc : costN a + costN b ≤ 1048576
  · exact lawDif_main a b v0 v1 w h0 h1 hc
  · exact lawDif_big a b v0 v1 w h0 h1 hc
end Go.Proofs.YtmmaanbppheabaaDoor
namespace Go.Proofs.YtmmaanbppheabaaDoor
open Go.RowKit
end Go.Proofs.YtmmaanbppheabaaDoor
namespace Go.Proofs.YtmmaanbppheabaaDoor
open Go.RowKit
end Go.Proofs.YtmmaanbppheabaaDoor
namespace Go.Proofs.YtmmaanbppheabaaDoor
open Go.RowKit
end Go.Proofs.YtmmaanbppheabaaDoor
namespace Go.Proofs.YtmmaanbppheabaaDoor
open Go.RowKit
end Go.Proofs.YtmmaanbppheabaaDoor
namespace Go.Proofs.YtmmaanbppheabaaDoor
open Go.RowKit Go.ChangeShapes Go.WideShapes Go.Deep
section
variable {H : Type} {enc : TypeId × Value → H} {W : World} {base : Nat} {sp : Nat → Bool} {held : Bool}
end
end Go.Proofs.YtmmaanbppheabaaDoor
namespace Go.Proofs.YtmmaanbppheabaaDoor
open Go.RowKit Go.ChangeShapes Go.WideShapes Go.Deep
section
variable {H : Type} {enc : TypeId × Value → H} {W : World} {base : Nat} {sp : Nat → Bool} {held : Bool}
end
end Go.Proofs.YtmmaanbppheabaaDoor
namespace Go.Proofs.YtmmaanbppheabaaDoor
open Go.RowKit
end Go.Proofs.YtmmaanbppheabaaDoor
namespace Go.Proofs.YtmmaanbppheabaaDoor
open Go.RowKit
end Go.Proofs.YtmmaanbppheabaaDoor
namespace Go.Proofs.YtmmaanbppheabaaDoor
open Go.RowKit
theorem lt_trans {a b c : ByteArray} (h1 : lt a b = true) (h2 : lt b c = true) : lt a c = true := bl_trans _ _ _ h1 h2
end Go.Proofs.YtmmaanbppheabaaDoor
namespace Go.Proofs.YtmmaanbppheabaaDoor
open Go.RowKit Go.ChangeShapes Go.WideShapes Go.Deep
section
variable {H : Type} {enc : TypeId × Value → H} {W : World} {base : Nat} {sp : Nat → Bool} {held : Bool}
theorem rv_node {fuel : Nat} {cs : Array Value} {x : DataW H × List MemPlace} (h : DataW.trod enc Tryd.prog W base sp held fuel 25 cs.toList = some x) : ∃ y, RV nodeRep packA W any y (.agg cs) := by
  obtain ⟨q, na, nc, ka, kc, e2, hq⟩ := open_node _ _ _ h
  exact ⟨q, cs.toList, rfl, na, nc, ka, kc, e2, hq⟩
end
end Go.Proofs.YtmmaanbppheabaaDoor
