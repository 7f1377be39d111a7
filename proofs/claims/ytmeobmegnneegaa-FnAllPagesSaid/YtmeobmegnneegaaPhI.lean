/-
  Texts of this claim, joined: EDraw, Open, EBytes, ELawPg, Paths, Row, AllP, EPgThy, ELawPgN, CopyI, FindI, ItmMark, StoLaw, CopyS, ItmU, EStoBr2, ELawPgW, EPaths.
-/
import Derived.ProofKit
import Derived.Deep.Slices
import Derived.Deep.Fields
import Derived.Laws.CopyOwn
import Derived.Deep.RegionHeld3
import Derived.Test.YtmeobmegnneegaaPhH

set_option linter.unusedSimpArgs false
set_option linter.unusedVariables false

/-
  What is drawn of bytes: the arguments of the laws on stores; laws.equalTexts.
-/
-- EV: store
namespace Go.Proofs.Ytmeobmegnneegaa.Eng
open Go Go.RowKit
attribute [local simp] big size_mk ASt.pay Option.map_map Function.comp_def awant aop acall ado aev ofVal ofVal0 ASt.put ASt.add ASt.turn ASt.kill abox aalloc astore aload ASt.at cellsTo afieldAddr afield aindexAddr aindex alen abin aint acmp astr aun apick aextract anil aslice abound abuild afill abuildSlice asCells aps avCells over upd aappend asrc amax amin aconv mkSt slots rowsOf_cons rowsOf_nil usedOf_cons usedOf_nil ZK.av List.replicate nodeA nodeT nodeTL_eq nodeL_eq strsE_get strsE_len intsE_get intsE_len strsE_at intsE_at itemA itemL_eq storeA storeT storeO itemsRow tab2 tab3 tab4 tab5 tab6 tab7 tab8 tab9 tab10 tab11 tab12 tab13 tab14 tab15 tab16 tab17 tab18 tab19 tab21 tab22 tab23 tab24 tab25 tab26 tab27 tab28 tab31 tab32 tab33 tab37 tab38 tab39 tab46 tab53 tab61 tab62 tab69 tab70 tab98 tab116 tab117 tab125 tab126 tab128 tab136 tab145 tab146 tab151 tab152 tab153 tab155 tab156 tab157

def ByteL (zs : List Int) : Prop := ∀ z ∈ zs, 0 ≤ z ∧ z ≤ 255
theorem bytes_clo {t : VC} (zs : List Int) : Clo (.view t 1 (bytesE zs)) := clo_view (by
  intro e he c hc
  obtain ⟨z, _, rfl⟩ := List.mem_map.1 he
  rw [List.mem_singleton.1 hc]; exact clo_int)
theorem bytesE_len (zs : List Int) : (bytesE zs).length = zs.length := by unfold bytesE; rw [List.length_map]

set_option linter.unusedSimpArgs false
def cD : Nat := cS + 2 + cN + 10 + cN + cN
theorem cD_le : cD ≤ 1000000 := by decide +kernel

theorem anyLimit_any : AC Try.prog 93 [.rdr] 1 (fun r => ∃ x : Int, r = .int .i64 x) := anyLimit_AC.mono (fun r ⟨x, _, e⟩ => ⟨x, e⟩)
theorem tup3_pur {a b c : AV} (h : Pur a) (k : Pur b) (l : Pur c) : Pur (.tup [a, b, c]) := pur_tup (by
  simp only [List.forall_mem_cons, List.not_mem_nil, false_implies, implies_true, and_true]
  exact ⟨h, k, l⟩)

set_option maxRecDepth 100000 in
set_option maxHeartbeats 16000000 in
theorem drawPageOf_AC0 (zs : List Int) (hl : zs.length ≤ 1048576) (hb : ByteL zs) : AC0 Try.prog 33 [.view .loose 1 (bytesE zs)] (fun r => ∃ (s : Sto) (x : ByteArray) (k : Int), s.1.length ≤ 1000 ∧ r = .tup [storeA s, .str x, .int .i64 k]) := by
  have hc := cD_le
  have hlt : cS + 2 + cN + 10 ≤ cD := by unfold cD; omega
  have hS := anyStore_AC
  generalize cS + 2 + cN = C at *
  generalize cD = D at *
  refine AC0.of tab_ok mixed_ok Try.func33 (by rfl) (by kernel_rfl) ?_; rintro ⟨P, T, hT, hm, w0, S0, rd0, k0⟩ hP hTT hk0; dsimp only at hP hTT hk0; subst hP hTT hk0; unfold initSt; rw [Try.ntmps33]
  (repeat (first | with_reducible refine AW.seq ?_ | (refine arun_kn 4 rfl (fun C hC => ?_); ((repeat ((conv => whnf); simp)); refine hC _ ?_; clear hC C; simp only [List.drop_succ_cons, List.drop_zero, List.drop_nil, Nat.reduceAdd])) | (refine arun_kn 1 rfl (fun C hC => ?_); ((repeat ((conv => whnf); simp)); refine hC _ ?_; clear hC C; simp only [List.drop_succ_cons, List.drop_zero, List.drop_nil, Nat.reduceAdd])) | (refine arun_skip ?_ ?_; (focus (simp [awant]; done))) | (refine arun_callN D ?_ rfl ?_ (newReader_ACN zs (0 + D) hl (by omega) hb) ?_ rfl ?_; (focus (simp [awant]; done)); (focus (simp [ASt.put, ASt.pay, ASt.add, Option.map_map, Function.comp_def, List.set_cons_succ, List.set_cons_zero, aev, ofVal, ofVal0, big, size_mk, nodeA, nodeT, nodeTL_eq, nodeL_eq, itemA, itemL_eq, storeA, storeT, storeO, itemsRow]; done)); (focus (simp only [cloL]; (repeat (first | exact trivial | refine And.intro ?_ ?_ | exact clo_int | exact clo_str | exact clo_bool | exact clo_rdr | exact node_clo _ | exact nodeT_clo _ _ | exact strs_clo _ | exact ints_clo _ | exact nodes_clo _ | exact clo_vnil | exact bytes_clo _ | exact clo_lit _ rfl | assumption | exact item_clo _ | exact items_clo _ | exact store_clo _ _ | exact storeA_clo _)); done))) | (refine arun_call (c := C) ?_ rfl ?_ (hS) ?_ ?_ ?_; (focus (simp [awant]; done)); (focus (simp [ASt.put, ASt.pay, ASt.add, Option.map_map, Function.comp_def, List.set_cons_succ, List.set_cons_zero, aev, ofVal, ofVal0, big, size_mk, nodeA, nodeT, nodeTL_eq, nodeL_eq, itemA, itemL_eq, storeA, storeT, storeO, itemsRow]; done)); (focus (simp only [cloL]; (repeat (first | exact trivial | refine And.intro ?_ ?_ | exact clo_int | exact clo_str | exact clo_bool | exact clo_rdr | exact node_clo _ | exact nodeT_clo _ _ | exact strs_clo _ | exact ints_clo _ | exact nodes_clo _ | exact clo_vnil | exact bytes_clo _ | exact clo_lit _ rfl | assumption | exact item_clo _ | exact items_clo _ | exact store_clo _ _ | exact storeA_clo _)); done)); (focus (first | with_reducible exact can_none | ((first | with_reducible refine can_some ?_ | refine can_of ?_ | (simp only [ASt.put, ASt.pay, ASt.add, Option.map_map, Function.comp_def, Option.map_some]; first | refine can_some ?_ | refine can_of ?_)); (first | exact Nat.le_refl _ | (simp; done) | omega)))); (rintro _ ⟨s, hs, rfl⟩)) | (refine arun_call (c := 1) ?_ rfl ?_ (pick_AC 3 (by omega) (by omega)) ?_ ?_ ?_; (focus (simp [awant]; done)); (focus (simp [ASt.put, ASt.pay, ASt.add, Option.map_map, Function.comp_def, List.set_cons_succ, List.set_cons_zero, aev, ofVal, ofVal0, big, size_mk, nodeA, nodeT, nodeTL_eq, nodeL_eq, itemA, itemL_eq, storeA, storeT, storeO, itemsRow]; done)); (focus (simp only [cloL]; (repeat (first | exact trivial | refine And.intro ?_ ?_ | exact clo_int | exact clo_str | exact clo_bool | exact clo_rdr | exact node_clo _ | exact nodeT_clo _ _ | exact strs_clo _ | exact ints_clo _ | exact nodes_clo _ | exact clo_vnil | exact bytes_clo _ | exact clo_lit _ rfl | assumption | exact item_clo _ | exact items_clo _ | exact store_clo _ _ | exact storeA_clo _)); done)); (focus (first | with_reducible exact can_none | ((first | with_reducible refine can_some ?_ | refine can_of ?_ | (simp only [ASt.put, ASt.pay, ASt.add, Option.map_map, Function.comp_def, Option.map_some]; first | refine can_some ?_ | refine can_of ?_)); (first | exact Nat.le_refl _ | (simp; done) | omega)))); (rintro _ ⟨v, rfl, -⟩)) | (refine arunD_kn 4 rfl (fun C hC => ?_); ((repeat ((conv => whnf); simp)); refine hC _ ?_; clear hC C; simp only [List.drop_succ_cons, List.drop_zero, List.drop_nil, Nat.reduceAdd])) | (refine arunD_kn 1 rfl (fun C hC => ?_); ((repeat ((conv => whnf); simp)); refine hC _ ?_; clear hC C; simp only [List.drop_succ_cons, List.drop_zero, List.drop_nil, Nat.reduceAdd])) | (refine arunD_call (c := C) rfl ?_ rfl ?_ (hS) rfl ?_ ?_ ?_ ?_; (focus (simp [awant]; done)); (focus (simp [ASt.put, ASt.pay, ASt.add, Option.map_map, Function.comp_def, List.set_cons_succ, List.set_cons_zero, aev, ofVal, ofVal0, big, size_mk, nodeA, nodeT, nodeTL_eq, nodeL_eq, itemA, itemL_eq, storeA, storeT, storeO, itemsRow]; done)); (focus (simp only [List.forall_mem_cons, List.not_mem_nil, false_implies, implies_true, and_true]; (repeat (first | exact trivial | refine And.intro ?_ ?_ | exact clo_int | exact clo_str | exact clo_bool | exact clo_rdr | exact node_clo _ | exact nodeT_clo _ _ | exact strs_clo _ | exact ints_clo _ | exact nodes_clo _ | exact clo_vnil | exact bytes_clo _ | exact clo_lit _ rfl | assumption | exact item_clo _ | exact items_clo _ | exact store_clo _ _ | exact storeA_clo _)); done)); (focus (first | with_reducible exact can_none | ((first | with_reducible refine can_some ?_ | refine can_of ?_ | (simp only [ASt.put, ASt.pay, ASt.add, Option.map_map, Function.comp_def, Option.map_some]; first | refine can_some ?_ | refine can_of ?_)); (first | exact Nat.le_refl _ | (simp; done) | omega)))); (focus (refine ⟨_, rfl, ?_⟩; first | exact node_in _ | exact storeA_in _ | exact item_in _ | exact in_int | exact in_bool | exact in_str | (simp [NoId, in_tup, in_agg, in_int, in_bool, in_str, node_in, nodes_in, strs_in]; done))); (rintro _ ⟨s, hs, rfl⟩); intro _) | (refine arunD_call (c := 1) rfl ?_ rfl ?_ (pick_AC 3 (by omega) (by omega)) rfl ?_ ?_ ?_ ?_; (focus (simp [awant]; done)); (focus (simp [ASt.put, ASt.pay, ASt.add, Option.map_map, Function.comp_def, List.set_cons_succ, List.set_cons_zero, aev, ofVal, ofVal0, big, size_mk, nodeA, nodeT, nodeTL_eq, nodeL_eq, itemA, itemL_eq, storeA, storeT, storeO, itemsRow]; done)); (focus (simp only [List.forall_mem_cons, List.not_mem_nil, false_implies, implies_true, and_true]; (repeat (first | exact trivial | refine And.intro ?_ ?_ | exact clo_int | exact clo_str | exact clo_bool | exact clo_rdr | exact node_clo _ | exact nodeT_clo _ _ | exact strs_clo _ | exact ints_clo _ | exact nodes_clo _ | exact clo_vnil | exact bytes_clo _ | exact clo_lit _ rfl | assumption | exact item_clo _ | exact items_clo _ | exact store_clo _ _ | exact storeA_clo _)); done)); (focus (first | with_reducible exact can_none | ((first | with_reducible refine can_some ?_ | refine can_of ?_ | (simp only [ASt.put, ASt.pay, ASt.add, Option.map_map, Function.comp_def, Option.map_some]; first | refine can_some ?_ | refine can_of ?_)); (first | exact Nat.le_refl _ | (simp; done) | omega)))); (focus (refine ⟨_, rfl, ?_⟩; first | exact node_in _ | exact storeA_in _ | exact item_in _ | exact in_int | exact in_bool | exact in_str | (simp [NoId, in_tup, in_agg, in_int, in_bool, in_str, node_in, nodes_in, strs_in]; done))); (rintro _ ⟨v, rfl, -⟩); intro _) | (refine arun_nil ?_; (refine hK _ ?_; clear hK K; simp only [thenA_normal, inBlockA_normal, endQ_normal, endR_normal])) | (refine arunD_nil ?_; (refine hK _ ?_; clear hK K; simp only [thenA_normal, inBlockA_normal, endQ_normal, endR_normal])) | (refine AW.regionK [] (fun K hK => ?_)) | (refine AW.regionDK [] (pcs [] []) (by kernel_rfl) (by kernel_rfl) (fun K hK => ?_)) | (refine AW.condT ?_ ?_; (focus (simp [aev]; done))) | (refine AW.condF ?_ ?_; (focus (simp [aev]; done))) | (refine AW.skip ?_; simp only [thenA_normal, inBlockA_normal]) | with_reducible refine AW.block ?_ | (refine AW.exit ?_; simp only [thenA_exit, inBlockA_exit, if_true, if_false, Nat.reduceEqDiff, thenA_normal, inBlockA_normal, reduceIte]) | (refine AW.ret ?_; simp only [thenA_ret, inBlockA_ret, endQ_ret, endR_ret])))
  by_cases hv : 0 < v
  · (repeat (first | with_reducible refine AW.seq ?_ | (refine arun_kn 4 rfl (fun C hC => ?_); ((repeat ((conv => whnf); simp [hv])); refine hC _ ?_; clear hC C; simp only [List.drop_succ_cons, List.drop_zero, List.drop_nil, Nat.reduceAdd])) | (refine arun_kn 1 rfl (fun C hC => ?_); ((repeat ((conv => whnf); simp [hv])); refine hC _ ?_; clear hC C; simp only [List.drop_succ_cons, List.drop_zero, List.drop_nil, Nat.reduceAdd])) | (refine arun_skip ?_ ?_; (focus (simp [awant, hv]; done))) | (refine arun_call (c := 3) ?_ rfl ?_ (nameIn_AC .loose s (by omega)) ?_ ?_ ?_; (focus (simp [awant]; done)); (focus (simp [ASt.put, ASt.pay, ASt.add, Option.map_map, Function.comp_def, List.set_cons_succ, List.set_cons_zero, aev, ofVal, ofVal0, big, size_mk, nodeA, nodeT, nodeTL_eq, nodeL_eq, itemA, itemL_eq, storeA, storeT, storeO, itemsRow, hv]; done)); (focus (simp only [cloL]; (repeat (first | exact trivial | refine And.intro ?_ ?_ | exact clo_int | exact clo_str | exact clo_bool | exact clo_rdr | exact node_clo _ | exact nodeT_clo _ _ | exact strs_clo _ | exact ints_clo _ | exact nodes_clo _ | exact clo_vnil | exact bytes_clo _ | exact clo_lit _ rfl | assumption | exact item_clo _ | exact items_clo _ | exact store_clo _ _ | exact storeA_clo _)); done)); (focus (first | with_reducible exact can_none | ((first | with_reducible refine can_some ?_ | refine can_of ?_ | (simp only [ASt.put, ASt.pay, ASt.add, Option.map_map, Function.comp_def, Option.map_some]; first | refine can_some ?_ | refine can_of ?_)); (first | exact Nat.le_refl _ | (simp; done) | omega)))); (rintro _ ⟨x, rfl⟩)) | (refine arun_call (c := 1) ?_ rfl ?_ (anyLimit_any) ?_ ?_ ?_; (focus (simp [awant]; done)); (focus (simp [ASt.put, ASt.pay, ASt.add, Option.map_map, Function.comp_def, List.set_cons_succ, List.set_cons_zero, aev, ofVal, ofVal0, big, size_mk, nodeA, nodeT, nodeTL_eq, nodeL_eq, itemA, itemL_eq, storeA, storeT, storeO, itemsRow, hv]; done)); (focus (simp only [cloL]; (repeat (first | exact trivial | refine And.intro ?_ ?_ | exact clo_int | exact clo_str | exact clo_bool | exact clo_rdr | exact node_clo _ | exact nodeT_clo _ _ | exact strs_clo _ | exact ints_clo _ | exact nodes_clo _ | exact clo_vnil | exact bytes_clo _ | exact clo_lit _ rfl | assumption | exact item_clo _ | exact items_clo _ | exact store_clo _ _ | exact storeA_clo _)); done)); (focus (first | with_reducible exact can_none | ((first | with_reducible refine can_some ?_ | refine can_of ?_ | (simp only [ASt.put, ASt.pay, ASt.add, Option.map_map, Function.comp_def, Option.map_some]; first | refine can_some ?_ | refine can_of ?_)); (first | exact Nat.le_refl _ | (simp; done) | omega)))); (rintro _ ⟨y, rfl⟩)) | (refine arunD_kn 4 rfl (fun C hC => ?_); ((repeat ((conv => whnf); simp [hv])); refine hC _ ?_; clear hC C; simp only [List.drop_succ_cons, List.drop_zero, List.drop_nil, Nat.reduceAdd])) | (refine arunD_kn 1 rfl (fun C hC => ?_); ((repeat ((conv => whnf); simp [hv])); refine hC _ ?_; clear hC C; simp only [List.drop_succ_cons, List.drop_zero, List.drop_nil, Nat.reduceAdd])) | (refine arunD_call (c := 3) rfl ?_ rfl ?_ (nameIn_AC .loose s (by omega)) rfl ?_ ?_ ?_ ?_; (focus (simp [awant]; done)); (focus (simp [ASt.put, ASt.pay, ASt.add, Option.map_map, Function.comp_def, List.set_cons_succ, List.set_cons_zero, aev, ofVal, ofVal0, big, size_mk, nodeA, nodeT, nodeTL_eq, nodeL_eq, itemA, itemL_eq, storeA, storeT, storeO, itemsRow, hv]; done)); (focus (simp only [List.forall_mem_cons, List.not_mem_nil, false_implies, implies_true, and_true]; (repeat (first | exact trivial | refine And.intro ?_ ?_ | exact clo_int | exact clo_str | exact clo_bool | exact clo_rdr | exact node_clo _ | exact nodeT_clo _ _ | exact strs_clo _ | exact ints_clo _ | exact nodes_clo _ | exact clo_vnil | exact bytes_clo _ | exact clo_lit _ rfl | assumption | exact item_clo _ | exact items_clo _ | exact store_clo _ _ | exact storeA_clo _)); done)); (focus (first | with_reducible exact can_none | ((first | with_reducible refine can_some ?_ | refine can_of ?_ | (simp only [ASt.put, ASt.pay, ASt.add, Option.map_map, Function.comp_def, Option.map_some]; first | refine can_some ?_ | refine can_of ?_)); (first | exact Nat.le_refl _ | (simp; done) | omega)))); (focus (refine ⟨_, rfl, ?_⟩; first | exact node_in _ | exact storeA_in _ | exact item_in _ | exact in_int | exact in_bool | exact in_str | (simp [NoId, in_tup, in_agg, in_int, in_bool, in_str, node_in, nodes_in, strs_in]; done))); (rintro _ ⟨x, rfl⟩); intro _) | (refine arunD_call (c := 1) rfl ?_ rfl ?_ (anyLimit_any) rfl ?_ ?_ ?_ ?_; (focus (simp [awant]; done)); (focus (simp [ASt.put, ASt.pay, ASt.add, Option.map_map, Function.comp_def, List.set_cons_succ, List.set_cons_zero, aev, ofVal, ofVal0, big, size_mk, nodeA, nodeT, nodeTL_eq, nodeL_eq, itemA, itemL_eq, storeA, storeT, storeO, itemsRow, hv]; done)); (focus (simp only [List.forall_mem_cons, List.not_mem_nil, false_implies, implies_true, and_true]; (repeat (first | exact trivial | refine And.intro ?_ ?_ | exact clo_int | exact clo_str | exact clo_bool | exact clo_rdr | exact node_clo _ | exact nodeT_clo _ _ | exact strs_clo _ | exact ints_clo _ | exact nodes_clo _ | exact clo_vnil | exact bytes_clo _ | exact clo_lit _ rfl | assumption | exact item_clo _ | exact items_clo _ | exact store_clo _ _ | exact storeA_clo _)); done)); (focus (first | with_reducible exact can_none | ((first | with_reducible refine can_some ?_ | refine can_of ?_ | (simp only [ASt.put, ASt.pay, ASt.add, Option.map_map, Function.comp_def, Option.map_some]; first | refine can_some ?_ | refine can_of ?_)); (first | exact Nat.le_refl _ | (simp; done) | omega)))); (focus (exact ⟨_, ⟨0, rfl⟩, in_int⟩)); (rintro _ ⟨y, rfl⟩); intro _) | (refine arun_nil ?_; (refine hK _ ?_; clear hK K; simp only [thenA_normal, inBlockA_normal, endQ_normal, endR_normal])) | (refine arunD_nil ?_; (refine hK _ ?_; clear hK K; simp only [thenA_normal, inBlockA_normal, endQ_normal, endR_normal])) | (refine AW.regionK [] (fun K hK => ?_)) | (refine AW.regionDK [] (pcs [(3, 1, fun r => ∃ y, r = .int .i64 y)] []) (by kernel_rfl) (by kernel_rfl) (fun K hK => ?_)) | (refine AW.condT ?_ ?_; (focus (simp [aev, hv]; done))) | (refine AW.condF ?_ ?_; (focus (simp [aev, hv]; done))) | (refine AW.skip ?_; simp only [thenA_normal, inBlockA_normal]) | with_reducible refine AW.block ?_ | (refine AW.exit ?_; simp only [thenA_exit, inBlockA_exit, if_true, if_false, Nat.reduceEqDiff, thenA_normal, inBlockA_normal, reduceIte]) | (refine AW.ret ?_; simp only [thenA_ret, inBlockA_ret, endQ_ret, endR_ret])))
    exact ⟨.tup [storeA s, .str x, .int .i64 y], by simp [ares, aresL, upd, rowsOf_cons], tup3_pur (storeA_pur s) pur_str pur_int, s, x, y, hs, rfl⟩
  · (repeat (first | with_reducible refine AW.seq ?_ | (refine arun_kn 4 rfl (fun C hC => ?_); ((repeat ((conv => whnf); simp [hv])); refine hC _ ?_; clear hC C; simp only [List.drop_succ_cons, List.drop_zero, List.drop_nil, Nat.reduceAdd])) | (refine arun_kn 1 rfl (fun C hC => ?_); ((repeat ((conv => whnf); simp [hv])); refine hC _ ?_; clear hC C; simp only [List.drop_succ_cons, List.drop_zero, List.drop_nil, Nat.reduceAdd])) | (refine arun_skip ?_ ?_; (focus (simp [awant, hv]; done))) | (refine arun_call (c := 1) ?_ rfl ?_ (anyLimit_any) ?_ ?_ ?_; (focus (simp [awant]; done)); (focus (simp [ASt.put, ASt.pay, ASt.add, Option.map_map, Function.comp_def, List.set_cons_succ, List.set_cons_zero, aev, ofVal, ofVal0, big, size_mk, nodeA, nodeT, nodeTL_eq, nodeL_eq, itemA, itemL_eq, storeA, storeT, storeO, itemsRow, hv]; done)); (focus (simp only [cloL]; (repeat (first | exact trivial | refine And.intro ?_ ?_ | exact clo_int | exact clo_str | exact clo_bool | exact clo_rdr | exact node_clo _ | exact nodeT_clo _ _ | exact strs_clo _ | exact ints_clo _ | exact nodes_clo _ | exact clo_vnil | exact bytes_clo _ | exact clo_lit _ rfl | assumption | exact item_clo _ | exact items_clo _ | exact store_clo _ _ | exact storeA_clo _)); done)); (focus (first | with_reducible exact can_none | ((first | with_reducible refine can_some ?_ | refine can_of ?_ | (simp only [ASt.put, ASt.pay, ASt.add, Option.map_map, Function.comp_def, Option.map_some]; first | refine can_some ?_ | refine can_of ?_)); (first | exact Nat.le_refl _ | (simp; done) | omega)))); (rintro _ ⟨y, rfl⟩)) | (refine arunD_kn 4 rfl (fun C hC => ?_); ((repeat ((conv => whnf); simp [hv])); refine hC _ ?_; clear hC C; simp only [List.drop_succ_cons, List.drop_zero, List.drop_nil, Nat.reduceAdd])) | (refine arunD_kn 1 rfl (fun C hC => ?_); ((repeat ((conv => whnf); simp [hv])); refine hC _ ?_; clear hC C; simp only [List.drop_succ_cons, List.drop_zero, List.drop_nil, Nat.reduceAdd])) | (refine arunD_call (c := 1) rfl ?_ rfl ?_ (anyLimit_any) rfl ?_ ?_ ?_ ?_; (focus (simp [awant]; done)); (focus (simp [ASt.put, ASt.pay, ASt.add, Option.map_map, Function.comp_def, List.set_cons_succ, List.set_cons_zero, aev, ofVal, ofVal0, big, size_mk, nodeA, nodeT, nodeTL_eq, nodeL_eq, itemA, itemL_eq, storeA, storeT, storeO, itemsRow, hv]; done)); (focus (simp only [List.forall_mem_cons, List.not_mem_nil, false_implies, implies_true, and_true]; (repeat (first | exact trivial | refine And.intro ?_ ?_ | exact clo_int | exact clo_str | exact clo_bool | exact clo_rdr | exact node_clo _ | exact nodeT_clo _ _ | exact strs_clo _ | exact ints_clo _ | exact nodes_clo _ | exact clo_vnil | exact bytes_clo _ | exact clo_lit _ rfl | assumption | exact item_clo _ | exact items_clo _ | exact store_clo _ _ | exact storeA_clo _)); done)); (focus (first | with_reducible exact can_none | ((first | with_reducible refine can_some ?_ | refine can_of ?_ | (simp only [ASt.put, ASt.pay, ASt.add, Option.map_map, Function.comp_def, Option.map_some]; first | refine can_some ?_ | refine can_of ?_)); (first | exact Nat.le_refl _ | (simp; done) | omega)))); (focus (exact ⟨_, ⟨0, rfl⟩, in_int⟩)); (rintro _ ⟨y, rfl⟩); intro _) | (refine arun_nil ?_; (refine hK _ ?_; clear hK K; simp only [thenA_normal, inBlockA_normal, endQ_normal, endR_normal])) | (refine arunD_nil ?_; (refine hK _ ?_; clear hK K; simp only [thenA_normal, inBlockA_normal, endQ_normal, endR_normal])) | (refine AW.regionK [] (fun K hK => ?_)) | (refine AW.regionDK [] (pcs [(3, 1, fun r => ∃ y, r = .int .i64 y)] []) (by kernel_rfl) (by kernel_rfl) (fun K hK => ?_)) | (refine AW.condT ?_ ?_; (focus (simp [aev, hv]; done))) | (refine AW.condF ?_ ?_; (focus (simp [aev, hv]; done))) | (refine AW.skip ?_; simp only [thenA_normal, inBlockA_normal]) | with_reducible refine AW.block ?_ | (refine AW.exit ?_; simp only [thenA_exit, inBlockA_exit, if_true, if_false, Nat.reduceEqDiff, thenA_normal, inBlockA_normal, reduceIte]) | (refine AW.ret ?_; simp only [thenA_ret, inBlockA_ret, endQ_ret, endR_ret])))
    exact ⟨.tup [storeA s, .str _, .int .i64 y], by simp [ares, aresL, upd, rowsOf_cons]; rfl, tup3_pur (storeA_pur s) pur_str pur_int, s, _, y, hs, rfl⟩

set_option maxRecDepth 100000 in
set_option maxHeartbeats 16000000 in
theorem drawAllPages_AC0 (zs : List Int) (hl : zs.length ≤ 1048576) (hb : ByteL zs) : AC0 Try.prog 43 [.view .loose 1 (bytesE zs)] (fun r => ∃ (s : Sto) (k : Int), s.1.length ≤ 1000 ∧ r = .tup [storeA s, .int .i64 k]) := by
  have hc := cD_le
  have hlt : cS + 2 + cN + 10 ≤ cD := by unfold cD; omega
  have hS := anyStore_AC
  generalize cS + 2 + cN = C at *
  generalize cD = D at *
  refine AC0.of tab_ok mixed_ok Try.func43 (by rfl) (by kernel_rfl) ?_; rintro ⟨P, T, hT, hm, w0, S0, rd0, k0⟩ hP hTT hk0; dsimp only at hP hTT hk0; subst hP hTT hk0; unfold initSt; rw [Try.ntmps43]
  (repeat (first | with_reducible refine AW.seq ?_ | (refine arun_kn 4 rfl (fun C hC => ?_); ((repeat ((conv => whnf); simp)); refine hC _ ?_; clear hC C; simp only [List.drop_succ_cons, List.drop_zero, List.drop_nil, Nat.reduceAdd])) | (refine arun_kn 1 rfl (fun C hC => ?_); ((repeat ((conv => whnf); simp)); refine hC _ ?_; clear hC C; simp only [List.drop_succ_cons, List.drop_zero, List.drop_nil, Nat.reduceAdd])) | (refine arun_skip ?_ ?_; (focus (simp [awant]; done))) | (refine arun_callN D ?_ rfl ?_ (newReader_ACN zs (0 + D) hl (by omega) hb) ?_ rfl ?_; (focus (simp [awant]; done)); (focus (simp [ASt.put, ASt.pay, ASt.add, Option.map_map, Function.comp_def, List.set_cons_succ, List.set_cons_zero, aev, ofVal, ofVal0, big, size_mk, nodeA, nodeT, nodeTL_eq, nodeL_eq, itemA, itemL_eq, storeA, storeT, storeO, itemsRow]; done)); (focus (simp only [cloL]; (repeat (first | exact trivial | refine And.intro ?_ ?_ | exact clo_int | exact clo_str | exact clo_bool | exact clo_rdr | exact node_clo _ | exact nodeT_clo _ _ | exact strs_clo _ | exact ints_clo _ | exact nodes_clo _ | exact clo_vnil | exact bytes_clo _ | exact clo_lit _ rfl | assumption | exact item_clo _ | exact items_clo _ | exact store_clo _ _ | exact storeA_clo _)); done))) | (refine arun_call (c := C) ?_ rfl ?_ (hS) ?_ ?_ ?_; (focus (simp [awant]; done)); (focus (simp [ASt.put, ASt.pay, ASt.add, Option.map_map, Function.comp_def, List.set_cons_succ, List.set_cons_zero, aev, ofVal, ofVal0, big, size_mk, nodeA, nodeT, nodeTL_eq, nodeL_eq, itemA, itemL_eq, storeA, storeT, storeO, itemsRow]; done)); (focus (simp only [cloL]; (repeat (first | exact trivial | refine And.intro ?_ ?_ | exact clo_int | exact clo_str | exact clo_bool | exact clo_rdr | exact node_clo _ | exact nodeT_clo _ _ | exact strs_clo _ | exact ints_clo _ | exact nodes_clo _ | exact clo_vnil | exact bytes_clo _ | exact clo_lit _ rfl | assumption | exact item_clo _ | exact items_clo _ | exact store_clo _ _ | exact storeA_clo _)); done)); (focus (first | with_reducible exact can_none | ((first | with_reducible refine can_some ?_ | refine can_of ?_ | (simp only [ASt.put, ASt.pay, ASt.add, Option.map_map, Function.comp_def, Option.map_some]; first | refine can_some ?_ | refine can_of ?_)); (first | exact Nat.le_refl _ | (simp; done) | omega)))); (rintro _ ⟨s, hs, rfl⟩)) | (refine arun_call (c := 1) ?_ rfl ?_ (anyLimit_any) ?_ ?_ ?_; (focus (simp [awant]; done)); (focus (simp [ASt.put, ASt.pay, ASt.add, Option.map_map, Function.comp_def, List.set_cons_succ, List.set_cons_zero, aev, ofVal, ofVal0, big, size_mk, nodeA, nodeT, nodeTL_eq, nodeL_eq, itemA, itemL_eq, storeA, storeT, storeO, itemsRow]; done)); (focus (simp only [cloL]; (repeat (first | exact trivial | refine And.intro ?_ ?_ | exact clo_int | exact clo_str | exact clo_bool | exact clo_rdr | exact node_clo _ | exact nodeT_clo _ _ | exact strs_clo _ | exact ints_clo _ | exact nodes_clo _ | exact clo_vnil | exact bytes_clo _ | exact clo_lit _ rfl | assumption | exact item_clo _ | exact items_clo _ | exact store_clo _ _ | exact storeA_clo _)); done)); (focus (first | with_reducible exact can_none | ((first | with_reducible refine can_some ?_ | refine can_of ?_ | (simp only [ASt.put, ASt.pay, ASt.add, Option.map_map, Function.comp_def, Option.map_some]; first | refine can_some ?_ | refine can_of ?_)); (first | exact Nat.le_refl _ | (simp; done) | omega)))); (rintro _ ⟨y, rfl⟩)) | (refine arunD_kn 4 rfl (fun C hC => ?_); ((repeat ((conv => whnf); simp)); refine hC _ ?_; clear hC C; simp only [List.drop_succ_cons, List.drop_zero, List.drop_nil, Nat.reduceAdd])) | (refine arunD_kn 1 rfl (fun C hC => ?_); ((repeat ((conv => whnf); simp)); refine hC _ ?_; clear hC C; simp only [List.drop_succ_cons, List.drop_zero, List.drop_nil, Nat.reduceAdd])) | (refine arunD_call (c := C) rfl ?_ rfl ?_ (hS) rfl ?_ ?_ ?_ ?_; (focus (simp [awant]; done)); (focus (simp [ASt.put, ASt.pay, ASt.add, Option.map_map, Function.comp_def, List.set_cons_succ, List.set_cons_zero, aev, ofVal, ofVal0, big, size_mk, nodeA, nodeT, nodeTL_eq, nodeL_eq, itemA, itemL_eq, storeA, storeT, storeO, itemsRow]; done)); (focus (simp only [List.forall_mem_cons, List.not_mem_nil, false_implies, implies_true, and_true]; (repeat (first | exact trivial | refine And.intro ?_ ?_ | exact clo_int | exact clo_str | exact clo_bool | exact clo_rdr | exact node_clo _ | exact nodeT_clo _ _ | exact strs_clo _ | exact ints_clo _ | exact nodes_clo _ | exact clo_vnil | exact bytes_clo _ | exact clo_lit _ rfl | assumption | exact item_clo _ | exact items_clo _ | exact store_clo _ _ | exact storeA_clo _)); done)); (focus (first | with_reducible exact can_none | ((first | with_reducible refine can_some ?_ | refine can_of ?_ | (simp only [ASt.put, ASt.pay, ASt.add, Option.map_map, Function.comp_def, Option.map_some]; first | refine can_some ?_ | refine can_of ?_)); (first | exact Nat.le_refl _ | (simp; done) | omega)))); (focus (refine ⟨_, rfl, ?_⟩; first | exact node_in _ | exact storeA_in _ | exact item_in _ | exact in_int | exact in_bool | exact in_str | (simp [NoId, in_tup, in_agg, in_int, in_bool, in_str, node_in, nodes_in, strs_in]; done))); (rintro _ ⟨s, hs, rfl⟩); intro _) | (refine arunD_call (c := 1) rfl ?_ rfl ?_ (anyLimit_any) rfl ?_ ?_ ?_ ?_; (focus (simp [awant]; done)); (focus (simp [ASt.put, ASt.pay, ASt.add, Option.map_map, Function.comp_def, List.set_cons_succ, List.set_cons_zero, aev, ofVal, ofVal0, big, size_mk, nodeA, nodeT, nodeTL_eq, nodeL_eq, itemA, itemL_eq, storeA, storeT, storeO, itemsRow]; done)); (focus (simp only [List.forall_mem_cons, List.not_mem_nil, false_implies, implies_true, and_true]; (repeat (first | exact trivial | refine And.intro ?_ ?_ | exact clo_int | exact clo_str | exact clo_bool | exact clo_rdr | exact node_clo _ | exact nodeT_clo _ _ | exact strs_clo _ | exact ints_clo _ | exact nodes_clo _ | exact clo_vnil | exact bytes_clo _ | exact clo_lit _ rfl | assumption | exact item_clo _ | exact items_clo _ | exact store_clo _ _ | exact storeA_clo _)); done)); (focus (first | with_reducible exact can_none | ((first | with_reducible refine can_some ?_ | refine can_of ?_ | (simp only [ASt.put, ASt.pay, ASt.add, Option.map_map, Function.comp_def, Option.map_some]; first | refine can_some ?_ | refine can_of ?_)); (first | exact Nat.le_refl _ | (simp; done) | omega)))); (focus (exact ⟨_, ⟨0, rfl⟩, in_int⟩)); (rintro _ ⟨y, rfl⟩); intro _) | (refine arun_nil ?_; (refine hK _ ?_; clear hK K; simp only [thenA_normal, inBlockA_normal, endQ_normal, endR_normal])) | (refine arunD_nil ?_; (refine hK _ ?_; clear hK K; simp only [thenA_normal, inBlockA_normal, endQ_normal, endR_normal])) | (refine AW.regionK [] (fun K hK => ?_)) | (refine AW.regionDK [] (pcs [(2, 1, fun r => ∃ y, r = .int .i64 y)] []) (by kernel_rfl) (by kernel_rfl) (fun K hK => ?_)) | (refine AW.condT ?_ ?_; (focus (simp [aev]; done))) | (refine AW.condF ?_ ?_; (focus (simp [aev]; done))) | (refine AW.skip ?_; simp only [thenA_normal, inBlockA_normal]) | with_reducible refine AW.block ?_ | (refine AW.exit ?_; simp only [thenA_exit, inBlockA_exit, if_true, if_false, Nat.reduceEqDiff, thenA_normal, inBlockA_normal, reduceIte]) | (refine AW.ret ?_; simp only [thenA_ret, inBlockA_ret, endQ_ret, endR_ret])))
  exact ⟨.tup [storeA s, .int .i64 y], by simp [ares, aresL, upd, rowsOf_cons], tup2_pur (storeA_pur s) pur_int, s, y, hs, rfl⟩

def eqT : List ByteArray → List ByteArray → Bool
  | [], [] => true
  | x :: xs, y :: ys => eqs x y && eqT xs ys
  | _, _ => false
theorem eqT_len : ∀ {xs ys : List ByteArray}, eqT xs ys = true → xs.length = ys.length
  | [], [], _ => rfl
  | x :: xs, y :: ys, h => by unfold eqT at h; rw [Bool.and_eq_true] at h; simp [eqT_len h.2]
  | [], _ :: _, h => by cases h
  | _ :: _, [], h => by cases h
theorem eqT_refl : ∀ xs : List ByteArray, eqT xs xs = true
  | [] => rfl
  | x :: xs => by unfold eqT; rw [eqs_iff.2 rfl, eqT_refl xs]; rfl
theorem eqT_of_ne {xs ys : List ByteArray} (h : xs.length ≠ ys.length) : eqT xs ys = false := by
  cases hb : eqT xs ys
  · rfl
  · exact absurd (eqT_len hb) h
set_option maxRecDepth 100000 in
set_option maxHeartbeats 16000000 in
theorem equalTexts_AC (t t' : VC) (xs ys : List ByteArray) (hb : xs.length ≤ 1000000) : AC Try.prog 36 [.view t 1 (strsE xs), .view t' 1 (strsE ys)] 0 (fun r => r = .bool (eqT xs ys)) := by
  refine AC.of tab_ok mixed_ok Try.func36 (by rfl) (by kernel_rfl) ?_; rintro ⟨P, T, hT, hm, w0, S0, rd0, k0⟩ hP hTT; dsimp only at hP hTT; subst hP hTT; unfold initSt; rw [Try.ntmps36]
  by_cases hlen : xs.length = ys.length
  · have hlen' : ((xs.length : Int) != (ys.length : Int)) = false := by rw [hlen]; simp
    (repeat (first | with_reducible refine AW.seq ?_ | (refine arun_kn 4 rfl (fun C hC => ?_); ((repeat ((conv => whnf); simp [strsE_len, hlen'])); refine hC _ ?_; clear hC C; simp only [List.drop_succ_cons, List.drop_zero, List.drop_nil, Nat.reduceAdd])) | (refine arun_kn 1 rfl (fun C hC => ?_); ((repeat ((conv => whnf); simp [strsE_len, hlen'])); refine hC _ ?_; clear hC C; simp only [List.drop_succ_cons, List.drop_zero, List.drop_nil, Nat.reduceAdd])) | (refine arun_skip ?_ ?_; (focus (simp [awant, strsE_len, hlen']; done))) | (refine arunD_kn 4 rfl (fun C hC => ?_); ((repeat ((conv => whnf); simp [strsE_len, hlen'])); refine hC _ ?_; clear hC C; simp only [List.drop_succ_cons, List.drop_zero, List.drop_nil, Nat.reduceAdd])) | (refine arunD_kn 1 rfl (fun C hC => ?_); ((repeat ((conv => whnf); simp [strsE_len, hlen'])); refine hC _ ?_; clear hC C; simp only [List.drop_succ_cons, List.drop_zero, List.drop_nil, Nat.reduceAdd])) | (refine arun_nil ?_; (refine hK _ ?_; clear hK K; simp only [thenA_normal, inBlockA_normal, endQ_normal, endR_normal])) | (refine arunD_nil ?_; (refine hK _ ?_; clear hK K; simp only [thenA_normal, inBlockA_normal, endQ_normal, endR_normal])) | (refine AW.regionK [] (fun K hK => ?_)) | (refine AW.regionDK [] (pcs [] []) (by kernel_rfl) (by kernel_rfl) (fun K hK => ?_)) | (refine AW.condT ?_ ?_; (focus (simp [aev, strsE_len, hlen']; done))) | (refine AW.condF ?_ ?_; (focus (simp [aev, strsE_len, hlen']; done))) | (refine AW.skip ?_; simp only [thenA_normal, inBlockA_normal]) | with_reducible refine AW.block ?_ | (refine AW.exit ?_; simp only [thenA_exit, inBlockA_exit, if_true, if_false, Nat.reduceEqDiff, thenA_normal, inBlockA_normal, reduceIte]) | (refine AW.ret ?_; simp only [thenA_ret, inBlockA_ret, endQ_ret, endR_ret])))
    refine AW.loopS (fun (i : Nat) => mkSt (slots 0 26 [(0, .view t 1 (strsE xs)), (1, .view t' 1 (strsE ys)), (5, .int .i64 i)]) [] [] (rd0.map fun _ => 0)) (fun i => xs.length - i) (fun i => i ≤ xs.length ∧ eqT xs ys = eqT (xs.drop i) (ys.drop i)) 0 ?_ ⟨Nat.zero_le _, rfl⟩ ?_
    · exact (less_of (by simp [lessL, mkSt, slots, itemA, itemL_eq, storeA, storeT, storeO, itemsRow]) (by simp [upd, mkSt, rowsOf_cons, itemA, itemL_eq, storeA, storeT, storeO, itemsRow]) (by simp [upd, mkSt, usedOf_cons, itemA, itemL_eq, storeA, storeT, storeO, itemsRow]) (by first | exact rd_less (by omega) | simp [mkSt, itemA, itemL_eq, storeA, storeT, storeO, itemsRow]) (by simp [slots, in_any, in_int, in_bool, in_str, in_ptr, in_own, in_agg, in_vnil, in_rdr, usedOf_cons, strs_in, ints_in, nodes_in, items_in, in_tup, itemA, itemL_eq, storeA, storeT, storeO, itemsRow]) (by simp only [List.forall_mem_cons, List.not_mem_nil, false_implies, implies_true, and_true, true_and, itemA, itemL_eq, storeA, storeT, storeO, itemsRow]; (repeat (first | with_reducible exact trivial | with_reducible refine And.intro ?_ ?_ | with_reducible exact in_int | with_reducible exact in_str | with_reducible exact in_bool | with_reducible exact strs_in _ | with_reducible exact nodes_in _ | with_reducible exact items_in _ | with_reducible exact in_vnil | with_reducible exact in_any | exact hin _ | with_reducible refine take_in ?_ | with_reducible exact strsE_in _ | with_reducible exact nodesE_in _ | with_reducible exact nodeL_in _ | with_reducible exact itemsE_in _ | with_reducible exact itemL_in _ | with_reducible refine app_in ?_ ?_ | with_reducible refine sing_in ?_ | (focus (simp [in_any, in_int, in_bool, in_str, in_ptr, in_own, in_agg, in_vnil, in_rdr, usedOf_cons, strs_in, ints_in, nodes_in, items_in, itemA, itemL_eq, storeA, storeT, storeO, itemsRow]; done)))); done))
    · rintro i ⟨hi, hf⟩
      by_cases hlt : i < xs.length
      · have hlt2 : i < ys.length := by omega
        have hw : IntKind.i64.wrap ((i : Int) + 1) = (i : Int) + 1 := i64_nat (by omega) (by omega)
        rw [List.drop_eq_getElem_cons hlt, List.drop_eq_getElem_cons hlt2, eqT] at hf
        cases h2 : eqs xs[i] ys[i] <;> rw [h2] at hf
        · (repeat (first | with_reducible refine AW.seq ?_ | (refine arun_kn 4 rfl (fun C hC => ?_); ((repeat ((conv => whnf); simp [hlt, hlt2, hw, h2, strsE_len])); refine hC _ ?_; clear hC C; simp only [List.drop_succ_cons, List.drop_zero, List.drop_nil, Nat.reduceAdd])) | (refine arun_kn 1 rfl (fun C hC => ?_); ((repeat ((conv => whnf); simp [hlt, hlt2, hw, h2, strsE_len])); refine hC _ ?_; clear hC C; simp only [List.drop_succ_cons, List.drop_zero, List.drop_nil, Nat.reduceAdd])) | (refine arun_skip ?_ ?_; (focus (simp [awant, hlt, hlt2, hw, h2, strsE_len]; done))) | (refine arunD_kn 4 rfl (fun C hC => ?_); ((repeat ((conv => whnf); simp [hlt, hlt2, hw, h2, strsE_len])); refine hC _ ?_; clear hC C; simp only [List.drop_succ_cons, List.drop_zero, List.drop_nil, Nat.reduceAdd])) | (refine arunD_kn 1 rfl (fun C hC => ?_); ((repeat ((conv => whnf); simp [hlt, hlt2, hw, h2, strsE_len])); refine hC _ ?_; clear hC C; simp only [List.drop_succ_cons, List.drop_zero, List.drop_nil, Nat.reduceAdd])) | (refine arun_nil ?_; (refine hK _ ?_; clear hK K; simp only [thenA_normal, inBlockA_normal, endQ_normal, endR_normal])) | (refine arunD_nil ?_; (refine hK _ ?_; clear hK K; simp only [thenA_normal, inBlockA_normal, endQ_normal, endR_normal])) | (refine AW.regionK [] (fun K hK => ?_)) | (refine AW.regionDK [] (pcs [] []) (by kernel_rfl) (by kernel_rfl) (fun K hK => ?_)) | (refine AW.condT ?_ ?_; (focus (simp [aev, hlt, hlt2, hw, h2, strsE_len]; done))) | (refine AW.condF ?_ ?_; (focus (simp [aev, hlt, hlt2, hw, h2, strsE_len]; done))) | (refine AW.skip ?_; simp only [thenA_normal, inBlockA_normal]) | with_reducible refine AW.block ?_ | (refine AW.exit ?_; simp only [thenA_exit, inBlockA_exit, if_true, if_false, Nat.reduceEqDiff, thenA_normal, inBlockA_normal, reduceIte]) | (refine AW.ret ?_; simp only [thenA_ret, inBlockA_ret, endQ_ret, endR_ret])))
          exact ⟨.bool false, by simp [ares, aresL], pur_bool, by rw [hf]; rfl⟩
        · (repeat (first | with_reducible refine AW.seq ?_ | (refine arun_kn 4 rfl (fun C hC => ?_); ((repeat ((conv => whnf); simp [hlt, hlt2, hw, h2, strsE_len])); refine hC _ ?_; clear hC C; simp only [List.drop_succ_cons, List.drop_zero, List.drop_nil, Nat.reduceAdd])) | (refine arun_kn 1 rfl (fun C hC => ?_); ((repeat ((conv => whnf); simp [hlt, hlt2, hw, h2, strsE_len])); refine hC _ ?_; clear hC C; simp only [List.drop_succ_cons, List.drop_zero, List.drop_nil, Nat.reduceAdd])) | (refine arun_skip ?_ ?_; (focus (simp [awant, hlt, hlt2, hw, h2, strsE_len]; done))) | (refine arunD_kn 4 rfl (fun C hC => ?_); ((repeat ((conv => whnf); simp [hlt, hlt2, hw, h2, strsE_len])); refine hC _ ?_; clear hC C; simp only [List.drop_succ_cons, List.drop_zero, List.drop_nil, Nat.reduceAdd])) | (refine arunD_kn 1 rfl (fun C hC => ?_); ((repeat ((conv => whnf); simp [hlt, hlt2, hw, h2, strsE_len])); refine hC _ ?_; clear hC C; simp only [List.drop_succ_cons, List.drop_zero, List.drop_nil, Nat.reduceAdd])) | (refine arun_nil ?_; (refine hK _ ?_; clear hK K; simp only [thenA_normal, inBlockA_normal, endQ_normal, endR_normal])) | (refine arunD_nil ?_; (refine hK _ ?_; clear hK K; simp only [thenA_normal, inBlockA_normal, endQ_normal, endR_normal])) | (refine AW.regionK [] (fun K hK => ?_)) | (refine AW.regionDK [] (pcs [] []) (by kernel_rfl) (by kernel_rfl) (fun K hK => ?_)) | (refine AW.condT ?_ ?_; (focus (simp [aev, hlt, hlt2, hw, h2, strsE_len]; done))) | (refine AW.condF ?_ ?_; (focus (simp [aev, hlt, hlt2, hw, h2, strsE_len]; done))) | (refine AW.skip ?_; simp only [thenA_normal, inBlockA_normal]) | with_reducible refine AW.block ?_ | (refine AW.exit ?_; simp only [thenA_exit, inBlockA_exit, if_true, if_false, Nat.reduceEqDiff, thenA_normal, inBlockA_normal, reduceIte]) | (refine AW.ret ?_; simp only [thenA_ret, inBlockA_ret, endQ_ret, endR_ret])))
          exact ⟨i + 1, by omega, ⟨by omega, by rw [hf]; rfl⟩, (less_of (by simp [lessL, mkSt, slots, itemA, itemL_eq, storeA, storeT, storeO, itemsRow]) (by simp [upd, mkSt, rowsOf_cons, itemA, itemL_eq, storeA, storeT, storeO, itemsRow]) (by simp [upd, mkSt, usedOf_cons, itemA, itemL_eq, storeA, storeT, storeO, itemsRow]) (by first | exact rd_less (by omega) | simp [mkSt, itemA, itemL_eq, storeA, storeT, storeO, itemsRow]) (by simp [slots, in_any, in_int, in_bool, in_str, in_ptr, in_own, in_agg, in_vnil, in_rdr, usedOf_cons, strs_in, ints_in, nodes_in, items_in, in_tup, itemA, itemL_eq, storeA, storeT, storeO, itemsRow]) (by simp only [List.forall_mem_cons, List.not_mem_nil, false_implies, implies_true, and_true, true_and, itemA, itemL_eq, storeA, storeT, storeO, itemsRow]; (repeat (first | with_reducible exact trivial | with_reducible refine And.intro ?_ ?_ | with_reducible exact in_int | with_reducible exact in_str | with_reducible exact in_bool | with_reducible exact strs_in _ | with_reducible exact nodes_in _ | with_reducible exact items_in _ | with_reducible exact in_vnil | with_reducible exact in_any | exact hin _ | with_reducible refine take_in ?_ | with_reducible exact strsE_in _ | with_reducible exact nodesE_in _ | with_reducible exact nodeL_in _ | with_reducible exact itemsE_in _ | with_reducible exact itemL_in _ | with_reducible refine app_in ?_ ?_ | with_reducible refine sing_in ?_ | (focus (simp [in_any, in_int, in_bool, in_str, in_ptr, in_own, in_agg, in_vnil, in_rdr, usedOf_cons, strs_in, ints_in, nodes_in, items_in, itemA, itemL_eq, storeA, storeT, storeO, itemsRow]; done)))); done))⟩
      · rw [List.drop_eq_nil_of_le (by omega), List.drop_eq_nil_of_le (by omega)] at hf
        (repeat (first | with_reducible refine AW.seq ?_ | (refine arun_kn 4 rfl (fun C hC => ?_); ((repeat ((conv => whnf); simp [hlt, strsE_len])); refine hC _ ?_; clear hC C; simp only [List.drop_succ_cons, List.drop_zero, List.drop_nil, Nat.reduceAdd])) | (refine arun_kn 1 rfl (fun C hC => ?_); ((repeat ((conv => whnf); simp [hlt, strsE_len])); refine hC _ ?_; clear hC C; simp only [List.drop_succ_cons, List.drop_zero, List.drop_nil, Nat.reduceAdd])) | (refine arun_skip ?_ ?_; (focus (simp [awant, hlt, strsE_len]; done))) | (refine arunD_kn 4 rfl (fun C hC => ?_); ((repeat ((conv => whnf); simp [hlt, strsE_len])); refine hC _ ?_; clear hC C; simp only [List.drop_succ_cons, List.drop_zero, List.drop_nil, Nat.reduceAdd])) | (refine arunD_kn 1 rfl (fun C hC => ?_); ((repeat ((conv => whnf); simp [hlt, strsE_len])); refine hC _ ?_; clear hC C; simp only [List.drop_succ_cons, List.drop_zero, List.drop_nil, Nat.reduceAdd])) | (refine arun_nil ?_; (refine hK _ ?_; clear hK K; simp only [thenA_normal, inBlockA_normal, endQ_normal, endR_normal])) | (refine arunD_nil ?_; (refine hK _ ?_; clear hK K; simp only [thenA_normal, inBlockA_normal, endQ_normal, endR_normal])) | (refine AW.regionK [] (fun K hK => ?_)) | (refine AW.regionDK [] (pcs [] []) (by kernel_rfl) (by kernel_rfl) (fun K hK => ?_)) | (refine AW.condT ?_ ?_; (focus (simp [aev, hlt, strsE_len]; done))) | (refine AW.condF ?_ ?_; (focus (simp [aev, hlt, strsE_len]; done))) | (refine AW.skip ?_; simp only [thenA_normal, inBlockA_normal]) | with_reducible refine AW.block ?_ | (refine AW.exit ?_; simp only [thenA_exit, inBlockA_exit, if_true, if_false, Nat.reduceEqDiff, thenA_normal, inBlockA_normal, reduceIte]) | (refine AW.ret ?_; simp only [thenA_ret, inBlockA_ret, endQ_ret, endR_ret])))
        exact ⟨.bool true, by simp [ares, aresL], pur_bool, by rw [hf]; rfl⟩
  · have hlen' : ((xs.length : Int) != (ys.length : Int)) = true := by rw [bne_iff_ne]; omega
    (repeat (first | with_reducible refine AW.seq ?_ | (refine arun_kn 4 rfl (fun C hC => ?_); ((repeat ((conv => whnf); simp [strsE_len, hlen'])); refine hC _ ?_; clear hC C; simp only [List.drop_succ_cons, List.drop_zero, List.drop_nil, Nat.reduceAdd])) | (refine arun_kn 1 rfl (fun C hC => ?_); ((repeat ((conv => whnf); simp [strsE_len, hlen'])); refine hC _ ?_; clear hC C; simp only [List.drop_succ_cons, List.drop_zero, List.drop_nil, Nat.reduceAdd])) | (refine arun_skip ?_ ?_; (focus (simp [awant, strsE_len, hlen']; done))) | (refine arunD_kn 4 rfl (fun C hC => ?_); ((repeat ((conv => whnf); simp [strsE_len, hlen'])); refine hC _ ?_; clear hC C; simp only [List.drop_succ_cons, List.drop_zero, List.drop_nil, Nat.reduceAdd])) | (refine arunD_kn 1 rfl (fun C hC => ?_); ((repeat ((conv => whnf); simp [strsE_len, hlen'])); refine hC _ ?_; clear hC C; simp only [List.drop_succ_cons, List.drop_zero, List.drop_nil, Nat.reduceAdd])) | (refine arun_nil ?_; (refine hK _ ?_; clear hK K; simp only [thenA_normal, inBlockA_normal, endQ_normal, endR_normal])) | (refine arunD_nil ?_; (refine hK _ ?_; clear hK K; simp only [thenA_normal, inBlockA_normal, endQ_normal, endR_normal])) | (refine AW.regionK [] (fun K hK => ?_)) | (refine AW.regionDK [] (pcs [] []) (by kernel_rfl) (by kernel_rfl) (fun K hK => ?_)) | (refine AW.condT ?_ ?_; (focus (simp [aev, strsE_len, hlen']; done))) | (refine AW.condF ?_ ?_; (focus (simp [aev, strsE_len, hlen']; done))) | (refine AW.skip ?_; simp only [thenA_normal, inBlockA_normal]) | with_reducible refine AW.block ?_ | (refine AW.exit ?_; simp only [thenA_exit, inBlockA_exit, if_true, if_false, Nat.reduceEqDiff, thenA_normal, inBlockA_normal, reduceIte]) | (refine AW.ret ?_; simp only [thenA_ret, inBlockA_ret, endQ_ret, endR_ret])))
    exact ⟨.bool false, by simp [ares, aresL], pur_bool, by rw [eqT_of_ne hlen]⟩
end Go.Proofs.Ytmeobmegnneegaa.Eng

/-
  What an argument that is read as data tells of memory: texts, nodes.
-/
namespace Go.Proofs.Ytmeobmegnneegaa
open Go.RowKit Go.ChangeShapes Go.WideShapes Go.Deep

section
variable {H : Type} {enc : TypeId × Value → H} {W : World} {base : Nat} {sp : Nat → Bool} {held : Bool}

theorem addr_spot {w : World} {a : Addr} {v : Value} (h : w.cell? a = some v) : ∃ b o, a = ⟨b, o, none⟩ := by
  have := World.cell?_spot h
  exact ⟨a.block, a.off, by cases a; simp_all⟩

theorem add_mk (b o i : Nat) : (⟨b, o, none⟩ : Addr).add i = ⟨b, o + i, none⟩ := by
  unfold Addr.add; split
  · rename_i h; subst h; rfl
  · rfl

end
end Go.Proofs.Ytmeobmegnneegaa

/-
  Bytes as an argument of a law; a law's contract as a walk with worlds has it.
-/
namespace Go.Proofs.Ytmeobmegnneegaa
open Go.RowKit Go.ChangeShapes Go.WideShapes Go.Deep

def BytesR (W : World) (zs : List Int) (v : Value) : Prop := ∃ a c, v = .slice a zs.length c ∧ zs.length ≤ c ∧ zs.length ≤ big ∧ (zs = [] ∨ ∃ b o, a = some ⟨b, o, none⟩ ∧ ∀ i (h : i < zs.length), W.cell? ⟨b, o + i, none⟩ = some (.int .u8 zs[i])) ∧ Eng.ByteL zs

section
variable {H : Type} {enc : TypeId × Value → H} {W : World} {base : Nat} {sp : Nat → Bool} {held : Bool}

set_option maxRecDepth 100000 in
theorem rv_bytes {fuel : Nat} {v : Value} {x : DataW H × List MemPlace} (h : DataW.trod enc Try.prog W base sp held fuel 46 [v] = some x) : ∃ zs, BytesR W zs v := by
  rcases open_slice Try.underlying46 h with ⟨e, _⟩ | ⟨a, len, cap, m, n, D, Pl, e, _, hl, hm, hmm, _, hi⟩
  · cases e
    exact ⟨[], none, 0, rfl, by simp, by simp, .inl rfl, fun z hz => by cases hz⟩
  · cases e
    have hlm : len ≤ m := by rw [hmm]; split <;> omega
    have hel : ∀ i, i < len → ∃ z : Int, W.cell? (a.add i) = some (.int .u8 z) ∧ (0 ≤ z ∧ z ≤ 255) := fun i hi' => by
      obtain ⟨cs', h1, h2⟩ := hi i (by omega)
      have hc : Try.prog.cellsOf 5 = 1 := by kernel_rfl
      rw [hc] at h1
      obtain ⟨_, hlen, hat⟩ := World.cells?_some h1
      obtain ⟨z, rfl, _, hz⟩ := DataW.trod_int Try.underlying5 h2
      have := hat 0 (by omega)
      refine ⟨z, by simpa [Go.Deep.add_add] using this, ?_⟩
      simp only [Lit.wf, Bool.and_eq_true, decide_eq_true_eq] at hz
      simpa [IntKind.min, IntKind.max, IntKind.signed, IntKind.bits] using hz
    have : Inhabited Int := ⟨0⟩
    obtain ⟨f, hf⟩ := choose_lt hel
    have hkl : ((List.range len).map f).length = len := by simp
    refine ⟨(List.range len).map f, some a, cap, by rw [hkl], by rw [hkl]; exact hl, by rw [hkl]; unfold maxLen at hm; unfold big; omega, ?_, ?_⟩
    · by_cases h0 : len = 0
      · subst h0; exact .inl rfl
      · obtain ⟨b, o, ha⟩ := addr_spot (hf 0 (by omega)).1
        have ha' : a = ⟨b, o, none⟩ := by simpa [Addr.add] using ha
        subst ha'
        refine .inr ⟨b, o, rfl, fun i hi' => ?_⟩
        simp at hi'
        have := (hf i hi').1
        rw [add_mk] at this
        simpa using this
    · intro z hz
      obtain ⟨i, hi', rfl⟩ := List.mem_map.1 hz
      exact (hf i (List.mem_range.1 hi')).2
end

theorem law_bytes {f : FuncId} {zs : List Int} {v : Value} (h : Eng.ByteL zs → Eng.AC0 Try.prog f [.view .loose 1 (Eng.bytesE zs)] (fun r => r = .bool true)) (W : World) (hv : BytesR W zs v) :
    Calls Try.prog f #[v] W fun e W' => e = .returned (.bool true) ∧ Grow W W' := by
  obtain ⟨a, c, rfl, h1, h2, h3, h4⟩ := hv
  refine ((h h4).2 W nil (fun b => b < W.heap.size) [.slice a zs.length c] (fun b hb => hb.elim) (fun b hb => hb) ?_).mono ?_
  · unfold Eng.RepL
    refine ⟨_, _, rfl, ?_, by unfold Eng.RepL; rfl⟩
    refine Eng.rep_view.2 ⟨a, c, by rw [Eng.bytesE_len], fun h => (by cases h), by rw [Eng.bytesE_len]; exact h1, by rw [Eng.bytesE_len]; exact h2, fun e he => ?_, ?_⟩
    · obtain ⟨k, _, rfl⟩ := List.mem_map.1 he; rfl
    · rcases h3 with rfl | ⟨b, o, ha, hc⟩
      · exact .inl rfl
      · by_cases hz : zs = []
        · subst hz; exact .inl rfl
        · have hb : b < W.heap.size := lt_of_cell (hc 0 (List.length_pos_iff.2 hz))
          refine .inr ⟨b, o, ha, hb, Eng.RepE.of_get (sz := 1) (fun e he => ?_) (fun i e he => ?_)⟩
          · obtain ⟨k, _, rfl⟩ := List.mem_map.1 he; rfl
          · unfold Eng.bytesE at he
            rw [List.getElem?_map, Option.map_eq_some_iff] at he
            obtain ⟨x, hx, rfl⟩ := he
            obtain ⟨hi, rfl⟩ := List.getElem?_eq_some_iff.1 hx
            refine Eng.RepC.of_get (fun j d hd => ?_)
            have hj := (List.getElem?_eq_some_iff.1 hd).1
            simp only [List.length_cons, List.length_nil] at hj
            obtain rfl : j = 0 := by omega
            simp only [List.getElem?_cons_zero, Option.some.injEq] at hd
            subst hd
            exact ⟨_, by simpa using hc i hi, rfl, Eng.rep_int.2 rfl⟩
  · rintro e w' ⟨u, r, S', rfl, hg, _, _, hr, rfl⟩
    rw [Eng.rep_bool.1 hr]
    exact ⟨rfl, hg⟩
end Go.Proofs.Ytmeobmegnneegaa

/-
  The laws on pages: their walks.
-/
-- EV: store
namespace Go.Proofs.Ytmeobmegnneegaa.Eng
open Go Go.RowKit
attribute [local simp] big size_mk ASt.pay Option.map_map Function.comp_def awant aop acall ado aev ofVal ofVal0 ASt.put ASt.add ASt.turn ASt.kill abox aalloc astore aload ASt.at cellsTo afieldAddr afield aindexAddr aindex alen abin aint acmp astr aun apick aextract anil aslice abound abuild afill abuildSlice asCells aps avCells over upd aappend asrc amax amin aconv mkSt slots rowsOf_cons rowsOf_nil usedOf_cons usedOf_nil ZK.av List.replicate nodeA nodeT nodeTL_eq nodeL_eq strsE_get strsE_len intsE_get intsE_len strsE_at intsE_at itemA itemL_eq storeA storeT storeO itemsRow tab2 tab3 tab4 tab5 tab6 tab7 tab8 tab9 tab10 tab11 tab12 tab13 tab14 tab15 tab16 tab17 tab18 tab19 tab21 tab22 tab23 tab24 tab25 tab26 tab27 tab28 tab31 tab32 tab33 tab37 tab38 tab39 tab46 tab53 tab61 tab62 tab69 tab70 tab98 tab116 tab117 tab125 tab126 tab128 tab136 tab145 tab146 tab151 tab152 tab153 tab155 tab156 tab157

theorem eqs_self (a : ByteArray) : eqs a a = true := eqs_iff.2 rfl
theorem behind_asc {af : ByteArray} {s : Sto} (h : storeB s = true) : (behind af s.1).Pairwise (fun a b => lt a b = true) ∧ ∀ x ∈ behind af s.1, lt af x = true := by
  have hp := (storeB_parts h).2.2.2.2
  refine ⟨?_, fun x hx => ?_⟩
  · unfold behind
    rw [List.pairwise_map] at hp ⊢
    exact hp.sublist (List.filter_sublist)
  · unfold behind at hx
    obtain ⟨y, hy, rfl⟩ := List.mem_map.1 hx
    simpa using (List.mem_filter.1 hy).2
def AscB (af : ByteArray) (L : List ByteArray) : Prop := (∀ x ∈ L, lt af x = true) ∧ L.Pairwise (fun a b => lt a b = true)
theorem AscB.at {af : ByteArray} {L : List ByteArray} (h : AscB af L) (i : Nat) (hi : i < L.length) : lt af L[i] = true := h.1 _ (List.getElem_mem hi)
theorem AscB.next {af : ByteArray} {L : List ByteArray} (h : AscB af L) (i : Nat) (hi : i + 1 < L.length) : lt (L[i]'(by omega)) L[i + 1] = true := List.pairwise_iff_getElem.1 h.2 i (i + 1) (by omega) hi (by omega)
set_option linter.unusedSimpArgs false
end Go.Proofs.Ytmeobmegnneegaa.Eng

/-
  Rows of rows of texts: the laws' comparisons, marks and looks at marks.
-/
namespace Go.Proofs.Ytmeobmegnneegaa
open Go.RowKit

theorem strsRep_n : strsRep.n = 1 := rfl
theorem strsRep_pos : 0 < strsRep.n := by rw [strsRep_n]; omega
def pathsRep : Rep (List (List ByteArray)) := slRep strsRep strsRep_pos
end Go.Proofs.Ytmeobmegnneegaa

/-
  Rows of data that are being made by appending: data that read (RowR), data that own their memory (RowO).
-/
namespace Go.Proofs.Ytmeobmegnneegaa
open Go Go.RowKit

section
variable {α : Type} {E : Rep α}

def RCells (E : Rep α) (w : World) (S : Nat → Prop) : List α → List Value → Prop
  | [], cs => cs = []
  | x :: l, cs => ∃ c d, cs = c ++ d ∧ E.R w S x c ∧ RCells E w S l d
def FCells (E : Rep α) (w : World) : List α → List Value → List Nat → Prop
  | [], cs, fp => cs = [] ∧ fp = []
  | x :: l, cs, fp => ∃ c d f g, cs = c ++ d ∧ fp = f ++ g ∧ E.F w x c f ∧ FCells E w l d g

theorem RCells.len {w : World} {S : Nat → Prop} : ∀ {l : List α} {cs : List Value}, RCells E w S l cs → cs.length = l.length * E.n
  | [], _, h => by cases h; simp
  | x :: l, cs, ⟨c, d, e, h1, h2⟩ => by rw [e, List.length_append, E.rlen h1, RCells.len h2, List.length_cons, Nat.succ_mul]; omega
theorem RCells.snoc {w : World} {S : Nat → Prop} {x : α} {c : List Value} (hx : E.R w S x c) : ∀ {l : List α} {cs : List Value}, RCells E w S l cs → RCells E w S (l ++ [x]) (cs ++ c)
  | [], _, h => by cases h; exact ⟨c, [], by simp, hx, rfl⟩
  | y :: l, cs, ⟨c', d, e, h1, h2⟩ => ⟨c', d ++ c, by rw [e, List.append_assoc], h1, RCells.snoc hx h2⟩
theorem RCells.app {w : World} {S : Nat → Prop} {m : List α} {ds : List Value} (hm : RCells E w S m ds) : ∀ {l : List α} {cs : List Value}, RCells E w S l cs → RCells E w S (l ++ m) (cs ++ ds)
  | [], _, h => by cases h; simpa using hm
  | y :: l, cs, ⟨c', d, e, h1, h2⟩ => ⟨c', d ++ ds, by rw [e, List.append_assoc], h1, RCells.app hm h2⟩
theorem RCells.ext {X S : Nat → Prop} {w w' : World} (h : Ext X w w') (hS : ∀ k, S k → ¬ X k) : ∀ {l : List α} {cs : List Value}, RCells E w S l cs → RCells E w' S l cs
  | [], _, h => h
  | x :: l, cs, ⟨c, d, e, h1, h2⟩ => ⟨c, d, e, E.ext h hS h1, RCells.ext h hS h2⟩
theorem RCells.mono {S T : Nat → Prop} {w : World} (hS : ∀ k, S k → T k) : ∀ {l : List α} {cs : List Value}, RCells E w S l cs → RCells E w T l cs
  | [], _, h => h
  | x :: l, cs, ⟨c, d, e, h1, h2⟩ => ⟨c, d, e, E.mono hS h1, RCells.mono hS h2⟩
theorem RCells.lt {S : Nat → Prop} {w : World} : ∀ {l : List α} {cs : List Value}, RCells E w S l cs → RCells E w (fun k => S k ∧ k < w.heap.size) l cs
  | [], _, h => h
  | x :: l, cs, ⟨c, d, e, h1, h2⟩ => ⟨c, d, e, E.lt h1, RCells.lt h2⟩
theorem RCells.get {w : World} {S : Nat → Prop} : ∀ {l : List α} {cs : List Value}, RCells E w S l cs → ∀ i (h : i < l.length), ∃ c, (∀ j v, c[j]? = some v → cs[i * E.n + j]? = some v) ∧ E.R w S l[i] c
  | [], _, _, i, h => absurd h (by simp)
  | x :: l, cs, ⟨c, d, e, h1, h2⟩, 0, _ => ⟨c, fun j v hj => by
      subst e; rw [Nat.zero_mul, Nat.zero_add, List.getElem?_append_left (List.getElem?_eq_some_iff.1 hj).1]; exact hj, h1⟩
  | x :: l, cs, ⟨c, d, e, h1, h2⟩, i + 1, h => by
    obtain ⟨c', h3, h4⟩ := RCells.get h2 i (by simpa using h)
    refine ⟨c', fun j v hj => ?_, by simpa using h4⟩
    subst e
    have hl := E.rlen h1
    rw [List.getElem?_append_right (by rw [hl, Nat.succ_mul]; omega), hl, show (i + 1) * E.n + j - E.n = i * E.n + j by rw [Nat.succ_mul]; omega]
    exact h3 j v hj

theorem FCells.len {w : World} : ∀ {l : List α} {cs : List Value} {fp : List Nat}, FCells E w l cs fp → cs.length = l.length * E.n
  | [], _, _, h => by rw [h.1]; simp
  | x :: l, cs, fp, ⟨c, d, f, g, e, _, h1, h2⟩ => by rw [e, List.length_append, E.flen h1, FCells.len h2, List.length_cons, Nat.succ_mul]; omega
theorem FCells.snoc {w : World} {x : α} {c : List Value} {f' : List Nat} (hx : E.F w x c f') : ∀ {l : List α} {cs : List Value} {fp : List Nat}, FCells E w l cs fp → FCells E w (l ++ [x]) (cs ++ c) (fp ++ f')
  | [], _, _, h => by obtain ⟨rfl, rfl⟩ := h; exact ⟨c, [], f', [], by simp, by simp, hx, rfl, rfl⟩
  | y :: l, cs, fp, ⟨c', d, f, g, e1, e2, h1, h2⟩ => ⟨c', d ++ c, f, g ++ f', by rw [e1, List.append_assoc], by rw [e2, List.append_assoc], h1, FCells.snoc hx h2⟩
theorem FCells.keep {w w' : World} : ∀ {l : List α} {cs : List Value} {fp : List Nat}, FCells E w l cs fp → (∀ b ∈ fp, ∀ o, w'.cell? ⟨b, o, none⟩ = w.cell? ⟨b, o, none⟩) → FCells E w' l cs fp
  | [], _, _, h, _ => h
  | x :: l, cs, fp, ⟨c, d, f, g, e1, e2, h1, h2⟩, hk => ⟨c, d, f, g, e1, e2, E.keep h1 (fun b hb => hk b (by rw [e2]; simp [hb])), FCells.keep h2 (fun b hb => hk b (by rw [e2]; simp [hb]))⟩
theorem FCells.toR {w : World} {S : Nat → Prop} : ∀ {l : List α} {cs : List Value} {fp : List Nat}, FCells E w l cs fp → (∀ b ∈ fp, S b) → RCells E w S l cs
  | [], _, _, h, _ => h.1
  | x :: l, cs, fp, ⟨c, d, f, g, e1, e2, h1, h2⟩, hk => ⟨c, d, e1, E.toR h1 (fun b hb => hk b (by rw [e2]; simp [hb])), FCells.toR h2 (fun b hb => hk b (by rw [e2]; simp [hb]))⟩
theorem FCells.row {w : World} {b : Nat} : ∀ {l : List α} {cs : List Value} {fp : List Nat} {o : Nat}, FCells E w l cs fp → (∀ i v, cs[i]? = some v → w.cell? ⟨b, o + i, none⟩ = some v) → RowF E w b o l fp
  | [], _, _, _, h, _ => h.2
  | x :: l, cs, fp, o, ⟨c, d, f, g, e1, e2, h1, h2⟩, hk => by
    have hl := E.flen h1
    refine ⟨f, g, c, e2, fun i v hi => hk i v (by rw [e1, List.getElem?_append_left (List.getElem?_eq_some_iff.1 hi).1]; exact hi), h1, FCells.row h2 (fun i v hi => ?_)⟩
    have := hk (E.n + i) v (by rw [e1, List.getElem?_append_right (by omega), hl, Nat.add_sub_cancel_left]; exact hi)
    rw [Nat.add_assoc]; exact this

def rowB (t : Value) (k : Nat) : Prop := t.ownBlock = some k

def RowR (E : Rep α) (B : Nat) (T : TypeId) (w : World) (t : Value) (l : List α) : Prop := ∃ cs, w.ownsRow B T E.n t l.length cs ∧ RCells E w (offRow B t) l cs
def RowO (E : Rep α) (B : Nat) (T : TypeId) (w : World) (t : Value) (l : List α) : Prop :=
  ∃ cs fp, w.ownsRow B T E.n t l.length cs ∧ FCells E w l cs fp ∧ Free B w fp ∧ ∀ b ∈ fp, ¬ rowB t b

variable {B : Nat} {T : TypeId} {w w' w0 : World} {t : Value} {l : List α}

theorem RowR.nil : RowR E B T w (.slice none 0 0) [] := ⟨[], World.ownsRow_nil _ _ _ _, rfl⟩
theorem RowO.nil : RowO E B T w (.slice none 0 0) [] := ⟨[], [], World.ownsRow_nil _ _ _ _, ⟨rfl, rfl⟩, Free.nil _ _, by simp⟩
theorem RowR.made (h : B ≤ w.heap.size) : RowR E B T (w.alloc (.cells #[] T)) (.slice (some ⟨w.heap.size, 0, Option.none⟩) 0 0) [] :=
  ⟨[], World.ownsRow_made w #[] 0 h (by unfold maxLen; omega) (by simp), rfl⟩
theorem RowO.made (h : B ≤ w.heap.size) : RowO E B T (w.alloc (.cells #[] T)) (.slice (some ⟨w.heap.size, 0, Option.none⟩) 0 0) [] :=
  ⟨[], [], World.ownsRow_made w #[] 0 h (by unfold maxLen; omega) (by simp), ⟨rfl, rfl⟩, Free.nil _ _, by simp⟩
theorem RowR.grow (h : RowR E B T w t l) (hg : Grow w w') : RowR E B T w' t l := by
  obtain ⟨cs, h1, h2⟩ := h; exact ⟨cs, row_grow h1 hg, h2.ext hg (fun _ _ h => h)⟩
theorem RowO.grow (h : RowO E B T w t l) (hg : Grow w w') : RowO E B T w' t l := by
  obtain ⟨cs, fp, h1, h2, h3, h4⟩ := h; exact ⟨cs, fp, row_grow h1 hg, h2.keep (hg.keeps h3 (fun _ _ h => h)), h3.ext hg (fun _ _ h => h), h4⟩
theorem RowR.low (h : RowR E B T w t l) : ∀ k, rowB t k → B ≤ k ∧ k < w.heap.size := by obtain ⟨cs, h1, _⟩ := h; exact h1.lt
theorem RowO.low (h : RowO E B T w t l) : ∀ k, rowB t k → B ≤ k ∧ k < w.heap.size := by obtain ⟨cs, fp, h1, _⟩ := h; exact h1.lt
theorem RowR.slice (h : RowR E B T w t l) : ∃ a c, t = .slice a l.length c := by
  obtain ⟨cs, h1, _⟩ := h
  rcases h1.2 with ⟨rfl, h0⟩ | ⟨g, cap, cur, rfl, _⟩
  · exact ⟨_, _, by rw [h0]⟩
  · exact ⟨_, _, rfl⟩
theorem RowO.slice (h : RowO E B T w t l) : ∃ a c, t = .slice a l.length c := by
  obtain ⟨cs, fp, h1, _⟩ := h
  rcases h1.2 with ⟨rfl, h0⟩ | ⟨g, cap, cur, rfl, _⟩
  · exact ⟨_, _, by rw [h0]⟩
  · exact ⟨_, _, rfl⟩
theorem RowO.fv {hp : 0 < E.n} (h : RowO E B T w t l) : ∃ fp, FV (slRep E hp) packO w l t fp ∧ Free B w fp := by
  obtain ⟨cs, fp, ⟨h1, h2⟩, h3, h4, h5⟩ := h
  by_cases he : l = []
  · subst he
    obtain ⟨rfl, rfl⟩ := h3
    rcases h2 with ⟨rfl, h0⟩ | ⟨g, cap, cur, rfl, hb, hg, hle, hcap, hcs, htake⟩
    · exact ⟨[], ⟨_, rfl, _, _, rfl, Nat.zero_le _, Nat.zero_le _, .inl ⟨rfl, rfl⟩⟩, Free.nil _ _⟩
    · exact ⟨[], ⟨_, rfl, _, _, rfl, Nat.zero_le _, Nat.zero_le _, .inl ⟨rfl, rfl⟩⟩, Free.nil _ _⟩
  · rcases h2 with ⟨rfl, h0⟩ | ⟨g, cap, cur, rfl, hb, hg, hle, hcap, hcs, htake⟩
    · exact absurd (List.length_eq_zero_iff.1 h0) he
    · refine ⟨g :: fp, ⟨_, rfl, _, cap, rfl, hle, by unfold maxLen at hcap; unfold big; omega, .inr ⟨g, 0, fp, he, rfl, rfl, h3.row (row_cells hg htake)⟩⟩, ?_⟩
      refine ⟨List.nodup_cons.2 ⟨fun hm => h5 g hm rfl, h4.1⟩, fun b hb' => ?_⟩
      rcases List.mem_cons.1 hb' with rfl | hb'
      · refine ⟨hb, (Array.getElem?_eq_some_iff.1 hg).1, fun o => ?_⟩
        simp [World.frozen?, hg]
      · exact h4.2 b hb'

theorem grownBy_rowB (h : w.grownBy w' t.ownBlock) : Ext (rowB t) w w' := grownBy_ext h

theorem RowR.snoc {x : α} {c cs : List Value} {t' : Value} (h1 : w.ownsRow B T E.n t l.length cs) (h2 : RCells E w (fun k => offRow B t k ∧ k < w.heap.size) l cs) (hx : E.R w (fun k => offRow B t k ∧ k < w.heap.size) x c)
    (h3 : w'.ownsRow B T E.n t' (l.length + 1) (cs ++ c)) (hg : w.grownBy w' t.ownBlock) (hv : t'.ownBlock = t.ownBlock ∨ t'.ownBlock = some w.heap.size) : RowR E B T w' t' (l ++ [x]) := by
  have he := grownBy_rowB hg
  have hoff : ∀ k, (offRow B t k ∧ k < w.heap.size) → offRow B t' k := fun k hk => ⟨hk.1.1, fun e => by
    rcases hv with hv | hv
    · exact hk.1.2 (hv ▸ e)
    · rw [hv] at e; cases e; omega⟩
  refine ⟨cs ++ c, by simpa using h3, ?_⟩
  exact (RCells.snoc (E.ext he (fun k hk => hk.1.2) hx) (h2.ext he (fun k hk => hk.1.2))).mono hoff

theorem RowO.snoc {x : α} {c : List Value} {f : List Nat} {t' : Value} {cs : List Value} {fp : List Nat} (hown : w0.ownsRow B T E.n t l.length cs) (hF : FCells E w0 l cs fp) (hfr : Free B w0 fp) (hoff : ∀ b ∈ fp, ¬ rowB t b)
    (hg : Grow w0 w) (hx : E.F w x c f) (hfx : Free w0.heap.size w f) (hb : B ≤ w0.heap.size)
    (h3 : w'.ownsRow B T E.n t' (l.length + 1) (cs ++ c)) (hgr : w.grownBy w' t.ownBlock) (hv : t'.ownBlock = t.ownBlock ∨ t'.ownBlock = some w.heap.size) : RowO E B T w' t' (l ++ [x]) := by
  have he := grownBy_rowB hgr
  have hlow := hown.lt
  have hfr1 := hfr.ext hg (fun _ _ h => h)
  have hofx : ∀ b ∈ f, ¬ rowB t b := fun b hb' e => by have := (hlow b e).2; have := (hfx.2 b hb').1; omega
  refine ⟨cs ++ c, fp ++ f, by simpa using h3, FCells.snoc (E.keep hx (he.keeps hfx hofx)) ((hF.keep (hg.keeps hfr (fun _ _ h => h))).keep (he.keeps hfr1 hoff)), ?_, fun b hb' e => ?_⟩
  · refine Free.app2 (hfr1.ext he hoff) ((hfx.ext he hofx).mono hb) (fun y h1 h2 => ?_)
    have := (hfr.2 y h1).2.1
    have := (hfx.2 y h2).1
    omega
  · rcases List.mem_append.1 hb' with h1 | h1
    · rcases hv with hv | hv
      · exact hoff b h1 (hv.symm.trans e)
      · unfold rowB at e; rw [hv] at e; cases e; have := (hfr1.2 _ h1).2.1; omega
    · rcases hv with hv | hv
      · exact hofx b h1 (hv.symm.trans e)
      · unfold rowB at e; rw [hv] at e; cases e; have := (hfx.2 _ h1).2.1; omega

theorem wpList_appO {P : Program} (w : World) {ops : Array Oper} {rest : List Oper} {o : Oper} {a : Act} {Q : Exit → Act → World → Prop} (hgd : o.guard = none) (s y : Operand) (tt : TypeId)
    (ho : o.op = .call { callee := .builtin .append, args := #[s, y], argTypes := #[tt, tt] }) (E : Rep α)
    (B : Nat) (e : TypeId) (i : TypeInfo) (z : Value) (bytes : Nat) (ht : P.underlying tt = some (.slice e)) (hi : P.info? e = some i) (hz : i.zero = some z)
    (hsize : i.size = E.n) (hby : i.bytes = bytes) (hzs : z.cells.size = E.n) (hsz : 0 < E.n)
    (t : Value) (l : List α) (hs : a.eval s = t) (w0 : World) (hrow : RowO E B e w0 t l) (hg : Grow w0 w)
    (ad : Addr) (c0 : Nat) (x : α) (c : List Value) (f : List Nat) (hy : a.eval y = .slice (some ad) 1 c0) (hx : E.F w x c f) (hfx : Free w0.heap.size w f)
    (hcell : ∀ j u, c[j]? = some u → w.cell? (ad.add j) = some u) (h1 : ∀ u ∈ c, u.oneCell' = true)
    (h63 : l.length + 1 ≤ maxLen) (hbytes : (l.length + 1) * bytes ≤ 140737488355328) (hbase : B ≤ w0.heap.size)
    (h : ∀ t' w', RowO E B e w' t' (l ++ [x]) → Ext (rowB t) w w' → wpList P ops Q rest (a.put o.dst t') w') : wpList P ops Q (o :: rest) a w := by
  obtain ⟨cs, fp, hown, hF, hfr, hoff⟩ := hrow
  refine wpList_append2 w hgd s y tt ho B e i z E.n bytes ht hi hz hsize hby hzs hsz t l.length cs hs (row_grow hown hg) ad 1 c0 c hy (by rw [E.flen hx]; omega) hcell h1 h63 hbytes (Nat.le_trans hbase hg.size) ?_
  intro v' w' h2 h3 h4
  exact h v' w' (RowO.snoc hown hF hfr hoff hg hx hfx hbase h2 h3 h4) (grownBy_rowB h3)

theorem BoxN.rowed {b : Nat} {cs : List Value} (h : BoxN w b cs) (he : Ext (rowB t) w w') (hb : ∀ k, rowB t k → b < k) : BoxN w' b cs := h.ext he (fun e => by have := hb b e; omega)
theorem Grow.rowed {W : World} (h : Grow W w) (he : Ext (rowB t) w w') (hb : ∀ k, rowB t k → W.heap.size ≤ k) : Grow W w' := h.inner he hb
end

end Go.Proofs.Ytmeobmegnneegaa

/-
  All pages: what they are, and the walk of impl.AllPages.
-/
namespace Go.Proofs.Ytmeobmegnneegaa
open Go.RowKit

def pgs : Nat → Sto → ByteArray → Int → List (List ByteArray)
  | 0, _, _, _ => []
  | n + 1, s, af, lim => pgL s af lim :: (if (pgN s af lim).toList.isEmpty = true then [] else pgs n s (pgN s af lim) lim)
def apL (s : Sto) (lim : Int) : List (List ByteArray) := if storeB s && inR lim 1 10 then pgs 11 s ⟨#[]⟩ lim else []
theorem apL_bad {s : Sto} {lim : Int} (h : storeB s = false ∨ inR lim 1 10 = false) : apL s lim = [] := by
  unfold apL
  rcases h with h | h <;> rw [h] <;> simp
theorem apL_good {s : Sto} {lim : Int} (h : storeB s = true) (h' : inR lim 1 10 = true) : apL s lim = pgs 11 s ⟨#[]⟩ lim := by
  unfold apL; rw [h, h']; rfl
theorem filt_lt {α : Type} (p q : α → Bool) : ∀ (l : List α), (∀ x ∈ l, p x = true → q x = true) → (∃ y ∈ l, q y = true ∧ p y = false) → (l.filter p).length < (l.filter q).length
  | [], _, h => by obtain ⟨y, hy, _⟩ := h; cases hy
  | x :: l, h1, h2 => by
    have hle : ∀ l : List α, (∀ x ∈ l, p x = true → q x = true) → (l.filter p).length ≤ (l.filter q).length := by
      intro l
      induction l with
      | nil => intro _; simp
      | cons z l ih =>
        intro h
        have := ih (fun x hx => h x (by simp [hx]))
        have hz := h z (by simp)
        simp only [List.filter_cons]
        cases hp : p z <;> cases hq : q z <;> simp_all
        omega
    have hl := hle l (fun x hx => h1 x (by simp [hx]))
    have hx := h1 x (by simp)
    obtain ⟨y, hy, hq, hp⟩ := h2
    simp only [List.filter_cons]
    rcases List.mem_cons.1 hy with rfl | hy
    · rw [hq, hp]; simp; omega
    · have ih := filt_lt p q l (fun x hx => h1 x (by simp [hx])) ⟨y, hy, hq, hp⟩
      cases hpx : p x
      · cases hqx : q x <;> simp <;> omega
      · rw [hx hpx]; simp; omega
theorem pgN_mem {s : Sto} {af : ByteArray} {lim : Int} (h : (pgN s af lim).toList.isEmpty = false) : pgN s af lim ∈ behind af s.1 := by
  unfold pgN at h ⊢
  split at h
  · rename_i hc
    rw [if_pos hc]
    simp only [Bool.and_eq_true, decide_eq_true_eq] at hc
    have hi : lim.toNat - 1 < (behind af s.1).length := by
      have h1 := hc.1.2
      simp only [inR, Bool.and_eq_true, decide_eq_true_eq] at h1
      omega
    rw [List.getElem?_eq_getElem hi]
    exact List.getElem_mem hi
  · simp at h
theorem pgN_less {s : Sto} {af : ByteArray} {lim : Int} (h : (pgN s af lim).toList.isEmpty = false) : (behind (pgN s af lim) s.1).length < (behind af s.1).length := by
  have hm := pgN_mem h
  have hm' := hm
  unfold behind at hm'
  obtain ⟨e, he, hee⟩ := List.mem_map.1 hm'
  obtain ⟨he1, he2⟩ := List.mem_filter.1 he
  unfold behind
  simp only [List.length_map]
  have he2' : lt af (pgN s af lim) = true := by rw [← hee]; exact he2
  exact filt_lt _ _ _ (fun x _ hx => lt_trans he2' hx) ⟨e, he1, he2, by rw [hee]; exact bl_irrefl _⟩
def strOf : Value → ByteArray
  | .string s => s
  | _ => ⟨#[]⟩
theorem info_strs : (Try.prog.info? 25).map (fun i => (i.zero, i.size, i.bytes)) = some (some (.slice none 0 0), 1, 24) := by kernel_rfl
theorem pgN_size (s : Sto) (af : ByteArray) (lim : Int) (h : ∀ e ∈ s.1, e.1.size ≤ big) : (pgN s af lim).size ≤ big := by
  cases hb : (pgN s af lim).toList.isEmpty
  · obtain ⟨e, he, h1⟩ := behind_mem (pgN_mem hb); rw [h1]; exact h e he
  · have : (pgN s af lim).toList = [] := by simpa using hb
    have h3 : (pgN s af lim).data.toList = [] := by rw [← ByteArray.toList_eq]; exact this
    have h4 : (pgN s af lim).data.size = 0 := by rw [← Array.length_toList, h3]; rfl
    show (pgN s af lim).data.size ≤ _
    omega
theorem storeB_names {s : Sto} (h : storeB s = true) : ∀ e ∈ s.1, e.1.size ≤ big := by
  intro e he
  have := (storeB_parts h).2.2.2.1 e he
  simp only [itmB, nameB, Bool.and_eq_true, decide_eq_true_eq] at this
  unfold big; omega
theorem pgs_len : ∀ (n : Nat) (s : Sto) (af : ByteArray) (lim : Int), (pgs n s af lim).length ≤ n
  | 0, _, _, _ => by simp [pgs]
  | n + 1, s, af, lim => by
    have := pgs_len n s (pgN s af lim) lim
    unfold pgs
    split <;> simp <;> omega
theorem apL_len (s : Sto) (lim : Int) : (apL s lim).length ≤ 11 := by
  unfold apL; split
  · exact pgs_len _ _ _ _
  · simp
theorem pgs_each : ∀ (n : Nat) (s : Sto) (af : ByteArray) (lim : Int), ∀ p ∈ pgs n s af lim, p.length ≤ 10
  | 0, _, _, _, p, h => by simp [pgs] at h
  | n + 1, s, af, lim, p, h => by
    unfold pgs at h
    rcases List.mem_cons.1 h with rfl | h
    · exact pgL_len _ _ _
    · split at h
      · cases h
      · exact pgs_each n s _ lim p h
def ApRel (w : World) (B : Nat) (s : Sto) (lim : Int) (t a : Value) (wr : World) : Prop :=
  ∃ (acc : List (List ByteArray)) (af : ByteArray) (m : Nat), a = .string af ∧ af.size ≤ big ∧ RowO strsRep B 25 wr t acc ∧ apL s lim = acc ++ pgs m s af lim ∧ (behind af s.1).length < m ∧ acc.length + m ≤ 11

set_option maxRecDepth 100000 in
set_option maxHeartbeats 4000000 in
theorem implAll_own (s : Sto) (lim : Int) (v : Value) (w : World) (h : RV stoRep packA w any s v) :
    Calls Try.prog 38 #[v, .int .i64 lim] w fun e w' => ∃ r, e = .returned r ∧ Grow w w' ∧ RowO strsRep (w.heap.size + 1) 25 w' r (apL s lim) := by
  obtain ⟨a, c, rfl, hs⟩ := sto_open h
  have HS := Lib.hid h
  clear h hs
  unfold stoV at *
  cases hv : storeB s
  · have Hv := Lib.hid hv
    have Hf := Lib.hid (apL_bad (lim := lim) (.inl hv))
    clear hv
    go_enter Try.func38, Try.ntmps38
    go_wp2_with fail
    refine (ValidStore_ok s _ _ (HS.out.grow (by repeat (first | with_reducible exact Ext.refl _ _ | with_reducible refine Ext.trans ?_ (by assumption) | with_reducible refine Ext.drew ?_ | with_reducible refine Ext.drewN ?_ _ | with_reducible refine Ext.alloc ?_ _ | with_reducible refine Ext.setNew ?_ (by simp; done) _ | with_reducible refine Ext.setNew ?_ (by simp; omega) _)))).mono ?_
    rintro e w2 ⟨rfl, hg2⟩
    simp only [Hv.out]
    go_wp2_with fail
    go_ret
    exact ⟨.slice none 0 0, by simp, (by repeat (first | with_reducible exact Ext.refl _ _ | with_reducible refine Ext.trans ?_ (by assumption) | with_reducible refine Ext.drew ?_ | with_reducible refine Ext.drewN ?_ _ | with_reducible refine Ext.alloc ?_ _ | with_reducible refine Ext.setNew ?_ (by simp; done) _ | with_reducible refine Ext.setNew ?_ (by simp; omega) _)), by rw [Hf.out]; exact RowO.nil⟩
  have Hv := Lib.hid hv
  cases hl : inR lim 1 10
  · have Hl := Lib.hid hl
    have Hf := Lib.hid (apL_bad (s := s) (lim := lim) (.inr hl))
    clear hv hl
    go_enter Try.func38, Try.ntmps38
    go_wp2_with fail
    refine (ValidStore_ok s _ _ (HS.out.grow (by repeat (first | with_reducible exact Ext.refl _ _ | with_reducible refine Ext.trans ?_ (by assumption) | with_reducible refine Ext.drew ?_ | with_reducible refine Ext.drewN ?_ _ | with_reducible refine Ext.alloc ?_ _ | with_reducible refine Ext.setNew ?_ (by simp; done) _ | with_reducible refine Ext.setNew ?_ (by simp; omega) _)))).mono ?_
    rintro e w2 ⟨rfl, hg2⟩
    simp only [Hv.out]
    go_wp2_with fail
    refine (isLimit_ok lim _).mono ?_
    rintro e w3 ⟨rfl, rfl⟩
    simp only [Hl.out]
    go_wp2_with fail
    go_ret
    exact ⟨.slice none 0 0, by simp, (by repeat (first | with_reducible exact Ext.refl _ _ | with_reducible refine Ext.trans ?_ (by assumption) | with_reducible refine Ext.drew ?_ | with_reducible refine Ext.drewN ?_ _ | with_reducible refine Ext.alloc ?_ _ | with_reducible refine Ext.setNew ?_ (by simp; done) _ | with_reducible refine Ext.setNew ?_ (by simp; omega) _)), by rw [Hf.out]; exact RowO.nil⟩
  have Hl := Lib.hid hl
  have Hap := Lib.hid (apL_good hv hl)
  have Hnm := Lib.hid (storeB_names hv)
  have hl10 : s.1.length ≤ 10 := (storeB_parts hv).1
  have hb0 : (behind ⟨#[]⟩ s.1).length < 11 := by have := behind_len ⟨#[]⟩ s.1 s.1.length; rw [List.take_length] at this; omega
  clear hv hl
  go_enter Try.func38, Try.ntmps38
  go_wp2_with fail
  refine (ValidStore_ok s _ _ (HS.out.grow (by repeat (first | with_reducible exact Ext.refl _ _ | with_reducible refine Ext.trans ?_ (by assumption) | with_reducible refine Ext.drew ?_ | with_reducible refine Ext.drewN ?_ _ | with_reducible refine Ext.alloc ?_ _ | with_reducible refine Ext.setNew ?_ (by simp; done) _ | with_reducible refine Ext.setNew ?_ (by simp; omega) _)))).mono ?_
  rintro e w2 ⟨rfl, hg2⟩
  simp only [Hv.out]
  go_wp2_with fail
  refine (isLimit_ok lim _).mono ?_
  rintro e w3 ⟨rfl, rfl⟩
  simp only [Hl.out]
  have HB := Lib.hid ((BoxN.new w [.slice a s.1.length c, .int .i64 s.2] 33).grow hg2)
  go_wp2_with fail
  have hgw : Grow w w3 := (by repeat (first | with_reducible exact Ext.refl _ _ | with_reducible refine Ext.trans ?_ (by assumption) | with_reducible refine Ext.drew ?_ | with_reducible refine Ext.drewN ?_ _ | with_reducible refine Ext.alloc ?_ _ | with_reducible refine Ext.setNew ?_ (by simp; done) _ | with_reducible refine Ext.setNew ?_ (by simp; omega) _))
  go_loopw [5, 6] (fun t af wr => Grow w wr ∧ BoxN wr w.heap.size [.slice a s.1.length c, .int .i64 s.2] ∧ ApRel w (w.heap.size + 1) s lim t af wr) (fun _ af _ => (behind (strOf af) s.1).length)
  case atStart => exact ⟨hgw, HB.out, [], ⟨#[]⟩, 11, rfl, by unfold big; decide, RowO.nil, by rw [Hap.out]; rfl, hb0, by simp⟩
  case round =>
    obtain ⟨hg0, B1, acc, af, m, rfl, haf, hrow, hap, hbm, hm⟩ := hrel
    have HB1 := Lib.hid B1
    have Hrow := Lib.hid hrow
    have Hap2 := Lib.hid hap
    have lb1 := B1.lt
    obtain ⟨m', rfl⟩ : ∃ m', m = m' + 1 := ⟨m - 1, by omega⟩
    have q0 := B1.cell 0 _ rfl
    have q1 := B1.cell 1 _ rfl
    have hlow := hrow.low
    clear B1 hrow hap
    go_wp2_with fail
    refine (implPageOf_ok s af lim _ _ haf (HS.out.grow hg0)).mono ?_
    rintro e w4 ⟨r, fp, rfl, hg4, hF, hfr⟩
    obtain ⟨cs, rfl, ra, rc, rfl, hF⟩ := hF
    have HF := Lib.hid hF
    have Hfr := Lib.hid hfr
    have Hlow := Lib.hid hlow
    have HB4 := Lib.hid (HB1.out.grow hg4)
    have hz4 := hg4.size
    clear q0 q1 hF hfr hlow
    obtain ⟨i0, hi0, hz0, hz1, hz2⟩ := info_parts info_strs
    obtain ⟨ta, tc, rfl⟩ := Hrow.out.slice
    have ha : Grow w4 (w4.alloc (.cells #[.slice ra (pgL s af lim).length rc] 25)) := (Ext.refl nil w4).alloc _
    have Ha := Lib.hid ha
    clear ha
    unfold packO
    go_wp2_with (at_builtin; (refine wpList_appO _ rfl _ _ 53 rfl strsRep (w.heap.size + 1) 25 i0 (.slice none 0 0) 24 Try.underlying53 hi0 hz0 hz1 hz2 rfl strsRep_pos (.slice ta acc.length tc) acc rfl wr Hrow.out (hg4.trans Ha.out) ⟨w4.heap.size, 0, none⟩ 1 (pgL s af lim) [.slice ra (pgL s af lim).length rc] fp rfl ⟨ra, rc, rfl, HF.out.keep (Ha.out.keeps Hfr.out (fun _ _ h => h))⟩ (Hfr.out.ext Ha.out (fun _ _ h => h)) ?c2 ?c3 ?c4 ?c5 ?c6 ?_))
    case c2 =>
      intro j u hu
      rw [addr_add, Nat.zero_add]
      exact (BoxN.new w4 [.slice ra (pgL s af lim).length rc] 25).cell j u hu
    case c3 => simp [Value.oneCell']
    case c4 => unfold maxLen; omega
    case c5 => omega
    case c6 => omega
    intro t' w5 hrow5 he5
    have hb5 : ∀ k, rowB (.slice ta acc.length tc) k → w.heap.size < k := fun k hk => by have := (Hlow.out k hk).1; omega
    have hg5 : Grow w w5 := Grow.rowed ((hg0.trans hg4).trans Ha.out) he5 (fun k hk => by have := hb5 k hk; omega)
    have B5 := (HB4.out.grow Ha.out).rowed he5 hb5
    have Hrow5 := Lib.hid hrow5
    have HB5 := Lib.hid B5
    have Hg5 := Lib.hid hg5
    clear hrow5 he5 hb5 hg5 B5
    have Hst : Hid (pgs (m' + 1) s af lim = pgL s af lim :: (if (pgN s af lim).toList.isEmpty = true then [] else pgs m' s (pgN s af lim) lim)) := Lib.hid (by rw [pgs])
    cases hn : (pgN s af lim).toList.isEmpty
    · have Hless := Lib.hid (pgN_less hn)
      have Hn := Lib.hid hn
      have hn' : (!(pgN s af lim).toList.isEmpty) = true := by rw [hn]; rfl
      have Hsz := Lib.hid (pgN_size s af lim Hnm.out)
      go_wp2_with fail
      go_roundw
      case rel => exact ⟨Hg5.out, HB5.out, acc ++ [pgL s af lim], pgN s af lim, m', rfl, Hsz.out, Hrow5.out, by rw [Hap2.out, Hst.out, Hn.out]; simp, by have := Hless.out; omega, by simp; omega⟩
      case measure => have := Hless.out; simpa [strOf] using this
    · have Hn := Lib.hid hn
      go_wp2_with fail
      go_ret
      exact ⟨t', rfl, Hg5.out, by rw [Hap2.out, Hst.out, Hn.out]; exact Hrow5.out⟩

theorem implAllPages_ok (s : Sto) (lim : Int) (v : Value) (w : World) (h : RV stoRep packA w any s v) :
    Calls Try.prog 38 #[v, .int .i64 lim] w fun e w' => ∃ r fp, e = .returned r ∧ Grow w w' ∧ FV pathsRep packO w' (apL s lim) r fp ∧ Free w.heap.size w' fp :=
  (implAll_own s lim v w h).mono fun e w' ⟨r, he, hg, ho⟩ => by obtain ⟨fp, h1, h2⟩ := ho.fv (hp := strsRep_pos); exact ⟨r, fp, he, hg, h1, h2.mono (by omega)⟩

theorem specPageOf_own (s : Sto) (af : ByteArray) (lim : Int) (v : Value) (w : World) (hsz : af.size ≤ big) (h : RV stoRep packA w any s v) :
    Calls Try.prog 35 #[v, .string af, .int .i64 lim] w fun e w' => ∃ r fp, e = .returned (.tuple #[r, .string (pgN s af lim)]) ∧ Grow w w' ∧ FV strsRep packO w' (pgL s af lim) r fp ∧ Free w.heap.size w' fp :=
  (specPage_own s af lim v w hsz h).mono fun e w' ⟨r, he, hg, ho⟩ => by obtain ⟨fp, h1, h2⟩ := ho.fv; exact ⟨r, fp, he, hg, h1, h2⟩

set_option maxRecDepth 100000 in
set_option maxHeartbeats 4000000 in
theorem specAll_own (s : Sto) (lim : Int) (v : Value) (w : World) (h : RV stoRep packA w any s v) :
    Calls Try.prog 37 #[v, .int .i64 lim] w fun e w' => ∃ r, e = .returned r ∧ Grow w w' ∧ RowO strsRep (w.heap.size + 1) 25 w' r (apL s lim) := by
  obtain ⟨a, c, rfl, hs⟩ := sto_open h
  have HS := Lib.hid h
  clear h hs
  unfold stoV at *
  cases hv : storeB s
  · have Hv := Lib.hid hv
    have Hf := Lib.hid (apL_bad (lim := lim) (.inl hv))
    clear hv
    go_enter Try.func37, Try.ntmps37
    go_wp2_with fail
    refine (validStore_ok s _ _ (HS.out.grow (by repeat (first | with_reducible exact Ext.refl _ _ | with_reducible refine Ext.trans ?_ (by assumption) | with_reducible refine Ext.drew ?_ | with_reducible refine Ext.drewN ?_ _ | with_reducible refine Ext.alloc ?_ _ | with_reducible refine Ext.setNew ?_ (by simp; done) _ | with_reducible refine Ext.setNew ?_ (by simp; omega) _)))).mono ?_
    rintro e w2 ⟨rfl, hg2⟩
    simp only [Hv.out]
    go_wp2_with fail
    go_ret
    exact ⟨.slice none 0 0, by simp, (by repeat (first | with_reducible exact Ext.refl _ _ | with_reducible refine Ext.trans ?_ (by assumption) | with_reducible refine Ext.drew ?_ | with_reducible refine Ext.drewN ?_ _ | with_reducible refine Ext.alloc ?_ _ | with_reducible refine Ext.setNew ?_ (by simp; done) _ | with_reducible refine Ext.setNew ?_ (by simp; omega) _)), by rw [Hf.out]; exact RowO.nil⟩
  have Hv := Lib.hid hv
  cases hl : inR lim 1 10
  · have Hl := Lib.hid hl
    have Hf := Lib.hid (apL_bad (s := s) (lim := lim) (.inr hl))
    clear hv hl
    go_enter Try.func37, Try.ntmps37
    go_wp2_with fail
    refine (validStore_ok s _ _ (HS.out.grow (by repeat (first | with_reducible exact Ext.refl _ _ | with_reducible refine Ext.trans ?_ (by assumption) | with_reducible refine Ext.drew ?_ | with_reducible refine Ext.drewN ?_ _ | with_reducible refine Ext.alloc ?_ _ | with_reducible refine Ext.setNew ?_ (by simp; done) _ | with_reducible refine Ext.setNew ?_ (by simp; omega) _)))).mono ?_
    rintro e w2 ⟨rfl, hg2⟩
    simp only [Hv.out]
    go_wp2_with fail
    refine (inRange_ok lim 1 10 _).mono ?_
    rintro e w3 ⟨rfl, rfl⟩
    simp only [Hl.out]
    go_wp2_with fail
    go_ret
    exact ⟨.slice none 0 0, by simp, (by repeat (first | with_reducible exact Ext.refl _ _ | with_reducible refine Ext.trans ?_ (by assumption) | with_reducible refine Ext.drew ?_ | with_reducible refine Ext.drewN ?_ _ | with_reducible refine Ext.alloc ?_ _ | with_reducible refine Ext.setNew ?_ (by simp; done) _ | with_reducible refine Ext.setNew ?_ (by simp; omega) _)), by rw [Hf.out]; exact RowO.nil⟩
  have Hl := Lib.hid hl
  have Hap := Lib.hid (apL_good hv hl)
  have Hnm := Lib.hid (storeB_names hv)
  have hl10 : s.1.length ≤ 10 := (storeB_parts hv).1
  have hb0 : (behind ⟨#[]⟩ s.1).length < 11 := by have := behind_len ⟨#[]⟩ s.1 s.1.length; rw [List.take_length] at this; omega
  clear hv hl
  go_enter Try.func37, Try.ntmps37
  go_wp2_with fail
  refine (validStore_ok s _ _ (HS.out.grow (by repeat (first | with_reducible exact Ext.refl _ _ | with_reducible refine Ext.trans ?_ (by assumption) | with_reducible refine Ext.drew ?_ | with_reducible refine Ext.drewN ?_ _ | with_reducible refine Ext.alloc ?_ _ | with_reducible refine Ext.setNew ?_ (by simp; done) _ | with_reducible refine Ext.setNew ?_ (by simp; omega) _)))).mono ?_
  rintro e w2 ⟨rfl, hg2⟩
  simp only [Hv.out]
  go_wp2_with fail
  refine (inRange_ok lim 1 10 _).mono ?_
  rintro e w3 ⟨rfl, rfl⟩
  simp only [Hl.out]
  have HB := Lib.hid (((BoxN.new w [.slice a s.1.length c, .int .i64 s.2] 33).grow ((Ext.refl nil _).alloc (.cells #[] 25))).grow hg2)
  go_wp2_with fail
  have hgw : Grow w w3 := (by repeat (first | with_reducible exact Ext.refl _ _ | with_reducible refine Ext.trans ?_ (by assumption) | with_reducible refine Ext.drew ?_ | with_reducible refine Ext.drewN ?_ _ | with_reducible refine Ext.alloc ?_ _ | with_reducible refine Ext.setNew ?_ (by simp; done) _ | with_reducible refine Ext.setNew ?_ (by simp; omega) _))
  go_loopw [5, 6] (fun t af wr => Grow w wr ∧ BoxN wr w.heap.size [.slice a s.1.length c, .int .i64 s.2] ∧ ApRel w (w.heap.size + 1) s lim t af wr) (fun _ af _ => (behind (strOf af) s.1).length)
  case atStart =>
    refine ⟨hgw, HB.out, [], ⟨#[]⟩, 11, rfl, by unfold big; decide, RowO.grow ?_ hg2, by rw [Hap.out]; rfl, hb0, by simp⟩
    have := RowO.made (E := strsRep) (T := 25) (w := w.alloc (.cells #[.slice a s.1.length c, .int .i64 s.2] 33)) (B := w.heap.size + 1) (by simp)
    simpa using this
  case round =>
    obtain ⟨hg0, B1, acc, af, m, rfl, haf, hrow, hap, hbm, hm⟩ := hrel
    have HB1 := Lib.hid B1
    have Hrow := Lib.hid hrow
    have Hap2 := Lib.hid hap
    have lb1 := B1.lt
    obtain ⟨m', rfl⟩ : ∃ m', m = m' + 1 := ⟨m - 1, by omega⟩
    have q0 := B1.cell 0 _ rfl
    have q1 := B1.cell 1 _ rfl
    have hlow := hrow.low
    clear B1 hrow hap
    go_wp2_with fail
    refine (specPageOf_own s af lim _ _ haf (HS.out.grow hg0)).mono ?_
    rintro e w4 ⟨r, fp, rfl, hg4, hF, hfr⟩
    obtain ⟨cs, rfl, ra, rc, rfl, hF⟩ := hF
    have HF := Lib.hid hF
    have Hfr := Lib.hid hfr
    have Hlow := Lib.hid hlow
    have HB4 := Lib.hid (HB1.out.grow hg4)
    have hz4 := hg4.size
    clear q0 q1 hF hfr hlow
    obtain ⟨i0, hi0, hz0, hz1, hz2⟩ := info_parts info_strs
    obtain ⟨ta, tc, rfl⟩ := Hrow.out.slice
    have ha : Grow w4 (w4.alloc (.cells #[.slice ra (pgL s af lim).length rc] 25)) := (Ext.refl nil w4).alloc _
    have Ha := Lib.hid ha
    clear ha
    unfold packO
    go_wp2_with (at_builtin; (refine wpList_appO _ rfl _ _ 53 rfl strsRep (w.heap.size + 1) 25 i0 (.slice none 0 0) 24 Try.underlying53 hi0 hz0 hz1 hz2 rfl strsRep_pos (.slice ta acc.length tc) acc rfl wr Hrow.out (hg4.trans Ha.out) ⟨w4.heap.size, 0, none⟩ 1 (pgL s af lim) [.slice ra (pgL s af lim).length rc] fp rfl ⟨ra, rc, rfl, HF.out.keep (Ha.out.keeps Hfr.out (fun _ _ h => h))⟩ (Hfr.out.ext Ha.out (fun _ _ h => h)) ?c2 ?c3 ?c4 ?c5 ?c6 ?_))
    case c2 =>
      intro j u hu
      rw [addr_add, Nat.zero_add]
      exact (BoxN.new w4 [.slice ra (pgL s af lim).length rc] 25).cell j u hu
    case c3 => simp [Value.oneCell']
    case c4 => unfold maxLen; omega
    case c5 => omega
    case c6 => omega
    intro t' w5 hrow5 he5
    have hb5 : ∀ k, rowB (.slice ta acc.length tc) k → w.heap.size < k := fun k hk => by have := (Hlow.out k hk).1; omega
    have hg5 : Grow w w5 := Grow.rowed ((hg0.trans hg4).trans Ha.out) he5 (fun k hk => by have := hb5 k hk; omega)
    have B5 := (HB4.out.grow Ha.out).rowed he5 hb5
    have Hrow5 := Lib.hid hrow5
    have HB5 := Lib.hid B5
    have Hg5 := Lib.hid hg5
    clear hrow5 he5 hb5 hg5 B5
    have Hst : Hid (pgs (m' + 1) s af lim = pgL s af lim :: (if (pgN s af lim).toList.isEmpty = true then [] else pgs m' s (pgN s af lim) lim)) := Lib.hid (by rw [pgs])
    cases hn : (pgN s af lim).toList.isEmpty
    · have Hless := Lib.hid (pgN_less hn)
      have Hn := Lib.hid hn
      have hn' : (!(pgN s af lim).toList.isEmpty) = true := by rw [hn]; rfl
      have Hsz := Lib.hid (pgN_size s af lim Hnm.out)
      go_wp2_with fail
      go_roundw
      case rel => exact ⟨Hg5.out, HB5.out, acc ++ [pgL s af lim], pgN s af lim, m', rfl, Hsz.out, Hrow5.out, by rw [Hap2.out, Hst.out, Hn.out]; simp, by have := Hless.out; omega, by simp; omega⟩
      case measure => have := Hless.out; simpa [strOf] using this
    · have Hn := Lib.hid hn
      go_wp2_with fail
      go_ret
      exact ⟨t', rfl, Hg5.out, by rw [Hap2.out, Hst.out, Hn.out]; exact Hrow5.out⟩

end Go.Proofs.Ytmeobmegnneegaa

/-
  Pages: the plain laws.
-/
namespace Go.Proofs.Ytmeobmegnneegaa.Eng
open Go Go.RowKit

theorem asc_filter : ∀ {B : List ByteArray}, B.Pairwise (fun a b => lt a b = true) → ∀ (k : Nat) (hk : k < B.length), B.filter (fun y => lt B[k] y) = B.drop (k + 1)
  | x :: l, h, 0, _ => by
    have h' := List.pairwise_cons.1 h
    have e : l.filter (fun y => lt x y) = l := List.filter_eq_self.2 (fun y hy => h'.1 y hy)
    show (x :: l).filter (fun y => lt x y) = l
    rw [List.filter_cons, show lt x x = false from bl_irrefl _]
    exact e
  | x :: l, h, k + 1, hk => by
    have h' := List.pairwise_cons.1 h
    have hk' : k < l.length := by simpa using hk
    have hx : lt l[k] x = false := bl_asymm _ _ (h'.1 _ (List.getElem_mem hk'))
    have := asc_filter h'.2 k hk'
    show (x :: l).filter (fun y => lt l[k] y) = l.drop (k + 1)
    rw [List.filter_cons, hx]
    exact this
theorem behind_behind {af y : ByteArray} (l : List Itm) (h : lt af y = true) : behind y l = (behind af l).filter (fun z => lt y z) := by
  unfold behind
  rw [List.filter_map, List.filter_filter]
  congr 1
  refine List.filter_congr (fun x _ => ?_)
  simp only [Function.comp_def]
  cases hy : lt y x.1
  · rfl
  · rw [lt_trans h hy]; rfl

theorem name_ne {s : Sto} (h : storeB s = true) : ∀ x ∈ s.1, x.1 ≠ ⟨#[]⟩ := fun x hx e => by
  have := (storeB_parts h).2.2.2.1 x hx
  unfold itmB at this
  simp only [Bool.and_eq_true] at this
  have hn := this.1.1
  rw [e] at hn
  exact absurd hn (by decide)
theorem toL_nil : (⟨#[]⟩ : ByteArray).toList = [] := by rw [ByteArray.toList_eq]
theorem lt_nil {x : ByteArray} (h : x ≠ ⟨#[]⟩) : lt ⟨#[]⟩ x = true := by
  show Op.bytesLess (⟨#[]⟩ : ByteArray).toList x.toList = true
  rw [toL_nil]
  cases hx : x.toList with
  | nil => exact absurd (toList_inj (a := x) (b := ⟨#[]⟩) (by rw [hx, toL_nil])) h
  | cons a l => rfl
theorem behind_nil {s : Sto} (h : storeB s = true) : behind ⟨#[]⟩ s.1 = s.1.map (·.1) := by
  unfold behind
  rw [List.filter_eq_self.2 (fun x hx => lt_nil (name_ne h x hx))]

theorem pg_good {s : Sto} {af : ByteArray} {lim : Int} (h : storeB s = true) (hl : inR lim 1 10 = true) : pgL s af lim = (behind af s.1).take lim.toNat ∧
    (lim < ((behind af s.1).length : Int) → (pgN s af lim) ≠ ⟨#[]⟩ ∧ behind (pgN s af lim) s.1 = (behind af s.1).drop lim.toNat) ∧ (((behind af s.1).length : Int) ≤ lim → pgN s af lim = ⟨#[]⟩) := by
  have hr : 1 ≤ lim ∧ lim ≤ 10 := by unfold inR at hl; simpa using hl
  obtain ⟨hp, ha⟩ := behind_asc (af := af) h
  refine ⟨by unfold pgL; rw [h, hl]; rfl, fun hlt => ?_, fun hle => ?_⟩
  · have hi : lim.toNat - 1 < (behind af s.1).length := by omega
    have e : pgN s af lim = (behind af s.1)[lim.toNat - 1] := by
      unfold pgN
      rw [h, hl]
      simp only [Bool.true_and, decide_eq_true hlt, if_true]
      rw [List.getElem?_eq_getElem hi]; rfl
    refine ⟨fun e2 => ?_, ?_⟩
    · obtain ⟨y, hy, hyy⟩ := behind_mem (List.getElem_mem hi)
      rw [← e, e2] at hyy
      exact name_ne h y hy hyy.symm
    · rw [e, behind_behind s.1 (ha _ (List.getElem_mem hi)), asc_filter hp _ hi, show lim.toNat - 1 + 1 = lim.toNat by omega]
  · unfold pgN
    rw [h, hl]
    have : decide (lim < ((behind af s.1).length : Int)) = false := decide_eq_false (by omega)
    rw [this]; rfl

theorem pgs_all {s : Sto} {lim : Int} (h : storeB s = true) (hl : inR lim 1 10 = true) : ∀ (n : Nat) (af : ByteArray), (behind af s.1).length < n →
    (pgs n s af lim).flatten = behind af s.1 ∧ (pgs n s af lim).length = max 1 (((behind af s.1).length + lim.toNat - 1) / lim.toNat) ∧ ∀ i (hi : i + 1 < (pgs n s af lim).length), ((pgs n s af lim)[i]'(by omega)).length = lim.toNat
  | 0, _, hn => by omega
  | n + 1, af, hn => by
    have hr : 1 ≤ lim ∧ lim ≤ 10 := by unfold inR at hl; simpa using hl
    obtain ⟨e1, e2, e3⟩ := pg_good (af := af) h hl
    unfold pgs
    by_cases hlt : lim < ((behind af s.1).length : Int)
    · obtain ⟨hne, hb⟩ := e2 hlt
      have hem : (pgN s af lim).toList.isEmpty = false := by
        cases hx : (pgN s af lim).toList with
        | nil => exact absurd (toList_inj (a := pgN s af lim) (b := ⟨#[]⟩) (by rw [hx, toL_nil])) hne
        | cons a l => rfl
      have hlen : (behind (pgN s af lim) s.1).length = (behind af s.1).length - lim.toNat := by rw [hb, List.length_drop]
      obtain ⟨i1, i2, i3⟩ := pgs_all h hl n (pgN s af lim) (by omega)
      simp only [hem, Bool.false_eq_true, if_false]
      refine ⟨?_, ?_, ?_⟩
      · rw [List.flatten_cons, i1, hb, e1, List.take_append_drop]
      · rw [List.length_cons, i2, hlen]
        have hq : ((behind af s.1).length + lim.toNat - 1) / lim.toNat = ((behind af s.1).length - lim.toNat + lim.toNat - 1) / lim.toNat + 1 := by
          rw [← Nat.add_div_right _ (by omega)]
          congr 1; omega
        have hpos : 1 ≤ ((behind af s.1).length - lim.toNat + lim.toNat - 1) / lim.toNat := by
          apply Nat.div_pos <;> omega
        omega
      · intro i hi
        cases i with
        | zero => simp only [List.getElem_cons_zero]; rw [e1, List.length_take]; omega
        | succ i => simp only [List.getElem_cons_succ]; exact i3 i (by simpa using hi)
    · have hN := e3 (by omega)
      have hem : (pgN s af lim).toList.isEmpty = true := by rw [hN, toL_nil]; rfl
      simp only [hem, if_true]
      refine ⟨?_, ?_, ?_⟩
      · rw [List.flatten_cons, e1, List.take_of_length_le (by omega)]; simp
      · rw [List.length_singleton]
        have : ((behind af s.1).length + lim.toNat - 1) / lim.toNat ≤ 1 := by
          rw [Nat.div_le_iff_le_mul_add_pred (by omega)]; omega
        omega
      · intro i hi; simp at hi
end Go.Proofs.Ytmeobmegnneegaa.Eng

/-
  The law on the next page: its walk.
-/
-- EV: store
namespace Go.Proofs.Ytmeobmegnneegaa.Eng
open Go Go.RowKit
attribute [local simp] big size_mk ASt.pay Option.map_map Function.comp_def awant aop acall ado aev ofVal ofVal0 ASt.put ASt.add ASt.turn ASt.kill abox aalloc astore aload ASt.at cellsTo afieldAddr afield aindexAddr aindex alen abin aint acmp astr aun apick aextract anil aslice abound abuild afill abuildSlice asCells aps avCells over upd aappend asrc amax amin aconv mkSt slots rowsOf_cons rowsOf_nil usedOf_cons usedOf_nil ZK.av List.replicate nodeA nodeT nodeTL_eq nodeL_eq strsE_get strsE_len intsE_get intsE_len strsE_at intsE_at itemA itemL_eq storeA storeT storeO itemsRow tab2 tab3 tab4 tab5 tab6 tab7 tab8 tab9 tab10 tab11 tab12 tab13 tab14 tab15 tab16 tab17 tab18 tab19 tab21 tab22 tab23 tab24 tab25 tab26 tab27 tab28 tab31 tab32 tab33 tab37 tab38 tab39 tab46 tab53 tab61 tab62 tab69 tab70 tab98 tab116 tab117 tab125 tab126 tab128 tab136 tab145 tab146 tab151 tab152 tab153 tab155 tab156 tab157

theorem pg_len (s : Sto) (af : ByteArray) (lim : Int) : (pgL s af lim).length ≤ 1000000 ∨ s.1.length > 1000000 := by
  unfold pgL
  split
  · have h1 : ((behind af s.1).take lim.toNat).length ≤ s.1.length := by
      rw [List.length_take]
      have : (behind af s.1).length ≤ s.1.length := by unfold behind; rw [List.length_map]; exact List.length_filter_le _ _
      omega
    omega
  · simp
set_option linter.unusedSimpArgs false
end Go.Proofs.Ytmeobmegnneegaa.Eng

/-
  The walk of impl.copyNode.
-/
namespace Go.Proofs.Ytmeobmegnneegaa
open Go.RowKit

end Go.Proofs.Ytmeobmegnneegaa

/-
  A name among documents in order: the walks of impl.findItem and spec.find.
-/
namespace Go.Proofs.Ytmeobmegnneegaa
open Go.RowKit

end Go.Proofs.Ytmeobmegnneegaa

/-
  The walk of markItemS. (Printed by wip/genmark.py.)
-/
namespace Go.Proofs.Ytmeobmegnneegaa
open Go.RowKit

end Go.Proofs.Ytmeobmegnneegaa

/-
  The walks of the laws' helpers on stores.
-/
namespace Go.Proofs.Ytmeobmegnneegaa
open Go.RowKit

end Go.Proofs.Ytmeobmegnneegaa

/-
  Copies of documents: the walks of impl.copyItem, impl.GetItem.
-/
namespace Go.Proofs.Ytmeobmegnneegaa
open Go.RowKit

def Itm.zero : Itm := (⟨#[]⟩, 0, Nd.zero)
end Go.Proofs.Ytmeobmegnneegaa

/-
  The laws' helpers on one document, in the form of XUni.
-/
namespace Go.Proofs.Ytmeobmegnneegaa
open Go.RowKit

end Go.Proofs.Ytmeobmegnneegaa

/-
  Contracts of walks with worlds as contracts on values told without memory: pages, documents.
-/
-- EV: store
namespace Go.Proofs.Ytmeobmegnneegaa.Eng
open Go Go.RowKit

def pathsE (l : List (List ByteArray)) : List (List AV) := l.map fun xs => [.view .loose 1 (strsE xs)]
theorem pathsE_len (l : List (List ByteArray)) : (pathsE l).length = l.length := by unfold pathsE; rw [List.length_map]
theorem pathsE_get (l : List (List ByteArray)) (i : Nat) : (pathsE l)[i]? = (l[i]?).map fun xs => [.view .loose 1 (strsE xs)] := by unfold pathsE; rw [List.getElem?_map]
theorem pathsE_at (l : List (List ByteArray)) (i : Nat) (h : i < (pathsE l).length) : (pathsE l)[i] = [.view .loose 1 (strsE (l[i]'(by rw [pathsE_len] at h; exact h)))] := Option.some.inj (by rw [← List.getElem?_eq_getElem h, pathsE_get, List.getElem?_eq_getElem (by rw [pathsE_len] at h; exact h)]; rfl)
theorem pathsE_pur (l : List (List ByteArray)) : ∀ e ∈ pathsE l, ∀ c ∈ e, Pur c := fun e he c hc => by
  obtain ⟨k, _, rfl⟩ := List.mem_map.1 he
  rw [List.mem_singleton.1 hc]; exact strs_pur _ (by decide)
theorem pathsE_clo (l : List (List ByteArray)) : ∀ e ∈ pathsE l, ∀ c ∈ e, Clo c := fun e he c hc => (pathsE_pur l e he c hc).clo
theorem pathsE_in {U : Nat → Bool} (l : List (List ByteArray)) : ∀ e ∈ pathsE l, ∀ c ∈ e, AV.In U c := fun e he c hc => by
  obtain ⟨k, _, rfl⟩ := List.mem_map.1 he
  rw [List.mem_singleton.1 hc]; exact strs_in _
theorem paths_clo {t : VC} (l : List (List ByteArray)) : Clo (.view t 1 (pathsE l)) := clo_view (pathsE_clo l)
theorem paths_to_rep {w : World} {S : Nat → Prop} {a : Option Addr} {c : Nat} {l : List (List ByteArray)} (h : SlR strsRep w S a c l) : Rep w (pureC nil S none) (.view .loose 1 (pathsE l)) (.slice a l.length c) := by
  obtain ⟨h1, h2, h3⟩ := h
  refine rep_view.2 ⟨a, c, by rw [pathsE_len], fun h => (by cases h), by rw [pathsE_len]; exact h1, by rw [pathsE_len]; exact h2, fun e he => ?_, ?_⟩
  · obtain ⟨k, _, rfl⟩ := List.mem_map.1 he; rfl
  · rcases h3 with rfl | ⟨b, o, ha, hb, hc⟩
    · exact .inl rfl
    · refine .inr ⟨b, o, ha, hb, RepE.of_get (sz := 1) (fun e he => ?_) (fun i e he => ?_)⟩
      · obtain ⟨k, _, rfl⟩ := List.mem_map.1 he; rfl
      · rw [pathsE_get, Option.map_eq_some_iff] at he
        obtain ⟨x, hx, rfl⟩ := he
        obtain ⟨hi, rfl⟩ := List.getElem?_eq_some_iff.1 hx
        obtain ⟨cs, hcs, a', c', rfl, hs⟩ := hc i hi
        refine RepC.of_get (fun j d hd => ?_)
        have hj := (List.getElem?_eq_some_iff.1 hd).1
        simp only [List.length_cons, List.length_nil] at hj
        obtain rfl : j = 0 := by omega
        simp only [List.getElem?_cons_zero, Option.some.injEq] at hd
        subst hd
        exact ⟨_, hcs 0 _ rfl, rfl, strs_to_rep hs⟩

theorem AllPages_AC (s : Sto) (t : VC) (lim : Int) : AC Try.prog 38 [storeT t s, .int .i64 lim] 0 (fun r => r = .view .loose 1 (pathsE (apL s lim))) := by
  refine AC.ofNew (enters_of Try.func38 (by kernel_rfl) (by kernel_rfl)) (fun w L S rb vs h => ?_)
  obtain ⟨v, z, rfl, h1, h3⟩ := repL2_inv h
  rw [rep_int] at h3
  subst h3
  refine (implAllPages_ok s lim v w (store_of_rep h1)).mono ?_
  rintro e w' ⟨r, fp, rfl, hg, ⟨cs, rfl, a, c, rfl, hF⟩, hfr⟩
  exact ⟨_, _, rfl, hg, paths_to_rep (hF.toR (free_fresh hfr)), rfl⟩
theorem specAllPages_AC (s : Sto) (t : VC) (lim : Int) : AC Try.prog 37 [storeT t s, .int .i64 lim] 0 (fun r => r = .view .loose 1 (pathsE (apL s lim))) := by
  refine AC.ofNew (enters_of Try.func37 (by kernel_rfl) (by kernel_rfl)) (fun w L S rb vs h => ?_)
  obtain ⟨v, z, rfl, h1, h3⟩ := repL2_inv h
  rw [rep_int] at h3
  subst h3
  refine (specAll_own s lim v w (store_of_rep h1)).mono ?_
  rintro e w' ⟨r, rfl, hg, ho⟩
  obtain ⟨fp, ⟨cs, rfl, a, c, rfl, hF⟩, hfr⟩ := ho.fv (hp := strsRep_pos)
  exact ⟨_, _, rfl, hg, paths_to_rep (hF.toR (fun b hb => ⟨Nat.le_trans (Nat.le_succ _) (free_fresh hfr b hb).1, (free_fresh hfr b hb).2⟩)), rfl⟩
end Go.Proofs.Ytmeobmegnneegaa.Eng

/-
  The law on the whole page: its walk.
-/
-- EV: store
namespace Go.Proofs.Ytmeobmegnneegaa.Eng
open Go Go.RowKit
attribute [local simp] big size_mk ASt.pay Option.map_map Function.comp_def awant aop acall ado aev ofVal ofVal0 ASt.put ASt.add ASt.turn ASt.kill abox aalloc astore aload ASt.at cellsTo afieldAddr afield aindexAddr aindex alen abin aint acmp astr aun apick aextract anil aslice abound abuild afill abuildSlice asCells aps avCells over upd aappend asrc amax amin aconv mkSt slots rowsOf_cons rowsOf_nil usedOf_cons usedOf_nil ZK.av List.replicate nodeA nodeT nodeTL_eq nodeL_eq strsE_get strsE_len intsE_get intsE_len strsE_at intsE_at itemA itemL_eq storeA storeT storeO itemsRow tab2 tab3 tab4 tab5 tab6 tab7 tab8 tab9 tab10 tab11 tab12 tab13 tab14 tab15 tab16 tab17 tab18 tab19 tab21 tab22 tab23 tab24 tab25 tab26 tab27 tab28 tab31 tab32 tab33 tab37 tab38 tab39 tab46 tab53 tab61 tab62 tab69 tab70 tab98 tab116 tab117 tab125 tab126 tab128 tab136 tab145 tab146 tab151 tab152 tab153 tab155 tab156 tab157

theorem behind_all {s : Sto} (h : storeB s = true) : (behind ⟨#[]⟩ s.1).length = s.1.length := by rw [behind_nil h, List.length_map]
theorem sto_ten {s : Sto} (h : storeB s = true) : s.1.length ≤ 10 := by
  unfold storeB at h
  simp only [Bool.and_eq_true, decide_eq_true_eq] at h
  exact h.1.1
theorem whole_pg {s : Sto} (h : storeB s = true) : (pgL s ⟨#[]⟩ 10).length = s.1.length ∧ pgN s ⟨#[]⟩ 10 = ⟨#[]⟩ ∧ (apL s 10).length = 1 := by
  have h10 := sto_ten h
  have hb := behind_all h
  obtain ⟨e1, -, e3⟩ := pg_good (af := ⟨#[]⟩) (lim := 10) h (by decide)
  refine ⟨by rw [e1, List.length_take, hb]; omega, e3 (by omega), ?_⟩
  rw [apL_good h (by decide), (pgs_all (lim := 10) h (by decide) 11 ⟨#[]⟩ (by omega)).2.1, hb]
  show max 1 ((s.1.length + 10 - 1) / 10) = 1
  omega

set_option linter.unusedSimpArgs false
set_option maxRecDepth 100000 in
set_option maxHeartbeats 16000000 in
theorem lawPageOfWhole_AC0 (zs : List Int) (hb : ByteL zs) : AC0 Try.prog 7 [.view .loose 1 (bytesE zs)] (fun r => r = .bool true) := by
  refine AC0.of tab_ok mixed_ok Try.func7 (by rfl) (by kernel_rfl) ?_; rintro ⟨P, T, hT, hm, w0, S0, rd0, k0⟩ hP hTT hk0; dsimp only at hP hTT hk0; subst hP hTT hk0; unfold initSt; rw [Try.ntmps7]
  by_cases hl : zs.length ≤ 1048576
  · have hl' : ¬ ((1048576 : Int) < (zs.length : Int)) := by omega
    (repeat (first | with_reducible refine AW.seq ?_ | (refine arun_kn 4 rfl (fun C hC => ?_); ((repeat ((conv => whnf); simp [bytesE_len, hl'])); refine hC _ ?_; clear hC C; simp only [List.drop_succ_cons, List.drop_zero, List.drop_nil, Nat.reduceAdd])) | (refine arun_kn 1 rfl (fun C hC => ?_); ((repeat ((conv => whnf); simp [bytesE_len, hl'])); refine hC _ ?_; clear hC C; simp only [List.drop_succ_cons, List.drop_zero, List.drop_nil, Nat.reduceAdd])) | (refine arun_skip ?_ ?_; (focus (simp [awant, bytesE_len, hl']; done))) | (refine arun_callZ ?_ rfl ?_ (drawPageOf_AC0 zs hl hb) ?_ rfl ?_; (focus (simp [awant]; done)); (focus (simp [ASt.put, ASt.pay, ASt.add, Option.map_map, Function.comp_def, List.set_cons_succ, List.set_cons_zero, aev, ofVal, ofVal0, big, size_mk, nodeA, nodeT, nodeTL_eq, nodeL_eq, itemA, itemL_eq, storeA, storeT, storeO, itemsRow, bytesE_len, hl']; done)); (focus (simp only [cloL]; (repeat (first | exact trivial | refine And.intro ?_ ?_ | exact clo_int | exact clo_str | exact clo_bool | exact clo_rdr | exact node_clo _ | exact nodeT_clo _ _ | exact strs_clo _ | exact ints_clo _ | exact nodes_clo _ | exact clo_vnil | exact bytes_clo _ | exact clo_lit _ rfl | assumption | exact item_clo _ | exact items_clo _ | exact store_clo _ _ | exact storeA_clo _)); done)); (rintro _ ⟨s, af, lim, hs, rfl⟩)) | (refine arunD_kn 4 rfl (fun C hC => ?_); ((repeat ((conv => whnf); simp [bytesE_len, hl'])); refine hC _ ?_; clear hC C; simp only [List.drop_succ_cons, List.drop_zero, List.drop_nil, Nat.reduceAdd])) | (refine arunD_kn 1 rfl (fun C hC => ?_); ((repeat ((conv => whnf); simp [bytesE_len, hl'])); refine hC _ ?_; clear hC C; simp only [List.drop_succ_cons, List.drop_zero, List.drop_nil, Nat.reduceAdd])) | (refine arun_nil ?_; (refine hK _ ?_; clear hK K; simp only [thenA_normal, inBlockA_normal, endQ_normal, endR_normal])) | (refine arunD_nil ?_; (refine hK _ ?_; clear hK K; simp only [thenA_normal, inBlockA_normal, endQ_normal, endR_normal])) | (refine AW.regionK [] (fun K hK => ?_)) | (refine AW.regionDK [] (pcs [] []) (by kernel_rfl) (by kernel_rfl) (fun K hK => ?_)) | (refine AW.condT ?_ ?_; (focus (simp [aev, bytesE_len, hl']; done))) | (refine AW.condF ?_ ?_; (focus (simp [aev, bytesE_len, hl']; done))) | (refine AW.skip ?_; simp only [thenA_normal, inBlockA_normal]) | with_reducible refine AW.block ?_ | (refine AW.exit ?_; simp only [thenA_exit, inBlockA_exit, if_true, if_false, Nat.reduceEqDiff, thenA_normal, inBlockA_normal, reduceIte]) | (refine AW.ret ?_; simp only [thenA_ret, inBlockA_ret, endQ_ret, endR_ret])))
    have hL : (pgL s af lim).length ≤ 1000000 := by rcases pg_len s af lim with h | h <;> omega
    have p1 := PageOf_AC s .loose af lim
    have p2 := specPageOf_AC s .loose af lim
    have p3 := PageOf_AC s .loose ⟨#[]⟩ 10
    have p4 := AllPages_AC s .loose 10
    have p5 := ValidStore_AC s .loose
    have hwh := whole_pg (s := s)
    generalize pgL s af lim = L at *
    generalize pgN s af lim = N at *
    generalize storeB s = b at *
    cases b
    · (repeat (first | with_reducible refine AW.seq ?_ | (refine arun_kn 4 rfl (fun C hC => ?_); ((repeat ((conv => whnf); simp [eqT_refl, eqs_self, strsE_len])); refine hC _ ?_; clear hC C; simp only [List.drop_succ_cons, List.drop_zero, List.drop_nil, Nat.reduceAdd])) | (refine arun_kn 1 rfl (fun C hC => ?_); ((repeat ((conv => whnf); simp [eqT_refl, eqs_self, strsE_len])); refine hC _ ?_; clear hC C; simp only [List.drop_succ_cons, List.drop_zero, List.drop_nil, Nat.reduceAdd])) | (refine arun_skip ?_ ?_; (focus (simp [awant, eqT_refl, eqs_self, strsE_len]; done))) | (refine arun_call0 ?_ rfl ?_ (p1) ?_ ?_; (focus (simp [awant]; done)); (focus (simp [ASt.put, ASt.pay, ASt.add, Option.map_map, Function.comp_def, List.set_cons_succ, List.set_cons_zero, aev, ofVal, ofVal0, big, size_mk, nodeA, nodeT, nodeTL_eq, nodeL_eq, itemA, itemL_eq, storeA, storeT, storeO, itemsRow, eqT_refl, eqs_self, strsE_len]; done)); (focus (simp only [cloL]; (repeat (first | exact trivial | refine And.intro ?_ ?_ | exact clo_int | exact clo_str | exact clo_bool | exact clo_rdr | exact node_clo _ | exact nodeT_clo _ _ | exact strs_clo _ | exact ints_clo _ | exact nodes_clo _ | exact clo_vnil | exact bytes_clo _ | exact clo_lit _ rfl | assumption | exact item_clo _ | exact items_clo _ | exact store_clo _ _ | exact storeA_clo _)); done)); rintro _ rfl) | (refine arun_call0 ?_ rfl ?_ (p2) ?_ ?_; (focus (simp [awant]; done)); (focus (simp [ASt.put, ASt.pay, ASt.add, Option.map_map, Function.comp_def, List.set_cons_succ, List.set_cons_zero, aev, ofVal, ofVal0, big, size_mk, nodeA, nodeT, nodeTL_eq, nodeL_eq, itemA, itemL_eq, storeA, storeT, storeO, itemsRow, eqT_refl, eqs_self, strsE_len]; done)); (focus (simp only [cloL]; (repeat (first | exact trivial | refine And.intro ?_ ?_ | exact clo_int | exact clo_str | exact clo_bool | exact clo_rdr | exact node_clo _ | exact nodeT_clo _ _ | exact strs_clo _ | exact ints_clo _ | exact nodes_clo _ | exact clo_vnil | exact bytes_clo _ | exact clo_lit _ rfl | assumption | exact item_clo _ | exact items_clo _ | exact store_clo _ _ | exact storeA_clo _)); done)); rintro _ rfl) | (refine arun_call0 ?_ rfl ?_ (equalTexts_AC .loose .loose L L hL) ?_ ?_; (focus (simp [awant]; done)); (focus (simp [ASt.put, ASt.pay, ASt.add, Option.map_map, Function.comp_def, List.set_cons_succ, List.set_cons_zero, aev, ofVal, ofVal0, big, size_mk, nodeA, nodeT, nodeTL_eq, nodeL_eq, itemA, itemL_eq, storeA, storeT, storeO, itemsRow, eqT_refl, eqs_self, strsE_len]; done)); (focus (simp only [cloL]; (repeat (first | exact trivial | refine And.intro ?_ ?_ | exact clo_int | exact clo_str | exact clo_bool | exact clo_rdr | exact node_clo _ | exact nodeT_clo _ _ | exact strs_clo _ | exact ints_clo _ | exact nodes_clo _ | exact clo_vnil | exact bytes_clo _ | exact clo_lit _ rfl | assumption | exact item_clo _ | exact items_clo _ | exact store_clo _ _ | exact storeA_clo _)); done)); rintro _ rfl) | (refine arun_call0 ?_ rfl ?_ (p5) ?_ ?_; (focus (simp [awant]; done)); (focus (simp [ASt.put, ASt.pay, ASt.add, Option.map_map, Function.comp_def, List.set_cons_succ, List.set_cons_zero, aev, ofVal, ofVal0, big, size_mk, nodeA, nodeT, nodeTL_eq, nodeL_eq, itemA, itemL_eq, storeA, storeT, storeO, itemsRow, eqT_refl, eqs_self, strsE_len]; done)); (focus (simp only [cloL]; (repeat (first | exact trivial | refine And.intro ?_ ?_ | exact clo_int | exact clo_str | exact clo_bool | exact clo_rdr | exact node_clo _ | exact nodeT_clo _ _ | exact strs_clo _ | exact ints_clo _ | exact nodes_clo _ | exact clo_vnil | exact bytes_clo _ | exact clo_lit _ rfl | assumption | exact item_clo _ | exact items_clo _ | exact store_clo _ _ | exact storeA_clo _)); done)); rintro _ rfl) | (refine arunD_kn 4 rfl (fun C hC => ?_); ((repeat ((conv => whnf); simp [eqT_refl, eqs_self, strsE_len])); refine hC _ ?_; clear hC C; simp only [List.drop_succ_cons, List.drop_zero, List.drop_nil, Nat.reduceAdd])) | (refine arunD_kn 1 rfl (fun C hC => ?_); ((repeat ((conv => whnf); simp [eqT_refl, eqs_self, strsE_len])); refine hC _ ?_; clear hC C; simp only [List.drop_succ_cons, List.drop_zero, List.drop_nil, Nat.reduceAdd])) | (refine arunD_call (c := 0) rfl ?_ rfl ?_ (p1) rfl ?_ ?_ ?_ ?_; (focus (simp [awant]; done)); (focus (simp [ASt.put, ASt.pay, ASt.add, Option.map_map, Function.comp_def, List.set_cons_succ, List.set_cons_zero, aev, ofVal, ofVal0, big, size_mk, nodeA, nodeT, nodeTL_eq, nodeL_eq, itemA, itemL_eq, storeA, storeT, storeO, itemsRow, eqT_refl, eqs_self, strsE_len]; done)); (focus (simp only [List.forall_mem_cons, List.not_mem_nil, false_implies, implies_true, and_true]; (repeat (first | exact trivial | refine And.intro ?_ ?_ | exact clo_int | exact clo_str | exact clo_bool | exact clo_rdr | exact node_clo _ | exact nodeT_clo _ _ | exact strs_clo _ | exact ints_clo _ | exact nodes_clo _ | exact clo_vnil | exact bytes_clo _ | exact clo_lit _ rfl | assumption | exact item_clo _ | exact items_clo _ | exact store_clo _ _ | exact storeA_clo _)); done)); (focus (first | with_reducible exact can_none | ((first | with_reducible refine can_some ?_ | refine can_of ?_ | (simp only [ASt.put, ASt.pay, ASt.add, Option.map_map, Function.comp_def, Option.map_some]; first | refine can_some ?_ | refine can_of ?_)); (first | exact Nat.le_refl _ | (simp; done) | omega)))); (focus (refine ⟨_, rfl, ?_⟩; first | exact node_in _ | exact storeA_in _ | exact item_in _ | exact in_int | exact in_bool | exact in_str | (simp [NoId, in_tup, in_agg, in_int, in_bool, in_str, node_in, nodes_in, strs_in]; done))); rintro _ rfl; intro _) | (refine arunD_call (c := 0) rfl ?_ rfl ?_ (p2) rfl ?_ ?_ ?_ ?_; (focus (simp [awant]; done)); (focus (simp [ASt.put, ASt.pay, ASt.add, Option.map_map, Function.comp_def, List.set_cons_succ, List.set_cons_zero, aev, ofVal, ofVal0, big, size_mk, nodeA, nodeT, nodeTL_eq, nodeL_eq, itemA, itemL_eq, storeA, storeT, storeO, itemsRow, eqT_refl, eqs_self, strsE_len]; done)); (focus (simp only [List.forall_mem_cons, List.not_mem_nil, false_implies, implies_true, and_true]; (repeat (first | exact trivial | refine And.intro ?_ ?_ | exact clo_int | exact clo_str | exact clo_bool | exact clo_rdr | exact node_clo _ | exact nodeT_clo _ _ | exact strs_clo _ | exact ints_clo _ | exact nodes_clo _ | exact clo_vnil | exact bytes_clo _ | exact clo_lit _ rfl | assumption | exact item_clo _ | exact items_clo _ | exact store_clo _ _ | exact storeA_clo _)); done)); (focus (first | with_reducible exact can_none | ((first | with_reducible refine can_some ?_ | refine can_of ?_ | (simp only [ASt.put, ASt.pay, ASt.add, Option.map_map, Function.comp_def, Option.map_some]; first | refine can_some ?_ | refine can_of ?_)); (first | exact Nat.le_refl _ | (simp; done) | omega)))); (focus (refine ⟨_, rfl, ?_⟩; first | exact node_in _ | exact storeA_in _ | exact item_in _ | exact in_int | exact in_bool | exact in_str | (simp [NoId, in_tup, in_agg, in_int, in_bool, in_str, node_in, nodes_in, strs_in]; done))); rintro _ rfl; intro _) | (refine arunD_call (c := 0) rfl ?_ rfl ?_ (equalTexts_AC .loose .loose L L hL) rfl ?_ ?_ ?_ ?_; (focus (simp [awant]; done)); (focus (simp [ASt.put, ASt.pay, ASt.add, Option.map_map, Function.comp_def, List.set_cons_succ, List.set_cons_zero, aev, ofVal, ofVal0, big, size_mk, nodeA, nodeT, nodeTL_eq, nodeL_eq, itemA, itemL_eq, storeA, storeT, storeO, itemsRow, eqT_refl, eqs_self, strsE_len]; done)); (focus (simp only [List.forall_mem_cons, List.not_mem_nil, false_implies, implies_true, and_true]; (repeat (first | exact trivial | refine And.intro ?_ ?_ | exact clo_int | exact clo_str | exact clo_bool | exact clo_rdr | exact node_clo _ | exact nodeT_clo _ _ | exact strs_clo _ | exact ints_clo _ | exact nodes_clo _ | exact clo_vnil | exact bytes_clo _ | exact clo_lit _ rfl | assumption | exact item_clo _ | exact items_clo _ | exact store_clo _ _ | exact storeA_clo _)); done)); (focus (first | with_reducible exact can_none | ((first | with_reducible refine can_some ?_ | refine can_of ?_ | (simp only [ASt.put, ASt.pay, ASt.add, Option.map_map, Function.comp_def, Option.map_some]; first | refine can_some ?_ | refine can_of ?_)); (first | exact Nat.le_refl _ | (simp; done) | omega)))); (focus (refine ⟨_, rfl, ?_⟩; first | exact node_in _ | exact storeA_in _ | exact item_in _ | exact in_int | exact in_bool | exact in_str | (simp [NoId, in_tup, in_agg, in_int, in_bool, in_str, node_in, nodes_in, strs_in]; done))); rintro _ rfl; intro _) | (refine arunD_call (c := 0) rfl ?_ rfl ?_ (p5) rfl ?_ ?_ ?_ ?_; (focus (simp [awant]; done)); (focus (simp [ASt.put, ASt.pay, ASt.add, Option.map_map, Function.comp_def, List.set_cons_succ, List.set_cons_zero, aev, ofVal, ofVal0, big, size_mk, nodeA, nodeT, nodeTL_eq, nodeL_eq, itemA, itemL_eq, storeA, storeT, storeO, itemsRow, eqT_refl, eqs_self, strsE_len]; done)); (focus (simp only [List.forall_mem_cons, List.not_mem_nil, false_implies, implies_true, and_true]; (repeat (first | exact trivial | refine And.intro ?_ ?_ | exact clo_int | exact clo_str | exact clo_bool | exact clo_rdr | exact node_clo _ | exact nodeT_clo _ _ | exact strs_clo _ | exact ints_clo _ | exact nodes_clo _ | exact clo_vnil | exact bytes_clo _ | exact clo_lit _ rfl | assumption | exact item_clo _ | exact items_clo _ | exact store_clo _ _ | exact storeA_clo _)); done)); (focus (first | with_reducible exact can_none | ((first | with_reducible refine can_some ?_ | refine can_of ?_ | (simp only [ASt.put, ASt.pay, ASt.add, Option.map_map, Function.comp_def, Option.map_some]; first | refine can_some ?_ | refine can_of ?_)); (first | exact Nat.le_refl _ | (simp; done) | omega)))); (focus (refine ⟨_, rfl, ?_⟩; first | exact node_in _ | exact storeA_in _ | exact item_in _ | exact in_int | exact in_bool | exact in_str | (simp [NoId, in_tup, in_agg, in_int, in_bool, in_str, node_in, nodes_in, strs_in]; done))); rintro _ rfl; intro _) | (refine arun_nil ?_; (refine hK _ ?_; clear hK K; simp only [thenA_normal, inBlockA_normal, endQ_normal, endR_normal])) | (refine arunD_nil ?_; (refine hK _ ?_; clear hK K; simp only [thenA_normal, inBlockA_normal, endQ_normal, endR_normal])) | (refine AW.regionK [] (fun K hK => ?_)) | (refine AW.regionDK [] (pcs [] []) (by kernel_rfl) (by kernel_rfl) (fun K hK => ?_)) | (refine AW.condT ?_ ?_; (focus (simp [aev, eqT_refl, eqs_self, strsE_len]; done))) | (refine AW.condF ?_ ?_; (focus (simp [aev, eqT_refl, eqs_self, strsE_len]; done))) | (refine AW.skip ?_; simp only [thenA_normal, inBlockA_normal]) | with_reducible refine AW.block ?_ | (refine AW.exit ?_; simp only [thenA_exit, inBlockA_exit, if_true, if_false, Nat.reduceEqDiff, thenA_normal, inBlockA_normal, reduceIte]) | (refine AW.ret ?_; simp only [thenA_ret, inBlockA_ret, endQ_ret, endR_ret])))
      exact ⟨.bool true, by simp [ares, aresL], pur_bool, rfl⟩
    · obtain ⟨w1, w2, w3⟩ := hwh rfl
      rw [w2] at p3
      (repeat (first | with_reducible refine AW.seq ?_ | (refine arun_kn 4 rfl (fun C hC => ?_); ((repeat ((conv => whnf); simp [eqT_refl, eqs_self, strsE_len, pathsE_len, w1, w3])); refine hC _ ?_; clear hC C; simp only [List.drop_succ_cons, List.drop_zero, List.drop_nil, Nat.reduceAdd])) | (refine arun_kn 1 rfl (fun C hC => ?_); ((repeat ((conv => whnf); simp [eqT_refl, eqs_self, strsE_len, pathsE_len, w1, w3])); refine hC _ ?_; clear hC C; simp only [List.drop_succ_cons, List.drop_zero, List.drop_nil, Nat.reduceAdd])) | (refine arun_skip ?_ ?_; (focus (simp [awant, eqT_refl, eqs_self, strsE_len, pathsE_len, w1, w3]; done))) | (refine arun_call0 ?_ rfl ?_ (p1) ?_ ?_; (focus (simp [awant]; done)); (focus (simp [ASt.put, ASt.pay, ASt.add, Option.map_map, Function.comp_def, List.set_cons_succ, List.set_cons_zero, aev, ofVal, ofVal0, big, size_mk, nodeA, nodeT, nodeTL_eq, nodeL_eq, itemA, itemL_eq, storeA, storeT, storeO, itemsRow, eqT_refl, eqs_self, strsE_len, pathsE_len, w1, w3]; done)); (focus (simp only [cloL]; (repeat (first | exact trivial | refine And.intro ?_ ?_ | exact clo_int | exact clo_str | exact clo_bool | exact clo_rdr | exact node_clo _ | exact nodeT_clo _ _ | exact strs_clo _ | exact ints_clo _ | exact nodes_clo _ | exact clo_vnil | exact bytes_clo _ | exact clo_lit _ rfl | assumption | exact item_clo _ | exact items_clo _ | exact store_clo _ _ | exact storeA_clo _)); done)); rintro _ rfl) | (refine arun_call0 ?_ rfl ?_ (p2) ?_ ?_; (focus (simp [awant]; done)); (focus (simp [ASt.put, ASt.pay, ASt.add, Option.map_map, Function.comp_def, List.set_cons_succ, List.set_cons_zero, aev, ofVal, ofVal0, big, size_mk, nodeA, nodeT, nodeTL_eq, nodeL_eq, itemA, itemL_eq, storeA, storeT, storeO, itemsRow, eqT_refl, eqs_self, strsE_len, pathsE_len, w1, w3]; done)); (focus (simp only [cloL]; (repeat (first | exact trivial | refine And.intro ?_ ?_ | exact clo_int | exact clo_str | exact clo_bool | exact clo_rdr | exact node_clo _ | exact nodeT_clo _ _ | exact strs_clo _ | exact ints_clo _ | exact nodes_clo _ | exact clo_vnil | exact bytes_clo _ | exact clo_lit _ rfl | assumption | exact item_clo _ | exact items_clo _ | exact store_clo _ _ | exact storeA_clo _)); done)); rintro _ rfl) | (refine arun_call0 ?_ rfl ?_ (equalTexts_AC .loose .loose L L hL) ?_ ?_; (focus (simp [awant]; done)); (focus (simp [ASt.put, ASt.pay, ASt.add, Option.map_map, Function.comp_def, List.set_cons_succ, List.set_cons_zero, aev, ofVal, ofVal0, big, size_mk, nodeA, nodeT, nodeTL_eq, nodeL_eq, itemA, itemL_eq, storeA, storeT, storeO, itemsRow, eqT_refl, eqs_self, strsE_len, pathsE_len, w1, w3]; done)); (focus (simp only [cloL]; (repeat (first | exact trivial | refine And.intro ?_ ?_ | exact clo_int | exact clo_str | exact clo_bool | exact clo_rdr | exact node_clo _ | exact nodeT_clo _ _ | exact strs_clo _ | exact ints_clo _ | exact nodes_clo _ | exact clo_vnil | exact bytes_clo _ | exact clo_lit _ rfl | assumption | exact item_clo _ | exact items_clo _ | exact store_clo _ _ | exact storeA_clo _)); done)); rintro _ rfl) | (refine arun_call0 ?_ rfl ?_ (p5) ?_ ?_; (focus (simp [awant]; done)); (focus (simp [ASt.put, ASt.pay, ASt.add, Option.map_map, Function.comp_def, List.set_cons_succ, List.set_cons_zero, aev, ofVal, ofVal0, big, size_mk, nodeA, nodeT, nodeTL_eq, nodeL_eq, itemA, itemL_eq, storeA, storeT, storeO, itemsRow, eqT_refl, eqs_self, strsE_len, pathsE_len, w1, w3]; done)); (focus (simp only [cloL]; (repeat (first | exact trivial | refine And.intro ?_ ?_ | exact clo_int | exact clo_str | exact clo_bool | exact clo_rdr | exact node_clo _ | exact nodeT_clo _ _ | exact strs_clo _ | exact ints_clo _ | exact nodes_clo _ | exact clo_vnil | exact bytes_clo _ | exact clo_lit _ rfl | assumption | exact item_clo _ | exact items_clo _ | exact store_clo _ _ | exact storeA_clo _)); done)); rintro _ rfl) | (refine arun_call0 ?_ rfl ?_ (p3) ?_ ?_; (focus (simp [awant]; done)); (focus (simp [ASt.put, ASt.pay, ASt.add, Option.map_map, Function.comp_def, List.set_cons_succ, List.set_cons_zero, aev, ofVal, ofVal0, big, size_mk, nodeA, nodeT, nodeTL_eq, nodeL_eq, itemA, itemL_eq, storeA, storeT, storeO, itemsRow, eqT_refl, eqs_self, strsE_len, pathsE_len, w1, w3]; done)); (focus (simp only [cloL]; (repeat (first | exact trivial | refine And.intro ?_ ?_ | exact clo_int | exact clo_str | exact clo_bool | exact clo_rdr | exact node_clo _ | exact nodeT_clo _ _ | exact strs_clo _ | exact ints_clo _ | exact nodes_clo _ | exact clo_vnil | exact bytes_clo _ | exact clo_lit _ rfl | assumption | exact item_clo _ | exact items_clo _ | exact store_clo _ _ | exact storeA_clo _)); done)); rintro _ rfl) | (refine arun_call0 ?_ rfl ?_ (p4) ?_ ?_; (focus (simp [awant]; done)); (focus (simp [ASt.put, ASt.pay, ASt.add, Option.map_map, Function.comp_def, List.set_cons_succ, List.set_cons_zero, aev, ofVal, ofVal0, big, size_mk, nodeA, nodeT, nodeTL_eq, nodeL_eq, itemA, itemL_eq, storeA, storeT, storeO, itemsRow, eqT_refl, eqs_self, strsE_len, pathsE_len, w1, w3]; done)); (focus (simp only [cloL]; (repeat (first | exact trivial | refine And.intro ?_ ?_ | exact clo_int | exact clo_str | exact clo_bool | exact clo_rdr | exact node_clo _ | exact nodeT_clo _ _ | exact strs_clo _ | exact ints_clo _ | exact nodes_clo _ | exact clo_vnil | exact bytes_clo _ | exact clo_lit _ rfl | assumption | exact item_clo _ | exact items_clo _ | exact store_clo _ _ | exact storeA_clo _)); done)); rintro _ rfl) | (refine arunD_kn 4 rfl (fun C hC => ?_); ((repeat ((conv => whnf); simp [eqT_refl, eqs_self, strsE_len, pathsE_len, w1, w3])); refine hC _ ?_; clear hC C; simp only [List.drop_succ_cons, List.drop_zero, List.drop_nil, Nat.reduceAdd])) | (refine arunD_kn 1 rfl (fun C hC => ?_); ((repeat ((conv => whnf); simp [eqT_refl, eqs_self, strsE_len, pathsE_len, w1, w3])); refine hC _ ?_; clear hC C; simp only [List.drop_succ_cons, List.drop_zero, List.drop_nil, Nat.reduceAdd])) | (refine arunD_call (c := 0) rfl ?_ rfl ?_ (p1) rfl ?_ ?_ ?_ ?_; (focus (simp [awant]; done)); (focus (simp [ASt.put, ASt.pay, ASt.add, Option.map_map, Function.comp_def, List.set_cons_succ, List.set_cons_zero, aev, ofVal, ofVal0, big, size_mk, nodeA, nodeT, nodeTL_eq, nodeL_eq, itemA, itemL_eq, storeA, storeT, storeO, itemsRow, eqT_refl, eqs_self, strsE_len, pathsE_len, w1, w3]; done)); (focus (simp only [List.forall_mem_cons, List.not_mem_nil, false_implies, implies_true, and_true]; (repeat (first | exact trivial | refine And.intro ?_ ?_ | exact clo_int | exact clo_str | exact clo_bool | exact clo_rdr | exact node_clo _ | exact nodeT_clo _ _ | exact strs_clo _ | exact ints_clo _ | exact nodes_clo _ | exact clo_vnil | exact bytes_clo _ | exact clo_lit _ rfl | assumption | exact item_clo _ | exact items_clo _ | exact store_clo _ _ | exact storeA_clo _)); done)); (focus (first | with_reducible exact can_none | ((first | with_reducible refine can_some ?_ | refine can_of ?_ | (simp only [ASt.put, ASt.pay, ASt.add, Option.map_map, Function.comp_def, Option.map_some]; first | refine can_some ?_ | refine can_of ?_)); (first | exact Nat.le_refl _ | (simp; done) | omega)))); (focus (refine ⟨_, rfl, ?_⟩; first | exact node_in _ | exact storeA_in _ | exact item_in _ | exact in_int | exact in_bool | exact in_str | (simp [NoId, in_tup, in_agg, in_int, in_bool, in_str, node_in, nodes_in, strs_in]; done))); rintro _ rfl; intro _) | (refine arunD_call (c := 0) rfl ?_ rfl ?_ (p2) rfl ?_ ?_ ?_ ?_; (focus (simp [awant]; done)); (focus (simp [ASt.put, ASt.pay, ASt.add, Option.map_map, Function.comp_def, List.set_cons_succ, List.set_cons_zero, aev, ofVal, ofVal0, big, size_mk, nodeA, nodeT, nodeTL_eq, nodeL_eq, itemA, itemL_eq, storeA, storeT, storeO, itemsRow, eqT_refl, eqs_self, strsE_len, pathsE_len, w1, w3]; done)); (focus (simp only [List.forall_mem_cons, List.not_mem_nil, false_implies, implies_true, and_true]; (repeat (first | exact trivial | refine And.intro ?_ ?_ | exact clo_int | exact clo_str | exact clo_bool | exact clo_rdr | exact node_clo _ | exact nodeT_clo _ _ | exact strs_clo _ | exact ints_clo _ | exact nodes_clo _ | exact clo_vnil | exact bytes_clo _ | exact clo_lit _ rfl | assumption | exact item_clo _ | exact items_clo _ | exact store_clo _ _ | exact storeA_clo _)); done)); (focus (first | with_reducible exact can_none | ((first | with_reducible refine can_some ?_ | refine can_of ?_ | (simp only [ASt.put, ASt.pay, ASt.add, Option.map_map, Function.comp_def, Option.map_some]; first | refine can_some ?_ | refine can_of ?_)); (first | exact Nat.le_refl _ | (simp; done) | omega)))); (focus (refine ⟨_, rfl, ?_⟩; first | exact node_in _ | exact storeA_in _ | exact item_in _ | exact in_int | exact in_bool | exact in_str | (simp [NoId, in_tup, in_agg, in_int, in_bool, in_str, node_in, nodes_in, strs_in]; done))); rintro _ rfl; intro _) | (refine arunD_call (c := 0) rfl ?_ rfl ?_ (equalTexts_AC .loose .loose L L hL) rfl ?_ ?_ ?_ ?_; (focus (simp [awant]; done)); (focus (simp [ASt.put, ASt.pay, ASt.add, Option.map_map, Function.comp_def, List.set_cons_succ, List.set_cons_zero, aev, ofVal, ofVal0, big, size_mk, nodeA, nodeT, nodeTL_eq, nodeL_eq, itemA, itemL_eq, storeA, storeT, storeO, itemsRow, eqT_refl, eqs_self, strsE_len, pathsE_len, w1, w3]; done)); (focus (simp only [List.forall_mem_cons, List.not_mem_nil, false_implies, implies_true, and_true]; (repeat (first | exact trivial | refine And.intro ?_ ?_ | exact clo_int | exact clo_str | exact clo_bool | exact clo_rdr | exact node_clo _ | exact nodeT_clo _ _ | exact strs_clo _ | exact ints_clo _ | exact nodes_clo _ | exact clo_vnil | exact bytes_clo _ | exact clo_lit _ rfl | assumption | exact item_clo _ | exact items_clo _ | exact store_clo _ _ | exact storeA_clo _)); done)); (focus (first | with_reducible exact can_none | ((first | with_reducible refine can_some ?_ | refine can_of ?_ | (simp only [ASt.put, ASt.pay, ASt.add, Option.map_map, Function.comp_def, Option.map_some]; first | refine can_some ?_ | refine can_of ?_)); (first | exact Nat.le_refl _ | (simp; done) | omega)))); (focus (refine ⟨_, rfl, ?_⟩; first | exact node_in _ | exact storeA_in _ | exact item_in _ | exact in_int | exact in_bool | exact in_str | (simp [NoId, in_tup, in_agg, in_int, in_bool, in_str, node_in, nodes_in, strs_in]; done))); rintro _ rfl; intro _) | (refine arunD_call (c := 0) rfl ?_ rfl ?_ (p5) rfl ?_ ?_ ?_ ?_; (focus (simp [awant]; done)); (focus (simp [ASt.put, ASt.pay, ASt.add, Option.map_map, Function.comp_def, List.set_cons_succ, List.set_cons_zero, aev, ofVal, ofVal0, big, size_mk, nodeA, nodeT, nodeTL_eq, nodeL_eq, itemA, itemL_eq, storeA, storeT, storeO, itemsRow, eqT_refl, eqs_self, strsE_len, pathsE_len, w1, w3]; done)); (focus (simp only [List.forall_mem_cons, List.not_mem_nil, false_implies, implies_true, and_true]; (repeat (first | exact trivial | refine And.intro ?_ ?_ | exact clo_int | exact clo_str | exact clo_bool | exact clo_rdr | exact node_clo _ | exact nodeT_clo _ _ | exact strs_clo _ | exact ints_clo _ | exact nodes_clo _ | exact clo_vnil | exact bytes_clo _ | exact clo_lit _ rfl | assumption | exact item_clo _ | exact items_clo _ | exact store_clo _ _ | exact storeA_clo _)); done)); (focus (first | with_reducible exact can_none | ((first | with_reducible refine can_some ?_ | refine can_of ?_ | (simp only [ASt.put, ASt.pay, ASt.add, Option.map_map, Function.comp_def, Option.map_some]; first | refine can_some ?_ | refine can_of ?_)); (first | exact Nat.le_refl _ | (simp; done) | omega)))); (focus (refine ⟨_, rfl, ?_⟩; first | exact node_in _ | exact storeA_in _ | exact item_in _ | exact in_int | exact in_bool | exact in_str | (simp [NoId, in_tup, in_agg, in_int, in_bool, in_str, node_in, nodes_in, strs_in]; done))); rintro _ rfl; intro _) | (refine arunD_call (c := 0) rfl ?_ rfl ?_ (p3) rfl ?_ ?_ ?_ ?_; (focus (simp [awant]; done)); (focus (simp [ASt.put, ASt.pay, ASt.add, Option.map_map, Function.comp_def, List.set_cons_succ, List.set_cons_zero, aev, ofVal, ofVal0, big, size_mk, nodeA, nodeT, nodeTL_eq, nodeL_eq, itemA, itemL_eq, storeA, storeT, storeO, itemsRow, eqT_refl, eqs_self, strsE_len, pathsE_len, w1, w3]; done)); (focus (simp only [List.forall_mem_cons, List.not_mem_nil, false_implies, implies_true, and_true]; (repeat (first | exact trivial | refine And.intro ?_ ?_ | exact clo_int | exact clo_str | exact clo_bool | exact clo_rdr | exact node_clo _ | exact nodeT_clo _ _ | exact strs_clo _ | exact ints_clo _ | exact nodes_clo _ | exact clo_vnil | exact bytes_clo _ | exact clo_lit _ rfl | assumption | exact item_clo _ | exact items_clo _ | exact store_clo _ _ | exact storeA_clo _)); done)); (focus (first | with_reducible exact can_none | ((first | with_reducible refine can_some ?_ | refine can_of ?_ | (simp only [ASt.put, ASt.pay, ASt.add, Option.map_map, Function.comp_def, Option.map_some]; first | refine can_some ?_ | refine can_of ?_)); (first | exact Nat.le_refl _ | (simp; done) | omega)))); (focus (refine ⟨_, rfl, ?_⟩; first | exact node_in _ | exact storeA_in _ | exact item_in _ | exact in_int | exact in_bool | exact in_str | (simp [NoId, in_tup, in_agg, in_int, in_bool, in_str, node_in, nodes_in, strs_in]; done))); rintro _ rfl; intro _) | (refine arunD_call (c := 0) rfl ?_ rfl ?_ (p4) rfl ?_ ?_ ?_ ?_; (focus (simp [awant]; done)); (focus (simp [ASt.put, ASt.pay, ASt.add, Option.map_map, Function.comp_def, List.set_cons_succ, List.set_cons_zero, aev, ofVal, ofVal0, big, size_mk, nodeA, nodeT, nodeTL_eq, nodeL_eq, itemA, itemL_eq, storeA, storeT, storeO, itemsRow, eqT_refl, eqs_self, strsE_len, pathsE_len, w1, w3]; done)); (focus (simp only [List.forall_mem_cons, List.not_mem_nil, false_implies, implies_true, and_true]; (repeat (first | exact trivial | refine And.intro ?_ ?_ | exact clo_int | exact clo_str | exact clo_bool | exact clo_rdr | exact node_clo _ | exact nodeT_clo _ _ | exact strs_clo _ | exact ints_clo _ | exact nodes_clo _ | exact clo_vnil | exact bytes_clo _ | exact clo_lit _ rfl | assumption | exact item_clo _ | exact items_clo _ | exact store_clo _ _ | exact storeA_clo _)); done)); (focus (first | with_reducible exact can_none | ((first | with_reducible refine can_some ?_ | refine can_of ?_ | (simp only [ASt.put, ASt.pay, ASt.add, Option.map_map, Function.comp_def, Option.map_some]; first | refine can_some ?_ | refine can_of ?_)); (first | exact Nat.le_refl _ | (simp; done) | omega)))); (focus (refine ⟨_, rfl, ?_⟩; first | exact node_in _ | exact storeA_in _ | exact item_in _ | exact in_int | exact in_bool | exact in_str | (simp [NoId, in_tup, in_agg, in_int, in_bool, in_str, node_in, nodes_in, strs_in]; done))); rintro _ rfl; intro _) | (refine arun_nil ?_; (refine hK _ ?_; clear hK K; simp only [thenA_normal, inBlockA_normal, endQ_normal, endR_normal])) | (refine arunD_nil ?_; (refine hK _ ?_; clear hK K; simp only [thenA_normal, inBlockA_normal, endQ_normal, endR_normal])) | (refine AW.regionK [] (fun K hK => ?_)) | (refine AW.regionDK [] (pcs [] []) (by kernel_rfl) (by kernel_rfl) (fun K hK => ?_)) | (refine AW.condT ?_ ?_; (focus (simp [aev, eqT_refl, eqs_self, strsE_len, pathsE_len, w1, w3]; done))) | (refine AW.condF ?_ ?_; (focus (simp [aev, eqT_refl, eqs_self, strsE_len, pathsE_len, w1, w3]; done))) | (refine AW.skip ?_; simp only [thenA_normal, inBlockA_normal]) | with_reducible refine AW.block ?_ | (refine AW.exit ?_; simp only [thenA_exit, inBlockA_exit, if_true, if_false, Nat.reduceEqDiff, thenA_normal, inBlockA_normal, reduceIte]) | (refine AW.ret ?_; simp only [thenA_ret, inBlockA_ret, endQ_ret, endR_ret])))
      exact ⟨.bool true, by simp [ares, aresL], pur_bool, rfl⟩
  · have hl' : (1048576 : Int) < (zs.length : Int) := by omega
    (repeat (first | with_reducible refine AW.seq ?_ | (refine arun_kn 4 rfl (fun C hC => ?_); ((repeat ((conv => whnf); simp [bytesE_len, hl'])); refine hC _ ?_; clear hC C; simp only [List.drop_succ_cons, List.drop_zero, List.drop_nil, Nat.reduceAdd])) | (refine arun_kn 1 rfl (fun C hC => ?_); ((repeat ((conv => whnf); simp [bytesE_len, hl'])); refine hC _ ?_; clear hC C; simp only [List.drop_succ_cons, List.drop_zero, List.drop_nil, Nat.reduceAdd])) | (refine arun_skip ?_ ?_; (focus (simp [awant, bytesE_len, hl']; done))) | (refine arunD_kn 4 rfl (fun C hC => ?_); ((repeat ((conv => whnf); simp [bytesE_len, hl'])); refine hC _ ?_; clear hC C; simp only [List.drop_succ_cons, List.drop_zero, List.drop_nil, Nat.reduceAdd])) | (refine arunD_kn 1 rfl (fun C hC => ?_); ((repeat ((conv => whnf); simp [bytesE_len, hl'])); refine hC _ ?_; clear hC C; simp only [List.drop_succ_cons, List.drop_zero, List.drop_nil, Nat.reduceAdd])) | (refine arun_nil ?_; (refine hK _ ?_; clear hK K; simp only [thenA_normal, inBlockA_normal, endQ_normal, endR_normal])) | (refine arunD_nil ?_; (refine hK _ ?_; clear hK K; simp only [thenA_normal, inBlockA_normal, endQ_normal, endR_normal])) | (refine AW.regionK [] (fun K hK => ?_)) | (refine AW.regionDK [] (pcs [] []) (by kernel_rfl) (by kernel_rfl) (fun K hK => ?_)) | (refine AW.condT ?_ ?_; (focus (simp [aev, bytesE_len, hl']; done))) | (refine AW.condF ?_ ?_; (focus (simp [aev, bytesE_len, hl']; done))) | (refine AW.skip ?_; simp only [thenA_normal, inBlockA_normal]) | with_reducible refine AW.block ?_ | (refine AW.exit ?_; simp only [thenA_exit, inBlockA_exit, if_true, if_false, Nat.reduceEqDiff, thenA_normal, inBlockA_normal, reduceIte]) | (refine AW.ret ?_; simp only [thenA_ret, inBlockA_ret, endQ_ret, endR_ret])))
    exact ⟨.bool true, by simp [ares, aresL], pur_bool, rfl⟩
end Go.Proofs.Ytmeobmegnneegaa.Eng

/-
  Pages compared.
-/
-- EV: store
namespace Go.Proofs.Ytmeobmegnneegaa.Eng
open Go Go.RowKit
attribute [local simp] big size_mk ASt.pay Option.map_map Function.comp_def awant aop acall ado aev ofVal ofVal0 ASt.put ASt.add ASt.turn ASt.kill abox aalloc astore aload ASt.at cellsTo afieldAddr afield aindexAddr aindex alen abin aint acmp astr aun apick aextract anil aslice abound abuild afill abuildSlice asCells aps avCells over upd aappend asrc amax amin aconv mkSt slots rowsOf_cons rowsOf_nil usedOf_cons usedOf_nil ZK.av List.replicate nodeA nodeT nodeTL_eq nodeL_eq strsE_get strsE_len intsE_get intsE_len strsE_at intsE_at itemA itemL_eq storeA storeT storeO itemsRow tab2 tab3 tab4 tab5 tab6 tab7 tab8 tab9 tab10 tab11 tab12 tab13 tab14 tab15 tab16 tab17 tab18 tab19 tab21 tab22 tab23 tab24 tab25 tab26 tab27 tab28 tab31 tab32 tab33 tab37 tab38 tab39 tab46 tab53 tab61 tab62 tab69 tab70 tab98 tab116 tab117 tab125 tab126 tab128 tab136 tab145 tab146 tab151 tab152 tab153 tab155 tab156 tab157

theorem in_paths {U : Nat → Bool} {t : VC} {l : List (List ByteArray)} : AV.In U (.view t 1 (pathsE l)) := in_view.2 (pathsE_in l)
set_option linter.unusedSimpArgs false
set_option maxRecDepth 100000 in
set_option maxHeartbeats 16000000 in
theorem equalPaths_AC (t t' : VC) (ps : List (List ByteArray)) (hn : ps.length ≤ 1000000) (hb : ∀ p ∈ ps, p.length ≤ 1000000) : AC Try.prog 44 [.view t 1 (pathsE ps), .view t' 1 (pathsE ps)] 0 (fun r => r = .bool true) := by
  refine AC.of tab_ok mixed_ok Try.func44 (by rfl) (by kernel_rfl) ?_; rintro ⟨P, T, hT, hm, w0, S0, rd0, k0⟩ hP hTT; dsimp only at hP hTT; subst hP hTT; unfold initSt; rw [Try.ntmps44]
  (repeat (first | with_reducible refine AW.seq ?_ | (refine arun_kn 4 rfl (fun C hC => ?_); ((repeat ((conv => whnf); simp [pathsE_len])); refine hC _ ?_; clear hC C; simp only [List.drop_succ_cons, List.drop_zero, List.drop_nil, Nat.reduceAdd])) | (refine arun_kn 1 rfl (fun C hC => ?_); ((repeat ((conv => whnf); simp [pathsE_len])); refine hC _ ?_; clear hC C; simp only [List.drop_succ_cons, List.drop_zero, List.drop_nil, Nat.reduceAdd])) | (refine arun_skip ?_ ?_; (focus (simp [awant, pathsE_len]; done))) | (refine arunD_kn 4 rfl (fun C hC => ?_); ((repeat ((conv => whnf); simp [pathsE_len])); refine hC _ ?_; clear hC C; simp only [List.drop_succ_cons, List.drop_zero, List.drop_nil, Nat.reduceAdd])) | (refine arunD_kn 1 rfl (fun C hC => ?_); ((repeat ((conv => whnf); simp [pathsE_len])); refine hC _ ?_; clear hC C; simp only [List.drop_succ_cons, List.drop_zero, List.drop_nil, Nat.reduceAdd])) | (refine arun_nil ?_; (refine hK _ ?_; clear hK K; simp only [thenA_normal, inBlockA_normal, endQ_normal, endR_normal])) | (refine arunD_nil ?_; (refine hK _ ?_; clear hK K; simp only [thenA_normal, inBlockA_normal, endQ_normal, endR_normal])) | (refine AW.regionK [] (fun K hK => ?_)) | (refine AW.regionDK [] (pcs [] []) (by kernel_rfl) (by kernel_rfl) (fun K hK => ?_)) | (refine AW.condT ?_ ?_; (focus (simp [aev, pathsE_len]; done))) | (refine AW.condF ?_ ?_; (focus (simp [aev, pathsE_len]; done))) | (refine AW.skip ?_; simp only [thenA_normal, inBlockA_normal]) | with_reducible refine AW.block ?_ | (refine AW.exit ?_; simp only [thenA_exit, inBlockA_exit, if_true, if_false, Nat.reduceEqDiff, thenA_normal, inBlockA_normal, reduceIte]) | (refine AW.ret ?_; simp only [thenA_ret, inBlockA_ret, endQ_ret, endR_ret])))
  refine AW.loopS (fun (i : Nat) => mkSt (slots 0 27 [(0, .view t 1 (pathsE ps)), (1, .view t' 1 (pathsE ps)), (5, .int .i64 i)]) [] [] (rd0.map fun _ => 0)) (fun i => ps.length - i) (fun i => i ≤ ps.length) 0 ?_ (Nat.zero_le _) ?_
  · exact (less_of (by simp [lessL, mkSt, slots, in_paths, itemA, itemL_eq, storeA, storeT, storeO, itemsRow]) (by simp [upd, mkSt, rowsOf_cons, in_paths, itemA, itemL_eq, storeA, storeT, storeO, itemsRow]) (by simp [upd, mkSt, usedOf_cons, in_paths, itemA, itemL_eq, storeA, storeT, storeO, itemsRow]) (by first | exact rd_less (by omega) | simp [mkSt, in_paths, itemA, itemL_eq, storeA, storeT, storeO, itemsRow]) (by simp [slots, in_any, in_int, in_bool, in_str, in_ptr, in_own, in_agg, in_vnil, in_rdr, usedOf_cons, strs_in, ints_in, nodes_in, items_in, in_tup, in_paths, itemA, itemL_eq, storeA, storeT, storeO, itemsRow]) (by simp only [List.forall_mem_cons, List.not_mem_nil, false_implies, implies_true, and_true, true_and, in_paths, itemA, itemL_eq, storeA, storeT, storeO, itemsRow]; (repeat (first | with_reducible exact trivial | with_reducible refine And.intro ?_ ?_ | with_reducible exact in_int | with_reducible exact in_str | with_reducible exact in_bool | with_reducible exact strs_in _ | with_reducible exact nodes_in _ | with_reducible exact items_in _ | with_reducible exact in_vnil | with_reducible exact in_any | exact hin _ | with_reducible refine take_in ?_ | with_reducible exact strsE_in _ | with_reducible exact nodesE_in _ | with_reducible exact nodeL_in _ | with_reducible exact itemsE_in _ | with_reducible exact itemL_in _ | with_reducible refine app_in ?_ ?_ | with_reducible refine sing_in ?_ | (focus (simp [in_any, in_int, in_bool, in_str, in_ptr, in_own, in_agg, in_vnil, in_rdr, usedOf_cons, strs_in, ints_in, nodes_in, items_in, in_paths, itemA, itemL_eq, storeA, storeT, storeO, itemsRow]; done)))); done))
  · intro i hi
    by_cases hlt : i < ps.length
    · have hw : IntKind.i64.wrap ((i : Int) + 1) = (i : Int) + 1 := i64_nat (by omega) (by omega)
      have hp := equalTexts_AC .loose .loose ps[i] ps[i] (hb _ (List.getElem_mem hlt))
      rw [eqT_refl] at hp
      (repeat (first | with_reducible refine AW.seq ?_ | (refine arun_kn 4 rfl (fun C hC => ?_); ((repeat ((conv => whnf); simp [hlt, hw, pathsE_len, pathsE_get, pathsE_at, eqT_refl])); refine hC _ ?_; clear hC C; simp only [List.drop_succ_cons, List.drop_zero, List.drop_nil, Nat.reduceAdd])) | (refine arun_kn 1 rfl (fun C hC => ?_); ((repeat ((conv => whnf); simp [hlt, hw, pathsE_len, pathsE_get, pathsE_at, eqT_refl])); refine hC _ ?_; clear hC C; simp only [List.drop_succ_cons, List.drop_zero, List.drop_nil, Nat.reduceAdd])) | (refine arun_skip ?_ ?_; (focus (simp [awant, hlt, hw, pathsE_len, pathsE_get, pathsE_at, eqT_refl]; done))) | (refine arun_call0 ?_ rfl ?_ (hp) ?_ ?_; (focus (simp [awant]; done)); (focus (simp [ASt.put, ASt.pay, ASt.add, Option.map_map, Function.comp_def, List.set_cons_succ, List.set_cons_zero, aev, ofVal, ofVal0, big, size_mk, nodeA, nodeT, nodeTL_eq, nodeL_eq, itemA, itemL_eq, storeA, storeT, storeO, itemsRow, hlt, hw, pathsE_len, pathsE_get, pathsE_at, eqT_refl]; done)); (focus (simp only [cloL]; (repeat (first | exact trivial | refine And.intro ?_ ?_ | exact clo_int | exact clo_str | exact clo_bool | exact clo_rdr | exact node_clo _ | exact nodeT_clo _ _ | exact strs_clo _ | exact ints_clo _ | exact nodes_clo _ | exact clo_vnil | exact bytes_clo _ | exact clo_lit _ rfl | assumption | exact item_clo _ | exact items_clo _ | exact store_clo _ _ | exact storeA_clo _)); done)); rintro _ rfl) | (refine arunD_kn 4 rfl (fun C hC => ?_); ((repeat ((conv => whnf); simp [hlt, hw, pathsE_len, pathsE_get, pathsE_at, eqT_refl])); refine hC _ ?_; clear hC C; simp only [List.drop_succ_cons, List.drop_zero, List.drop_nil, Nat.reduceAdd])) | (refine arunD_kn 1 rfl (fun C hC => ?_); ((repeat ((conv => whnf); simp [hlt, hw, pathsE_len, pathsE_get, pathsE_at, eqT_refl])); refine hC _ ?_; clear hC C; simp only [List.drop_succ_cons, List.drop_zero, List.drop_nil, Nat.reduceAdd])) | (refine arunD_call (c := 0) rfl ?_ rfl ?_ (hp) rfl ?_ ?_ ?_ ?_; (focus (simp [awant]; done)); (focus (simp [ASt.put, ASt.pay, ASt.add, Option.map_map, Function.comp_def, List.set_cons_succ, List.set_cons_zero, aev, ofVal, ofVal0, big, size_mk, nodeA, nodeT, nodeTL_eq, nodeL_eq, itemA, itemL_eq, storeA, storeT, storeO, itemsRow, hlt, hw, pathsE_len, pathsE_get, pathsE_at, eqT_refl]; done)); (focus (simp only [List.forall_mem_cons, List.not_mem_nil, false_implies, implies_true, and_true]; (repeat (first | exact trivial | refine And.intro ?_ ?_ | exact clo_int | exact clo_str | exact clo_bool | exact clo_rdr | exact node_clo _ | exact nodeT_clo _ _ | exact strs_clo _ | exact ints_clo _ | exact nodes_clo _ | exact clo_vnil | exact bytes_clo _ | exact clo_lit _ rfl | assumption | exact item_clo _ | exact items_clo _ | exact store_clo _ _ | exact storeA_clo _)); done)); (focus (first | with_reducible exact can_none | ((first | with_reducible refine can_some ?_ | refine can_of ?_ | (simp only [ASt.put, ASt.pay, ASt.add, Option.map_map, Function.comp_def, Option.map_some]; first | refine can_some ?_ | refine can_of ?_)); (first | exact Nat.le_refl _ | (simp; done) | omega)))); (focus (refine ⟨_, rfl, ?_⟩; first | exact node_in _ | exact storeA_in _ | exact item_in _ | exact in_int | exact in_bool | exact in_str | (simp [NoId, in_tup, in_agg, in_int, in_bool, in_str, node_in, nodes_in, strs_in]; done))); rintro _ rfl; intro _) | (refine arun_nil ?_; (refine hK _ ?_; clear hK K; simp only [thenA_normal, inBlockA_normal, endQ_normal, endR_normal])) | (refine arunD_nil ?_; (refine hK _ ?_; clear hK K; simp only [thenA_normal, inBlockA_normal, endQ_normal, endR_normal])) | (refine AW.regionK [] (fun K hK => ?_)) | (refine AW.regionDK [] (pcs [(8, 0, fun r => r = .bool true)] []) (by kernel_rfl) (by kernel_rfl) (fun K hK => ?_)) | (refine AW.condT ?_ ?_; (focus (simp [aev, hlt, hw, pathsE_len, pathsE_get, pathsE_at, eqT_refl]; done))) | (refine AW.condF ?_ ?_; (focus (simp [aev, hlt, hw, pathsE_len, pathsE_get, pathsE_at, eqT_refl]; done))) | (refine AW.skip ?_; simp only [thenA_normal, inBlockA_normal]) | with_reducible refine AW.block ?_ | (refine AW.exit ?_; simp only [thenA_exit, inBlockA_exit, if_true, if_false, Nat.reduceEqDiff, thenA_normal, inBlockA_normal, reduceIte]) | (refine AW.ret ?_; simp only [thenA_ret, inBlockA_ret, endQ_ret, endR_ret])))
      exact ⟨i + 1, by omega, by omega, (less_of (by simp [lessL, mkSt, slots, in_paths, itemA, itemL_eq, storeA, storeT, storeO, itemsRow]) (by simp [upd, mkSt, rowsOf_cons, in_paths, itemA, itemL_eq, storeA, storeT, storeO, itemsRow]) (by simp [upd, mkSt, usedOf_cons, in_paths, itemA, itemL_eq, storeA, storeT, storeO, itemsRow]) (by first | exact rd_less (by omega) | simp [mkSt, in_paths, itemA, itemL_eq, storeA, storeT, storeO, itemsRow]) (by simp [slots, in_any, in_int, in_bool, in_str, in_ptr, in_own, in_agg, in_vnil, in_rdr, usedOf_cons, strs_in, ints_in, nodes_in, items_in, in_tup, in_paths, itemA, itemL_eq, storeA, storeT, storeO, itemsRow]) (by simp only [List.forall_mem_cons, List.not_mem_nil, false_implies, implies_true, and_true, true_and, in_paths, itemA, itemL_eq, storeA, storeT, storeO, itemsRow]; (repeat (first | with_reducible exact trivial | with_reducible refine And.intro ?_ ?_ | with_reducible exact in_int | with_reducible exact in_str | with_reducible exact in_bool | with_reducible exact strs_in _ | with_reducible exact nodes_in _ | with_reducible exact items_in _ | with_reducible exact in_vnil | with_reducible exact in_any | exact hin _ | with_reducible refine take_in ?_ | with_reducible exact strsE_in _ | with_reducible exact nodesE_in _ | with_reducible exact nodeL_in _ | with_reducible exact itemsE_in _ | with_reducible exact itemL_in _ | with_reducible refine app_in ?_ ?_ | with_reducible refine sing_in ?_ | (focus (simp [in_any, in_int, in_bool, in_str, in_ptr, in_own, in_agg, in_vnil, in_rdr, usedOf_cons, strs_in, ints_in, nodes_in, items_in, in_paths, itemA, itemL_eq, storeA, storeT, storeO, itemsRow]; done)))); done))⟩
    · (repeat (first | with_reducible refine AW.seq ?_ | (refine arun_kn 4 rfl (fun C hC => ?_); ((repeat ((conv => whnf); simp [hlt, pathsE_len])); refine hC _ ?_; clear hC C; simp only [List.drop_succ_cons, List.drop_zero, List.drop_nil, Nat.reduceAdd])) | (refine arun_kn 1 rfl (fun C hC => ?_); ((repeat ((conv => whnf); simp [hlt, pathsE_len])); refine hC _ ?_; clear hC C; simp only [List.drop_succ_cons, List.drop_zero, List.drop_nil, Nat.reduceAdd])) | (refine arun_skip ?_ ?_; (focus (simp [awant, hlt, pathsE_len]; done))) | (refine arunD_kn 4 rfl (fun C hC => ?_); ((repeat ((conv => whnf); simp [hlt, pathsE_len])); refine hC _ ?_; clear hC C; simp only [List.drop_succ_cons, List.drop_zero, List.drop_nil, Nat.reduceAdd])) | (refine arunD_kn 1 rfl (fun C hC => ?_); ((repeat ((conv => whnf); simp [hlt, pathsE_len])); refine hC _ ?_; clear hC C; simp only [List.drop_succ_cons, List.drop_zero, List.drop_nil, Nat.reduceAdd])) | (refine arun_nil ?_; (refine hK _ ?_; clear hK K; simp only [thenA_normal, inBlockA_normal, endQ_normal, endR_normal])) | (refine arunD_nil ?_; (refine hK _ ?_; clear hK K; simp only [thenA_normal, inBlockA_normal, endQ_normal, endR_normal])) | (refine AW.regionK [] (fun K hK => ?_)) | (refine AW.regionDK [] (pcs [] []) (by kernel_rfl) (by kernel_rfl) (fun K hK => ?_)) | (refine AW.condT ?_ ?_; (focus (simp [aev, hlt, pathsE_len]; done))) | (refine AW.condF ?_ ?_; (focus (simp [aev, hlt, pathsE_len]; done))) | (refine AW.skip ?_; simp only [thenA_normal, inBlockA_normal]) | with_reducible refine AW.block ?_ | (refine AW.exit ?_; simp only [thenA_exit, inBlockA_exit, if_true, if_false, Nat.reduceEqDiff, thenA_normal, inBlockA_normal, reduceIte]) | (refine AW.ret ?_; simp only [thenA_ret, inBlockA_ret, endQ_ret, endR_ret])))
      exact ⟨.bool true, by simp [ares, aresL], pur_bool, rfl⟩
end Go.Proofs.Ytmeobmegnneegaa.Eng
