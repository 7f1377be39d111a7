/-
  Texts of this claim, joined.
-/
import Derived.ProofKit
import Derived.Deep.Slices
import Derived.Deep.Fields
import Derived.Lib.Bytealg
import Derived.Test.YtgfnmhfdmmnaoaaNoF

set_option linter.unusedSimpArgs false
set_option linter.unusedVariables false
set_option linter.unnecessarySimpa false
set_option maxRecDepth 100000
set_option maxHeartbeats 16000000
-- EV: fresh
namespace Go.Proofs.Ytgfnmhfdmmnaoaa.Eng
open Go Go.RowKit
attribute [local simp] big size_mk ASt.pay Option.map_map Function.comp_def awant aop acall ado aev ofVal ofVal0 ASt.put ASt.add ASt.turn ASt.kill abox aalloc astore aload aloadD astoreD idOf ASt.at cellsTo afieldAddr afield aindexAddr aindex alen abin aint acmp astr aun apick aextract anil aslice abound abuild afill abuildSlice asCells aps avCells over upd aappend asrc amax amin aconv mkSt slots rowsOf_cons rowsOf_nil usedOf_cons usedOf_nil ZK.av List.replicate ASt.back ASt.addL ASt.killL nodeA nodeT nodeTL_eq nodeL_eq strsE_get strsE_len intsE_get intsE_len strsE_at intsE_at tab2 tab3 tab4 tab5 tab6 tab7 tab8 tab9 tab10 tab11 tab12 tab13 tab14 tab15 tab16 tab17 tab18 tab19 tab21 tab22 tab23 tab24 tab25 tab26 tab27 tab28 tab29 tab30 tab39 tab40 tab41 tab42 tab43 tab47 tab48 tab55 tab56 tab57 tab60 tab61 tab62 tab73 tab74 tab75 tab85 tab92 tab115 tab116 tab143 tab144 tab145 tab154 tab155 tab170 tab175 tab182 tab197 tab198 tab203 tab204 tab205 tab207 tab208 tab209
set_option maxRecDepth 100000
set_option maxHeartbeats 16000000
def oprF (o : Opr) (gp gf : Nat) (l : Lb) : AV := .agg [.int .i64 o.1, .view (.fr gp) 1 (strsE o.2.1), .view (.fr gf) 1 (strsE o.2.2.1), .int .i64 l.kind, .int .i64 l.num, .str l.text, .view (.fr l.nb) 1 (strsE l.names), .view (.fr l.kb) 5 (l.kids.map labL)]
def oprFp (o : Opr) (gp gf : Nat) (l : Lb) : List Nat := frB (.fr gp) o.2.1.isEmpty ++ (frB (.fr gf) o.2.2.1.isEmpty ++ l.fp)
def rOp (o : Opr) (b : Bool) (r : AV) : Prop := ∃ (gp gf : Nat) (l : Lb), l.nd = o.2.2.2 ∧ (oprFp o gp gf l).Nodup ∧ r = .tup [oprF o gp gf l, .bool b]
theorem strsE_emp (xs : List ByteArray) : (strsE xs).isEmpty = xs.isEmpty := by unfold strsE; cases xs <;> rfl
theorem at_oprF (o : Opr) (gp gf : Nat) (l : Lb) : atB (oprF o gp gf l) = oprFp o gp gf l := by
  unfold oprF oprFp
  rw [fp_eq]
  have e2 : (l.kids.map labL).isEmpty = l.kids.isEmpty := by cases l.kids <;> rfl
  simp only [at_agg, atL_cons, atL_nil, at_int, at_str, at_view, at_strsE, strsE_emp, e2, List.append_nil, List.nil_append]
  rw [show atE (l.kids.map labL) = l.kids.flatMap Lb.fp from atE_labs l.kids]
theorem oprF_pur (o : Opr) (gp gf : Nat) (l : Lb) : Pur (oprF o gp gf l) := by
  refine pur_agg ?_
  have h := labL_pur l
  rw [labL_eq] at h
  simp only [List.forall_mem_cons, List.not_mem_nil, false_implies, implies_true, and_true] at h ⊢
  exact ⟨pur_int, pur_view (by simp) (strsE_pur _), pur_view (by simp) (strsE_pur _), h⟩
theorem zeroF_wk : Wk (.tup [zeroOA, .bool false]) (.tup [oprF zeroO 0 0 ⟨0, 0, ⟨#[]⟩, [], 0, [], 0⟩, .bool false]) := by
  unfold zeroOA oprF zeroO
  exact Wk.tup (.cons (Wk.agg (.cons (Wk.refl _) (.cons (Wk.nil (fun h => by cases h)) (.cons (Wk.nil (fun h => by cases h)) (.cons (Wk.refl _) (.cons (Wk.refl _) (.cons (Wk.refl _) (.cons (Wk.nil (fun h => by cases h)) (.cons (Wk.nil (fun h => by cases h)) .nil))))))))) (.cons (Wk.refl _) .nil))
theorem zero_rOp : rOp zeroO false (.tup [oprF zeroO 0 0 ⟨0, 0, ⟨#[]⟩, [], 0, [], 0⟩, .bool false]) := by
  refine ⟨0, 0, _, ?_, ?_, rfl⟩
  · simp [zeroO, Lb.nd, Lb.nds, Nd.zero]
  · simp [oprFp, zeroO, frB_fr, fp_eq]
def rStX (n : Nd) (b : Bool) (r : AV) : Prop := ∃ (g : Nat) (p : List ByteArray), (lstB n = true → p = txtsN n) ∧ r = .tup [.view (.fr g) 1 (strsE p), .bool b]
theorem rStB_X {n : Nd} {b : Bool} (h : (lstB n && pathB (txtsN n)) = b) {r : AV} (hr : rStB n r) : rStX n b r := by
  obtain ⟨g, p, h1, h2⟩ := hr
  exact ⟨g, p, h1, by rw [h2, h]⟩
theorem n2oI_eq (n : Nd) : n2oB n = n2oI n := (n2o_same n).symm
theorem NodeToOp_ACF (n : Nd) : ACF Try.prog 38 [nodeA n] 0 (rOp (n2oN n) (n2oB n)) := by
  refine ACF.weak ?_
  have p1 := ValidNode_AC n .loose
  rw [nodeT_loose] at p1
  have hcl := node_clo n
  cases hv : validB n
  · have hb : n2oB n = false := by unfold n2oB; rw [hv]; rfl
    rw [hv] at p1
    unfold nodeA at *
    rw [nodeL_eq n] at *
    refine ACF.of tab_ok mixed_ok Try.func38 (by rfl) (by kernel_rfl) ?_; rintro ⟨P, T, hT, hm, w0, S0, rd0, k0⟩ hP hTT hN; dsimp only at hP hTT hN; subst hP hTT; dsimp only; unfold initSt; rw [Try.ntmps38]
    (repeat (first | with_reducible refine AW.seq ?_ | ((first | refine arun_kn 4 rfl (fun C hC => ?_) | refine arunD_kn 4 rfl (fun C hC => ?_)); (repeat ((conv => whnf); simp)); refine hC _ ?_; clear hC C; simp only [List.drop, Nat.reduceAdd]) | ((first | refine arun_kn 1 rfl (fun C hC => ?_) | refine arunD_kn 1 rfl (fun C hC => ?_)); (repeat ((conv => whnf); simp)); refine hC _ ?_; clear hC C; simp only [List.drop, Nat.reduceAdd]) | (refine arun_skip ?_ ?_; (focus (simp [awant]; done))) | (refine arun_c0 (p1) ?_; rintro _ rfl) | (refine AW.regionK [] (fun K hK => ?_)) | (refine AW.regionDK [] (pcs [] []) (by kernel_rfl) (by kernel_rfl) (fun K hK => ?_)) | (refine AW.condT ?_ ?_; (focus (simp [aev]; done))) | (refine AW.condF ?_ ?_; (focus (simp [aev]; done))) | with_reducible refine AW.block ?_ | ((first | ((first | refine arun_nil ?_ | refine arunD_nil ?_); refine hK _ ?_; clear hK K) | refine AW.skip ?_ | refine AW.exit ?_ | refine AW.ret ?_); simp only [thenA_exit, inBlockA_exit, if_true, if_false, Nat.reduceEqDiff, thenA_normal, inBlockA_normal, reduceIte, thenA_ret, inBlockA_ret, endQ_ret, endR_ret, endG_ret, endQ_normal, endR_normal, endG_normal, endF_ret, endF_normal])))
    exact ⟨.tup [zeroOA, .bool false], by simp [ares, aresL, upd, rowsOf_cons, zeroOA], tup2_pur zeroOA_pur pur_bool, fun b hb => by simp [zeroOA, at_tup, at_agg, atL_cons, atL_nil, at_int, at_str, at_view, atE_nil, frB_tight, at_bool] at hb, .tup [oprF zeroO 0 0 ⟨0, 0, ⟨#[]⟩, [], 0, [], 0⟩, .bool false], zeroF_wk, fun b hb => by simp [zeroO, oprF, strsE, at_tup, at_agg, atL_cons, atL_nil, at_int, at_str, at_view, atE_nil, frB_fr, at_bool] at hb, by rw [hb, n2o_no hb]; exact zero_rOp⟩
  rw [hv] at p1
  by_cases h4 : n.kind = 4
  rotate_left
  · have hb : n2oB n = false := by unfold n2oB; simp [h4]
    have e4 : (n.kind != 4) = true := by simpa using h4
    unfold nodeA at *
    rw [nodeL_eq n] at *
    refine ACF.of tab_ok mixed_ok Try.func38 (by rfl) (by kernel_rfl) ?_; rintro ⟨P, T, hT, hm, w0, S0, rd0, k0⟩ hP hTT hN; dsimp only at hP hTT hN; subst hP hTT; dsimp only; unfold initSt; rw [Try.ntmps38]
    (repeat (first | with_reducible refine AW.seq ?_ | ((first | refine arun_kn 4 rfl (fun C hC => ?_) | refine arunD_kn 4 rfl (fun C hC => ?_)); (repeat ((conv => whnf); simp [e4])); refine hC _ ?_; clear hC C; simp only [List.drop, Nat.reduceAdd]) | ((first | refine arun_kn 1 rfl (fun C hC => ?_) | refine arunD_kn 1 rfl (fun C hC => ?_)); (repeat ((conv => whnf); simp [e4])); refine hC _ ?_; clear hC C; simp only [List.drop, Nat.reduceAdd]) | (refine arun_skip ?_ ?_; (focus (simp [awant, e4]; done))) | (refine arun_c0 (p1) ?_; rintro _ rfl) | (refine AW.regionK [] (fun K hK => ?_)) | (refine AW.regionDK [] (pcs [] []) (by kernel_rfl) (by kernel_rfl) (fun K hK => ?_)) | (refine AW.condT ?_ ?_; (focus (simp [aev, e4]; done))) | (refine AW.condF ?_ ?_; (focus (simp [aev, e4]; done))) | with_reducible refine AW.block ?_ | ((first | ((first | refine arun_nil ?_ | refine arunD_nil ?_); refine hK _ ?_; clear hK K) | refine AW.skip ?_ | refine AW.exit ?_ | refine AW.ret ?_); simp only [thenA_exit, inBlockA_exit, if_true, if_false, Nat.reduceEqDiff, thenA_normal, inBlockA_normal, reduceIte, thenA_ret, inBlockA_ret, endQ_ret, endR_ret, endG_ret, endQ_normal, endR_normal, endG_normal, endF_ret, endF_normal])))
    exact ⟨.tup [zeroOA, .bool false], by simp [ares, aresL, upd, rowsOf_cons, zeroOA], tup2_pur zeroOA_pur pur_bool, fun b hb => by simp [zeroOA, at_tup, at_agg, atL_cons, atL_nil, at_int, at_str, at_view, atE_nil, frB_tight, at_bool] at hb, .tup [oprF zeroO 0 0 ⟨0, 0, ⟨#[]⟩, [], 0, [], 0⟩, .bool false], zeroF_wk, fun b hb => by simp [zeroO, oprF, strsE, at_tup, at_agg, atL_cons, atL_nil, at_int, at_str, at_view, atE_nil, frB_fr, at_bool] at hb, by rw [hb, n2o_no hb]; exact zero_rOp⟩
  have e4 : (n.kind != 4) = false := by simp [h4]
  have hg : Good n := Good.ofV hv
  have hnl : n.names.length ≤ 1000 := by have := hg.kids6; have := (hg.map h4).2; omega
  have pq := equalS_AC .loose .tight n.names opNms hnl
  have eq0 : strsE opNms = [[.str ⟨#[102, 114, 111, 109]⟩], [.str ⟨#[111, 112]⟩], [.str ⟨#[112, 97, 116, 104]⟩], [.str ⟨#[118, 97, 108, 117, 101]⟩]] := rfl
  rw [eq0] at pq
  by_cases hnm : n.names = opNms
  rotate_left
  · have hb : n2oB n = false := by rw [n2oI_eq]; unfold n2oI; simp [hnm]
    rw [decide_eq_false hnm] at pq
    unfold nodeA at *
    rw [nodeL_eq n] at *
    refine ACF.of tab_ok mixed_ok Try.func38 (by rfl) (by kernel_rfl) ?_; rintro ⟨P, T, hT, hm, w0, S0, rd0, k0⟩ hP hTT hN; dsimp only at hP hTT hN; subst hP hTT; dsimp only; unfold initSt; rw [Try.ntmps38]
    (repeat (first | with_reducible refine AW.seq ?_ | ((first | refine arun_kn 4 rfl (fun C hC => ?_) | refine arunD_kn 4 rfl (fun C hC => ?_)); (repeat ((conv => whnf); simp [e4])); refine hC _ ?_; clear hC C; simp only [List.drop, Nat.reduceAdd]) | ((first | refine arun_kn 1 rfl (fun C hC => ?_) | refine arunD_kn 1 rfl (fun C hC => ?_)); (repeat ((conv => whnf); simp [e4])); refine hC _ ?_; clear hC C; simp only [List.drop, Nat.reduceAdd]) | (refine arun_skip ?_ ?_; (focus (simp [awant, e4]; done))) | (refine arun_c0 (p1) ?_; rintro _ rfl) | (refine arun_c0 (pq) ?_; rintro _ rfl) | (refine AW.regionK [] (fun K hK => ?_)) | (refine AW.regionDK [] (pcs [] []) (by kernel_rfl) (by kernel_rfl) (fun K hK => ?_)) | (refine AW.condT ?_ ?_; (focus (simp [aev, e4]; done))) | (refine AW.condF ?_ ?_; (focus (simp [aev, e4]; done))) | with_reducible refine AW.block ?_ | ((first | ((first | refine arun_nil ?_ | refine arunD_nil ?_); refine hK _ ?_; clear hK K) | refine AW.skip ?_ | refine AW.exit ?_ | refine AW.ret ?_); simp only [thenA_exit, inBlockA_exit, if_true, if_false, Nat.reduceEqDiff, thenA_normal, inBlockA_normal, reduceIte, thenA_ret, inBlockA_ret, endQ_ret, endR_ret, endG_ret, endQ_normal, endR_normal, endG_normal, endF_ret, endF_normal])))
    exact ⟨.tup [zeroOA, .bool false], by simp [ares, aresL, upd, rowsOf_cons, zeroOA], tup2_pur zeroOA_pur pur_bool, fun b hb => by simp [zeroOA, at_tup, at_agg, atL_cons, atL_nil, at_int, at_str, at_view, atE_nil, frB_tight, at_bool] at hb, .tup [oprF zeroO 0 0 ⟨0, 0, ⟨#[]⟩, [], 0, [], 0⟩, .bool false], zeroF_wk, fun b hb => by simp [zeroO, oprF, strsE, at_tup, at_agg, atL_cons, atL_nil, at_int, at_str, at_view, atE_nil, frB_fr, at_bool] at hb, by rw [hb, n2o_no hb]; exact zero_rOp⟩
  rw [decide_eq_true hnm] at pq
  have hl : n.kids.length = 4 := by rw [(hg.map h4).2, hnm]; rfl
  obtain ⟨a, b, c, d, hk⟩ : ∃ a b c d, n.kids = [a, b, c, d] := ⟨_, _, _, _, four hl⟩
  have ga := hg.kid (show a ∈ n.kids by rw [hk]; simp)
  have gc := hg.kid (show c ∈ n.kids by rw [hk]; simp)
  have gd : validB d = true := validB_kid hv (by rw [hk]; simp)
  have hI : n2oB n = (lstB a && pathB (txtsN a) && decide (b.kind = 2) && decide (1 ≤ kdN b.text) && lstB c && pathB (txtsN c)) := by
    rw [n2oI_eq]; unfold n2oI; rw [hv, h4, hnm, hk]; rfl
  have hpo : partO n = (((kdN b.text : Nat) : Int), txtsN c, txtsN a, d) := by unfold partO; rw [hk]; rfl
  have sd : Sml d := by
    obtain ⟨e, he⟩ := Good.ofV gd
    exact shape_sml d e he
  have pa := nodeToPath_ACF a ga
  have pc := nodeToPath_ACF c gc
  have pd := implCopyF_ACF d sd
  have pn := numberOf_AC b.text
  have hcf : Clo (.fn 74 []) := clo_fn (fun c hc => by cases hc)
  have ca := node_clo a
  have cc := node_clo c
  have cd := node_clo d
  have en : nodeL n = [.int .i64 4, .int .i64 n.num, .str n.text, .view .loose 1 (strsE n.names), .view .loose 5 [[.int .i64 a.kind, .int .i64 a.num, .str a.text, .view .loose 1 (strsE a.names), .view .loose 5 (a.kids.map nodeL)], [.int .i64 b.kind, .int .i64 b.num, .str b.text, .view .loose 1 (strsE b.names), .view .loose 5 (b.kids.map nodeL)], [.int .i64 c.kind, .int .i64 c.num, .str c.text, .view .loose 1 (strsE c.names), .view .loose 5 (c.kids.map nodeL)], [.int .i64 d.kind, .int .i64 d.num, .str d.text, .view .loose 1 (strsE d.names), .view .loose 5 (d.kids.map nodeL)]]] := by
    rw [nodeL_eq, hk, h4, ← nodeL_eq a, ← nodeL_eq b, ← nodeL_eq c, ← nodeL_eq d]; rfl
  unfold nodeA at p1 pa pc pd ca cc cd hcl ⊢
  rw [nodeL_eq] at pa pc pd ca cc cd
  rw [en] at p1 hcl ⊢
  cases hA1 : (lstB a && pathB (txtsN a))
  · have hb : n2oB n = false := by rw [hI, hA1]; rfl
    replace pa := pa.mono (fun r h => rStB_X hA1 h)
    refine ACF.of tab_ok mixed_ok Try.func38 (by rfl) (by kernel_rfl) ?_; rintro ⟨P, T, hT, hm, w0, S0, rd0, k0⟩ hP hTT hN; dsimp only at hP hTT hN; subst hP hTT; dsimp only; unfold initSt; rw [Try.ntmps38]
    (repeat (first | with_reducible refine AW.seq ?_ | ((first | refine arun_kn 4 rfl (fun C hC => ?_) | refine arunD_kn 4 rfl (fun C hC => ?_)); (repeat ((conv => whnf); simp)); refine hC _ ?_; clear hC C; simp only [List.drop, Nat.reduceAdd]) | ((first | refine arun_kn 1 rfl (fun C hC => ?_) | refine arunD_kn 1 rfl (fun C hC => ?_)); (repeat ((conv => whnf); simp)); refine hC _ ?_; clear hC C; simp only [List.drop, Nat.reduceAdd]) | (refine arun_skip ?_ ?_; (focus (simp [awant]; done))) | (refine arun_c0 (p1) ?_; rintro _ rfl) | (refine arun_c0 (pq) ?_; rintro _ rfl) | (refine arun_cF (0) (pa) ?_; (rintro _ ⟨gf, pf, hpf, rfl⟩ hA)) | (refine arunD_cF (0) (pa) (by refine ⟨_, rfl, ?_⟩; first | exact node_in _ | exact storeA_in _ | exact item_in _ | exact in_int | exact in_bool | exact in_str | (simp [NoId, in_tup, in_agg, in_int, in_bool, in_str, node_in, nodes_in, strs_in]; done)) ?_; (rintro _ ⟨gf, pf, hpf, rfl⟩ hA); intro _) | (refine AW.regionK [] (fun K hK => ?_)) | (refine AW.regionDK [] (pcs [] []) (by kernel_rfl) (by kernel_rfl) (fun K hK => ?_)) | (refine AW.condT ?_ ?_; (focus (simp [aev]; done))) | (refine AW.condF ?_ ?_; (focus (simp [aev]; done))) | with_reducible refine AW.block ?_ | ((first | ((first | refine arun_nil ?_ | refine arunD_nil ?_); refine hK _ ?_; clear hK K) | refine AW.skip ?_ | refine AW.exit ?_ | refine AW.ret ?_); simp only [thenA_exit, inBlockA_exit, if_true, if_false, Nat.reduceEqDiff, thenA_normal, inBlockA_normal, reduceIte, thenA_ret, inBlockA_ret, endQ_ret, endR_ret, endG_ret, endQ_normal, endR_normal, endG_normal, endF_ret, endF_normal])))
    exact ⟨.tup [zeroOA, .bool false], by simp [ares, aresL, upd, rowsOf_cons, zeroOA], tup2_pur zeroOA_pur pur_bool, fun b hb => by simp [zeroOA, at_tup, at_agg, atL_cons, atL_nil, at_int, at_str, at_view, atE_nil, frB_tight, at_bool] at hb, .tup [oprF zeroO 0 0 ⟨0, 0, ⟨#[]⟩, [], 0, [], 0⟩, .bool false], zeroF_wk, fun b hb => by simp [zeroO, oprF, strsE, at_tup, at_agg, atL_cons, atL_nil, at_int, at_str, at_view, atE_nil, frB_fr, at_bool] at hb, by rw [hb, n2o_no hb]; exact zero_rOp⟩
  replace pa := pa.mono (fun r h => rStB_X hA1 h)
  by_cases hb2 : b.kind = 2
  rotate_left
  · have hb : n2oB n = false := by rw [hI]; simp [hb2]
    have e2 : (b.kind != 2) = true := by simpa using hb2
    refine ACF.of tab_ok mixed_ok Try.func38 (by rfl) (by kernel_rfl) ?_; rintro ⟨P, T, hT, hm, w0, S0, rd0, k0⟩ hP hTT hN; dsimp only at hP hTT hN; subst hP hTT; dsimp only; unfold initSt; rw [Try.ntmps38]
    (repeat (first | with_reducible refine AW.seq ?_ | ((first | refine arun_kn 4 rfl (fun C hC => ?_) | refine arunD_kn 4 rfl (fun C hC => ?_)); (repeat ((conv => whnf); simp [e2])); refine hC _ ?_; clear hC C; simp only [List.drop, Nat.reduceAdd]) | ((first | refine arun_kn 1 rfl (fun C hC => ?_) | refine arunD_kn 1 rfl (fun C hC => ?_)); (repeat ((conv => whnf); simp [e2])); refine hC _ ?_; clear hC C; simp only [List.drop, Nat.reduceAdd]) | (refine arun_skip ?_ ?_; (focus (simp [awant, e2]; done))) | (refine arun_c0 (p1) ?_; rintro _ rfl) | (refine arun_c0 (pq) ?_; rintro _ rfl) | (refine arun_cF (0) (pa) ?_; (rintro _ ⟨gf, pf, hpf, rfl⟩ hA)) | (refine arunD_cF (0) (pa) (by refine ⟨_, rfl, ?_⟩; first | exact node_in _ | exact storeA_in _ | exact item_in _ | exact in_int | exact in_bool | exact in_str | (simp [NoId, in_tup, in_agg, in_int, in_bool, in_str, node_in, nodes_in, strs_in]; done)) ?_; (rintro _ ⟨gf, pf, hpf, rfl⟩ hA); intro _) | (refine AW.regionK [] (fun K hK => ?_)) | (refine AW.regionDK [] (pcs [] []) (by kernel_rfl) (by kernel_rfl) (fun K hK => ?_)) | (refine AW.condT ?_ ?_; (focus (simp [aev, e2]; done))) | (refine AW.condF ?_ ?_; (focus (simp [aev, e2]; done))) | with_reducible refine AW.block ?_ | ((first | ((first | refine arun_nil ?_ | refine arunD_nil ?_); refine hK _ ?_; clear hK K) | refine AW.skip ?_ | refine AW.exit ?_ | refine AW.ret ?_); simp only [thenA_exit, inBlockA_exit, if_true, if_false, Nat.reduceEqDiff, thenA_normal, inBlockA_normal, reduceIte, thenA_ret, inBlockA_ret, endQ_ret, endR_ret, endG_ret, endQ_normal, endR_normal, endG_normal, endF_ret, endF_normal])))
    exact ⟨.tup [zeroOA, .bool false], by simp [ares, aresL, upd, rowsOf_cons, zeroOA], tup2_pur zeroOA_pur pur_bool, fun b hb => by simp [zeroOA, at_tup, at_agg, atL_cons, atL_nil, at_int, at_str, at_view, atE_nil, frB_tight, at_bool] at hb, .tup [oprF zeroO 0 0 ⟨0, 0, ⟨#[]⟩, [], 0, [], 0⟩, .bool false], zeroF_wk, fun b hb => by simp [zeroO, oprF, strsE, at_tup, at_agg, atL_cons, atL_nil, at_int, at_str, at_view, atE_nil, frB_fr, at_bool] at hb, by rw [hb, n2o_no hb]; exact zero_rOp⟩
  have e2 : (b.kind != 2) = false := by simp [hb2]
  by_cases hkd : 1 ≤ kdN b.text
  rotate_left
  · have hb : n2oB n = false := by rw [hI]; simp [hkd]
    rw [decide_eq_false hkd] at pn
    refine ACF.of tab_ok mixed_ok Try.func38 (by rfl) (by kernel_rfl) ?_; rintro ⟨P, T, hT, hm, w0, S0, rd0, k0⟩ hP hTT hN; dsimp only at hP hTT hN; subst hP hTT; dsimp only; unfold initSt; rw [Try.ntmps38]
    (repeat (first | with_reducible refine AW.seq ?_ | ((first | refine arun_kn 4 rfl (fun C hC => ?_) | refine arunD_kn 4 rfl (fun C hC => ?_)); (repeat ((conv => whnf); simp [e2])); refine hC _ ?_; clear hC C; simp only [List.drop, Nat.reduceAdd]) | ((first | refine arun_kn 1 rfl (fun C hC => ?_) | refine arunD_kn 1 rfl (fun C hC => ?_)); (repeat ((conv => whnf); simp [e2])); refine hC _ ?_; clear hC C; simp only [List.drop, Nat.reduceAdd]) | (refine arun_skip ?_ ?_; (focus (simp [awant, e2]; done))) | (refine arun_c0 (p1) ?_; rintro _ rfl) | (refine arun_c0 (pq) ?_; rintro _ rfl) | (refine arun_cF (0) (pa) ?_; (rintro _ ⟨gf, pf, hpf, rfl⟩ hA)) | (refine arun_c0 (pn) ?_; rintro _ rfl) | (refine arunD_cF (0) (pa) (by refine ⟨_, rfl, ?_⟩; first | exact node_in _ | exact storeA_in _ | exact item_in _ | exact in_int | exact in_bool | exact in_str | (simp [NoId, in_tup, in_agg, in_int, in_bool, in_str, node_in, nodes_in, strs_in]; done)) ?_; (rintro _ ⟨gf, pf, hpf, rfl⟩ hA); intro _) | (refine AW.regionK [] (fun K hK => ?_)) | (refine AW.regionDK [] (pcs [] []) (by kernel_rfl) (by kernel_rfl) (fun K hK => ?_)) | (refine AW.condT ?_ ?_; (focus (simp [aev, e2]; done))) | (refine AW.condF ?_ ?_; (focus (simp [aev, e2]; done))) | with_reducible refine AW.block ?_ | ((first | ((first | refine arun_nil ?_ | refine arunD_nil ?_); refine hK _ ?_; clear hK K) | refine AW.skip ?_ | refine AW.exit ?_ | refine AW.ret ?_); simp only [thenA_exit, inBlockA_exit, if_true, if_false, Nat.reduceEqDiff, thenA_normal, inBlockA_normal, reduceIte, thenA_ret, inBlockA_ret, endQ_ret, endR_ret, endG_ret, endQ_normal, endR_normal, endG_normal, endF_ret, endF_normal])))
    exact ⟨.tup [zeroOA, .bool false], by simp [ares, aresL, upd, rowsOf_cons, zeroOA], tup2_pur zeroOA_pur pur_bool, fun b hb => by simp [zeroOA, at_tup, at_agg, atL_cons, atL_nil, at_int, at_str, at_view, atE_nil, frB_tight, at_bool] at hb, .tup [oprF zeroO 0 0 ⟨0, 0, ⟨#[]⟩, [], 0, [], 0⟩, .bool false], zeroF_wk, fun b hb => by simp [zeroO, oprF, strsE, at_tup, at_agg, atL_cons, atL_nil, at_int, at_str, at_view, atE_nil, frB_fr, at_bool] at hb, by rw [hb, n2o_no hb]; exact zero_rOp⟩
  rw [decide_eq_true hkd] at pn
  generalize kdN b.text = kk at *
  cases hC1 : (lstB c && pathB (txtsN c))
  · have hb : n2oB n = false := by
      rw [hI, hA1, hb2, decide_eq_true hkd]
      simpa using hC1
    replace pc := pc.mono (fun r h => rStB_X hC1 h)
    refine ACF.of tab_ok mixed_ok Try.func38 (by rfl) (by kernel_rfl) ?_; rintro ⟨P, T, hT, hm, w0, S0, rd0, k0⟩ hP hTT hN; dsimp only at hP hTT hN; subst hP hTT; dsimp only; unfold initSt; rw [Try.ntmps38]
    (repeat (first | with_reducible refine AW.seq ?_ | ((first | refine arun_kn 4 rfl (fun C hC => ?_) | refine arunD_kn 4 rfl (fun C hC => ?_)); (repeat ((conv => whnf); simp [e2])); refine hC _ ?_; clear hC C; simp only [List.drop, Nat.reduceAdd]) | ((first | refine arun_kn 1 rfl (fun C hC => ?_) | refine arunD_kn 1 rfl (fun C hC => ?_)); (repeat ((conv => whnf); simp [e2])); refine hC _ ?_; clear hC C; simp only [List.drop, Nat.reduceAdd]) | (refine arun_skip ?_ ?_; (focus (simp [awant, e2]; done))) | (refine arun_c0 (p1) ?_; rintro _ rfl) | (refine arun_c0 (pq) ?_; rintro _ rfl) | (refine arun_cF (0) (pa) ?_; (rintro _ ⟨gf, pf, hpf, rfl⟩ hA)) | (refine arun_c0 (pn) ?_; rintro _ rfl) | (refine arun_cF (0) (pc) ?_; (rintro _ ⟨gp, pp, hpp, rfl⟩ hA2)) | (refine arunD_cF (0) (pa) (by refine ⟨_, rfl, ?_⟩; first | exact node_in _ | exact storeA_in _ | exact item_in _ | exact in_int | exact in_bool | exact in_str | (simp [NoId, in_tup, in_agg, in_int, in_bool, in_str, node_in, nodes_in, strs_in]; done)) ?_; (rintro _ ⟨gf, pf, hpf, rfl⟩ hA); intro _) | (refine arunD_cF (0) (pc) (by refine ⟨_, rfl, ?_⟩; first | exact node_in _ | exact storeA_in _ | exact item_in _ | exact in_int | exact in_bool | exact in_str | (simp [NoId, in_tup, in_agg, in_int, in_bool, in_str, node_in, nodes_in, strs_in]; done)) ?_; (rintro _ ⟨gp, pp, hpp, rfl⟩ hA2); intro _) | (refine AW.regionK [] (fun K hK => ?_)) | (refine AW.regionDK [] (pcs [] []) (by kernel_rfl) (by kernel_rfl) (fun K hK => ?_)) | (refine AW.condT ?_ ?_; (focus (simp [aev, e2]; done))) | (refine AW.condF ?_ ?_; (focus (simp [aev, e2]; done))) | with_reducible refine AW.block ?_ | ((first | ((first | refine arun_nil ?_ | refine arunD_nil ?_); refine hK _ ?_; clear hK K) | refine AW.skip ?_ | refine AW.exit ?_ | refine AW.ret ?_); simp only [thenA_exit, inBlockA_exit, if_true, if_false, Nat.reduceEqDiff, thenA_normal, inBlockA_normal, reduceIte, thenA_ret, inBlockA_ret, endQ_ret, endR_ret, endG_ret, endQ_normal, endR_normal, endG_normal, endF_ret, endF_normal])))
    exact ⟨.tup [zeroOA, .bool false], by simp [ares, aresL, upd, rowsOf_cons, zeroOA], tup2_pur zeroOA_pur pur_bool, fun b hb => by simp [zeroOA, at_tup, at_agg, atL_cons, atL_nil, at_int, at_str, at_view, atE_nil, frB_tight, at_bool] at hb, .tup [oprF zeroO 0 0 ⟨0, 0, ⟨#[]⟩, [], 0, [], 0⟩, .bool false], zeroF_wk, fun b hb => by simp [zeroO, oprF, strsE, at_tup, at_agg, atL_cons, atL_nil, at_int, at_str, at_view, atE_nil, frB_fr, at_bool] at hb, by rw [hb, n2o_no hb]; exact zero_rOp⟩
  have hb : n2oB n = true := by
    rw [hI, hA1, hb2, decide_eq_true hkd]
    simpa using hC1
  replace pc := pc.mono (fun r h => rStB_X hC1 h)
  have la : lstB a = true := by
    rw [Bool.and_eq_true] at hA1; exact hA1.1
  have lc : lstB c = true := by
    rw [Bool.and_eq_true] at hC1; exact hC1.1
  refine ACF.of tab_ok mixed_ok Try.func38 (by rfl) (by kernel_rfl) ?_; rintro ⟨P, T, hT, hm, w0, S0, rd0, k0⟩ hP hTT hN; dsimp only at hP hTT hN; subst hP hTT; dsimp only; unfold initSt; rw [Try.ntmps38]
  (repeat (first | with_reducible refine AW.seq ?_ | ((first | refine arun_kn 4 rfl (fun C hC => ?_) | refine arunD_kn 4 rfl (fun C hC => ?_)); (repeat ((conv => whnf); simp)); refine hC _ ?_; clear hC C; simp only [List.drop, Nat.reduceAdd]) | ((first | refine arun_kn 1 rfl (fun C hC => ?_) | refine arunD_kn 1 rfl (fun C hC => ?_)); (repeat ((conv => whnf); simp)); refine hC _ ?_; clear hC C; simp only [List.drop, Nat.reduceAdd]) | (refine arun_skip ?_ ?_; (focus (simp [awant]; done))) | (refine AW.condT ?_ ?_; (focus (simp [aev]; done))) | (refine AW.condF ?_ ?_; (focus (simp [aev]; done))) | with_reducible refine AW.block ?_ | ((first | ((first | refine arun_nil ?_ | refine arunD_nil ?_); refine hK _ ?_; clear hK K) | refine AW.skip ?_ | refine AW.exit ?_ | refine AW.ret ?_); simp only [thenA_exit, inBlockA_exit, if_true, if_false, Nat.reduceEqDiff, thenA_normal, inBlockA_normal, reduceIte, thenA_ret, inBlockA_ret, endQ_ret, endR_ret, endG_ret, endQ_normal, endR_normal, endG_normal, endF_ret, endF_normal])))
  refine AW.regionK [] (fun K hK => ?_)
  (repeat (first | with_reducible refine AW.seq ?_ | ((first | refine arun_kn 4 rfl (fun C hC => ?_) | refine arunD_kn 4 rfl (fun C hC => ?_)); (repeat ((conv => whnf); simp)); refine hC _ ?_; clear hC C; simp only [List.drop, Nat.reduceAdd]) | ((first | refine arun_kn 1 rfl (fun C hC => ?_) | refine arunD_kn 1 rfl (fun C hC => ?_)); (repeat ((conv => whnf); simp)); refine hC _ ?_; clear hC C; simp only [List.drop, Nat.reduceAdd]) | (refine arun_skip ?_ ?_; (focus (simp [awant]; done))) | (refine AW.condT ?_ ?_; (focus (simp [aev]; done))) | (refine AW.condF ?_ ?_; (focus (simp [aev]; done))) | with_reducible refine AW.block ?_ | ((first | ((first | refine arun_nil ?_ | refine arunD_nil ?_); refine hK _ ?_; clear hK K) | refine AW.skip ?_ | refine AW.exit ?_ | refine AW.ret ?_); simp only [thenA_exit, inBlockA_exit, if_true, if_false, Nat.reduceEqDiff, thenA_normal, inBlockA_normal, reduceIte, thenA_ret, inBlockA_ret, endQ_ret, endR_ret, endG_ret, endQ_normal, endR_normal, endG_normal, endF_ret, endF_normal])))
  refine AW.regionK [] (fun K hK => ?_)
  (repeat (first | with_reducible refine AW.seq ?_ | ((first | refine arun_kn 4 rfl (fun C hC => ?_) | refine arunD_kn 4 rfl (fun C hC => ?_)); (repeat ((conv => whnf); simp)); refine hC _ ?_; clear hC C; simp only [List.drop, Nat.reduceAdd]) | ((first | refine arun_kn 1 rfl (fun C hC => ?_) | refine arunD_kn 1 rfl (fun C hC => ?_)); (repeat ((conv => whnf); simp)); refine hC _ ?_; clear hC C; simp only [List.drop, Nat.reduceAdd]) | (refine arun_skip ?_ ?_; (focus (simp [awant]; done))) | (refine arun_c0 (p1) ?_; rintro _ rfl) | (refine arun_c0 (pq) ?_; rintro _ rfl) | (refine AW.condT ?_ ?_; (focus (simp [aev]; done))) | (refine AW.condF ?_ ?_; (focus (simp [aev]; done))) | with_reducible refine AW.block ?_ | ((first | ((first | refine arun_nil ?_ | refine arunD_nil ?_); refine hK _ ?_; clear hK K) | refine AW.skip ?_ | refine AW.exit ?_ | refine AW.ret ?_); simp only [thenA_exit, inBlockA_exit, if_true, if_false, Nat.reduceEqDiff, thenA_normal, inBlockA_normal, reduceIte, thenA_ret, inBlockA_ret, endQ_ret, endR_ret, endG_ret, endQ_normal, endR_normal, endG_normal, endF_ret, endF_normal])))
  refine AW.regionK [] (fun K hK => ?_)
  (repeat (first | with_reducible refine AW.seq ?_ | ((first | refine arun_kn 4 rfl (fun C hC => ?_) | refine arunD_kn 4 rfl (fun C hC => ?_)); (repeat ((conv => whnf); simp)); refine hC _ ?_; clear hC C; simp only [List.drop, Nat.reduceAdd]) | ((first | refine arun_kn 1 rfl (fun C hC => ?_) | refine arunD_kn 1 rfl (fun C hC => ?_)); (repeat ((conv => whnf); simp)); refine hC _ ?_; clear hC C; simp only [List.drop, Nat.reduceAdd]) | (refine arun_skip ?_ ?_; (focus (simp [awant]; done))) | (refine arun_cF (0) (pa) ?_; (rintro _ ⟨gf, pf, hpf, rfl⟩ hA)) | (refine arunD_cF (0) (pa) (by refine ⟨_, rfl, ?_⟩; first | exact node_in _ | exact storeA_in _ | exact item_in _ | exact in_int | exact in_bool | exact in_str | (simp [NoId, in_tup, in_agg, in_int, in_bool, in_str, node_in, nodes_in, strs_in]; done)) ?_; (rintro _ ⟨gf, pf, hpf, rfl⟩ hA); intro _) | (refine AW.condT ?_ ?_; (focus (simp [aev]; done))) | (refine AW.condF ?_ ?_; (focus (simp [aev]; done))) | with_reducible refine AW.block ?_ | ((first | ((first | refine arun_nil ?_ | refine arunD_nil ?_); refine hK _ ?_; clear hK K) | refine AW.skip ?_ | refine AW.exit ?_ | refine AW.ret ?_); simp only [thenA_exit, inBlockA_exit, if_true, if_false, Nat.reduceEqDiff, thenA_normal, inBlockA_normal, reduceIte, thenA_ret, inBlockA_ret, endQ_ret, endR_ret, endG_ret, endQ_normal, endR_normal, endG_normal, endF_ret, endF_normal])))
  obtain rfl := hpf la
  refine AW.regionK [] (fun K hK => ?_)
  (repeat (first | with_reducible refine AW.seq ?_ | ((first | refine arun_kn 4 rfl (fun C hC => ?_) | refine arunD_kn 4 rfl (fun C hC => ?_)); (repeat ((conv => whnf); simp [e2])); refine hC _ ?_; clear hC C; simp only [List.drop, Nat.reduceAdd]) | ((first | refine arun_kn 1 rfl (fun C hC => ?_) | refine arunD_kn 1 rfl (fun C hC => ?_)); (repeat ((conv => whnf); simp [e2])); refine hC _ ?_; clear hC C; simp only [List.drop, Nat.reduceAdd]) | (refine arun_skip ?_ ?_; (focus (simp [awant, e2]; done))) | (refine AW.condT ?_ ?_; (focus (simp [aev, e2]; done))) | (refine AW.condF ?_ ?_; (focus (simp [aev, e2]; done))) | with_reducible refine AW.block ?_ | ((first | ((first | refine arun_nil ?_ | refine arunD_nil ?_); refine hK _ ?_; clear hK K) | refine AW.skip ?_ | refine AW.exit ?_ | refine AW.ret ?_); simp only [thenA_exit, inBlockA_exit, if_true, if_false, Nat.reduceEqDiff, thenA_normal, inBlockA_normal, reduceIte, thenA_ret, inBlockA_ret, endQ_ret, endR_ret, endG_ret, endQ_normal, endR_normal, endG_normal, endF_ret, endF_normal])))
  refine AW.regionK [] (fun K hK => ?_)
  (repeat (first | with_reducible refine AW.seq ?_ | ((first | refine arun_kn 4 rfl (fun C hC => ?_) | refine arunD_kn 4 rfl (fun C hC => ?_)); (repeat ((conv => whnf); simp [e2])); refine hC _ ?_; clear hC C; simp only [List.drop, Nat.reduceAdd]) | ((first | refine arun_kn 1 rfl (fun C hC => ?_) | refine arunD_kn 1 rfl (fun C hC => ?_)); (repeat ((conv => whnf); simp [e2])); refine hC _ ?_; clear hC C; simp only [List.drop, Nat.reduceAdd]) | (refine arun_skip ?_ ?_; (focus (simp [awant, e2]; done))) | (refine arun_c0 (pn) ?_; rintro _ rfl) | (refine AW.condT ?_ ?_; (focus (simp [aev, e2]; done))) | (refine AW.condF ?_ ?_; (focus (simp [aev, e2]; done))) | with_reducible refine AW.block ?_ | ((first | ((first | refine arun_nil ?_ | refine arunD_nil ?_); refine hK _ ?_; clear hK K) | refine AW.skip ?_ | refine AW.exit ?_ | refine AW.ret ?_); simp only [thenA_exit, inBlockA_exit, if_true, if_false, Nat.reduceEqDiff, thenA_normal, inBlockA_normal, reduceIte, thenA_ret, inBlockA_ret, endQ_ret, endR_ret, endG_ret, endQ_normal, endR_normal, endG_normal, endF_ret, endF_normal])))
  refine AW.regionK [] (fun K hK => ?_)
  (repeat (first | with_reducible refine AW.seq ?_ | ((first | refine arun_kn 4 rfl (fun C hC => ?_) | refine arunD_kn 4 rfl (fun C hC => ?_)); (repeat ((conv => whnf); simp)); refine hC _ ?_; clear hC C; simp only [List.drop, Nat.reduceAdd]) | ((first | refine arun_kn 1 rfl (fun C hC => ?_) | refine arunD_kn 1 rfl (fun C hC => ?_)); (repeat ((conv => whnf); simp)); refine hC _ ?_; clear hC C; simp only [List.drop, Nat.reduceAdd]) | (refine arun_skip ?_ ?_; (focus (simp [awant]; done))) | (refine AW.condT ?_ ?_; (focus (simp [aev]; done))) | (refine AW.condF ?_ ?_; (focus (simp [aev]; done))) | with_reducible refine AW.block ?_ | ((first | ((first | refine arun_nil ?_ | refine arunD_nil ?_); refine hK _ ?_; clear hK K) | refine AW.skip ?_ | refine AW.exit ?_ | refine AW.ret ?_); simp only [thenA_exit, inBlockA_exit, if_true, if_false, Nat.reduceEqDiff, thenA_normal, inBlockA_normal, reduceIte, thenA_ret, inBlockA_ret, endQ_ret, endR_ret, endG_ret, endQ_normal, endR_normal, endG_normal, endF_ret, endF_normal])))
  refine AW.noteT 4 rfl ?_
  refine AW.regionK [] (fun K hK => ?_)
  (repeat (first | with_reducible refine AW.seq ?_ | ((first | refine arun_kn 4 rfl (fun C hC => ?_) | refine arunD_kn 4 rfl (fun C hC => ?_)); (repeat ((conv => whnf); simp)); refine hC _ ?_; clear hC C; simp only [List.drop, Nat.reduceAdd]) | ((first | refine arun_kn 1 rfl (fun C hC => ?_) | refine arunD_kn 1 rfl (fun C hC => ?_)); (repeat ((conv => whnf); simp)); refine hC _ ?_; clear hC C; simp only [List.drop, Nat.reduceAdd]) | (refine arun_skip ?_ ?_; (focus (simp [awant]; done))) | (refine arun_cF (0) (pc) ?_; (rintro _ ⟨gp, pp, hpp, rfl⟩ hA2)) | (refine arunD_cF (0) (pc) (by refine ⟨_, rfl, ?_⟩; first | exact node_in _ | exact storeA_in _ | exact item_in _ | exact in_int | exact in_bool | exact in_str | (simp [NoId, in_tup, in_agg, in_int, in_bool, in_str, node_in, nodes_in, strs_in]; done)) ?_; (rintro _ ⟨gp, pp, hpp, rfl⟩ hA2); intro _) | (refine AW.condT ?_ ?_; (focus (simp [aev]; done))) | (refine AW.condF ?_ ?_; (focus (simp [aev]; done))) | with_reducible refine AW.block ?_ | ((first | ((first | refine arun_nil ?_ | refine arunD_nil ?_); refine hK _ ?_; clear hK K) | refine AW.skip ?_ | refine AW.exit ?_ | refine AW.ret ?_); simp only [thenA_exit, inBlockA_exit, if_true, if_false, Nat.reduceEqDiff, thenA_normal, inBlockA_normal, reduceIte, thenA_ret, inBlockA_ret, endQ_ret, endR_ret, endG_ret, endQ_normal, endR_normal, endG_normal, endF_ret, endF_normal])))
  obtain rfl := hpp lc
  refine AW.regionK [] (fun K hK => ?_)
  (repeat (first | with_reducible refine AW.seq ?_ | ((first | refine arun_kn 4 rfl (fun C hC => ?_) | refine arunD_kn 4 rfl (fun C hC => ?_)); (repeat ((conv => whnf); simp)); refine hC _ ?_; clear hC C; simp only [List.drop, Nat.reduceAdd]) | ((first | refine arun_kn 1 rfl (fun C hC => ?_) | refine arunD_kn 1 rfl (fun C hC => ?_)); (repeat ((conv => whnf); simp)); refine hC _ ?_; clear hC C; simp only [List.drop, Nat.reduceAdd]) | (refine arun_skip ?_ ?_; (focus (simp [awant]; done))) | (refine AW.condT ?_ ?_; (focus (simp [aev]; done))) | (refine AW.condF ?_ ?_; (focus (simp [aev]; done))) | with_reducible refine AW.block ?_ | ((first | ((first | refine arun_nil ?_ | refine arunD_nil ?_); refine hK _ ?_; clear hK K) | refine AW.skip ?_ | refine AW.exit ?_ | refine AW.ret ?_); simp only [thenA_exit, inBlockA_exit, if_true, if_false, Nat.reduceEqDiff, thenA_normal, inBlockA_normal, reduceIte, thenA_ret, inBlockA_ret, endQ_ret, endR_ret, endG_ret, endQ_normal, endR_normal, endG_normal, endF_ret, endF_normal])))
  refine AW.noteT 4 rfl ?_
  refine AW.noteT 7 rfl ?_
  (repeat (first | with_reducible refine AW.seq ?_ | ((first | refine arun_kn 4 rfl (fun C hC => ?_) | refine arunD_kn 4 rfl (fun C hC => ?_)); (repeat ((conv => whnf); simp)); refine hC _ ?_; clear hC C; simp only [List.drop, Nat.reduceAdd]) | ((first | refine arun_kn 1 rfl (fun C hC => ?_) | refine arunD_kn 1 rfl (fun C hC => ?_)); (repeat ((conv => whnf); simp)); refine hC _ ?_; clear hC C; simp only [List.drop, Nat.reduceAdd]) | (refine arun_skip ?_ ?_; (focus (simp [awant]; done))) | (refine arun_cF (0) (pd) ?_; (rintro _ ⟨l, hl1, hl2, rfl⟩ hA3)) | (refine arunD_cF (0) (pd) (by refine ⟨_, rfl, ?_⟩; first | exact node_in _ | exact storeA_in _ | exact item_in _ | exact in_int | exact in_bool | exact in_str | (simp [NoId, in_tup, in_agg, in_int, in_bool, in_str, node_in, nodes_in, strs_in]; done)) ?_; (rintro _ ⟨l, hl1, hl2, rfl⟩ hA3); intro _) | (refine AW.regionK [] (fun K hK => ?_)) | (refine AW.regionDK [] (pcs [] []) (by kernel_rfl) (by kernel_rfl) (fun K hK => ?_)) | (refine AW.condT ?_ ?_; (focus (simp [aev]; done))) | (refine AW.condF ?_ ?_; (focus (simp [aev]; done))) | with_reducible refine AW.block ?_ | ((first | ((first | refine arun_nil ?_ | refine arunD_nil ?_); refine hK _ ?_; clear hK K) | refine AW.skip ?_ | refine AW.exit ?_ | refine AW.ret ?_); simp only [thenA_exit, inBlockA_exit, if_true, if_false, Nat.reduceEqDiff, thenA_normal, inBlockA_normal, reduceIte, thenA_ret, inBlockA_ret, endQ_ret, endR_ret, endG_ret, endQ_normal, endR_normal, endG_normal, endF_ret, endF_normal])))
  have el : labA l = .agg [.int .i64 l.kind, .int .i64 l.num, .str l.text, .view (.fr l.nb) 1 (strsE l.names), .view (.fr l.kb) 5 (l.kids.map labL)] := by unfold labA; rw [labL_eq]
  rw [← el, at_lab] at hA3
  have af : atB (.view (.fr gf) 1 (strsE (txtsN a))) = frB (.fr gf) (txtsN a).isEmpty := by rw [at_view, at_strsE, strsE_emp, List.append_nil]
  have ap : atB (.view (.fr gp) 1 (strsE (txtsN c))) = frB (.fr gp) (txtsN c).isEmpty := by rw [at_view, at_strsE, strsE_emp, List.append_nil]
  have A1 : ∀ b ∈ frB (.fr gf) (txtsN a).isEmpty, ¬ w0.A b := fun b hb => hA b (by rw [at_tup, atL_cons, af]; exact List.mem_append_left _ hb)
  have A2 : ∀ b ∈ frB (.fr gp) (txtsN c).isEmpty, ¬ w0.A b ∧ b ∉ frB (.fr gf) (txtsN a).isEmpty := fun b hb => by
    have := hA2 b (by rw [at_tup, atL_cons, ap]; exact List.mem_append_left _ hb)
    exact ⟨fun h => this (.inl h), fun h => this (.inr (by rw [af]; exact h))⟩
  have A3 : ∀ b ∈ l.fp, ¬ w0.A b ∧ b ∉ frB (.fr gf) (txtsN a).isEmpty ∧ b ∉ frB (.fr gp) (txtsN c).isEmpty := fun b hb => by
    have := hA3 b hb
    exact ⟨fun h => this (.inl (.inl h)), fun h => this (.inl (.inr (by rw [af]; exact h))), fun h => this (.inr (by rw [ap]; exact h))⟩
  have eo : n2oN n = ((kk : Int), txtsN c, txtsN a, d) := by rw [n2o_yes hb, hpo]
  have nd1 : ∀ (g : Nat) (e : Bool), (frB (.fr g) e).Nodup := fun g e => by rw [frB_fr]; split <;> simp
  refine ⟨.tup [oprF (n2oN n) gp gf l, .bool true], ?_, tup2_pur (oprF_pur _ _ _ _) pur_bool, fun b hb => ?_, _, Wk.refl _, fun _ h => h, gp, gf, l, by rw [eo]; exact hl1, ?_, by rw [hb]⟩
  · rw [eo]; simp [ares, aresL, upd, rowsOf_cons, oprF]
  · rw [at_tup, atL_cons, atL_cons, atL_nil, at_bool, at_oprF, eo] at hb
    simp only [List.append_nil, oprFp] at hb
    rcases List.mem_append.1 hb with h | h
    · exact hN.ge (A2 b h).1
    · rcases List.mem_append.1 h with h | h
      · exact hN.ge (A1 b h)
      · exact hN.ge (A3 b h).1
  · rw [eo]
    unfold oprFp
    refine List.nodup_append.2 ⟨nd1 _ _, List.nodup_append.2 ⟨nd1 _ _, hl2, fun x hx y hy e => (A3 y hy).2.1 (e ▸ hx)⟩, fun x hx y hy e => ?_⟩
    rcases List.mem_append.1 hy with h | h
    · exact (A2 x hx).2 (e ▸ h)
    · exact (A3 y h).2.2 (e ▸ hx)
end Go.Proofs.Ytgfnmhfdmmnaoaa.Eng
namespace Go.Proofs.Ytgfnmhfdmmnaoaa
open Go.RowKit
end Go.Proofs.Ytgfnmhfdmmnaoaa
namespace Go.Proofs.Ytgfnmhfdmmnaoaa
open Go.RowKit
def oprV (x : Opr) (a1 : Option Addr) (c1 : Nat) (a2 : Option Addr) (c2 : Nat) (na : Option Addr) (nc : Nat) (ka : Option Addr) (kc : Nat) : Value := .agg #[.int .i64 x.1, .slice a1 x.2.1.length c1, .slice a2 x.2.2.1.length c2, .int .i64 x.2.2.2.kind, .int .i64 x.2.2.2.num, .string x.2.2.2.text, .slice na x.2.2.2.names.length nc, .slice ka x.2.2.2.kids.length kc]
theorem opr_open {w : World} {S : Nat → Prop} {x : Opr} {v : Value} (h : RV oprRep packA w S x v) : ∃ a1 c1 a2 c2 na nc ka kc, v = oprV x a1 c1 a2 c2 na nc ka kc ∧ StrsR w S a1 c1 x.2.1 ∧ StrsR w S a2 c2 x.2.2.1 ∧ NodeC w S x.2.2.2 na nc ka kc := by
  obtain ⟨cs, rfl, h⟩ := h
  obtain ⟨a1, c1, a2, c2, na, nc, ka, kc, rfl, h1, h2, h3⟩ := oprRep_open h
  exact ⟨a1, c1, a2, c2, na, nc, ka, kc, rfl, h1, h2, h3⟩
theorem openV_opr {w : World} {S : Nat → Prop} {x : Opr} {v : Value} (h : RV oprRep packA w S x v) : ∃ a1 c1 a2 c2 na nc ka kc, v = oprV x a1 c1 a2 c2 na nc ka kc := by
  obtain ⟨a1, c1, a2, c2, na, nc, ka, kc, h, _⟩ := opr_open h; exact ⟨a1, c1, a2, c2, na, nc, ka, kc, h⟩
theorem opr_openF {w : World} {x : Opr} {v : Value} {fp : List Nat} (h : FV oprRep packA w x v fp) : ∃ a1 c1 a2 c2 na nc ka kc f1 f2 f3, v = oprV x a1 c1 a2 c2 na nc ka kc ∧ fp = f1 ++ (f2 ++ f3) ∧ StrsF w a1 c1 x.2.1 f1 ∧ StrsF w a2 c2 x.2.2.1 f2 ∧ NodeF w x.2.2.2 na nc ka kc f3 := by
  obtain ⟨cs, rfl, _, _, f0, g0, rfl, rfl, ⟨rfl, rfl⟩, _, _, f1, g1, rfl, rfl, ⟨a1, c1, rfl, h1⟩, _, _, f2, g2, rfl, rfl, ⟨a2, c2, rfl, h2⟩, na, nc, ka, kc, rfl, h3⟩ := h
  exact ⟨a1, c1, a2, c2, na, nc, ka, kc, f1, f2, g2, rfl, rfl, h1, h2, h3⟩
theorem opr_shutF {w : World} {x : Opr} {a1 : Option Addr} {c1 : Nat} {a2 : Option Addr} {c2 : Nat} {na : Option Addr} {nc : Nat} {ka : Option Addr} {kc : Nat} {f1 f2 f3 : List Nat} (h1 : StrsF w a1 c1 x.2.1 f1) (h2 : StrsF w a2 c2 x.2.2.1 f2) (h3 : NodeF w x.2.2.2 na nc ka kc f3) : FV oprRep packA w x (oprV x a1 c1 a2 c2 na nc ka kc) (f1 ++ (f2 ++ f3)) :=
  ⟨_, rfl, [_], _, [], _, rfl, rfl, ⟨rfl, rfl⟩, [_], _, f1, _, rfl, rfl, ⟨a1, c1, rfl, h1⟩, [_], _, f2, f3, rfl, rfl, ⟨a2, c2, rfl, h2⟩, na, nc, ka, kc, rfl, h3⟩
theorem opr_shut {w : World} {S : Nat → Prop} {x : Opr} {a1 : Option Addr} {c1 : Nat} {a2 : Option Addr} {c2 : Nat} {na : Option Addr} {nc : Nat} {ka : Option Addr} {kc : Nat} (h1 : StrsR w S a1 c1 x.2.1) (h2 : StrsR w S a2 c2 x.2.2.1) (h3 : NodeC w S x.2.2.2 na nc ka kc) : RV oprRep packA w S x (oprV x a1 c1 a2 c2 na nc ka kc) :=
  ⟨_, rfl, [_], _, rfl, rfl, [_], _, rfl, ⟨a1, c1, rfl, h1⟩, [_], _, rfl, ⟨a2, c2, rfl, h2⟩, na, nc, ka, kc, rfl, h3⟩
theorem uEqOpr (x : Opr) (v u : Value) (w : World) (h : RV oprRep packA w any x v) (h' : RV oprRep packA w any x u) :
    Calls Try.prog 24 #[v, u] w fun e w' => e = .returned (.bool true) ∧ Grow w w' := by
  obtain ⟨cs, rfl, h⟩ := h
  obtain ⟨ds, rfl, h'⟩ := h'
  exact eqOpr_same x cs ds w h h'
def cntOpr (x : Opr) : Nat := x.2.1.length + x.2.2.1.length + cntT x.2.2.2
def mkOpr (k : Nat) (x : Opr) : Opr := (x.1, mkSS k x.2.1, mkSS (k + x.2.1.length) x.2.2.1, mkT (k + x.2.1.length + x.2.2.1.length) x.2.2.2)
theorem uMarkOpr (x : Opr) (v : Value) (fp : List Nat) (B k : Nat) (i : Int) (w : World) (hi : i = (k : Int)) (hF : FV oprRep packA w x v fp) (hfr : Free B w fp) (h1 : 0 < k) (h2 : k + cntOpr x ≤ 1000000000) :
    Calls Try.prog 25 #[v, .int .i64 i] w fun e w' => e = .returned (.int .i64 ((k + cntOpr x : Nat) : Int)) ∧ Ext (inl fp) w w' ∧ Free B w' fp ∧ FV oprRep packA w' (mkOpr k x) v fp := by
  subst hi
  obtain ⟨a1, c1, a2, c2, na, nc, ka, kc, f1, f2, f3, rfl, rfl, hs1, hs2, hn⟩ := opr_openF hF
  have hct : cntOpr x = x.2.1.length + x.2.2.1.length + cntT x.2.2.2 := rfl
  have hnd := List.nodup_append.1 hfr.1
  have hnd2 := List.nodup_append.1 hnd.2.1
  have Hf1 := Lib.hid (show Free B w f1 from ⟨hnd.1, fun y hy => hfr.2 y (by simp [hy])⟩)
  have Hf2 := Lib.hid (show Free B w f2 from ⟨hnd2.1, fun y hy => hfr.2 y (by simp [hy])⟩)
  have Hf3 := Lib.hid (show Free B w f3 from ⟨hnd2.2.1, fun y hy => hfr.2 y (by simp [hy])⟩)
  have Hd12 := Lib.hid (show ∀ y, y ∈ f1 → y ∈ f2 → False from fun y h1 h2 => hnd.2.2 y h1 y (by simp [h2]) rfl)
  have Hd13 := Lib.hid (show ∀ y, y ∈ f1 → y ∈ f3 → False from fun y h1 h2 => hnd.2.2 y h1 y (by simp [h2]) rfl)
  have Hd23 := Lib.hid (show ∀ y, y ∈ f2 → y ∈ f3 → False from fun y h1 h2 => hnd2.2.2 y h1 y h2 rfl)
  have Hct := Lib.hid hct
  have Hs1 := Lib.hid hs1
  have Hs2 := Lib.hid hs2
  have Hn := Lib.hid hn
  have Hlt := Lib.hid (show ∀ y ∈ f1 ++ (f2 ++ f3), y < w.heap.size from fun y hy => (hfr.2 y hy).2.1)
  clear hct hs1 hs2 hn hnd hnd2 hF hfr
  unfold oprV
  go_enter Try.func25, Try.ntmps25
  go_wp2_with fail
  have hga : Grow w (w.alloc (.cells #[.int .i64 x.1, .slice a1 x.2.1.length c1, .slice a2 x.2.2.1.length c2, .int .i64 x.2.2.2.kind, .int .i64 x.2.2.2.num, .string x.2.2.2.text, .slice na x.2.2.2.names.length nc, .slice ka x.2.2.2.kids.length kc] 48)) := (Ext.refl nil w).alloc _
  have HB0 := Lib.hid (BoxN.new w [.int .i64 x.1, .slice a1 x.2.1.length c1, .slice a2 x.2.2.1.length c2, .int .i64 x.2.2.2.kind, .int .i64 x.2.2.2.num, .string x.2.2.2.text, .slice na x.2.2.2.names.length nc, .slice ka x.2.2.2.kids.length kc] 48)
  have Kp : ∀ {w' : World} {f : List Nat}, (∀ y ∈ f, y < w.heap.size) → Grow w w' → ∀ y ∈ f, ∀ o, w'.cell? ⟨y, o, none⟩ = w.cell? ⟨y, o, none⟩ := fun hl hg y hy o => hg.cell (p := ⟨y, o, none⟩) (hl y hy) (fun h => h)
  refine (markStringS_i a1 c1 x.2.1 f1 B k _ _ rfl (Hs1.out.keep (hga.keeps Hf1.out (fun _ _ h => h))) (Hf1.out.ext hga (fun _ _ h => h)) (by omega) (by have := Hct.out; omega)).mono ?_
  rintro e w2 ⟨rfl, hx2, hfr2, hF2⟩
  have B2 := HB0.out.ext hx2 (fun h => by have := Hlt.out _ (List.mem_append_left _ h); omega)
  have p0 := B2.cell 0 _ rfl; have p1 := B2.cell 1 _ rfl; have p2 := B2.cell 2 _ rfl; have p3 := B2.cell 3 _ rfl; have p4 := B2.cell 4 _ rfl; have p5 := B2.cell 5 _ rfl; have p6 := B2.cell 6 _ rfl; have p7 := B2.cell 7 _ rfl
  have HB2 := Lib.hid B2
  have Hs22 := Lib.hid ((Hs2.out.keep (hga.keeps Hf2.out (fun _ _ h => h))).keep (w' := w2) (hx2.keeps (Hf2.out.ext hga (fun _ _ h => h)) (fun y hy h => Hd12.out y h hy)))
  have Hf22 := Lib.hid ((Hf2.out.ext hga (fun _ _ h => h)).ext hx2 (fun y hy h => Hd12.out y h hy))
  have Hn2 := Lib.hid ((Hn.out.keep (hga.keeps Hf3.out (fun _ _ h => h))).keep (w' := w2) (hx2.keeps (Hf3.out.ext hga (fun _ _ h => h)) (fun y hy h => Hd13.out y h hy)))
  have Hf32 := Lib.hid ((Hf3.out.ext hga (fun _ _ h => h)).ext hx2 (fun y hy h => Hd13.out y h hy))
  have Hx2 := Lib.hid (hga.toX'.trans (hx2.mono (Y := inl (f1 ++ (f2 ++ f3))) (fun y hy => List.mem_append_left _ hy)))
  have Hfr2 := Lib.hid hfr2
  have HF2 := Lib.hid hF2
  clear hx2 hfr2 hF2 B2 hga Kp
  go_wp2_with fail
  refine (markStringS_i a2 c2 x.2.2.1 f2 B (k + x.2.1.length) _ _ (by simp) Hs22.out Hf22.out (by omega) (by have := Hct.out; omega)).mono ?_
  rintro e w3 ⟨rfl, hx3, hfr3, hF3⟩
  clear p0 p1 p2 p3 p4 p5 p6 p7
  have B3 := HB2.out.ext hx3 (fun h => by have := Hlt.out _ (List.mem_append_right f1 (List.mem_append_left f3 h)); omega)
  have p0 := B3.cell 0 _ rfl; have p1 := B3.cell 1 _ rfl; have p2 := B3.cell 2 _ rfl; have p3 := B3.cell 3 _ rfl; have p4 := B3.cell 4 _ rfl; have p5 := B3.cell 5 _ rfl; have p6 := B3.cell 6 _ rfl; have p7 := B3.cell 7 _ rfl
  have Hs13 := Lib.hid (HF2.out.keep (w' := w3) (hx3.keeps Hfr2.out (fun y hy h => Hd12.out y hy h)))
  have Hf13 := Lib.hid (Hfr2.out.ext hx3 (fun y hy h => Hd12.out y hy h))
  have Hn3 := Lib.hid (Hn2.out.keep (w' := w3) (hx3.keeps Hf32.out (fun y hy h => Hd23.out y h hy)))
  have Hf33 := Lib.hid (Hf32.out.ext hx3 (fun y hy h => Hd23.out y h hy))
  have Hx3 := Lib.hid (Hx2.out.trans (hx3.mono (Y := inl (f1 ++ (f2 ++ f3))) (fun y hy => List.mem_append_right f1 (List.mem_append_left f3 hy))))
  have Hfr3 := Lib.hid hfr3
  have HF3 := Lib.hid hF3
  clear hx3 hfr3 hF3 B3
  go_wp2_with fail
  refine (markNode_ok x.2.2.2 na nc ka kc f3 B (k + x.2.1.length + x.2.2.1.length) _ _ (by simp) Hn3.out Hf33.out (by omega) (by have := Hct.out; omega)).mono ?_
  rintro e w4 ⟨rfl, hx4, hfr4, hF4⟩
  clear p0 p1 p2 p3 p4 p5 p6 p7
  have Hres : Hid (Ext (inl (f1 ++ (f2 ++ f3))) w w4 ∧ Free B w4 (f1 ++ (f2 ++ f3)) ∧ FV oprRep packA w4 (mkOpr k x) (oprV x a1 c1 a2 c2 na nc ka kc) (f1 ++ (f2 ++ f3))) := Lib.hid ⟨Hx3.out.trans (hx4.mono (fun y hy => List.mem_append_right f1 (List.mem_append_right f2 hy))), by
    have g1 := Hf13.out.ext hx4 (fun y hy h => Hd13.out y hy h)
    have g2 := Hfr3.out.ext hx4 (fun y hy h => Hd23.out y hy h)
    exact g1.app2 (g2.app2 hfr4 Hd23.out) (fun y hy h => (List.mem_append.1 h).elim (Hd12.out y hy) (Hd13.out y hy)), by
    have g1 := Hs13.out.keep (w' := w4) (hx4.keeps Hf13.out (fun y hy h => Hd13.out y hy h))
    have g2 := HF3.out.keep (w' := w4) (hx4.keeps Hfr3.out (fun y hy h => Hd23.out y hy h))
    have := opr_shutF (x := mkOpr k x) g1 g2 hF4
    unfold oprV mkOpr mkSS mkT at this ⊢
    simpa only [mkS_len, mkL_len] using this⟩
  clear hx4 hfr4 hF4
  go_wp2_with fail
  go_ret
  exact ⟨by rw [Hct.out]; simp; omega, Hres.out⟩
theorem uHeldOpr (x : Opr) (v : Value) (k : Nat) (i : Int) (w : World) (hi : i = (k : Int)) (h : RV oprRep packA w any (mkOpr k x) v) (h1 : 0 < k) (h2 : k + cntOpr x ≤ 1000000000) :
    Calls Try.prog 39 #[v, .int .i64 i] w fun e w' => e = .returned (.int .i64 ((k + cntOpr x : Nat) : Int)) ∧ Grow w w' := by
  obtain ⟨a1, c1, a2, c2, na, nc, ka, kc, rfl, hs1, hs2, hn⟩ := opr_open h
  subst hi
  unfold cntOpr at *
  have HS1 : Hid (StrsR w any a1 c1 (mkS k x.2.1.length)) := Lib.hid hs1
  have HS2 : Hid (StrsR w any a2 c2 (mkS (k + x.2.1.length) x.2.2.1.length)) := Lib.hid hs2
  have HN : Hid (NodeC w any (mkT (k + x.2.1.length + x.2.2.1.length) x.2.2.2) na nc ka kc) := Lib.hid hn
  clear h hs1 hs2 hn
  have hc : Hid (∀ w', Grow w w' → Calls Try.prog 27 #[nodeV (mkT (k + x.2.1.length + x.2.2.1.length) x.2.2.2) na nc ka kc, .int .i64 ((k + x.2.1.length + x.2.2.1.length : Nat) : Int)] w' fun e w' => e = .returned (.int .i64 ((k + x.2.1.length + x.2.2.1.length + cntT x.2.2.2 : Nat) : Int)) ∧ Grow _ w') := Lib.hid (fun w' hg => heldNode_ok x.2.2.2 na nc ka kc _ _ w' rfl ⟨_, _, _, _, rfl, HN.out.ext hg (fun _ _ h => h)⟩ (by omega) (by omega))
  unfold nodeV at hc
  unfold oprV mkOpr mkSS
  simp only [mkS_len]
  have HB0 := Lib.hid (BoxN.new w [.int .i64 x.1, .slice a1 x.2.1.length c1, .slice a2 x.2.2.1.length c2, .int .i64 (mkT (k + x.2.1.length + x.2.2.1.length) x.2.2.2).kind, .int .i64 (mkT (k + x.2.1.length + x.2.2.1.length) x.2.2.2).num, .string (mkT (k + x.2.1.length + x.2.2.1.length) x.2.2.2).text, .slice na (mkT (k + x.2.1.length + x.2.2.1.length) x.2.2.2).names.length nc, .slice ka (mkT (k + x.2.1.length + x.2.2.1.length) x.2.2.2).kids.length kc] 48)
  generalize mkT (k + x.2.1.length + x.2.2.1.length) x.2.2.2 = m at *
  go_enter Try.func39, Try.ntmps39
  go_wp2_with fail
  refine (heldStringS_i a1 c1 x.2.1.length k _ _ rfl (HS1.out.grow (by repeat (first | with_reducible exact Ext.refl _ _ | with_reducible refine Ext.trans ?_ (by assumption) | with_reducible refine Ext.drew ?_ | with_reducible refine Ext.drewN ?_ _ | with_reducible refine Ext.alloc ?_ _ | with_reducible refine Ext.setNew ?_ (by simp; done) _ | with_reducible refine Ext.setNew ?_ (by simp; omega) _))) h1 (by omega)).mono ?_
  rintro e w2 ⟨rfl, hg2⟩
  have k1 : ¬ (((k + x.2.1.length : Nat) : Int) < 0) := by omega
  have pB := HB0.out.grow hg2
  have p0 := pB.cell 0 _ rfl; have p1 := pB.cell 1 _ rfl; have p2 := pB.cell 2 _ rfl; have p3 := pB.cell 3 _ rfl; have p4 := pB.cell 4 _ rfl; have p5 := pB.cell 5 _ rfl; have p6 := pB.cell 6 _ rfl; have p7 := pB.cell 7 _ rfl
  go_wp2_with fail
  refine (heldStringS_i a2 c2 x.2.2.1.length (k + x.2.1.length) _ _ (by simp) (HS2.out.grow (by repeat (first | with_reducible exact Ext.refl _ _ | with_reducible refine Ext.trans ?_ (by assumption) | with_reducible refine Ext.drew ?_ | with_reducible refine Ext.drewN ?_ _ | with_reducible refine Ext.alloc ?_ _ | with_reducible refine Ext.setNew ?_ (by simp; done) _ | with_reducible refine Ext.setNew ?_ (by simp; omega) _))) (by omega) (by omega)).mono ?_
  rintro e w3 ⟨rfl, hg3⟩
  clear p0 p1 p2 p3 p4 p5 p6 p7 pB k1
  have k2 : ¬ (((k + x.2.1.length + x.2.2.1.length : Nat) : Int) < 0) := by omega
  have pB := HB0.out.grow (hg2.trans hg3)
  have p0 := pB.cell 0 _ rfl; have p1 := pB.cell 1 _ rfl; have p2 := pB.cell 2 _ rfl; have p3 := pB.cell 3 _ rfl; have p4 := pB.cell 4 _ rfl; have p5 := pB.cell 5 _ rfl; have p6 := pB.cell 6 _ rfl; have p7 := pB.cell 7 _ rfl
  go_wp2_with fail
  refine (hc.out _ (by repeat (first | with_reducible exact Ext.refl _ _ | with_reducible refine Ext.trans ?_ (by assumption) | with_reducible refine Ext.drew ?_ | with_reducible refine Ext.drewN ?_ _ | with_reducible refine Ext.alloc ?_ _ | with_reducible refine Ext.setNew ?_ (by simp; done) _ | with_reducible refine Ext.setNew ?_ (by simp; omega) _))).mono ?_
  rintro e w4 ⟨rfl, hg4⟩
  clear p0 p1 p2 p3 p4 p5 p6 p7 pB k2
  have k3 : ¬ (((k + x.2.1.length + x.2.2.1.length + cntT x.2.2.2 : Nat) : Int) < 0) := by omega
  go_wp2_with fail
  go_ret
  exact ⟨by simp; omega, (by repeat (first | with_reducible exact Ext.refl _ _ | with_reducible refine Ext.trans ?_ (by assumption) | with_reducible refine Ext.drew ?_ | with_reducible refine Ext.drewN ?_ _ | with_reducible refine Ext.alloc ?_ _ | with_reducible refine Ext.setNew ?_ (by simp; done) _ | with_reducible refine Ext.setNew ?_ (by simp; omega) _))⟩
end Go.Proofs.Ytgfnmhfdmmnaoaa
namespace Go.Proofs.Ytgfnmhfdmmnaoaa
open Go.RowKit
theorem cntK_eqV (n : Nd) : cntK n = 3 + n.names.length + cntL n.kids := by cases n; simp [cntK]
theorem cntK_good : ∀ n : Nd, Good n → cntK n ≤ 9 * n.count := Nd.ind' _ (fun n ih h => by
  have aux : ∀ l : List Nd, (∀ k ∈ l, Good k ∧ (Good k → cntK k ≤ 9 * k.count)) → cntL l ≤ 9 * countL l := fun l => by
    induction l with
    | nil => intro _; simp [cntL]
    | cons x l ihl =>
      intro hl
      have h1 := (hl x (by simp)).2 (hl x (by simp)).1
      have h2 := ihl (fun k hk => hl k (by simp [hk]))
      rw [cntL, countL]
      omega
  have h1 := aux n.kids (fun k hk => ⟨h.kid hk, ih k hk⟩)
  have h2 := h.len
  have h3 := h.kids6
  rw [cntK_eqV, Nd.count_eq]
  omega)
theorem cntT_valid {n : Nd} (h : validB n = true) : cntT n ≤ 360 := by
  unfold validB at h
  rw [Bool.and_eq_true, decide_eq_true_eq] at h
  have hg : Good n := ⟨5, h.1⟩
  have h1 := cntK_good n hg
  rw [cntK_eqV] at h1
  unfold cntT
  omega
end Go.Proofs.Ytgfnmhfdmmnaoaa
-- EV: fresh
namespace Go.Proofs.Ytgfnmhfdmmnaoaa.Eng
open Go Go.RowKit
section
variable {w : World} {ρ : Cx}
theorem agg8 {cs : List AV} {vs : List Value} {v0 v1 v2 v3 v4 v5 v6 v7 : Value} (h : RepL w ρ cs vs) (hl : cs.length = 8) (p0 : vs[0]? = some v0) (p1 : vs[1]? = some v1) (p2 : vs[2]? = some v2) (p3 : vs[3]? = some v3) (p4 : vs[4]? = some v4) (p5 : vs[5]? = some v5) (p6 : vs[6]? = some v6) (p7 : vs[7]? = some v7) : vs = [v0, v1, v2, v3, v4, v5, v6, v7] := by
  have h8 := h.length
  apply List.ext_getElem?
  intro i
  rcases i with _ | _ | _ | _ | _ | _ | _ | _ | i
  · exact p0
  · exact p1
  · exact p2
  · exact p3
  · exact p4
  · exact p5
  · exact p6
  · exact p7
  · rw [List.getElem?_eq_none (by omega), List.getElem?_eq_none (by simp)]
theorem fv_of_opr {o : Opr} {gp gf : Nat} {l : Lb} {v : Value} (h : Rep w ρ (oprF o gp gf l) v) (hl : l.nd = o.2.2.2) : FV oprRep packA w o v (oprFp o gp gf l) := by
  unfold oprF at h
  obtain ⟨vs, rfl, _, h2⟩ := rep_agg.1 h
  obtain ⟨v0, p0, q0⟩ := h2.get (i := 0) rfl
  obtain ⟨v1, p1, q1⟩ := h2.get (i := 1) rfl
  obtain ⟨v2, p2, q2⟩ := h2.get (i := 2) rfl
  obtain ⟨v3, p3, q3⟩ := h2.get (i := 3) rfl
  obtain ⟨v4, p4, q4⟩ := h2.get (i := 4) rfl
  obtain ⟨v5, p5, q5⟩ := h2.get (i := 5) rfl
  obtain ⟨v6, p6, q6⟩ := h2.get (i := 6) rfl
  obtain ⟨v7, p7, q7⟩ := h2.get (i := 7) rfl
  rw [rep_int] at q0 q3 q4
  obtain ⟨q5, q5'⟩ := rep_str.1 q5
  obtain ⟨a1, c1, r1, _⟩ := rep_view.1 q1
  obtain ⟨a2, c2, r2, _⟩ := rep_view.1 q2
  obtain ⟨na, nc, r6, _⟩ := rep_view.1 q6
  obtain ⟨ka, kc, r7, _⟩ := rep_view.1 q7
  rw [strsE_len] at r1 r2 r6
  rw [List.length_map] at r7
  subst q0 q3 q4 q5 r1 r2 r6 r7
  have e := agg8 h2 rfl p0 p1 p2 p3 p4 p5 p6 p7
  subst e
  have hF := nodeF_of_rep l ρ na nc ka kc q5' q6 q7
  rw [hl] at hF
  have hv := opr_shutF (x := o) (strsF_of_rep q1) (strsF_of_rep q2) hF
  have ek : l.kids.length = o.2.2.2.kids.length := by rw [← hl, nd_eq]; simp
  have e1 : l.kind = o.2.2.2.kind := by rw [← hl, nd_eq]
  have e2 : l.num = o.2.2.2.num := by rw [← hl, nd_eq]
  have e3 : l.text = o.2.2.2.text := by rw [← hl, nd_eq]
  have e4 : l.names = o.2.2.2.names := by rw [← hl, nd_eq]
  rw [ek, e1, e2, e3, e4]
  exact hv
theorem rv_of_opr {o : Opr} {v : Value} (h : Rep w ρ (oprA o) v) : RV oprRep packA w Go.Proofs.Ytgfnmhfdmmnaoaa.any o v := by
  unfold oprA at h
  obtain ⟨vs, rfl, _, h2⟩ := rep_agg.1 h
  obtain ⟨v0, p0, q0⟩ := h2.get (i := 0) rfl
  obtain ⟨v1, p1, q1⟩ := h2.get (i := 1) rfl
  obtain ⟨v2, p2, q2⟩ := h2.get (i := 2) rfl
  obtain ⟨v3, p3, q3⟩ := h2.get (i := 3) rfl
  obtain ⟨v4, p4, q4⟩ := h2.get (i := 4) rfl
  obtain ⟨v5, p5, q5⟩ := h2.get (i := 5) rfl
  obtain ⟨v6, p6, q6⟩ := h2.get (i := 6) rfl
  obtain ⟨v7, p7, q7⟩ := h2.get (i := 7) rfl
  rw [rep_int] at q0 q3 q4
  have q5' := (rep_str.1 q5).1
  obtain ⟨a1, c1, r1, s1⟩ := strs_of_rep q1
  obtain ⟨a2, c2, r2, s2⟩ := strs_of_rep q2
  obtain ⟨na, nc, r6, _⟩ := rep_view.1 q6
  obtain ⟨ka, kc, r7, _⟩ := rep_view.1 q7
  rw [strsE_len] at r6
  rw [List.length_map] at r7
  subst q0 q3 q4 q5' r1 r2 r6 r7
  have e := agg8 h2 rfl p0 p1 p2 p3 p4 p5 p6 p7
  subst e
  exact opr_shut (x := o) s1 s2 (nodeC_of_rep _ _ _ _ _ _ q5 q6 q7)
theorem pair_rep {A B : AV} {v : Value} (h : Rep w ρ (.tup [A, B]) v) : ∃ v0 v1, v = .tuple #[v0, v1] ∧ Rep w ρ A v0 ∧ Rep w ρ B v1 := by
  obtain ⟨us, rfl, h2⟩ := rep_tup.1 h
  obtain ⟨v0, p0, q0⟩ := h2.get (i := 0) rfl
  obtain ⟨v1, p1, q1⟩ := h2.get (i := 1) rfl
  have hl := h2.length
  simp only [List.length_cons, List.length_nil] at hl
  have hus : us = [v0, v1] := by
    apply List.ext_getElem?
    intro i
    rcases i with _ | _ | i
    · exact p0
    · exact p1
    · rw [List.getElem?_eq_none (by omega), List.getElem?_eq_none (by simp)]
  subst hus
  exact ⟨v0, v1, rfl, q0, q1⟩
end
end Go.Proofs.Ytgfnmhfdmmnaoaa.Eng
namespace Go.Proofs.Ytgfnmhfdmmnaoaa
open Go.RowKit
theorem implNodeToOp_ok (n : Nd) (v : Value) (w : World) (h : RV nodeRep packA w any n v) :
    Calls Try.prog 38 #[v] w fun e w' => ∃ r fp, e = .returned (.tuple #[r, .bool (n2oB n)]) ∧ Grow w w' ∧ FV oprRep packA w' (n2oN n) r fp ∧ Free w.heap.size w' fp := by
  refine ((Eng.NodeToOp_ACF n).2 w nil (fun k => k < w.heap.size) none 0 [v] (fun _ h => h.elim) (fun _ h => h) (fun _ h => by cases h) (Eng.args1 (Eng.arg_node h))).mono ?_
  rintro e w' ⟨v, r, S', rfl, hx, hS1, hS2, _, hr, ⟨gp, gf, l, hl, hnp, rfl⟩, hb⟩
  have hat0 : Eng.atB (.tup [Eng.oprF (n2oN n) gp gf l, .bool (n2oB n)]) = Eng.oprFp (n2oN n) gp gf l := by
    rw [Eng.at_tup, Eng.atL_cons, Eng.atL_cons, Eng.atL_nil, Eng.at_bool, Eng.at_oprF]; simp
  obtain ⟨v0, v1, rfl, q0, q1⟩ := Eng.pair_rep hr
  rw [Eng.rep_bool] at q1
  subst q1
  have hg := Eng.Grow.ofNone hx
  refine ⟨v0, _, rfl, hg, Eng.fv_of_opr q0 hl, hnp, fun k hk => ?_⟩
  have hat := hr.at k (by rw [hat0]; exact hk)
  refine ⟨hb k (by rw [hat0]; exact hk), ?_, hat.2⟩
  rcases hS2 k hat.1 with h | h
  · exact Nat.lt_of_lt_of_le h hg.size
  · exact h.2
theorem specNodeToOp_ok (n : Nd) (v : Value) (w : World) (h : RV nodeRep packA w any n v) :
    Calls Try.prog 37 #[v] w fun e w' => ∃ r, e = .returned (.tuple #[r, .bool (n2oB n)]) ∧ Grow w w' ∧ RV oprRep packA w' any (n2oN n) r := by
  refine ((Eng.specNodeToOp_AC n).2 w nil (fun k => k < w.heap.size) none 0 [v] (fun _ h => h.elim) (fun _ h => h) (fun _ h => by cases h) (Eng.args1 (Eng.arg_node h))).mono ?_
  rintro e w' ⟨v, r, S', rfl, hx, hS1, hS2, _, hr, rfl⟩
  obtain ⟨v0, v1, rfl, q0, q1⟩ := Eng.pair_rep hr
  rw [Eng.rep_bool] at q1
  subst q1
  exact ⟨v0, rfl, Eng.Grow.ofNone hx, Eng.rv_of_opr q0⟩
theorem n2oN_cnt (n : Nd) : cntOpr (n2oN n) ≤ 372 := by
  unfold n2oN
  split
  · rename_i h
    unfold n2oB at h
    simp only [Bool.and_eq_true] at h
    have ho := h.1.2
    unfold oprB at ho
    simp only [Bool.and_eq_true] at ho
    obtain ⟨⟨⟨_, h1⟩, h2⟩, h3⟩ := ho
    have l1 : (partO n).2.1.length ≤ 5 := by unfold pathB at h1; simp [-List.getD_eq_getElem?_getD] at h1; exact h1.1
    have l2 : (partO n).2.2.1.length ≤ 5 := by unfold pathB at h2; simp [-List.getD_eq_getElem?_getD] at h2; exact h2.1
    have h4 := cntT_valid h3
    unfold cntOpr
    omega
  · unfold zeroO cntOpr
    have := cntT_zero
    simp [cntT_zero]
end Go.Proofs.Ytgfnmhfdmmnaoaa
namespace Go.Proofs.Ytgfnmhfdmmnaoaa
open Go.RowKit
theorem lawN2o_big (n : Nd) (v0 : Value) (w : World) (h0 : RV nodeRep packA w any n v0) (hbig : ¬ costN n ≤ 1048576) :
    Calls Try.prog 6 #[v0] w fun e w' => e = .returned (.bool true) ∧ Grow w w' := by
  have HV0 := Lib.hid h0
  obtain ⟨na0, nc0, ka0, kc0, rfl⟩ := openV_node h0
  clear h0
  unfold nodeV at *
  by_cases c0 : (costN n : Int) ≤ 1048576
  rotate_left
  ·
    have Hs0 := Lib.hid (szR_neg (c := costN n) (left := 1048576) (by omega))
    clear c0 hbig
    have HB0 := Lib.hid (BoxN.new w [.int .i64 n.kind, .int .i64 n.num, .string n.text, .slice na0 n.names.length nc0, .slice ka0 n.kids.length kc0] 41)
    go_enter Try.func6, Try.ntmps6
    go_wp2_with fail
    refine (uSzN n _ _ _ (by omega) (by omega) (HV0.out.grow (by repeat (first | with_reducible exact Ext.refl _ _ | with_reducible refine Ext.trans ?_ (by assumption) | with_reducible refine Ext.drew ?_ | with_reducible refine Ext.drewN ?_ _ | with_reducible refine Ext.alloc ?_ _ | with_reducible refine Ext.setNew ?_ (by simp; done) _ | with_reducible refine Ext.setNew ?_ (by simp; omega) _)))).mono ?_
    rintro e w1 ⟨rfl, hg1⟩
    simp only [Hs0.out]
    have z1 := hg1.size
    try simp only [World.size_alloc] at z1
    go_wp2_with fail
    go_ret
    exact ⟨by simp, (by repeat (first | with_reducible exact Ext.refl _ _ | with_reducible refine Ext.trans ?_ (by assumption) | with_reducible refine Ext.drew ?_ | with_reducible refine Ext.drewN ?_ _ | with_reducible refine Ext.alloc ?_ _ | with_reducible refine Ext.setNew ?_ (by simp; done) _ | with_reducible refine Ext.setNew ?_ (by simp; omega) _))⟩
  have Hs0 := Lib.hid (szR_pos (c := costN n) (left := 1048576) (by omega))
  omega
theorem lawN2o_main (n : Nd) (v0 : Value) (w : World) (h0 : RV nodeRep packA w any n v0) (hcost : costN n ≤ 1048576) :
    Calls Try.prog 6 #[v0] w fun e w' => e = .returned (.bool true) ∧ Grow w w' := by
  have HV0 := Lib.hid h0
  obtain ⟨na0, nc0, ka0, kc0, rfl⟩ := openV_node h0
  clear h0
  unfold nodeV at *
  have Hs0 := Lib.hid (szR_pos (c := costN n) (left := 1048576) (by omega))
  have C0 : Hid (costN n ≤ 1048576) := Lib.hid (by omega)
  have HB0 := Lib.hid (BoxN.new w [.int .i64 n.kind, .int .i64 n.num, .string n.text, .slice na0 n.names.length nc0, .slice ka0 n.kids.length kc0] 41)
  go_enter Try.func6, Try.ntmps6
  go_wp2_with fail
  refine (uSzN n _ _ _ (by omega) (by omega) (HV0.out.grow (by repeat (first | with_reducible exact Ext.refl _ _ | with_reducible refine Ext.trans ?_ (by assumption) | with_reducible refine Ext.drew ?_ | with_reducible refine Ext.drewN ?_ _ | with_reducible refine Ext.alloc ?_ _ | with_reducible refine Ext.setNew ?_ (by simp; done) _ | with_reducible refine Ext.setNew ?_ (by simp; omega) _)))).mono ?_
  rintro e w1 ⟨rfl, hg1⟩
  simp only [Hs0.out]
  have z1 := hg1.size
  try simp only [World.size_alloc] at z1
  have pB := HB0.out.grow (w' := w1) (by repeat (first | with_reducible exact Ext.refl _ _ | with_reducible refine Ext.trans ?_ (by assumption) | with_reducible refine Ext.drew ?_ | with_reducible refine Ext.drewN ?_ _ | with_reducible refine Ext.alloc ?_ _ | with_reducible refine Ext.setNew ?_ (by simp; done) _ | with_reducible refine Ext.setNew ?_ (by simp; omega) _))
  have p0 := pB.cell 0 _ rfl; have p1 := pB.cell 1 _ rfl; have p2 := pB.cell 2 _ rfl; have p3 := pB.cell 3 _ rfl; have p4 := pB.cell 4 _ rfl
  go_wp2_with fail
  refine (uToN n _ _ C0.out (HV0.out.grow (by repeat (first | with_reducible exact Ext.refl _ _ | with_reducible refine Ext.trans ?_ (by assumption) | with_reducible refine Ext.drew ?_ | with_reducible refine Ext.drewN ?_ _ | with_reducible refine Ext.alloc ?_ _ | with_reducible refine Ext.setNew ?_ (by simp; done) _ | with_reducible refine Ext.setNew ?_ (by simp; omega) _)))).mono ?_
  rintro e w2 ⟨us, fs, rfl, hg2, hF, hfr⟩
  have z2 := hg2.size
  try simp only [World.size_alloc] at z2
  have RUs := Lib.hid hF.rv
  clear hF hfr p0 p1 p2 p3 p4 pB
  go_wp2_with fail
  refine (specNodeToOp_ok n _ _  RUs.out).mono ?_
  rintro e w3 ⟨rs, rfl, hg3, hR⟩
  have z3 := hg3.size
  try simp only [World.size_alloc] at z3
  have RW := Lib.hid hR.under
  obtain ⟨pas, pcs, fas, fcs, nas, ncs, kas, kcs, rfl⟩ := openV_opr hR
  unfold oprV
  clear hR
  have HBs := Lib.hid (BoxN.new w3 [.int .i64 (n2oN n).1, .slice pas (n2oN n).2.1.length pcs, .slice fas (n2oN n).2.2.1.length fcs, .int .i64 (n2oN n).2.2.2.kind, .int .i64 (n2oN n).2.2.2.num, .string (n2oN n).2.2.2.text, .slice nas (n2oN n).2.2.2.names.length ncs, .slice kas (n2oN n).2.2.2.kids.length kcs] 48)
  have ys : w3.heap.size ≤ w3.heap.size := Nat.le_refl _
  have hpB := HB0.out.grow (w' := w3) (by repeat (first | with_reducible exact Ext.refl _ _ | with_reducible refine Ext.trans ?_ (by assumption) | with_reducible refine Ext.drew ?_ | with_reducible refine Ext.drewN ?_ _ | with_reducible refine Ext.alloc ?_ _ | with_reducible refine Ext.setNew ?_ (by simp; done) _ | with_reducible refine Ext.setNew ?_ (by simp; omega) _))
  have p0 := hpB.cell 0 _ rfl; have p1 := hpB.cell 1 _ rfl; have p2 := hpB.cell 2 _ rfl; have p3 := hpB.cell 3 _ rfl; have p4 := hpB.cell 4 _ rfl; have pz := hpB.lt
  go_wp2_with fail
  refine (uToN n _ _ C0.out (HV0.out.grow (by repeat (first | with_reducible exact Ext.refl _ _ | with_reducible refine Ext.trans ?_ (by assumption) | with_reducible refine Ext.drew ?_ | with_reducible refine Ext.drewN ?_ _ | with_reducible refine Ext.alloc ?_ _ | with_reducible refine Ext.setNew ?_ (by simp; done) _ | with_reducible refine Ext.setNew ?_ (by simp; omega) _)))).mono ?_
  rintro e w4 ⟨y0, f0, rfl, hg4, hF, hfr⟩
  have z4 := hg4.size
  try simp only [World.size_alloc] at z4
  try simp only [World.size_alloc] at hfr
  have F0 := Lib.hid hF
  have S0 := Lib.hid (Seg.of hfr)
  obtain ⟨nax0, ncx0, kax0, kcx0, rfl⟩ := openV_node hF.rv
  unfold nodeV at *
  clear hF hfr p0 p1 p2 p3 p4 hpB pz
  have HBx0 := Lib.hid (BoxN.new w4 [.int .i64 n.kind, .int .i64 n.num, .string n.text, .slice nax0 n.names.length ncx0, .slice kax0 n.kids.length kcx0] 30)
  go_wp2_with fail
  refine (implNodeToOp_ok n _ _  (F0.out.rv.grow (by repeat (first | with_reducible exact Ext.refl _ _ | with_reducible refine Ext.trans ?_ (by assumption) | with_reducible refine Ext.drew ?_ | with_reducible refine Ext.drewN ?_ _ | with_reducible refine Ext.alloc ?_ _ | with_reducible refine Ext.setNew ?_ (by simp; done) _ | with_reducible refine Ext.setNew ?_ (by simp; omega) _)))).mono ?_
  rintro e w5 ⟨rg, fg, rfl, hg5, hF, hfr⟩
  have z5 := hg5.size
  try simp only [World.size_alloc] at z5
  try simp only [World.size_alloc] at hfr
  have FG := Lib.hid hF
  have SG := Lib.hid (Seg.of hfr)
  obtain ⟨pag, pcg, fag, fcg, nag, ncg, kag, kcg, rfl⟩ := openV_opr hF.rv
  unfold oprV at *
  have HBg := Lib.hid (BoxN.new w5 [.int .i64 (n2oN n).1, .slice pag (n2oN n).2.1.length pcg, .slice fag (n2oN n).2.2.1.length fcg, .int .i64 (n2oN n).2.2.2.kind, .int .i64 (n2oN n).2.2.2.num, .string (n2oN n).2.2.2.text, .slice nag (n2oN n).2.2.2.names.length ncg, .slice kag (n2oN n).2.2.2.kids.length kcg] 48)
  clear hF hfr
  have tB := HBs.out.grow (w' := w5) (by repeat (first | with_reducible exact Ext.refl _ _ | with_reducible refine Ext.trans ?_ (by assumption) | with_reducible refine Ext.drew ?_ | with_reducible refine Ext.drewN ?_ _ | with_reducible refine Ext.alloc ?_ _ | with_reducible refine Ext.setNew ?_ (by simp; done) _ | with_reducible refine Ext.setNew ?_ (by simp; omega) _))
  have t0 := tB.cell 0 _ rfl; have t1 := tB.cell 1 _ rfl; have t2 := tB.cell 2 _ rfl; have t3 := tB.cell 3 _ rfl; have t4 := tB.cell 4 _ rfl; have t5 := tB.cell 5 _ rfl; have t6 := tB.cell 6 _ rfl; have t7 := tB.cell 7 _ rfl; have tz := tB.lt
  go_wp2_with fail
  refine (uEqOpr ((n2oN n)) _ _ _ (FG.out.rv.grow (by repeat (first | with_reducible exact Ext.refl _ _ | with_reducible refine Ext.trans ?_ (by assumption) | with_reducible refine Ext.drew ?_ | with_reducible refine Ext.drewN ?_ _ | with_reducible refine Ext.alloc ?_ _ | with_reducible refine Ext.setNew ?_ (by simp; done) _ | with_reducible refine Ext.setNew ?_ (by simp; omega) _))) (RW.out.any.grow (by repeat (first | with_reducible exact Ext.refl _ _ | with_reducible refine Ext.trans ?_ (by assumption) | with_reducible refine Ext.drew ?_ | with_reducible refine Ext.drewN ?_ _ | with_reducible refine Ext.alloc ?_ _ | with_reducible refine Ext.setNew ?_ (by simp; done) _ | with_reducible refine Ext.setNew ?_ (by simp; omega) _)))).mono ?_
  rintro e w6 ⟨rfl, hg6⟩
  have z6 := hg6.size
  try simp only [World.size_alloc] at z6
  clear t0 t1 t2 t3 t4 t5 t6 t7 tB tz
  go_wp2_with fail
  have pB := HBx0.out.grow (w' := w6) (by repeat (first | with_reducible exact Ext.refl _ _ | with_reducible refine Ext.trans ?_ (by assumption) | with_reducible refine Ext.drew ?_ | with_reducible refine Ext.drewN ?_ _ | with_reducible refine Ext.alloc ?_ _ | with_reducible refine Ext.setNew ?_ (by simp; done) _ | with_reducible refine Ext.setNew ?_ (by simp; omega) _))
  have p0 := pB.cell 0 _ rfl; have p1 := pB.cell 1 _ rfl; have p2 := pB.cell 2 _ rfl; have p3 := pB.cell 3 _ rfl; have p4 := pB.cell 4 _ rfl
  have qB := HB0.out.grow (w' := w6) (by repeat (first | with_reducible exact Ext.refl _ _ | with_reducible refine Ext.trans ?_ (by assumption) | with_reducible refine Ext.drew ?_ | with_reducible refine Ext.drewN ?_ _ | with_reducible refine Ext.alloc ?_ _ | with_reducible refine Ext.setNew ?_ (by simp; done) _ | with_reducible refine Ext.setNew ?_ (by simp; omega) _))
  have q0 := qB.cell 0 _ rfl; have q1 := qB.cell 1 _ rfl; have q2 := qB.cell 2 _ rfl; have q3 := qB.cell 3 _ rfl; have q4 := qB.cell 4 _ rfl
  refine wp_region_stab Grow (fun i => if i = 2 then some (fun v w' => RV nodeRep packA w' any n v) else if i = 3 then some (fun v _ => v = .bool true) else none) (by kernel_rfl) (by kernel_rfl) ⟨Ext.refl nil, fun _ _ h1 h2 => h2.trans h1, ?_⟩ ?_
  · intro i V hV v w1 w2 hr hv
    by_cases h1 : i = 2
    · simp only [h1, if_true, Option.some.injEq] at hV; subst hV; exact RV.grow hv hr
    · by_cases h3 : i = 3
      · simp [h3] at hV; subst hV; exact hv
      · simp [h1, h3] at hV
  (refine wpStab_quiet (by kernel_rfl) (by kernel_rfl) (by simp) ?_; intro K hK; go_big_quiet_op; go_big_quiet_on)
  (refine wpStab_quiet (by kernel_rfl) (by kernel_rfl) (by simp) ?_; intro K hK; go_big_quiet_op; go_big_quiet_on)
  refine wpStab_made (fun v w' => RV nodeRep packA w' any n v) ?_ ?_ ?_ ?_
  · go_simp
  · simp
  · intro y _
    refine stabAt_call (f := 32) (args := #[.agg #[.int .i64 n.kind, .int .i64 n.num, .string n.text, .slice na0 n.names.length nc0, .slice ka0 n.kids.length kc0]]) ?_ ?_
    · go_simp
    · refine (uToN n _ _ C0.out (HV0.out.grow (((by repeat (first | with_reducible exact Ext.refl _ _ | with_reducible refine Ext.trans ?_ (by assumption) | with_reducible refine Ext.drew ?_ | with_reducible refine Ext.drewN ?_ _ | with_reducible refine Ext.alloc ?_ _ | with_reducible refine Ext.setNew ?_ (by simp; done) _ | with_reducible refine Ext.setNew ?_ (by simp; omega) _)) : Grow w w6).trans (later_grow _ _)))).mono ?_
      rintro e w' ⟨v', fp, rfl, hg, hF, _⟩
      exact ⟨_, rfl, hg, hF.rv⟩
  intro vt
  go_frame
  refine wpStab_const (.bool true) ?_ ?_ ?_ ?_
  · go_simp
  · simp
  · intro y hE
    have Hr6 : RV nodeRep packA (later w6 y) any n vt := (hE ⟨2, .data⟩ (by simp) (by decide)).2 rfl
    clear hE
    refine stabAt_call (f := 23) (args := #[.agg #[.int .i64 n.kind, .int .i64 n.num, .string n.text, .slice nax0 n.names.length ncx0, .slice kax0 n.kids.length kcx0], vt]) ?_ ?_
    · go_simp
    · refine (uEqN n _ _ _ (F0.out.rv.grow (((by repeat (first | with_reducible exact Ext.refl _ _ | with_reducible refine Ext.trans ?_ (by assumption) | with_reducible refine Ext.drew ?_ | with_reducible refine Ext.drewN ?_ _ | with_reducible refine Ext.alloc ?_ _ | with_reducible refine Ext.setNew ?_ (by simp; done) _ | with_reducible refine Ext.setNew ?_ (by simp; omega) _)) : Grow _ w6).trans (later_grow _ _))) Hr6).mono ?_
      rintro e w' ⟨rfl, hg⟩
      exact ⟨_, rfl, hg, rfl⟩
  go_frame
  (refine wpStab_quiet (by kernel_rfl) (by kernel_rfl) (by simp) ?_; intro K hK; go_big_quiet_op; go_big_quiet_on)
  refine wpStab_end ?_
  intro w7 hg7
  clear p0 p1 p2 p3 p4 pB q0 q1 q2 q3 q4 qB
  have z7 := hg7.size
  replace F0 := Lib.hid (F0.out.grow S0.out (w' := w7) (by repeat (first | with_reducible exact Ext.refl _ _ | with_reducible refine Ext.trans ?_ (by assumption) | with_reducible refine Ext.drew ?_ | with_reducible refine Ext.drewN ?_ _ | with_reducible refine Ext.alloc ?_ _ | with_reducible refine Ext.setNew ?_ (by simp; done) _ | with_reducible refine Ext.setNew ?_ (by simp; omega) _)))
  replace S0 := Lib.hid (S0.out.grow (w' := w7) (by repeat (first | with_reducible exact Ext.refl _ _ | with_reducible refine Ext.trans ?_ (by assumption) | with_reducible refine Ext.drew ?_ | with_reducible refine Ext.drewN ?_ _ | with_reducible refine Ext.alloc ?_ _ | with_reducible refine Ext.setNew ?_ (by simp; done) _ | with_reducible refine Ext.setNew ?_ (by simp; omega) _)))
  replace FG := Lib.hid (FG.out.grow SG.out (w' := w7) (by repeat (first | with_reducible exact Ext.refl _ _ | with_reducible refine Ext.trans ?_ (by assumption) | with_reducible refine Ext.drew ?_ | with_reducible refine Ext.drewN ?_ _ | with_reducible refine Ext.alloc ?_ _ | with_reducible refine Ext.setNew ?_ (by simp; done) _ | with_reducible refine Ext.setNew ?_ (by simp; omega) _)))
  replace SG := Lib.hid (SG.out.grow (w' := w7) (by repeat (first | with_reducible exact Ext.refl _ _ | with_reducible refine Ext.trans ?_ (by assumption) | with_reducible refine Ext.drew ?_ | with_reducible refine Ext.drewN ?_ _ | with_reducible refine Ext.alloc ?_ _ | with_reducible refine Ext.setNew ?_ (by simp; done) _ | with_reducible refine Ext.setNew ?_ (by simp; omega) _)))
  replace RW := Lib.hid (RW.out.grow (w' := w7) (by repeat (first | with_reducible exact Ext.refl _ _ | with_reducible refine Ext.trans ?_ (by assumption) | with_reducible refine Ext.drew ?_ | with_reducible refine Ext.drewN ?_ _ | with_reducible refine Ext.alloc ?_ _ | with_reducible refine Ext.setNew ?_ (by simp; done) _ | with_reducible refine Ext.setNew ?_ (by simp; omega) _)))
  replace HB0 := Lib.hid (HB0.out.grow (w' := w7) (by repeat (first | with_reducible exact Ext.refl _ _ | with_reducible refine Ext.trans ?_ (by assumption) | with_reducible refine Ext.drew ?_ | with_reducible refine Ext.drewN ?_ _ | with_reducible refine Ext.alloc ?_ _ | with_reducible refine Ext.setNew ?_ (by simp; done) _ | with_reducible refine Ext.setNew ?_ (by simp; omega) _)))
  replace HBx0 := Lib.hid (HBx0.out.grow (w' := w7) (by repeat (first | with_reducible exact Ext.refl _ _ | with_reducible refine Ext.trans ?_ (by assumption) | with_reducible refine Ext.drew ?_ | with_reducible refine Ext.drewN ?_ _ | with_reducible refine Ext.alloc ?_ _ | with_reducible refine Ext.setNew ?_ (by simp; done) _ | with_reducible refine Ext.setNew ?_ (by simp; omega) _)))
  replace HBs := Lib.hid (HBs.out.grow (w' := w7) (by repeat (first | with_reducible exact Ext.refl _ _ | with_reducible refine Ext.trans ?_ (by assumption) | with_reducible refine Ext.drew ?_ | with_reducible refine Ext.drewN ?_ _ | with_reducible refine Ext.alloc ?_ _ | with_reducible refine Ext.setNew ?_ (by simp; done) _ | with_reducible refine Ext.setNew ?_ (by simp; omega) _)))
  replace HBg := Lib.hid (HBg.out.grow (w' := w7) (by repeat (first | with_reducible exact Ext.refl _ _ | with_reducible refine Ext.trans ?_ (by assumption) | with_reducible refine Ext.drew ?_ | with_reducible refine Ext.drewN ?_ _ | with_reducible refine Ext.alloc ?_ _ | with_reducible refine Ext.setNew ?_ (by simp; done) _ | with_reducible refine Ext.setNew ?_ (by simp; omega) _)))
  have lHB0 := HB0.out.lt
  have lHBx0 := HBx0.out.lt
  have lHBs := HBs.out.lt
  have lHBg := HBg.out.lt
  have hgA : Grow w w7 := (by repeat (first | with_reducible exact Ext.refl _ _ | with_reducible refine Ext.trans ?_ (by assumption) | with_reducible refine Ext.drew ?_ | with_reducible refine Ext.drewN ?_ _ | with_reducible refine Ext.alloc ?_ _ | with_reducible refine Ext.setNew ?_ (by simp; done) _ | with_reducible refine Ext.setNew ?_ (by simp; omega) _))
  clear hg1 hg2 hg3 hg4 hg5 hg6 hg7
  have m0 := cntT_le n
  have mg := n2oN_cnt n
  have p0 := HBx0.out.cell 0 _ rfl; have p1 := HBx0.out.cell 1 _ rfl; have p2 := HBx0.out.cell 2 _ rfl; have p3 := HBx0.out.cell 3 _ rfl; have p4 := HBx0.out.cell 4 _ rfl
  go_wp2_with fail
  refine (uMarkN n _ f0 _ (1) _ _ (by rfl) F0.out S0.out.1 (by omega) (by omega)).mono ?_
  rintro e w8 ⟨rfl, hx, _, _⟩
  clear p0 p1 p2 p3 p4
  replace FG := Lib.hid (FG.out.keep (SG.out.keeps S0.out (by omega) hx))
  replace SG := Lib.hid (SG.out.ext S0.out (by omega) hx)
  replace HB0 := Lib.hid (S0.out.box HB0.out hx (by omega))
  replace HBx0 := Lib.hid (S0.out.box HBx0.out hx (by omega))
  replace HBs := Lib.hid (S0.out.box HBs.out hx (by omega))
  replace HBg := Lib.hid (S0.out.box HBg.out hx (by omega))
  replace RW := Lib.hid (S0.out.rv RW.out hx (by omega))
  replace hgA := S0.out.inner hgA hx (by omega)
  clear hx F0
  have r0 := HBg.out.cell 0 _ rfl; have r1 := HBg.out.cell 1 _ rfl; have r2 := HBg.out.cell 2 _ rfl; have r3 := HBg.out.cell 3 _ rfl; have r4 := HBg.out.cell 4 _ rfl; have r5 := HBg.out.cell 5 _ rfl; have r6 := HBg.out.cell 6 _ rfl; have r7 := HBg.out.cell 7 _ rfl
  have t0 := HBs.out.cell 0 _ rfl; have t1 := HBs.out.cell 1 _ rfl; have t2 := HBs.out.cell 2 _ rfl; have t3 := HBs.out.cell 3 _ rfl; have t4 := HBs.out.cell 4 _ rfl; have t5 := HBs.out.cell 5 _ rfl; have t6 := HBs.out.cell 6 _ rfl; have t7 := HBs.out.cell 7 _ rfl
  go_wp2_with fail
  refine (uEqOpr ((n2oN n)) _ _ _ FG.out.rv RW.out.any).mono ?_
  rintro e w9 ⟨rfl, hg⟩
  clear r0 r1 r2 r3 r4 r5 r6 r7 t0 t1 t2 t3 t4 t5 t6 t7
  replace FG := Lib.hid (FG.out.grow SG.out hg)
  replace SG := Lib.hid (SG.out.grow hg)
  replace RW := Lib.hid (RW.out.grow hg)
  replace HB0 := Lib.hid (HB0.out.grow hg)
  replace HBx0 := Lib.hid (HBx0.out.grow hg)
  replace HBs := Lib.hid (HBs.out.grow hg)
  replace HBg := Lib.hid (HBg.out.grow hg)
  replace hgA := hgA.trans hg
  clear hg
  have r0 := HBg.out.cell 0 _ rfl; have r1 := HBg.out.cell 1 _ rfl; have r2 := HBg.out.cell 2 _ rfl; have r3 := HBg.out.cell 3 _ rfl; have r4 := HBg.out.cell 4 _ rfl; have r5 := HBg.out.cell 5 _ rfl; have r6 := HBg.out.cell 6 _ rfl; have r7 := HBg.out.cell 7 _ rfl
  go_wp2_with fail
  refine (uMarkOpr ((n2oN n)) _ fg _ 1 _ _ (by rfl) FG.out SG.out.1 (by omega) (by omega)).mono ?_
  rintro e w10 ⟨rfl, hx, hfr, hF⟩
  clear r0 r1 r2 r3 r4 r5 r6 r7
  replace HB0 := Lib.hid (SG.out.box HB0.out hx (by omega))
  replace HBx0 := Lib.hid (SG.out.box HBx0.out hx (by omega))
  replace HBs := Lib.hid (SG.out.box HBs.out hx (by omega))
  replace HBg := Lib.hid (SG.out.box HBg.out hx (by omega))
  replace RW := Lib.hid (SG.out.rv RW.out hx (by omega))
  replace hgA := SG.out.inner hgA hx (by omega)
  replace FG := Lib.hid hF
  replace SG := Lib.hid (SG.out.marked hfr)
  clear hx hfr hF
  have r0 := HBg.out.cell 0 _ rfl; have r1 := HBg.out.cell 1 _ rfl; have r2 := HBg.out.cell 2 _ rfl; have r3 := HBg.out.cell 3 _ rfl; have r4 := HBg.out.cell 4 _ rfl; have r5 := HBg.out.cell 5 _ rfl; have r6 := HBg.out.cell 6 _ rfl; have r7 := HBg.out.cell 7 _ rfl
  go_wp2_with fail
  refine (uHeldOpr ((n2oN n)) _ 1 _ _ (by rfl) FG.out.rv (by omega) (by omega)).mono ?_
  rintro e w11 ⟨rfl, hg⟩
  clear r0 r1 r2 r3 r4 r5 r6 r7
  replace FG := Lib.hid (FG.out.grow SG.out hg)
  replace SG := Lib.hid (SG.out.grow hg)
  replace RW := Lib.hid (RW.out.grow hg)
  replace HB0 := Lib.hid (HB0.out.grow hg)
  replace HBx0 := Lib.hid (HBx0.out.grow hg)
  replace HBs := Lib.hid (HBs.out.grow hg)
  replace HBg := Lib.hid (HBg.out.grow hg)
  replace hgA := hgA.trans hg
  clear hg
  have hbb : ((1 + cntOpr ((n2oN n)) : Nat) != (1 + cntOpr ((n2oN n)) : Nat)) = false := by simp
  have hgc := hgA
  have pB := HB0.out.grow (w' := w11) (by repeat (first | with_reducible exact Ext.refl _ _ | with_reducible refine Ext.trans ?_ (by assumption) | with_reducible refine Ext.drew ?_ | with_reducible refine Ext.drewN ?_ _ | with_reducible refine Ext.alloc ?_ _ | with_reducible refine Ext.setNew ?_ (by simp; done) _ | with_reducible refine Ext.setNew ?_ (by simp; omega) _))
  have p0 := pB.cell 0 _ rfl; have p1 := pB.cell 1 _ rfl; have p2 := pB.cell 2 _ rfl; have p3 := pB.cell 3 _ rfl; have p4 := pB.cell 4 _ rfl
  go_wp2_with fail
  refine (uToN n _ _ C0.out (HV0.out.grow (by repeat (first | with_reducible exact Ext.refl _ _ | with_reducible refine Ext.trans ?_ (by assumption) | with_reducible refine Ext.drew ?_ | with_reducible refine Ext.drewN ?_ _ | with_reducible refine Ext.alloc ?_ _ | with_reducible refine Ext.setNew ?_ (by simp; done) _ | with_reducible refine Ext.setNew ?_ (by simp; omega) _)))).mono ?_
  rintro e w12 ⟨uh, fh, rfl, hg12, hF, hfr⟩
  have z12 := hg12.size
  try simp only [World.size_alloc] at z12
  have RUh := Lib.hid hF.rv
  clear hF hfr p0 p1 p2 p3 p4 pB
  go_wp2_with fail
  refine (implNodeToOp_ok n _ _  RUh.out).mono ?_
  rintro e w13 ⟨rh, fh, rfl, hg13, hF, hfr⟩
  have z13 := hg13.size
  try simp only [World.size_alloc] at z13
  have hR := hF.rv
  clear hF hfr
  have RH := Lib.hid hR
  obtain ⟨pah, pch, fah, fch, nah, nch, kah, kch, rfl⟩ := openV_opr hR
  unfold oprV
  have HBh := Lib.hid (BoxN.new w13 [.int .i64 (n2oN n).1, .slice pah (n2oN n).2.1.length pch, .slice fah (n2oN n).2.2.1.length fch, .int .i64 (n2oN n).2.2.2.kind, .int .i64 (n2oN n).2.2.2.num, .string (n2oN n).2.2.2.text, .slice nah (n2oN n).2.2.2.names.length nch, .slice kah (n2oN n).2.2.2.kids.length kch] 48)
  clear hR
  have tB := HBs.out.grow (w' := w13) (by repeat (first | with_reducible exact Ext.refl _ _ | with_reducible refine Ext.trans ?_ (by assumption) | with_reducible refine Ext.drew ?_ | with_reducible refine Ext.drewN ?_ _ | with_reducible refine Ext.alloc ?_ _ | with_reducible refine Ext.setNew ?_ (by simp; done) _ | with_reducible refine Ext.setNew ?_ (by simp; omega) _))
  have t0 := tB.cell 0 _ rfl; have t1 := tB.cell 1 _ rfl; have t2 := tB.cell 2 _ rfl; have t3 := tB.cell 3 _ rfl; have t4 := tB.cell 4 _ rfl; have t5 := tB.cell 5 _ rfl; have t6 := tB.cell 6 _ rfl; have t7 := tB.cell 7 _ rfl; have tz := tB.lt
  go_wp2_with fail
  refine (uEqOpr ((n2oN n)) _ _ _ (RH.out.grow (by repeat (first | with_reducible exact Ext.refl _ _ | with_reducible refine Ext.trans ?_ (by assumption) | with_reducible refine Ext.drew ?_ | with_reducible refine Ext.drewN ?_ _ | with_reducible refine Ext.alloc ?_ _ | with_reducible refine Ext.setNew ?_ (by simp; done) _ | with_reducible refine Ext.setNew ?_ (by simp; omega) _))) (RW.out.any.grow (by repeat (first | with_reducible exact Ext.refl _ _ | with_reducible refine Ext.trans ?_ (by assumption) | with_reducible refine Ext.drew ?_ | with_reducible refine Ext.drewN ?_ _ | with_reducible refine Ext.alloc ?_ _ | with_reducible refine Ext.setNew ?_ (by simp; done) _ | with_reducible refine Ext.setNew ?_ (by simp; omega) _)))).mono ?_
  rintro e w14 ⟨rfl, hg14⟩
  have z14 := hg14.size
  try simp only [World.size_alloc] at z14
  clear t0 t1 t2 t3 t4 t5 t6 t7 tB tz
  have rB := HBg.out.grow (w' := w14) (by repeat (first | with_reducible exact Ext.refl _ _ | with_reducible refine Ext.trans ?_ (by assumption) | with_reducible refine Ext.drew ?_ | with_reducible refine Ext.drewN ?_ _ | with_reducible refine Ext.alloc ?_ _ | with_reducible refine Ext.setNew ?_ (by simp; done) _ | with_reducible refine Ext.setNew ?_ (by simp; omega) _))
  have r0 := rB.cell 0 _ rfl; have r1 := rB.cell 1 _ rfl; have r2 := rB.cell 2 _ rfl; have r3 := rB.cell 3 _ rfl; have r4 := rB.cell 4 _ rfl; have r5 := rB.cell 5 _ rfl; have r6 := rB.cell 6 _ rfl; have r7 := rB.cell 7 _ rfl; have rz := rB.lt
  go_wp2_with fail
  refine (uHeldOpr ((n2oN n)) _ 1 _ _ (by rfl) (FG.out.rv.grow (by repeat (first | with_reducible exact Ext.refl _ _ | with_reducible refine Ext.trans ?_ (by assumption) | with_reducible refine Ext.drew ?_ | with_reducible refine Ext.drewN ?_ _ | with_reducible refine Ext.alloc ?_ _ | with_reducible refine Ext.setNew ?_ (by simp; done) _ | with_reducible refine Ext.setNew ?_ (by simp; omega) _))) (by omega) (by omega)).mono ?_
  rintro e w15 ⟨rfl, hg15⟩
  have z15 := hg15.size
  try simp only [World.size_alloc] at z15
  clear r0 r1 r2 r3 r4 r5 r6 r7 rB rz
  go_wp2_with fail
  go_ret
  exact ⟨by simp, (by repeat (first | with_reducible exact Ext.refl _ _ | with_reducible refine Ext.trans ?_ (by assumption) | with_reducible refine Ext.drew ?_ | with_reducible refine Ext.drewN ?_ _ | with_reducible refine Ext.alloc ?_ _ | with_reducible refine Ext.setNew ?_ (by simp; done) _ | with_reducible refine Ext.setNew ?_ (by simp; omega) _))⟩
theorem lawN2o_ok (n : Nd) (v0 : Value) (w : World) (h0 : RV nodeRep packA w any n v0) :
    Calls Try.prog 6 #[v0] w fun e w' => e = .returned (.bool true) ∧ Grow w w' := by
  by_cases hc : costN n ≤ 1048576
  · exact lawN2o_main n v0 w h0 hc
  · exact lawN2o_big n v0 w h0 hc
end Go.Proofs.Ytgfnmhfdmmnaoaa
namespace Go.Proofs.Ytgfnmhfdmmnaoaa
open Go.RowKit Go.ChangeShapes Go.WideShapes Go.Deep
section
variable {H : Type} {enc : TypeId × Value → H} {W : World} {base : Nat} {sp : Nat → Bool} {held : Bool}
theorem addr_spot {w : World} {a : Addr} {v : Value} (h : w.cell? a = some v) : ∃ b o, a = ⟨b, o, none⟩ := by
  have := World.cell?_spot h
  exact ⟨a.block, a.off, by cases a; simp_all⟩
theorem add_mk (b o i : Nat) : (⟨b, o, none⟩ : Addr).add i = ⟨b, o + i, none⟩ := by
  unfold Addr.add; split
  · rename_i h; subst h; rfl
  · rfl
theorem open_strs' {fuel : Nat} {cs : List Value} {x : DataW H × List MemPlace} (h : DataW.trod enc Try.prog W base sp held fuel 23 cs = some x) :
    ∃ a c xs, cs = [.slice a xs.length c] ∧ StrsR W any a c xs := by
  rcases open_slice Try.underlying23 h with ⟨rfl, _⟩ | ⟨a, len, cap, m, n, D, Pl, rfl, _, hl, hm, hmm, _, hi⟩
  · exact ⟨none, 0, [], rfl, by simp, by simp, by simp, .inl rfl⟩
  · have hlm : len ≤ m := by rw [hmm]; split <;> omega
    have hel : ∀ i, i < len → ∃ s : ByteArray, W.cell? (a.add i) = some (.string s) ∧ s.size ≤ maxLen := fun i hi' => by
      obtain ⟨cs', h1, h2⟩ := hi i (by omega)
      have hc : Try.prog.cellsOf 9 = 1 := by kernel_rfl
      rw [hc] at h1
      obtain ⟨_, hlen, hat⟩ := World.cells?_some h1
      obtain ⟨s, rfl, _, hs⟩ := DataW.trod_string Try.underlying9 h2
      have := hat 0 (by omega)
      exact ⟨s, by simpa [Go.Deep.add_add] using this, hs⟩
    have : Inhabited ByteArray := ⟨ByteArray.empty⟩
    obtain ⟨f, hf⟩ := choose_lt hel
    refine ⟨some a, cap, (List.range len).map f, by simp, by simpa using hl, by simp; unfold maxLen at hm; unfold big; omega, ?_, ?_⟩
    · intro x hx
      obtain ⟨i, hi', rfl⟩ := List.mem_map.1 hx
      have := (hf i (List.mem_range.1 hi')).2
      unfold maxLen at this; unfold big; omega
    · by_cases h0 : len = 0
      · subst h0; exact .inl rfl
      · obtain ⟨b, o, ha⟩ := addr_spot (hf 0 (by omega)).1
        have ha' : a = ⟨b, o, none⟩ := by simpa [Addr.add] using ha
        subst ha'
        refine .inr ⟨b, o, rfl, trivial, fun i hi' => ?_⟩
        simp at hi'
        have := (hf i hi').1
        rw [add_mk] at this
        simpa using this
theorem open_node : ∀ (fuel : Nat) (cs : List Value) (x : DataW H × List MemPlace), DataW.trod enc Try.prog W base sp held fuel 41 cs = some x →
    ∃ n na nc ka kc, cs = [.int .i64 n.kind, .int .i64 n.num, .string n.text, .slice na n.names.length nc, .slice ka n.kids.length kc] ∧ NodeC W any n na nc ka kc := by
  intro fuel
  induction fuel using Nat.strongRecOn with
  | ind fuel ih =>
    intro cs x h
    obtain ⟨xs, n, rfl, _, hlen, hxs, hf⟩ := DataW.trod_struct Try.underlying41 h
    have hc : Try.prog.cellsOf 41 = 5 := by kernel_rfl
    have c3 : Try.prog.cellsOf 3 = 1 := by kernel_rfl
    have c9 : Try.prog.cellsOf 9 = 1 := by kernel_rfl
    have c23 : Try.prog.cellsOf 23 = 1 := by kernel_rfl
    have c57 : Try.prog.cellsOf 39 = 1 := by kernel_rfl
    rw [hc] at hlen
    match cs, hlen with
    | [v0, v1, v2, v3, v4], _ =>
      obtain ⟨y0, g0⟩ : ∃ y, DataW.trod enc Try.prog W base sp held n 3 [v0] = some y := ⟨xs[0]'(by simp at hxs; omega), by
        have h := hf 0 _ rfl
        rw [List.getElem?_eq_getElem (by simp at hxs; omega)] at h
        simpa [c3, c9, c23, c57] using h⟩
      obtain ⟨y1, g1⟩ : ∃ y, DataW.trod enc Try.prog W base sp held n 3 [v1] = some y := ⟨xs[1]'(by simp at hxs; omega), by
        have h := hf 1 _ rfl
        rw [List.getElem?_eq_getElem (by simp at hxs; omega)] at h
        simpa [c3, c9, c23, c57] using h⟩
      obtain ⟨y2, g2⟩ : ∃ y, DataW.trod enc Try.prog W base sp held n 9 [v2] = some y := ⟨xs[2]'(by simp at hxs; omega), by
        have h := hf 2 _ rfl
        rw [List.getElem?_eq_getElem (by simp at hxs; omega)] at h
        simpa [c3, c9, c23, c57] using h⟩
      obtain ⟨y3, g3⟩ : ∃ y, DataW.trod enc Try.prog W base sp held n 23 [v3] = some y := ⟨xs[3]'(by simp at hxs; omega), by
        have h := hf 3 _ rfl
        rw [List.getElem?_eq_getElem (by simp at hxs; omega)] at h
        simpa [c3, c9, c23, c57] using h⟩
      obtain ⟨y4, g4⟩ : ∃ y, DataW.trod enc Try.prog W base sp held n 39 [v4] = some y := ⟨xs[4]'(by simp at hxs; omega), by
        have h := hf 4 _ rfl
        rw [List.getElem?_eq_getElem (by simp at hxs; omega)] at h
        simpa [c3, c9, c23, c57] using h⟩
      clear hf
      obtain ⟨kind, e0, _, _⟩ := DataW.trod_int Try.underlying3 g0
      obtain ⟨num, e1, _, _⟩ := DataW.trod_int Try.underlying3 g1
      obtain ⟨text, e2, _, hts⟩ := DataW.trod_string Try.underlying9 g2
      obtain ⟨na, nc, names, e3, hns⟩ := open_strs' g3
      simp only [List.cons.injEq, and_true] at e0 e1 e2 e3
      subst e0 e1 e2 e3
      have htx : text.size ≤ big := by unfold maxLen at hts; unfold big; omega
      rcases DataW.trod_slice Try.underlying39 g4 with ⟨e4, _⟩ | ⟨a, len, cap, elems, rest, n', rfl, e4, _, _, hl, hm, hel, hi, _, _⟩
      · simp only [List.cons.injEq, and_true] at e4
        subst e4
        exact ⟨⟨kind, num, text, names, []⟩, na, nc, none, 0, rfl, NodeC.mk htx hns ⟨by simp, by simp, .inl rfl⟩⟩
      · simp only [List.cons.injEq, and_true] at e4
        subst e4
        rw [hc] at hi
        have key : ∀ i, i < len → ∃ (k : Nd × (Option Addr × Nat × Option Addr × Nat)), W.cell? (a.add (i * 5)) = some (.int .i64 k.1.kind) ∧ W.cell? (a.add (i * 5 + 1)) = some (.int .i64 k.1.num) ∧ W.cell? (a.add (i * 5 + 2)) = some (.string k.1.text) ∧
            W.cell? (a.add (i * 5 + 3)) = some (.slice k.2.1 k.1.names.length k.2.2.1) ∧ W.cell? (a.add (i * 5 + 4)) = some (.slice k.2.2.2.1 k.1.kids.length k.2.2.2.2) ∧ NodeC W any k.1 k.2.1 k.2.2.1 k.2.2.2.1 k.2.2.2.2 := fun i hi' => by
          have h := hi i hi'
          rw [List.getElem?_eq_getElem (by omega)] at h
          obtain ⟨cs', h1, h2⟩ := Option.bind_eq_some_iff.1 h
          obtain ⟨_, hl5, hat⟩ := World.cells?_some h1
          obtain ⟨m, na', nc', ka', kc', rfl, hn'⟩ := ih n' (by omega) cs' _ h2
          refine ⟨⟨m, na', nc', ka', kc'⟩, ?_, ?_, ?_, ?_, ?_, hn'⟩
          · simpa [Go.Deep.add_add] using hat 0 (by omega)
          · simpa [Go.Deep.add_add] using hat 1 (by omega)
          · simpa [Go.Deep.add_add] using hat 2 (by omega)
          · simpa [Go.Deep.add_add] using hat 3 (by omega)
          · simpa [Go.Deep.add_add] using hat 4 (by omega)
        have : Inhabited (Nd × (Option Addr × Nat × Option Addr × Nat)) := ⟨⟨⟨0, 0, ByteArray.empty, [], []⟩, none, 0, none, 0⟩⟩
        obtain ⟨f, hf⟩ := choose_lt key
        have hkl : ((List.range len).map fun i => (f i).1).length = len := by simp
        have hbig : len ≤ big := by unfold maxLen at hm; unfold big; omega
        refine ⟨⟨kind, num, text, names, (List.range len).map fun i => (f i).1⟩, na, nc, some a, cap, by simp, NodeC.mk htx hns ⟨by rw [hkl]; exact hl, by rw [hkl]; exact hbig, ?_⟩⟩
        by_cases h0 : len = 0
        · subst h0; exact .inl rfl
        · obtain ⟨b, o, ha⟩ := addr_spot (hf 0 (by omega)).1
          have ha' : a = ⟨b, o, none⟩ := by simpa [Addr.add] using ha
          subst ha'
          refine .inr ⟨b, o, rfl, trivial, KidsR.of_get (fun i hi' => ?_)⟩
          rw [hkl] at hi'
          obtain ⟨k0, k1, k2, k3, k4, kn⟩ := hf i hi'
          rw [add_mk] at k0 k1 k2 k3 k4
          simp only [List.getElem_map, List.getElem_range]
          exact ⟨_, _, _, _, k0, by rw [Nat.add_assoc]; exact k1, by rw [Nat.add_assoc]; exact k2, by rw [Nat.add_assoc]; exact k3, by rw [Nat.add_assoc]; exact k4, kn⟩
end
end Go.Proofs.Ytgfnmhfdmmnaoaa
namespace Go.Proofs.Ytgfnmhfdmmnaoaa
open Go.RowKit
end Go.Proofs.Ytgfnmhfdmmnaoaa
namespace Go.Proofs.Ytgfnmhfdmmnaoaa
open Go.RowKit
end Go.Proofs.Ytgfnmhfdmmnaoaa
namespace Go.Proofs.Ytgfnmhfdmmnaoaa
open Go.RowKit
end Go.Proofs.Ytgfnmhfdmmnaoaa
namespace Go.Proofs.Ytgfnmhfdmmnaoaa
open Go.RowKit
end Go.Proofs.Ytgfnmhfdmmnaoaa
namespace Go.Proofs.Ytgfnmhfdmmnaoaa
open Go.RowKit Go.ChangeShapes Go.WideShapes Go.Deep
section
variable {H : Type} {enc : TypeId × Value → H} {W : World} {base : Nat} {sp : Nat → Bool} {held : Bool}
end
end Go.Proofs.Ytgfnmhfdmmnaoaa
namespace Go.Proofs.Ytgfnmhfdmmnaoaa
open Go.RowKit Go.ChangeShapes Go.WideShapes Go.Deep
section
variable {H : Type} {enc : TypeId × Value → H} {W : World} {base : Nat} {sp : Nat → Bool} {held : Bool}
end
end Go.Proofs.Ytgfnmhfdmmnaoaa
namespace Go.Proofs.Ytgfnmhfdmmnaoaa
open Go.RowKit
end Go.Proofs.Ytgfnmhfdmmnaoaa
namespace Go.Proofs.Ytgfnmhfdmmnaoaa
open Go.RowKit
end Go.Proofs.Ytgfnmhfdmmnaoaa
namespace Go.Proofs.Ytgfnmhfdmmnaoaa
open Go.RowKit
theorem lt_trans {a b c : ByteArray} (h1 : lt a b = true) (h2 : lt b c = true) : lt a c = true := bl_trans _ _ _ h1 h2
end Go.Proofs.Ytgfnmhfdmmnaoaa
namespace Go.Proofs.Ytgfnmhfdmmnaoaa
open Go.RowKit Go.ChangeShapes Go.WideShapes Go.Deep
section
variable {H : Type} {enc : TypeId × Value → H} {W : World} {base : Nat} {sp : Nat → Bool} {held : Bool}
theorem rv_node {fuel : Nat} {cs : Array Value} {x : DataW H × List MemPlace} (h : DataW.trod enc Try.prog W base sp held fuel 41 cs.toList = some x) : ∃ y, RV nodeRep packA W any y (.agg cs) := by
  obtain ⟨q, na, nc, ka, kc, e2, hq⟩ := open_node _ _ _ h
  exact ⟨q, cs.toList, rfl, na, nc, ka, kc, e2, hq⟩
end
end Go.Proofs.Ytgfnmhfdmmnaoaa
