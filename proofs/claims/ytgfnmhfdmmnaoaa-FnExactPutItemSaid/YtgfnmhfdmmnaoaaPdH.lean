/-
  Texts of this claim, joined.
-/
import Derived.ProofKit
import Derived.Deep.Slices
import Derived.Deep.Fields
import Derived.Test.YtgfnmhfdmmnaoaaPdG

set_option linter.unusedSimpArgs false
set_option linter.unusedVariables false
set_option linter.unnecessarySimpa false
set_option maxRecDepth 100000
set_option maxHeartbeats 16000000
-- EV: store fresh
namespace Go.Proofs.Ytgfnmhfdmmnaoaa.Eng
open Go Go.RowKit
attribute [local simp] big size_mk ASt.pay Option.map_map Function.comp_def awant aop acall ado aev ofVal ofVal0 ASt.put ASt.add ASt.turn ASt.kill abox aalloc astore aload aloadD astoreD idOf ASt.at cellsTo afieldAddr afield aindexAddr aindex alen abin aint acmp astr aun apick aextract anil aslice abound abuild afill abuildSlice asCells aps avCells over upd aappend asrc amax amin aconv mkSt slots rowsOf_cons rowsOf_nil usedOf_cons usedOf_nil ZK.av List.replicate ASt.back ASt.addL ASt.killL nodeA nodeT nodeTL_eq nodeL_eq strsE_get strsE_len intsE_get intsE_len strsE_at intsE_at itemA itemL_eq storeA storeT storeO itemsRow tab2 tab3 tab4 tab5 tab6 tab7 tab8 tab9 tab10 tab11 tab12 tab13 tab14 tab15 tab16 tab17 tab18 tab19 tab21 tab22 tab23 tab24 tab25 tab26 tab27 tab28 tab29 tab30 tab39 tab40 tab41 tab42 tab43 tab47 tab48 tab55 tab56 tab57 tab60 tab61 tab62 tab73 tab74 tab75 tab85 tab92 tab115 tab116 tab143 tab144 tab145 tab154 tab155 tab170 tab175 tab182 tab197 tab198 tab203 tab204 tab205 tab207 tab208 tab209
theorem putJ_S (s : Sto) (nm : ByteArray) (n : Nd) (h : storeB s = true) {ks : List LbI} {l : Lb} (hks : ks.map itD = s.1) (hl : l.nd = n) : ((putJ ks (nm, s.2 + 1, l)).map itD, s.2 + 1) = putS s nm n := by
  rw [putJ_D, hks, ← putI_S s nm n h]
  unfold itD
  dsimp only
  rw [hl]
theorem implPut_ACF (s : Sto) (nm : ByteArray) (n : Nd) : ACF Try.prog 33 [storeA s, .str nm, nodeA n] 0 (rSB (okS (putOk s nm n) (putS s nm n)) (putOk s nm n)) := by
  refine ACF.weak ?_
  have pn := fun h => implCopyF_ACF n (valid_sml (n := n) h)
  unfold storeA storeT nodeA at *
  rw [nodeL_eq] at pn ⊢
  refine ACF.of tab_ok mixed_ok Try.func33 (by rfl) (by kernel_rfl) ?_; rintro ⟨P, T, hT, hm, w0, S0, rd0, k0⟩ hP hTT hN; dsimp only at hP hTT hN; subst hP hTT; dsimp only; unfold initSt; rw [Try.ntmps33]
  cases h1 : storeB s
  · have e : putOk s nm n = false := by simp [putOk, h1]
    rw [e]
    (repeat (first | with_reducible refine AW.seq ?_ | ((first | refine arun_kn 4 rfl (fun C hC => ?_) | refine arunD_kn 4 rfl (fun C hC => ?_)); (repeat ((conv => whnf); simp [h1])); refine hC _ ?_; clear hC C; simp only [List.drop, Nat.reduceAdd]) | ((first | refine arun_kn 1 rfl (fun C hC => ?_) | refine arunD_kn 1 rfl (fun C hC => ?_)); (repeat ((conv => whnf); simp [h1])); refine hC _ ?_; clear hC C; simp only [List.drop, Nat.reduceAdd]) | (refine arun_skip ?_ ?_; (focus (simp [awant, h1]; done))) | (refine arun_c0 (ValidStore_AC s .loose) ?_; rintro _ rfl) | (refine AW.regionK [] (fun K hK => ?_)) | (refine AW.regionDK [] (pcs [] []) (by kernel_rfl) (by kernel_rfl) (fun K hK => ?_)) | (refine AW.condT ?_ ?_; (focus (simp [aev, h1]; done))) | (refine AW.condF ?_ ?_; (focus (simp [aev, h1]; done))) | with_reducible refine AW.block ?_ | ((first | ((first | refine arun_nil ?_ | refine arunD_nil ?_); refine hK _ ?_; clear hK K) | refine AW.skip ?_ | refine AW.exit ?_ | refine AW.ret ?_); simp only [thenA_exit, inBlockA_exit, if_true, if_false, Nat.reduceEqDiff, thenA_normal, inBlockA_normal, reduceIte, thenA_ret, inBlockA_ret, endQ_ret, endR_ret, endG_ret, endQ_normal, endR_normal, endG_normal, endF_ret, endF_normal])))
    obtain ⟨z1, z2, z3⟩ := rSB_none (r := .tup [.agg [.view .tight 0 [], .int .i64 0], .bool false]) rfl
    exact ⟨.tup [.agg [.view .tight 0 [], .int .i64 0], .bool false], by simp [ares, aresL, upd, rowsOf_cons], z1, z2 _, z3⟩
  cases h2 : nameB nm
  · have e : putOk s nm n = false := by simp [putOk, h2]
    rw [e]
    (repeat (first | with_reducible refine AW.seq ?_ | ((first | refine arun_kn 4 rfl (fun C hC => ?_) | refine arunD_kn 4 rfl (fun C hC => ?_)); (repeat ((conv => whnf); simp [h1, h2])); refine hC _ ?_; clear hC C; simp only [List.drop, Nat.reduceAdd]) | ((first | refine arun_kn 1 rfl (fun C hC => ?_) | refine arunD_kn 1 rfl (fun C hC => ?_)); (repeat ((conv => whnf); simp [h1, h2])); refine hC _ ?_; clear hC C; simp only [List.drop, Nat.reduceAdd]) | (refine arun_skip ?_ ?_; (focus (simp [awant, h1, h2]; done))) | (refine arun_c0 (ValidStore_AC s .loose) ?_; rintro _ rfl) | (refine arun_c0 (isName_AC nm) ?_; rintro _ rfl) | (refine AW.regionK [] (fun K hK => ?_)) | (refine AW.regionDK [] (pcs [] []) (by kernel_rfl) (by kernel_rfl) (fun K hK => ?_)) | (refine AW.condT ?_ ?_; (focus (simp [aev, h1, h2]; done))) | (refine AW.condF ?_ ?_; (focus (simp [aev, h1, h2]; done))) | with_reducible refine AW.block ?_ | ((first | ((first | refine arun_nil ?_ | refine arunD_nil ?_); refine hK _ ?_; clear hK K) | refine AW.skip ?_ | refine AW.exit ?_ | refine AW.ret ?_); simp only [thenA_exit, inBlockA_exit, if_true, if_false, Nat.reduceEqDiff, thenA_normal, inBlockA_normal, reduceIte, thenA_ret, inBlockA_ret, endQ_ret, endR_ret, endG_ret, endQ_normal, endR_normal, endG_normal, endF_ret, endF_normal])))
    obtain ⟨z1, z2, z3⟩ := rSB_none (r := .tup [.agg [.view .tight 0 [], .int .i64 0], .bool false]) rfl
    exact ⟨.tup [.agg [.view .tight 0 [], .int .i64 0], .bool false], by simp [ares, aresL, upd, rowsOf_cons], z1, z2 _, z3⟩
  cases h3 : validB n
  · have e : putOk s nm n = false := by simp [putOk, h3]
    rw [e]
    (repeat (first | with_reducible refine AW.seq ?_ | ((first | refine arun_kn 4 rfl (fun C hC => ?_) | refine arunD_kn 4 rfl (fun C hC => ?_)); (repeat ((conv => whnf); simp [h1, h2, h3])); refine hC _ ?_; clear hC C; simp only [List.drop, Nat.reduceAdd]) | ((first | refine arun_kn 1 rfl (fun C hC => ?_) | refine arunD_kn 1 rfl (fun C hC => ?_)); (repeat ((conv => whnf); simp [h1, h2, h3])); refine hC _ ?_; clear hC C; simp only [List.drop, Nat.reduceAdd]) | (refine arun_skip ?_ ?_; (focus (simp [awant, h1, h2, h3]; done))) | (refine arun_c0 (ValidStore_AC s .loose) ?_; rintro _ rfl) | (refine arun_c0 (isName_AC nm) ?_; rintro _ rfl) | (refine arun_c0 (ValidNode_AC n .loose) ?_; rintro _ rfl) | (refine AW.regionK [] (fun K hK => ?_)) | (refine AW.regionDK [] (pcs [] []) (by kernel_rfl) (by kernel_rfl) (fun K hK => ?_)) | (refine AW.condT ?_ ?_; (focus (simp [aev, h1, h2, h3]; done))) | (refine AW.condF ?_ ?_; (focus (simp [aev, h1, h2, h3]; done))) | with_reducible refine AW.block ?_ | ((first | ((first | refine arun_nil ?_ | refine arunD_nil ?_); refine hK _ ?_; clear hK K) | refine AW.skip ?_ | refine AW.exit ?_ | refine AW.ret ?_); simp only [thenA_exit, inBlockA_exit, if_true, if_false, Nat.reduceEqDiff, thenA_normal, inBlockA_normal, reduceIte, thenA_ret, inBlockA_ret, endQ_ret, endR_ret, endG_ret, endQ_normal, endR_normal, endG_normal, endF_ret, endF_normal])))
    obtain ⟨z1, z2, z3⟩ := rSB_none (r := .tup [.agg [.view .tight 0 [], .int .i64 0], .bool false]) rfl
    exact ⟨.tup [.agg [.view .tight 0 [], .int .i64 0], .bool false], by simp [ares, aresL, upd, rowsOf_cons], z1, z2 _, z3⟩
  replace pn := pn h3
  obtain ⟨q0, q1, q2, _⟩ := storeB_parts h1
  have hw : IntKind.i64.wrap (s.2 + 1) = s.2 + 1 := by rw [IntKind.wrap_i64]; omega
  obtain ⟨bo, hbo⟩ : ∃ bo, bo = putOk s nm n := ⟨_, rfl⟩
  have hb4 : bo = storeB (putS s nm n) := by rw [hbo]; simp [putOk, h1, h2, h3]
  rw [← hbo]
  (repeat (first | with_reducible refine AW.seq ?_ | ((first | refine arun_kn 4 rfl (fun C hC => ?_) | refine arunD_kn 4 rfl (fun C hC => ?_)); (repeat ((conv => whnf); simp [h1, h2, h3])); refine hC _ ?_; clear hC C; simp only [List.drop, Nat.reduceAdd]) | ((first | refine arun_kn 1 rfl (fun C hC => ?_) | refine arunD_kn 1 rfl (fun C hC => ?_)); (repeat ((conv => whnf); simp [h1, h2, h3])); refine hC _ ?_; clear hC C; simp only [List.drop, Nat.reduceAdd]) | (refine arun_skip ?_ ?_; (focus (simp [awant, h1, h2, h3]; done))) | (refine arun_c0 (ValidStore_AC s .loose) ?_; rintro _ rfl) | (refine arun_c0 (isName_AC nm) ?_; rintro _ rfl) | (refine arun_c0 (ValidNode_AC n .loose) ?_; rintro _ rfl) | (refine AW.regionK [] (fun K hK => ?_)) | (refine AW.regionDK [] (pcs [] []) (by kernel_rfl) (by kernel_rfl) (fun K hK => ?_)) | (refine AW.condT ?_ ?_; (focus (simp [aev, h1, h2, h3]; done))) | (refine AW.condF ?_ ?_; (focus (simp [aev, h1, h2, h3]; done))) | with_reducible refine AW.block ?_ | ((first | ((first | refine arun_nil ?_ | refine arunD_nil ?_); refine hK _ ?_; clear hK K) | refine AW.skip ?_ | refine AW.exit ?_ | refine AW.ret ?_); simp only [thenA_exit, inBlockA_exit, if_true, if_false, Nat.reduceEqDiff, thenA_normal, inBlockA_normal, reduceIte, thenA_ret, inBlockA_ret, endQ_ret, endR_ret, endG_ret, endQ_normal, endR_normal, endG_normal, endF_ret, endF_normal])))
  refine arun_callM (hw := by simp [awant]) (ha := rfl) (implCopyStoreF_ACM s (storeB_smlS h1)) (hargs := .cons (.base (.clo (Clo.cloTo (storeA_clo s)))) .nil) (hcan := can_of (Nat.le_refl _)) ?_
  rintro r l' ⟨ks, hks, hkn, rfl, rfl⟩ hA2
  refine ⟨_, _, _, back_itsF (A := 24) (by simp [usedOf_cons, usedOf_nil, upd]), ?_⟩
  have hA4 : ∀ b ∈ ks.flatMap itP, w0.wd.heap.size ≤ b := fun b hb => hN.ge (fun h => hA2 b (.inr ⟨(16, itsR ks), by simp, by rw [show (itsR ks).es = ks.map itF from rfl, atE_itsF]; exact hb⟩) h)
  have hlk : ks.length = s.1.length := by rw [← hks, List.length_map]
  unfold itsR
  (repeat (first | with_reducible refine AW.seq ?_ | ((first | refine arun_kn 4 rfl (fun C hC => ?_) | refine arunD_kn 4 rfl (fun C hC => ?_)); (repeat ((conv => whnf); simp [hw])); refine hC _ ?_; clear hC C; simp only [List.drop, Nat.reduceAdd]) | ((first | refine arun_kn 1 rfl (fun C hC => ?_) | refine arunD_kn 1 rfl (fun C hC => ?_)); (repeat ((conv => whnf); simp [hw])); refine hC _ ?_; clear hC C; simp only [List.drop, Nat.reduceAdd]) | (refine arun_skip ?_ ?_; (focus (simp [awant, hw]; done))) | (refine AW.condT ?_ ?_; (focus (simp [aev, hw]; done))) | (refine AW.condF ?_ ?_; (focus (simp [aev, hw]; done))) | with_reducible refine AW.block ?_ | ((first | ((first | refine arun_nil ?_ | refine arunD_nil ?_); refine hK _ ?_; clear hK K) | refine AW.skip ?_ | refine AW.exit ?_ | refine AW.ret ?_); simp only [thenA_exit, inBlockA_exit, if_true, if_false, Nat.reduceEqDiff, thenA_normal, inBlockA_normal, reduceIte, thenA_ret, inBlockA_ret, endQ_ret, endR_ret, endG_ret, endQ_normal, endR_normal, endG_normal, endF_ret, endF_normal])))
  (repeat (first | with_reducible refine AW.seq ?_ | ((first | refine arun_kn 4 rfl (fun C hC => ?_) | refine arunD_kn 4 rfl (fun C hC => ?_)); (repeat ((conv => whnf); simp [hw])); refine hC _ ?_; clear hC C; simp only [List.drop, Nat.reduceAdd]) | ((first | refine arun_kn 1 rfl (fun C hC => ?_) | refine arunD_kn 1 rfl (fun C hC => ?_)); (repeat ((conv => whnf); simp [hw])); refine hC _ ?_; clear hC C; simp only [List.drop, Nat.reduceAdd]) | (refine arun_skip ?_ ?_; (focus (simp [awant, hw]; done))) | (refine AW.regionK [] (fun K hK => ?_)) | (refine AW.condT ?_ ?_; (focus (simp [aev, hw]; done))) | (refine AW.condF ?_ ?_; (focus (simp [aev, hw]; done))) | with_reducible refine AW.block ?_ | ((first | ((first | refine arun_nil ?_ | refine arunD_nil ?_); refine hK _ ?_; clear hK K) | refine AW.skip ?_ | refine AW.exit ?_ | refine AW.ret ?_); simp only [thenA_exit, inBlockA_exit, if_true, if_false, Nat.reduceEqDiff, thenA_normal, inBlockA_normal, reduceIte, thenA_ret, inBlockA_ret, endQ_ret, endR_ret, endG_ret, endQ_normal, endR_normal, endG_normal, endF_ret, endF_normal])))
  refine AW.noteR 24 (r := itsR ks) (by simp [mkSt, upd, rowsOf_cons, itsR]) ?_
  refine AW.bound (fun N hNb => ?_)
  refine AW.regionDK [] (pcs [(6, 0, fun r => rLabX n r ∧ ∀ b ∈ atB r, ¬ (w0.note (atE (itsR ks).es)).A b)] [1008]) (by kernel_rfl) (by kernel_rfl) (fun K hK => ?_)
  (repeat (first | with_reducible refine AW.seq ?_ | ((first | refine arun_kn 4 rfl (fun C hC => ?_) | refine arunD_kn 4 rfl (fun C hC => ?_)); (repeat ((conv => whnf); simp [hw])); refine hC _ ?_; clear hC C; simp only [List.drop, Nat.reduceAdd]) | ((first | refine arun_kn 1 rfl (fun C hC => ?_) | refine arunD_kn 1 rfl (fun C hC => ?_)); (repeat ((conv => whnf); simp [hw])); refine hC _ ?_; clear hC C; simp only [List.drop, Nat.reduceAdd]) | (refine arun_skip ?_ ?_; (focus (simp [awant, hw]; done))) | (refine arun_cF (0) (pn) ?_; (rintro _ ⟨l, hl, hlp, rfl⟩ hA)) | (refine arunD_cF (0) (pn) (by exact rLabX_ex _ hNb) ?_; (rintro _ ⟨l, hl, hlp, rfl⟩ hA); intro _) | (refine AW.regionK [] (fun K hK => ?_)) | (refine AW.regionDK [] (pcs [] []) (by kernel_rfl) (by kernel_rfl) (fun K hK => ?_)) | (refine AW.condT ?_ ?_; (focus (simp [aev, hw]; done))) | (refine AW.condF ?_ ?_; (focus (simp [aev, hw]; done))) | with_reducible refine AW.block ?_ | ((first | ((first | refine arun_nil ?_ | refine arunD_nil ?_); refine hK _ ?_; clear hK K) | refine AW.skip ?_ | refine AW.exit ?_ | refine AW.ret ?_); simp only [thenA_exit, inBlockA_exit, if_true, if_false, Nat.reduceEqDiff, thenA_normal, inBlockA_normal, reduceIte, thenA_ret, inBlockA_ret, endQ_ret, endR_ret, endG_ret, endQ_normal, endR_normal, endG_normal, endF_ret, endF_normal])))
  have hA1 : ∀ b ∈ l.fp, ¬ w0.A b := fun b hb h => hA b (by rw [at_agg, ← labL_eq]; exact hb) (.inl h)
  have hA3 : ∀ b ∈ l.fp, ¬ b ∈ ks.flatMap itP := fun b hb h => hA b (by rw [at_agg, ← labL_eq]; exact hb) (.inr (by rw [show (itsR ks).es = ks.map itF from rfl, atE_itsF]; exact h))
  have hpt := putAtF_ACG ks (nm, s.2 + 1, l) (by rw [hks]; exact storeB_asc h1) (by omega)
  have hps := putJ_S s nm n h1 hks hl
  have hcl := itFA_clo (nm, s.2 + 1, l)
  rw [itF_eq] at hpt hcl
  dsimp only at hpt hcl
  have hnk := putJ_fp (l := ks) (it := (nm, s.2 + 1, l)) hkn hlp hA3
  have hgk : ∀ b ∈ (putJ ks (nm, s.2 + 1, l)).flatMap itP, w0.wd.heap.size ≤ b := fun b hb => (putJ_mem hb).elim (hA4 b) (fun h => hN.ge (hA1 b h))
  rw [hlk] at hpt
  generalize putJ ks (nm, s.2 + 1, l) = js at *
  refine arunD_callG1 (g := fun k => .own k js.length) (R := itsR js) [(1000, itsR ks)] (fun _ => 24) 37 rfl (by simp [awant]) rfl hpt (by simp) (MvR.same (by simp [upd, itsR]) (fun e he c hc => (itsF_pur ks e he c hc).clo) MvR.nil)
    (.cons (.base (.own (by simp) rfl)) (.cons (.base (.clo (Clo.cloTo hcl))) .nil)) (can_of (Nat.le_refl _)) (by simp [upd]) (itsF_pur _) (fun e he c hc => itsF_in _ e he c hc) (fun k => .base (.base (.own (by simp) rfl))) (in_own.2 (by simp)) ?_
  unfold itsR
  have hvs : AC Try.prog 86 [.agg [.view .lent 7 (js.map itF), .int .i64 (s.2 + 1)]] 0 (fun r => r = .bool bo) := by
    have := AC.arg (ValidStore_AC (putS s nm n) .lent) (bs := [.agg [.view .lent 7 (js.map itF), .int .i64 (s.2 + 1)]]) (.cons (by
      rw [← hps]
      exact Wk.agg (.cons (Wk.viewS (itsF_wk js)) (.cons (Wk.refl _) .nil))) .nil)
    rw [hb4]; exact this
  have hclj : ∀ e ∈ js.map itF, ∀ c ∈ e, Clo c := fun e he c hc => (itsF_pur js e he c hc).clo
  have hjl : (js.map itF).length = js.length := List.length_map _
  cases bo
  · (repeat (first | with_reducible refine AW.seq ?_ | ((first | refine arun_kn 4 rfl (fun C hC => ?_) | refine arunD_kn 4 rfl (fun C hC => ?_)); (repeat ((conv => whnf); simp [hjl])); refine hC _ ?_; clear hC C; simp only [List.drop, Nat.reduceAdd]) | ((first | refine arun_kn 1 rfl (fun C hC => ?_) | refine arunD_kn 1 rfl (fun C hC => ?_)); (repeat ((conv => whnf); simp [hjl])); refine hC _ ?_; clear hC C; simp only [List.drop, Nat.reduceAdd]) | (refine arun_skip ?_ ?_; (focus (simp [awant, hjl]; done))) | (refine arun_cL (0) (hvs) ?_; rintro _ rfl) | (refine AW.regionK [] (fun K hK => ?_)) | (refine AW.regionDK [] (pcs [] []) (by kernel_rfl) (by kernel_rfl) (fun K hK => ?_)) | (refine AW.condT ?_ ?_; (focus (simp [aev, hjl]; done))) | (refine AW.condF ?_ ?_; (focus (simp [aev, hjl]; done))) | with_reducible refine AW.block ?_ | ((first | ((first | refine arun_nil ?_ | refine arunD_nil ?_); refine hK _ ?_; clear hK K) | refine AW.skip ?_ | refine AW.exit ?_ | refine AW.ret ?_); simp only [thenA_exit, inBlockA_exit, if_true, if_false, Nat.reduceEqDiff, thenA_normal, inBlockA_normal, reduceIte, thenA_ret, inBlockA_ret, endQ_ret, endR_ret, endG_ret, endQ_normal, endR_normal, endG_normal, endF_ret, endF_normal])))
    obtain ⟨z1, z2, z3⟩ := rSB_none (r := .tup [.agg [.view .tight 0 [], .int .i64 0], .bool false]) rfl
    exact ⟨.tup [.agg [.view .tight 0 [], .int .i64 0], .bool false], by simp [ares, aresL, upd, rowsOf_cons], z1, z2 _, z3⟩
  · (repeat (first | with_reducible refine AW.seq ?_ | ((first | refine arun_kn 4 rfl (fun C hC => ?_) | refine arunD_kn 4 rfl (fun C hC => ?_)); (repeat ((conv => whnf); simp [hjl])); refine hC _ ?_; clear hC C; simp only [List.drop, Nat.reduceAdd]) | ((first | refine arun_kn 1 rfl (fun C hC => ?_) | refine arunD_kn 1 rfl (fun C hC => ?_)); (repeat ((conv => whnf); simp [hjl])); refine hC _ ?_; clear hC C; simp only [List.drop, Nat.reduceAdd]) | (refine arun_skip ?_ ?_; (focus (simp [awant, hjl]; done))) | (refine arun_cL (0) (hvs) ?_; rintro _ rfl) | (refine AW.condT ?_ ?_; (focus (simp [aev, hjl]; done))) | (refine AW.condF ?_ ?_; (focus (simp [aev, hjl]; done))) | with_reducible refine AW.block ?_ | ((first | ((first | refine arun_nil ?_ | refine arunD_nil ?_); refine hK _ ?_; clear hK K) | refine AW.skip ?_ | refine AW.exit ?_ | refine AW.ret ?_); simp only [thenA_exit, inBlockA_exit, if_true, if_false, Nat.reduceEqDiff, thenA_normal, inBlockA_normal, reduceIte, thenA_ret, inBlockA_ret, endQ_ret, endR_ret, endG_ret, endQ_normal, endR_normal, endG_normal, endF_ret, endF_normal])))
    refine AW.holdF 37 hN (fun g hg ht hr => ?_)
    have f1 := hr 37 ⟨false, 116, 7, js.map itF⟩ (by simp [upd, rowsOf_cons])
    clear ht hr
    have hvs2 : AC Try.prog 86 [.agg [.view (.fr g) 7 (js.map itF), .int .i64 (s.2 + 1)]] 0 (fun r => r = .bool true) := by
      have := AC.arg (ValidStore_AC (putS s nm n) .loose) (bs := [.agg [.view (.fr g) 7 (js.map itF), .int .i64 (s.2 + 1)]]) (.cons (by
        rw [← hps]
        exact Wk.agg (.cons (Wk.view (by simp) (itsF_wk js)) (.cons (Wk.refl _) .nil))) .nil)
      rw [← hb4] at this; exact this
    have hclg : Clo (.agg [.view (.fr g) 7 (js.map itF), .int .i64 (s.2 + 1)]) := clo_agg (by
      simp only [List.forall_mem_cons, List.not_mem_nil, false_implies, implies_true, and_true]
      exact ⟨clo_view hclj, clo_int⟩)
    (repeat (first | with_reducible refine AW.seq ?_ | ((first | refine arun_kn 4 rfl (fun C hC => ?_) | refine arunD_kn 4 rfl (fun C hC => ?_)); (repeat ((conv => whnf); simp [ASt.holdF, AV.subL, AV.sub, Row.sub, rowsOf_cons, upd, itsF_sub, hjl])); refine hC _ ?_; clear hC C; simp only [List.drop, Nat.reduceAdd]) | ((first | refine arun_kn 1 rfl (fun C hC => ?_) | refine arunD_kn 1 rfl (fun C hC => ?_)); (repeat ((conv => whnf); simp [ASt.holdF, AV.subL, AV.sub, Row.sub, rowsOf_cons, upd, itsF_sub, hjl])); refine hC _ ?_; clear hC C; simp only [List.drop, Nat.reduceAdd]) | (refine arun_skip ?_ ?_; (focus (simp [awant, ASt.holdF, AV.subL, AV.sub, Row.sub, rowsOf_cons, upd, itsF_sub, hjl]; done))) | (refine arun_c0 (hvs2) ?_; rintro _ rfl) | (refine AW.regionK [] (fun K hK => ?_)) | (refine AW.regionDK [] (pcs [] []) (by kernel_rfl) (by kernel_rfl) (fun K hK => ?_)) | (refine AW.condT ?_ ?_; (focus (simp [aev, ASt.holdF, AV.subL, AV.sub, Row.sub, rowsOf_cons, upd, itsF_sub, hjl]; done))) | (refine AW.condF ?_ ?_; (focus (simp [aev, ASt.holdF, AV.subL, AV.sub, Row.sub, rowsOf_cons, upd, itsF_sub, hjl]; done))) | with_reducible refine AW.block ?_ | ((first | ((first | refine arun_nil ?_ | refine arunD_nil ?_); refine hK _ ?_; clear hK K) | refine AW.skip ?_ | refine AW.exit ?_ | refine AW.ret ?_); simp only [thenA_exit, inBlockA_exit, if_true, if_false, Nat.reduceEqDiff, thenA_normal, inBlockA_normal, reduceIte, thenA_ret, inBlockA_ret, endQ_ret, endR_ret, endG_ret, endQ_normal, endR_normal, endG_normal, endF_ret, endF_normal])))
    rw [atE_itsF] at f1
    refine ⟨.tup [.agg [.view (.fr g) 7 (js.map itF), .int .i64 (s.2 + 1)], .bool true], by simp [ares, aresL, upd, rowsOf_cons], tup2_pur (pur_agg ?_) pur_bool, fun b hb => ?_, _, Wk.refl _, fun _ h => h, g, js, ?_, stoP_nodup hnk f1, ?_⟩
    · simp only [List.forall_mem_cons, List.not_mem_nil, false_implies, implies_true, and_true]
      exact ⟨pur_view (by simp) (itsF_pur _), pur_int⟩
    · rw [at_sto] at hb
      exact stoP_ge hgk hg b hb
    · unfold okS
      rw [if_pos rfl, ← hps]
    · unfold okS
      rw [if_pos rfl, ← hps]
end Go.Proofs.Ytgfnmhfdmmnaoaa.Eng
-- EV: store
namespace Go.Proofs.Ytgfnmhfdmmnaoaa.Eng
open Go Go.RowKit
theorem items_to_rep {w : World} {S : Nat → Prop} {a : Option Addr} {c : Nat} {l : List Itm} (h : SlR itmRep w S a c l) : Rep w (pureC nil S none) (.view .loose 7 (l.map itemL)) (.slice a l.length c) := by
  obtain ⟨h1, h2, h3⟩ := h
  refine rep_view.2 ⟨a, c, by rw [List.length_map], fun h => (by cases h), by rw [List.length_map]; exact h1, by rw [List.length_map]; exact h2, fun e he => ?_, ?_⟩
  · obtain ⟨x, _, rfl⟩ := List.mem_map.1 he
    exact itemL_len x
  · rcases h3 with rfl | ⟨b, o, ha, hb, hk⟩
    · exact .inl rfl
    · refine .inr ⟨b, o, ha, hb, RepE.of_get (sz := 7) (fun e he => ?_) (fun i e he => ?_)⟩
      · obtain ⟨x, _, rfl⟩ := List.mem_map.1 he
        exact itemL_len x
      · rw [List.getElem?_map, Option.map_eq_some_iff] at he
        obtain ⟨x, hx, rfl⟩ := he
        obtain ⟨hi, rfl⟩ := List.getElem?_eq_some_iff.1 hx
        obtain ⟨cs, hcs, hr⟩ := hk i hi
        obtain ⟨na, nc, ka, kc, rfl, hsz, hc⟩ := itmRep_open hr
        rw [itmRep_n] at hcs
        obtain ⟨r2, r3, r4⟩ := nodeC_to_rep _ _ _ _ _ hc
        have p0 : w.cell? ⟨b, o + i * 7, none⟩ = _ := hcs 0 _ rfl
        have p1 := hcs 1 _ rfl
        have p2 := hcs 2 _ rfl
        have p3 := hcs 3 _ rfl
        have p4 := hcs 4 _ rfl
        have p5 := hcs 5 _ rfl
        have p6 := hcs 6 _ rfl
        rw [itemL_eq]
        unfold RepC
        refine ⟨⟨_, p0, rfl, rep_str.2 ⟨rfl, hsz⟩⟩, ?_⟩
        unfold RepC
        refine ⟨⟨_, p1, rfl, rep_int.2 rfl⟩, ?_⟩
        unfold RepC
        refine ⟨⟨_, p2, rfl, rep_int.2 rfl⟩, ?_⟩
        unfold RepC
        refine ⟨⟨_, p3, rfl, rep_int.2 rfl⟩, ?_⟩
        unfold RepC
        refine ⟨⟨_, p4, rfl, r2⟩, ?_⟩
        unfold RepC
        refine ⟨⟨_, p5, rfl, r3⟩, ?_⟩
        unfold RepC
        refine ⟨⟨_, p6, rfl, r4⟩, ?_⟩
        unfold RepC
        trivial
theorem rep_of_store {w : World} {S : Nat → Prop} {s : Sto} {v : Value} (h : RV stoRep packA w S s v) : Rep w (pureC nil S none) (storeT .loose s) v := by
  obtain ⟨a, c, rfl, hs⟩ := sto_open h
  unfold storeT stoV
  refine rep_agg.2 ⟨[_, _], rfl, ?_, repL2 (items_to_rep hs) (rep_int.2 rfl)⟩
  intro u hu
  simp only [List.mem_cons, List.not_mem_nil, or_false] at hu
  rcases hu with rfl | rfl <;> rfl
end Go.Proofs.Ytgfnmhfdmmnaoaa.Eng
namespace Go.Proofs.Ytgfnmhfdmmnaoaa
open Go.RowKit
theorem cntK_eqV (n : Nd) : cntK n = 3 + n.names.length + cntL n.kids := by cases n; simp [cntK]
theorem cntK_good : ∀ n : Nd, Good n → cntK n ≤ 9 * n.count := Nd.ind' _ (fun n ih h => by
  have aux : ∀ l : List Nd, (∀ k ∈ l, Good k ∧ (Good k → cntK k ≤ 9 * k.count)) → cntL l ≤ 9 * countL l := fun l => by
    induction l with
    | nil => intro _; simp [cntL]
    | cons x l ihl =>
      intro hl
      have h1 := (hl x (by simp)).2 (hl x (by simp)).1
      have h2 := ihl (fun k hk => hl k (by simp [hk]))
      rw [cntL, countL]
      omega
  have h1 := aux n.kids (fun k hk => ⟨h.kid hk, ih k hk⟩)
  have h2 := h.len
  have h3 := h.kids6
  rw [cntK_eqV, Nd.count_eq]
  omega)
theorem cntT_valid {n : Nd} (h : validB n = true) : cntT n ≤ 360 := by
  unfold validB at h
  rw [Bool.and_eq_true, decide_eq_true_eq] at h
  have hg : Good n := ⟨5, h.1⟩
  have h1 := cntK_good n hg
  rw [cntK_eqV] at h1
  unfold cntT
  omega
end Go.Proofs.Ytgfnmhfdmmnaoaa
-- EV: store fresh
namespace Go.Proofs.Ytgfnmhfdmmnaoaa.Eng
open Go Go.RowKit
theorem sto_of_rep {w : World} {ρ : Cx} {s : Sto} {v : Value} (h : Rep w ρ (storeA s) v) : RV stoRep packA w Go.Proofs.Ytgfnmhfdmmnaoaa.any s v := by
  obtain ⟨vs, rfl, _, h2⟩ := rep_agg.1 h
  obtain ⟨v0, v1, rfl, q0, q1⟩ := repL2_inv h2
  rw [rep_int] at q1
  subst q1
  obtain ⟨a, c, rfl, hs⟩ := items_of_rep q0
  exact sto_shut (s := s) hs
theorem arg_sto {w : World} {s : Sto} {v : Value} (h : RV stoRep packA w Go.Proofs.Ytgfnmhfdmmnaoaa.any s v) : Rep w (pureC nil (fun k => k < w.heap.size) none) (storeA s) v := rep_of_store h.under
theorem ac_sb {P : Program} {f : FuncId} {args : List AV} {m : Sto} {b : Bool} (h : AC P f args 0 (fun r => r = .tup [storeA m, .bool b])) (w : World) (vs : List Value) (hargs : RepL w (pureC nil (fun k => k < w.heap.size) none) args vs) :
    Calls P f vs.toArray w fun e w' => ∃ v, e = .returned (.tuple #[v, .bool b]) ∧ Grow w w' ∧ RV stoRep packA w' Go.Proofs.Ytgfnmhfdmmnaoaa.any m v := by
  refine (h.2 w nil (fun k => k < w.heap.size) none 0 vs (fun _ h => h.elim) (fun _ h => h) (fun _ h => by cases h) hargs).mono ?_
  rintro e w' ⟨v, r, S', rfl, hx, hS1, hS2, _, hr, rfl⟩
  obtain ⟨us, rfl, h2⟩ := rep_tup.1 hr
  obtain ⟨v0, v1, rfl, q0, q1⟩ := repL2_inv h2
  rw [rep_bool] at q1
  subst q1
  exact ⟨v0, rfl, Grow.ofNone hx, sto_of_rep q0⟩
theorem ac_of_sb {P : Program} {f : FuncId} {args : List AV} {m : Sto} {b : Bool} (h : ACF P f args 0 (rSB m b)) : AC P f args 0 (fun r => r = .tup [storeA m, .bool b]) := by
  refine AC.weak (h.toAC.mono ?_)
  rintro r ⟨g, ks, hm, _, rfl⟩
  refine ⟨.tup [storeA m, .bool b], Wk.tup (.cons (Wk.agg (.cons ?_ (.cons (Wk.refl _) .nil))) (.cons (Wk.refl _) .nil)), rfl⟩
  rw [← congrArg Prod.fst hm]
  exact Wk.view (by simp) (itsF_wk ks)
theorem arg_str {w : World} {ρ : Cx} {x : ByteArray} (h : x.size ≤ big) : Rep w ρ (.str x) (.string x) := rep_str.2 ⟨rfl, h⟩
theorem dropL_sub (nm : ByteArray) : ∀ (l : List Itm), (dropL nm l).Sublist l
  | [] => .slnil
  | x :: l => by
    unfold dropL
    split
    · exact (dropL_sub nm l).cons _
    · exact (dropL_sub nm l).cons_cons _
end Go.Proofs.Ytgfnmhfdmmnaoaa.Eng
namespace Go.Proofs.Ytgfnmhfdmmnaoaa
open Go.RowKit
theorem cntItm_valid {x : Itm} (h : validB x.2.2 = true) : cntItm x ≤ 400 := by
  have h1 := cntT_valid h
  have h2 := cntK_eqV x.2.2
  unfold cntT at h1
  unfold cntItm
  omega
theorem cntR_valid : ∀ (l : List Itm), (∀ x ∈ l, validB x.2.2 = true) → cntR cntItm l ≤ 400 * l.length
  | [], _ => by simp [cntR]
  | x :: l, h => by
    have h1 := cntItm_valid (h x (by simp))
    have h2 := cntR_valid l (fun y hy => h y (by simp [hy]))
    simp only [cntR, List.map_cons, List.sum_cons, List.length_cons] at h2 ⊢
    omega
theorem storeB_items {s : Sto} (h : storeB s = true) : s.1.length ≤ 10 ∧ ∀ x ∈ s.1, validB x.2.2 = true := ⟨(storeB_parts h).1, fun x hx => by
  have := (storeB_parts h).2.2.2.1 x hx
  unfold itmB at this
  simp only [Bool.and_eq_true] at this
  exact this.2⟩
def drpN (s : Sto) (nm : ByteArray) : Sto := Eng.okS (Eng.dropOk s nm) (Eng.dropS s nm)
def drpB (s : Sto) (nm : ByteArray) : Bool := Eng.dropOk s nm
theorem drpN_cnt (s : Sto) (nm : ByteArray) : cntSto (drpN s nm) ≤ 4000 := by
  unfold drpN Eng.okS
  cases h : Eng.dropOk s nm
  · simp [cntSto, cntR]
  · have h1 : storeB s = true := by
      unfold Eng.dropOk at h
      simp only [Bool.and_eq_true] at h
      exact h.1.1
    obtain ⟨q1, q2⟩ := storeB_items h1
    have hs := Eng.dropL_sub nm s.1
    have := cntR_valid (Eng.dropL nm s.1) (fun x hx => q2 x (hs.subset hx))
    have hl := hs.length_le
    show cntR cntItm (Eng.dropL nm s.1) ≤ 4000
    omega
theorem implDropItem_ok (s : Sto) (nm : ByteArray) (v : Value) (w : World) (hb : nm.size ≤ big) (h : RV stoRep packA w any s v) :
    Calls Try.prog 52 #[v, .string nm] w fun e w' => ∃ r fp, e = .returned (.tuple #[r, .bool (drpB s nm)]) ∧ Grow w w' ∧ FV stoRep packA w' (drpN s nm) r fp ∧ Free w.heap.size w' fp :=
  Eng.acf_sb (Eng.implDrop_ACF s nm) w [v, .string nm] (Eng.args2 (Eng.arg_sto h) (Eng.arg_str hb))
theorem specDropItem_ok (s : Sto) (nm : ByteArray) (v : Value) (w : World) (hb : nm.size ≤ big) (h : RV stoRep packA w any s v) :
    Calls Try.prog 51 #[v, .string nm] w fun e w' => ∃ r, e = .returned (.tuple #[r, .bool (drpB s nm)]) ∧ Grow w w' ∧ RV stoRep packA w' any (drpN s nm) r :=
  Eng.ac_sb (Eng.specDrop_AC .loose s nm) w [v, .string nm] (Eng.args2 (Eng.arg_sto h) (Eng.arg_str hb))
end Go.Proofs.Ytgfnmhfdmmnaoaa
-- EV: store fresh
namespace Go.Proofs.Ytgfnmhfdmmnaoaa
open Go.RowKit
def ptN (s : Sto) (nm : ByteArray) (n : Nd) : Sto := Eng.okS (Eng.putOk s nm n) (Eng.putS s nm n)
def ptB (s : Sto) (nm : ByteArray) (n : Nd) : Bool := Eng.putOk s nm n
theorem ptN_cnt (s : Sto) (nm : ByteArray) (n : Nd) : cntSto (ptN s nm n) ≤ 4000 := by
  unfold ptN Eng.okS
  cases h : Eng.putOk s nm n
  · simp [cntSto, cntR]
  · have h1 : storeB (Eng.putS s nm n) = true := by
      unfold Eng.putOk at h
      simp only [Bool.and_eq_true] at h
      exact h.2
    obtain ⟨q1, q2⟩ := storeB_items h1
    have := cntR_valid _ q2
    show cntR cntItm (Eng.putS s nm n).1 ≤ 4000
    omega
theorem implPutItem_ok (s : Sto) (nm : ByteArray) (n : Nd) (v u : Value) (w : World) (hb : nm.size ≤ big) (h : RV stoRep packA w any s v) (k : RV nodeRep packA w any n u) :
    Calls Try.prog 33 #[v, .string nm, u] w fun e w' => ∃ r fp, e = .returned (.tuple #[r, .bool (ptB s nm n)]) ∧ Grow w w' ∧ FV stoRep packA w' (ptN s nm n) r fp ∧ Free w.heap.size w' fp :=
  Eng.acf_sb (Eng.implPut_ACF s nm n) w [v, .string nm, u] (Eng.args3 (Eng.arg_sto h) (Eng.arg_str hb) (Eng.arg_node k))
theorem specPutItem_AC0 (s : Sto) (nm : ByteArray) (n : Nd) : Eng.AC Try.prog 30 [Eng.storeA s, .str nm, Eng.nodeA n] 0 (fun r => r = .tup [Eng.storeA (ptN s nm n), .bool (ptB s nm n)]) := by
  have := Eng.specPut_AC .loose .loose s nm n
  rw [Eng.nodeT_loose] at this
  exact this
theorem implPutItem_hcon (s : Sto) (nm : ByteArray) (n : Nd) : Eng.AC Try.prog 33 [Eng.storeA s, .str nm, Eng.nodeA n] 0 (fun r => r = .tup [Eng.storeA (ptN s nm n), .bool (ptB s nm n)]) := Eng.ac_of_sb (Eng.implPut_ACF s nm n)
end Go.Proofs.Ytgfnmhfdmmnaoaa
namespace Go.Proofs.Ytgfnmhfdmmnaoaa.Eng
open Go Go.RowKit
def onlyN (R : Act → World → Prop) : Exit → Act → World → Prop
  | .normal, a, w => R a w
  | _, _, _ => False
theorem lets_onlyN {R : Act → World → Prop} (h : LetsOut (onlyN R)) : False := by
  obtain ⟨_, _, h⟩ := h
  exact h
def Keeps (ops : Array Oper) (a0 a : Act) : Prop := a.tmps.size = a0.tmps.size ∧ ∀ t, (∀ (i : Nat) o, ops[i]? = some o → o.dst ≠ some t) → a.tmps[t]? = a0.tmps[t]?
theorem keeps_put {ops : Array Oper} {a0 a : Act} {i : Nat} {o : Oper} {v : Value} (h : Keeps ops a0 a) (ho : ops[i]? = some o) : Keeps ops a0 (a.put o.dst v) := by
  unfold Act.put
  split
  · rename_i d hd
    refine ⟨by simp [h.1], fun t ht => ?_⟩
    have hne : d ≠ t := fun e => ht i o ho (by rw [hd, e])
    simp only [Array.getElem?_setIfInBounds_ne hne]
    exact h.2 t ht
  · exact h
section
variable {P : Program} {ops : Array Oper} {R R' : Act → World → Prop} {a0 : Act}
theorem wp_keeps {o : Oper} {i : Nat} {a : Act} {w : World} {K : Act → World → Prop} (ho : ops[i]? = some o) (hk : Keeps ops a0 a) (h : o.wp P a w K (onlyN R)) : o.wp P a w (fun a' w' => K a' w' ∧ Keeps ops a0 a') (onlyN R') := by
  unfold Oper.wp at *
  generalize (execOp a.eval o).run P w = r at *
  cases r with
  | ok n w' =>
    cases n <;> simp only [Oper.upon] at h ⊢
    case value v => exact ⟨h, keeps_put hk ho⟩
    case skip => exact ⟨h, keeps_put hk ho⟩
    case defer d => exact ⟨h, keeps_put (a := { a with defers := d :: a.defers }) hk ho⟩
    case enter f args =>
      refine Calls.mono h (fun e w'' he => ?_)
      cases e with
      | returned v => exact ⟨he, keeps_put hk ho⟩
      | panicked c => exact he.elim
      | outgrown => exact (lets_onlyN he).elim
    case row r args => exact Rows.mono h (fun v w'' he => ⟨he, keeps_put hk ho⟩)
    all_goals exact h
  | halt x w' => cases x <;> simp only [Oper.upon] at h ⊢ <;> exact h
theorem wpOp_keeps {i : Nat} {a : Act} {w : World} {K : Act → World → Prop} (hk : Keeps ops a0 a) (h : wpOp P ops (onlyN R) i K a w) : wpOp P ops (onlyN R') i (fun a' w' => K a' w' ∧ Keeps ops a0 a') a w := by
  unfold wpOp at *
  cases ho : ops[i]? with
  | none => simp only [ho] at h ⊢; exact ⟨h, hk⟩
  | some o =>
    simp only [ho] at h ⊢
    split
    · rename_i hw
      simp only [hw, if_true] at h
      rcases h with h | ⟨_, h⟩
      · exact .inl (wp_keeps ho hk h)
      · exact (lets_onlyN h).elim
    · rename_i hw
      simp only [hw] at h
      exact ⟨h, keeps_put hk ho⟩
theorem wpAny_keeps {md : Region.Mode} : ∀ (fuel : Nat) (listed : Array Bool) (a : Act) (w : World), wpAny P md ops (onlyN R) fuel listed a w → Keeps ops a0 a → wpAny P md ops (onlyN (fun a' w' => R a' w' ∧ Keeps ops a0 a')) fuel listed a w
  | 0, _, _, _, h, hk => ⟨h.1, h.2, hk⟩
  | fuel + 1, listed, a, w, h, hk => ⟨fun h0 => ⟨h.1 h0, hk⟩, fun i hi => wpOp_mono (fun a' w' h' => wpAny_keeps fuel _ a' w' h'.1 h'.2) (wpOp_keeps hk (h.2 i hi))⟩
end
section
variable {P : Program} {T : Tab} {md : List Nat} {pc : Pc} {S : Nat → Prop}
theorem region_world (hT : Tab.Ok P T) (hm : P.follows .mixedOrders = true) {id : Nat} {l : List Oper} {K : ASt → Prop} {Q : Exit → Act → World → Prop} (hB : Region.lexB .any l.toArray = true) (hcmp : cmpL md pc.2 l.toArray = true)
    {w : World} {a : Act} {s : ASt} {ρ : Cx} (h : SR P (W0.of w) S none 0 w a s ρ) (hr : arunD P T md (W0.of w).A pc l.toArray K l 0 s)
    (hQ : ∀ s' w' a' ρ', SR P (W0.of w) S none 0 w' a' s' ρ' → K s' → Keeps l.toArray a a' → Q .normal a' w') : (Code.region id l.toArray true).wp P Q a w := by
  simp only [Region.lexB, Bool.and_eq_true] at hB
  obtain ⟨h1, _⟩ := h.grow ((Ext.refl nil w).drew)
  have h2 := aAny_lex (P := P) (T := T) (md := md) (pc := pc) (ops := l.toArray) (K := K) (Av := (W0.of w).A) hcmp l 0 (Array.replicate l.toArray.size false) s (by simp) (by simpa using hB.2) (fun i o _ hl => by simp [Array.getElem?_replicate] at hl; split at hl <;> simp at hl) h1.inv hr
  have h3 : aAny P T md (W0.of w).A pc l.toArray K l.toArray.size (Array.replicate l.toArray.size false) s := by simpa using h2
  have h4 := wpAny_of_aAny (P := P) (T := T) (md := md) (pc := pc) (ops := l.toArray) (K := K) (Av := (W0.of w).A) hT (fun _ h => h) (Q := onlyN (fun a' w' => ∃ s' ρ', SR P (W0.of w) S none 0 w' a' s' ρ' ∧ K s')) (fun s' w' a' ρ' hs hk => ⟨s', ρ', hs, hk⟩) _ _ s _ a ρ h1 h3
  refine wp_mono (wp_region_any hm (wpAny_keeps (a0 := a) _ _ _ _ h4 ⟨rfl, fun _ _ => rfl⟩)) ?_
  intro e a' w' h5
  cases e with
  | normal =>
    obtain ⟨⟨s', ρ', h6, h7⟩, h8⟩ := h5
    exact hQ s' w' a' ρ' h6 h7 h8
  | _ => exact h5.elim
theorem region_worldK (hT : Tab.Ok P T) (hm : P.follows .mixedOrders = true) (md : List Nat) (pc : Pc) {id : Nat} {l : List Oper} (K : ASt → Prop) {Q : Exit → Act → World → Prop} (hB : Region.lexB .any l.toArray = true) (hcmp : cmpL md pc.2 l.toArray = true)
    {w : World} {a : Act} {s : ASt} {ρ : Cx} (h : SR P (W0.of w) S none 0 w a s ρ) (hr : ∀ K' : ASt → Prop, (∀ s', K s' → K' s') → ARunD P T md (W0.of w).A pc l.toArray K' l 0 s)
    (hQ : ∀ s' w' a' ρ', SR P (W0.of w) S none 0 w' a' s' ρ' → K s' → Keeps l.toArray a a' → Q .normal a' w') : (Code.region id l.toArray true).wp P Q a w :=
  region_world hT hm hB hcmp h (hr K (fun _ h => h)).out hQ
def midSt (cs : List AV) : ASt := { tmps := cs, rows := fun _ => none, used := fun id => decide (1000 ≤ id), rd := none }
theorem mid_SR {w : World} {a : Act} {cs : List AV} (hd : a.defers = []) (h : RepL w (pureC nil (fun b => b < w.heap.size) none) cs a.tmps.toList) : SR P (W0.of w) (fun b => b < w.heap.size) none 0 w a (midSt cs) (initC nil (fun b => b < w.heap.size) none) := by
  have h : RepL w (initC nil (fun b => b < w.heap.size) none) cs a.tmps.toList := RepL.le (ρ := pureC nil (fun b => b < w.heap.size) none) (ρ' := initC nil (fun b => b < w.heap.size) none) ⟨fun _ h => ⟨h, fun _ => rfl⟩, fun _ h => ⟨h, fun _ => rfl⟩, fun _ h => False.elim h, fun _ h => h⟩ h
  exact ⟨h, hd, Ext.refl _ _, fun _ h => h, fun b hb => ⟨hb, .inl hb⟩, fun id => by simp [midSt, initC], (fun id r h => by simp [midSt] at h), fun _ _ => rfl, (fun _ _ _ _ _ h => by cases h), (fun _ _ _ h => by cases h), (fun _ h => by cases h), (fun _ h => by cases h), fun _ => rfl, (fun _ h => by cases h), (fun _ h => h.elim), (fun _ _ h => by cases h), fun id hid => by simp [midSt, hid], fun _ h => h⟩
end
theorem repL_slots {w : World} {ρ : Cx} : ∀ (n k : Nat) (L : List (Nat × AV)) (vs : List Value), vs.length = n → L.Pairwise (fun p q => p.1 < q.1) → (∀ p ∈ L, k ≤ p.1 ∧ ∃ v, vs[p.1 - k]? = some v ∧ Rep w ρ p.2 v) → RepL w ρ (slots k n L) vs
  | 0, k, L, vs, hl, _, _ => by
    rw [List.length_eq_zero_iff.1 hl, slots]; unfold RepL; rfl
  | n + 1, k, [], v :: vs, hl, _, _ => by
    rw [slots]; unfold RepL
    exact ⟨v, vs, rfl, rep_any _, repL_slots n (k + 1) [] vs (by simpa using hl) .nil (fun p hp => by cases hp)⟩
  | n + 1, k, (t, c) :: l, v :: vs, hl, hp, h => by
    rw [List.pairwise_cons] at hp
    have h0 := h (t, c) (by simp)
    have tail : ∀ L' : List (Nat × AV), (∀ p ∈ L', p ∈ (t, c) :: l ∧ k < p.1) → ∀ p ∈ L', k + 1 ≤ p.1 ∧ ∃ v, vs[p.1 - (k + 1)]? = some v ∧ Rep w ρ p.2 v := fun L' hL p hpm => by
      obtain ⟨q1, q2⟩ := hL p hpm
      obtain ⟨_, u, q3, q4⟩ := h p q1
      refine ⟨q2, u, ?_, q4⟩
      rw [show p.1 - k = (p.1 - (k + 1)) + 1 by omega, List.getElem?_cons_succ] at q3
      exact q3
    rw [slots]
    split
    · rename_i ht
      subst ht
      unfold RepL
      obtain ⟨_, u, q3, q4⟩ := h0
      rw [Nat.sub_self, List.getElem?_cons_zero] at q3
      cases q3
      exact ⟨v, vs, rfl, q4, repL_slots n (t + 1) l vs (by simpa using hl) hp.2 (tail l (fun p hpm => ⟨by simp [hpm], hp.1 p hpm⟩))⟩
    · rename_i ht
      have hkt : k < t := by have := h0.1; dsimp only at this; omega
      unfold RepL
      refine ⟨v, vs, rfl, rep_any _, repL_slots n (k + 1) ((t, c) :: l) vs (by simpa using hl) (List.pairwise_cons.2 hp) (tail _ (fun p hpm => ⟨hpm, ?_⟩))⟩
      rcases List.mem_cons.1 hpm with rfl | hpm
      · exact hkt
      · have := hp.1 p hpm; dsimp only at this; omega
  | n + 1, k, L, [], hl, _, _ => by simp at hl
def dstsIn (D : List Nat) (ops : Array Oper) : Bool := ops.toList.all fun o => match o.dst with | some d => D.contains d | none => true
def laidOver (f : Nat → Value) (D : List Nat) (A : Array Value) : Array Value := D.foldl (fun acc t => acc.setIfInBounds t (f t)) A
theorem laidOver_size (f : Nat → Value) : ∀ (D : List Nat) (A : Array Value), (laidOver f D A).size = A.size
  | [], A => rfl
  | t :: D, A => by unfold laidOver; rw [List.foldl_cons]; have := laidOver_size f D (A.setIfInBounds t (f t)); unfold laidOver at this; rw [this]; simp
theorem laidOver_get (f : Nat → Value) : ∀ (D : List Nat) (A : Array Value) (t : Nat), t < A.size → (laidOver f D A)[t]? = if t ∈ D then some (f t) else A[t]?
  | [], A, t, _ => by simp [laidOver]
  | d :: D, A, t, h => by
    have ih := laidOver_get f D (A.setIfInBounds d (f d)) t (by simpa using h)
    unfold laidOver at ih ⊢
    rw [List.foldl_cons, ih]
    by_cases h1 : t ∈ D
    · simp [h1]
    · rw [if_neg h1]
      by_cases h2 : d = t
      · subst h2; simp [h]
      · rw [Array.getElem?_setIfInBounds_ne h2, if_neg (by simp [h1]; exact fun e => h2 e.symm)]
theorem keeps_lit {ops : Array Oper} {a0 a : Act} (h : Keeps ops a0 a) (D : List Nat) (hD : dstsIn D ops = true) : ∃ f : Nat → Value, a.tmps = laidOver f D a0.tmps ∧ ∀ t v, a.tmps[t]? = some v → f t = v := by
  refine ⟨fun t => (a.tmps[t]?).getD undef, ?_, fun t v hv => by simp [hv]⟩
  apply Array.ext_getElem?
  intro t
  rcases Nat.lt_or_ge t a0.tmps.size with ht | ht
  · rw [laidOver_get _ D _ t ht]
    split
    · rw [Array.getElem?_eq_getElem (by rw [h.1]; exact ht)]; rfl
    · rename_i hn
      refine h.2 t (fun i o ho hd => hn ?_)
      unfold dstsIn at hD
      rw [List.all_eq_true] at hD
      have := hD o (by rw [← Array.getElem?_toList] at ho; exact List.mem_of_getElem? ho)
      rw [hd] at this
      simpa using this
  · rw [Array.getElem?_eq_none (by rw [h.1]; exact ht), Array.getElem?_eq_none (by rw [laidOver_size]; exact ht)]
theorem box_of_row {P : Program} {w0 : W0} {S0 : Nat → Prop} {rd0 : Option Nat} {k0 : Nat} {w : World} {a : Act} {s : ASt} {ρ : Cx} (h : SR P w0 S0 rd0 k0 w a s ρ) {t id sz : Nat} {cs : List AV} {r : Row} (ht : s.tmps[t]? = some (.ptr true sz 1 id 0 0)) (hr : s.rows id = some r) (hb : r.es = [cs]) :
    ∃ g xs, a.tmps[t]? = some (.pointer (some ⟨g, 0, none⟩)) ∧ BoxN w g xs ∧ RepL w ρ cs xs ∧ ∀ x ∈ xs, x.oneCell' = true := by
  obtain ⟨_, u, hu, hln, ⟨_, _⟩, hsz, _, xs, hat, hrep, hone⟩ := h.rw id r hr
  obtain ⟨v, hv, hrv⟩ := h.tm.get ht
  have hl1 : r.es.length = 1 := by rw [hb]; rfl
  rw [hl1] at hat hln
  rcases hat with ⟨h0, _⟩ | ⟨g, cap, cur, rfl, hp, _, hg, hn, hcap, hcs, htk, hxl⟩
  · cases h0
  obtain ⟨_, _, _, q⟩ := rep_ptr.1 hrv
  obtain ⟨b, n, c, e1, e2⟩ := q _ hu hln.symm
  cases e1
  rw [hb, List.flatten_cons, List.flatten_nil, List.append_nil] at hrep
  refine ⟨g, xs, ?_, ⟨fun i x hx => ?_, fun o => ?_, (Array.getElem?_eq_some_iff.1 hg).1⟩, hrep, hone⟩
  · rw [← Array.getElem?_toList, hv, e2]
    simp
  · have hi : i < xs.length := (List.getElem?_eq_some_iff.1 hx).1
    have hc : cur[i]? = some x := by
      rw [← Array.getElem?_toList]
      rw [← htk, List.getElem?_take] at hx
      split at hx
      · exact hx
      · cases hx
    unfold World.cell?
    rw [hg]
    simpa using hc
  · unfold World.frozen?
    rw [hg]
    simp
theorem repC_of_box {w : World} {ρ : Cx} {b : Nat} : ∀ {cs : List AV} {xs : List Value} {o : Nat}, (∀ i v, xs[i]? = some v → w.cell? ⟨b, o + i, none⟩ = some v) → RepL w ρ cs xs → (∀ x ∈ xs, x.oneCell' = true) → RepC w ρ b o cs
  | [], _, _, _, _, _ => by unfold RepC; trivial
  | c :: cs, xs, o, h, hr, h1 => by
    unfold RepL at hr
    obtain ⟨v, vs, rfl, h2, h3⟩ := hr
    unfold RepC
    exact ⟨⟨v, h 0 v rfl, h1 v (by simp), h2⟩, repC_of_box (fun i u hu => by have := h (i + 1) u hu; rwa [show o + (i + 1) = o + 1 + i by omega] at this) h3 (fun x hx => h1 x (by simp [hx]))⟩
theorem eptr_of_box {w : World} {ρ : Cx} {b : Nat} {cs : List AV} {xs : List Value} (h : BoxN w b xs) (hS : ρ.S b) (hr : RepL w ρ cs xs) (h1 : ∀ x ∈ xs, x.oneCell' = true) : Rep w ρ (.eptr .loose cs) (.pointer (some ⟨b, 0, none⟩)) :=
  rep_eptr.2 ⟨b, 0, rfl, hS, repC_of_box (fun i v hv => by rw [Nat.zero_add]; exact h.cell i v hv) hr h1⟩
end Go.Proofs.Ytgfnmhfdmmnaoaa.Eng
namespace Go.Proofs.Ytgfnmhfdmmnaoaa.Eng
open Go Go.RowKit
theorem AC.ofMade {P : Program} {f : FuncId} {args : List AV} {Post : AV → Prop} (he : Enters P f)
    (h : ∀ w L S rb vs, RepL w (pureC L S rb) args vs → Calls P f vs.toArray w fun e w' => ∃ v fp r, e = .returned v ∧ Grow w w' ∧ Free w.heap.size w' fp ∧ Rep w' (pureC nil (fun b => b ∈ fp) none) r v ∧ Post r) : AC P f args 0 Post := by
  refine ⟨he, fun w L S rb k vs _ hS hr hargs => (h w L S rb vs hargs).mono ?_⟩
  rintro e w' ⟨v, fp, r, rfl, hg, hf, h1, h2⟩
  refine ⟨v, r, fun b => S b ∨ b ∈ fp, rfl, hg.mono (fun _ h => h.elim), fun _ h => .inl h, fun b hb => hb.imp id (fun hb => ⟨(hf.2 b hb).1, (hf.2 b hb).2.1⟩), fun b hb => ((hr b hb).2.moved hg (fun h => h) (fun b hb => ⟨.inl hb, fun h => h⟩)).less (by omega), ?_, h2⟩
  exact Rep.le (ρ := pureC nil (fun b => b ∈ fp) none) (ρ' := pureC nil (fun b => S b ∨ b ∈ fp) none) ⟨fun _ h => ⟨.inr h, fun _ => rfl⟩, fun _ h => ⟨h, fun _ => rfl⟩, fun _ h => False.elim h, fun _ h => h⟩ h1
theorem toNode_AC (n : Nd) (hc : costN n ≤ 1048576) : AC Try.prog 32 [nodeA n] 0 (fun r => r = nodeA n) := by
  refine AC.ofMade (enters_of Try.func32 (by kernel_rfl) (by kernel_rfl)) (fun w L S rb vs h => ?_)
  unfold RepL at h
  obtain ⟨v, vs', rfl, hv, h⟩ := h
  unfold RepL at h
  subst h
  refine (uToN n v w hc (node_shut (nodeA_of_rep hv))).mono ?_
  rintro e w' ⟨v', fp, rfl, hg, hF, hfr⟩
  obtain ⟨cs, rfl, hF⟩ := hF
  exact ⟨_, fp, nodeA n, rfl, hg, hfr, rep_of_node (node_open ⟨cs, rfl, nodeRep.toR hF (fun _ h => h)⟩), rfl⟩
theorem eptr_node {w : World} {b : Nat} {n : Nd} {xs : List Value} (h : BoxN w b xs) (hn : RV nodeRep packA w Go.Proofs.Ytgfnmhfdmmnaoaa.any n (.agg xs.toArray)) : Rep w (pureC nil (fun k => k < w.heap.size) none) (.eptr .loose (nodeL n)) (.pointer (some ⟨b, 0, none⟩)) := by
  obtain ⟨vs, h1, h2, h3⟩ := rep_agg.1 (arg_node hn)
  have hv : vs = xs := by
    have := congrArg Array.toList (Value.agg.inj h1)
    simpa using this.symm
  subst hv
  exact eptr_of_box h h.lt h3 h2
end Go.Proofs.Ytgfnmhfdmmnaoaa.Eng
namespace Go.Proofs.Ytgfnmhfdmmnaoaa.Eng
open Go Go.RowKit
def findR (id : Nat) : Code → Option (Array Oper)
  | .region i ops _ => if i = id then some ops else none
  | .seq a b => match findR id a with | some o => some o | none => findR id b
  | .cond _ a b => match findR id a with | some o => some o | none => findR id b
  | .block _ a => findR id a
  | .loop a => findR id a
  | .scope a => findR id a
  | _ => none
def cellsN (m : Nd) : List AV := [.int .i64 m.kind, .int .i64 m.num, .str m.text, .view .loose 1 (strsE m.names), .view .loose 5 (m.kids.map nodeL)]
end Go.Proofs.Ytgfnmhfdmmnaoaa.Eng
-- EV: store
namespace Go.Proofs.Ytgfnmhfdmmnaoaa.Eng
open Go Go.RowKit
def cellsS (s : Sto) : List AV := [.view .loose 7 (s.1.map itemL), .int .i64 s.2]
theorem toSto_AC (s : Sto) (hc : costSto s ≤ 1048576) : AC Try.prog 31 [storeA s] 0 (fun r => r = storeA s) := by
  refine AC.ofMade (enters_of Try.func31 (by kernel_rfl) (by kernel_rfl)) (fun w L S rb vs h => ?_)
  unfold RepL at h
  obtain ⟨v, vs', rfl, hv, h⟩ := h
  unfold RepL at h
  subst h
  refine (uToSto s v w hc (sto_of_rep hv)).mono ?_
  rintro e w' ⟨v', fp, rfl, hg, hF, hfr⟩
  obtain ⟨cs, rfl, hF⟩ := hF
  exact ⟨_, fp, storeA s, rfl, hg, hfr, rep_of_store ⟨cs, rfl, stoRep.toR hF (fun _ h => h)⟩, rfl⟩
theorem eptr_sto {w : World} {b : Nat} {s : Sto} {xs : List Value} (h : BoxN w b xs) (hn : RV stoRep packA w Go.Proofs.Ytgfnmhfdmmnaoaa.any s (.agg xs.toArray)) : Rep w (pureC nil (fun k => k < w.heap.size) none) (.eptr .loose (cellsS s)) (.pointer (some ⟨b, 0, none⟩)) := by
  obtain ⟨vs, h1, h2, h3⟩ := rep_agg.1 (arg_sto hn)
  have hv : vs = xs := by
    have := congrArg Array.toList (Value.agg.inj h1)
    simpa using this.symm
  subst hv
  exact eptr_of_box h h.lt h3 h2
theorem res_in_sto (m : Sto) (b : Bool) : NoId (.tup [.agg (cellsS m), .bool b]) := by
  refine in_tup.2 ?_
  simp only [List.forall_mem_cons, List.not_mem_nil, false_implies, implies_true, and_true]
  exact ⟨storeA_in m, in_bool⟩
end Go.Proofs.Ytgfnmhfdmmnaoaa.Eng
-- EV: store skip
namespace Go.Proofs.Ytgfnmhfdmmnaoaa.Eng
open Go Go.RowKit
attribute [local simp] big size_mk ASt.pay Option.map_map Function.comp_def awant aop acall ado aev ofVal ofVal0 ASt.put ASt.add ASt.turn ASt.kill abox aalloc astore aload aloadD astoreD idOf ASt.at cellsTo afieldAddr afield aindexAddr aindex alen abin aint acmp astr aun apick aextract anil aslice abound abuild afill abuildSlice asCells aps avCells over upd aappend asrc amax amin aconv mkSt slots rowsOf_cons rowsOf_nil usedOf_cons usedOf_nil ZK.av List.replicate ASt.back ASt.addL ASt.killL nodeA nodeT nodeTL_eq nodeL_eq strsE_get strsE_len intsE_get intsE_len strsE_at intsE_at itemA itemL_eq storeA storeT storeO itemsRow tab2 tab3 tab4 tab5 tab6 tab7 tab8 tab9 tab10 tab11 tab12 tab13 tab14 tab15 tab16 tab17 tab18 tab19 tab21 tab22 tab23 tab24 tab25 tab26 tab27 tab28 tab29 tab30 tab39 tab40 tab41 tab42 tab43 tab47 tab48 tab55 tab56 tab57 tab60 tab61 tab62 tab73 tab74 tab75 tab85 tab92 tab115 tab116 tab143 tab144 tab145 tab154 tab155 tab170 tab175 tab182 tab197 tab198 tab203 tab204 tab205 tab207 tab208 tab209
set_option maxRecDepth 100000
set_option maxHeartbeats 8000000
theorem putA10 {Av : Nat → Prop} {K : ASt → Prop} (s : Sto) (nm : ByteArray) (n : Nd) (rm : Sto) (rb : Bool) (ks : costSto s ≤ 1048576) (kn : costN n ≤ 1048576) {ops : Array Oper} (h : Try.f5.body.bind (findR 10) = some ops) (hcon : AC Try.prog 30 [storeA s, .str nm, nodeA n] 0 (fun r => r = .tup [storeA rm, .bool rb]))
    (hK : ∀ s' : ASt, s'.tmps[8]? = some (.ptr true 2 1 8 0 0) ∧ s'.tmps[9]? = some (.bool rb) ∧ s'.rows 8 = some ⟨true, 62, 2, [cellsS rm]⟩ → K s') :
    ARunD Try.prog tab [] Av (pcs [(1, 0, fun r => r = .agg (cellsS s)), (4, 0, fun r => r = .agg (cellsN n)), (5, 0, fun r => r = .tup [.agg (cellsS rm), .bool rb])] []) ops K ops.toList 0 (midSt (slots 0 127 [(1, .str nm), (3, .eptr .loose (cellsS s)), (5, .eptr .loose (nodeL n))])) := by
  have p0 := toSto_AC s ks
  have hc0 := storeA_clo s
  have p2 := toNode_AC n kn
  have hc2 := node_clo n
  have hin : NoId (.tup [.agg (cellsS rm), .bool rb]) := res_in_sto rm rb
  try unfold cellsN at *
  try unfold cellsS at *
  try unfold storeA storeT at *
  unfold nodeA midSt at *
  try rw [nodeL_eq n] at hcon
  try rw [nodeL_eq n] at hK
  rw [nodeL_eq n] at p2 hc2 ⊢
  cases h
  (repeat (first | with_reducible refine AW.seq ?_ | ((first | refine arun_kn 4 rfl (fun C hC => ?_) | refine arunD_kn 4 rfl (fun C hC => ?_)); (repeat ((conv => whnf); simp)); refine hC _ ?_; clear hC C; simp only [List.drop, Nat.reduceAdd]) | ((first | refine arun_kn 1 rfl (fun C hC => ?_) | refine arunD_kn 1 rfl (fun C hC => ?_)); (repeat ((conv => whnf); simp)); refine hC _ ?_; clear hC C; simp only [List.drop, Nat.reduceAdd]) | (refine arun_skip ?_ ?_; (focus (simp [awant]; done))) | (refine arun_c0 (p0) ?_; rintro _ rfl) | (refine arun_c0 (p2) ?_; rintro _ rfl) | (refine arun_c0 (hcon) ?_; rintro _ rfl) | (refine arunD_skip ?_ ?_; (focus (simp [awant]; done))) | (refine arunD_c (0) (p0) ?_; rintro _ rfl; intro _) | (refine arunD_c (0) (p2) ?_; rintro _ rfl; intro _) | (refine arunD_cE (0) (hcon) (by exact ⟨_, rfl, hin⟩) ?_; rintro _ rfl; intro _) | (refine AW.regionK [] (fun K hK => ?_)) | (refine AW.regionDK [] (pcs [(1, 0, fun r => r = .int .i64 0)] []) (by kernel_rfl) (by kernel_rfl) (fun K hK => ?_)) | (refine AW.condT ?_ ?_; (focus (simp [aev]; done))) | (refine AW.condF ?_ ?_; (focus (simp [aev]; done))) | with_reducible refine AW.block ?_ | ((first | ((first | refine arun_nil ?_ | refine arunD_nil ?_); refine hK _ ?_; clear hK K) | refine AW.skip ?_ | refine AW.exit ?_ | refine AW.ret ?_); simp only [thenA_exit, inBlockA_exit, if_true, if_false, Nat.reduceEqDiff, thenA_normal, inBlockA_normal, reduceIte, thenA_ret, inBlockA_ret, endQ_ret, endR_ret, endG_ret, endQ_normal, endR_normal, endG_normal])))
  exact ⟨by simp, by simp, by simp [upd]⟩
theorem putRgn10 {w : World} {a : Act} {Q : Exit → Act → World → Prop} (s : Sto) (nm : ByteArray) (n : Nd) (rm : Sto) (rb : Bool) (ks : costSto s ≤ 1048576) (kn : costN n ≤ 1048576) {l : List Oper} (h : Try.f5.body.bind (findR 10) = some l.toArray) (hB : Region.lexB .any l.toArray = true) (hc : cmpL [] [] l.toArray = true) (hD : dstsIn [33, 34, 35, 36, 37, 38, 32, 39, 40, 8, 9] l.toArray = true)
    (hcon : AC Try.prog 30 [storeA s, .str nm, nodeA n] 0 (fun r => r = .tup [storeA rm, .bool rb])) {b0 : Nat} {c0 : List Value} {b2 : Nat} {c2 : List Value}
    (hd : a.defers = []) (hsz : a.tmps.toList.length = 127) (t1 : a.tmps.toList[1]? = some (.string nm)) (z1 : nm.size ≤ Go.Proofs.Ytgfnmhfdmmnaoaa.big) (t0 : a.tmps.toList[3]? = some (.pointer (some ⟨b0, 0, none⟩))) (t2 : a.tmps.toList[5]? = some (.pointer (some ⟨b2, 0, none⟩)))
    (B0 : BoxN w b0 c0) (R0 : RV stoRep packA w Go.Proofs.Ytgfnmhfdmmnaoaa.any s (.agg c0.toArray)) (B2 : BoxN w b2 c2) (R2 : RV nodeRep packA w Go.Proofs.Ytgfnmhfdmmnaoaa.any n (.agg c2.toArray))
    (hQ : ∀ (w' : World) (f : Nat → Value) (g : Nat) (xs : List Value), Grow w w' → f 8 = .pointer (some ⟨g, 0, none⟩) → f 9 = .bool rb → BoxN w' g xs → RV stoRep packA w' Go.Proofs.Ytgfnmhfdmmnaoaa.any rm (.agg xs.toArray) → Q .normal ⟨laidOver f [33, 34, 35, 36, 37, 38, 32, 39, 40, 8, 9] a.tmps, []⟩ w') : (Code.region 10 l.toArray true).wp Try.prog Q a w := by
  refine region_worldK (S := fun b => b < w.heap.size) tab_ok mixed_ok [] (pcs [(1, 0, fun r => r = .agg (cellsS s)), (4, 0, fun r => r = .agg (cellsN n)), (5, 0, fun r => r = .tup [.agg (cellsS rm), .bool rb])] []) (fun s' : ASt => s'.tmps[8]? = some (.ptr true 2 1 8 0 0) ∧ s'.tmps[9]? = some (.bool rb) ∧ s'.rows 8 = some ⟨true, 62, 2, [cellsS rm]⟩) hB hc (mid_SR (cs := slots 0 127 [(1, .str nm), (3, .eptr .loose (cellsS s)), (5, .eptr .loose (nodeL n))]) hd (repL_slots 127 0 _ _ hsz (by simp) ?_)) (fun K' hK' => putA10 s nm n rm rb ks kn h hcon hK') ?_
  · simp only [List.forall_mem_cons, List.not_mem_nil, false_implies, implies_true, and_true]
    exact ⟨⟨Nat.zero_le _, _, t1, rep_str.2 ⟨rfl, z1⟩⟩, ⟨Nat.zero_le _, _, t0, eptr_sto B0 R0⟩, ⟨Nat.zero_le _, _, t2, eptr_node B2 R2⟩⟩
  · rintro s' w' a' ρ' hS ⟨k1, k2, k3⟩ hk
    obtain ⟨f, h1, h2⟩ := keeps_lit hk [33, 34, 35, 36, 37, 38, 32, 39, 40, 8, 9] hD
    obtain ⟨g, xs, g1, g2, g3, g4⟩ := box_of_row hS k1 k3 rfl
    obtain ⟨v, hv, hr⟩ := hS.tm.get k2
    rw [rep_bool] at hr
    subst hr
    have hdf := hS.df
    have hx : Grow w w' := hS.ext.mono (fun b h => h.elim (fun h => by cases h) (fun h => h))
    have hrv := sto_of_rep (rep_agg.2 ⟨xs, rfl, g4, g3⟩)
    have := hQ w' f g xs hx (h2 _ _ g1) (h2 _ _ (by rw [← Array.getElem?_toList]; exact hv)) g2 hrv
    rw [← h1, ← hdf] at this
    exact this
theorem putA33 {Av : Nat → Prop} {K : ASt → Prop} (s : Sto) (nm : ByteArray) (n : Nd) (rm : Sto) (rb : Bool) (ks : costSto s ≤ 1048576) (kn : costN n ≤ 1048576) {ops : Array Oper} (h : Try.f5.body.bind (findR 33) = some ops) (hcon : AC Try.prog 33 [storeA s, .str nm, nodeA n] 0 (fun r => r = .tup [storeA rm, .bool rb]))
    (hK : ∀ s' : ASt, s'.tmps[17]? = some (.ptr true 2 1 17 0 0) ∧ s'.tmps[18]? = some (.bool rb) ∧ s'.rows 17 = some ⟨true, 62, 2, [cellsS rm]⟩ → K s') :
    ARunD Try.prog tab [] Av (pcs [(1, 0, fun r => r = .agg (cellsS s)), (4, 0, fun r => r = .agg (cellsN n)), (5, 0, fun r => r = .tup [.agg (cellsS rm), .bool rb])] []) ops K ops.toList 0 (midSt (slots 0 127 [(1, .str nm), (3, .eptr .loose (cellsS s)), (5, .eptr .loose (nodeL n))])) := by
  have p0 := toSto_AC s ks
  have hc0 := storeA_clo s
  have p2 := toNode_AC n kn
  have hc2 := node_clo n
  have hin : NoId (.tup [.agg (cellsS rm), .bool rb]) := res_in_sto rm rb
  try unfold cellsN at *
  try unfold cellsS at *
  try unfold storeA storeT at *
  unfold nodeA midSt at *
  try rw [nodeL_eq n] at hcon
  try rw [nodeL_eq n] at hK
  rw [nodeL_eq n] at p2 hc2 ⊢
  cases h
  (repeat (first | with_reducible refine AW.seq ?_ | ((first | refine arun_kn 4 rfl (fun C hC => ?_) | refine arunD_kn 4 rfl (fun C hC => ?_)); (repeat ((conv => whnf); simp)); refine hC _ ?_; clear hC C; simp only [List.drop, Nat.reduceAdd]) | ((first | refine arun_kn 1 rfl (fun C hC => ?_) | refine arunD_kn 1 rfl (fun C hC => ?_)); (repeat ((conv => whnf); simp)); refine hC _ ?_; clear hC C; simp only [List.drop, Nat.reduceAdd]) | (refine arun_skip ?_ ?_; (focus (simp [awant]; done))) | (refine arun_c0 (p0) ?_; rintro _ rfl) | (refine arun_c0 (p2) ?_; rintro _ rfl) | (refine arun_c0 (hcon) ?_; rintro _ rfl) | (refine arunD_skip ?_ ?_; (focus (simp [awant]; done))) | (refine arunD_c (0) (p0) ?_; rintro _ rfl; intro _) | (refine arunD_c (0) (p2) ?_; rintro _ rfl; intro _) | (refine arunD_cE (0) (hcon) (by exact ⟨_, rfl, hin⟩) ?_; rintro _ rfl; intro _) | (refine AW.regionK [] (fun K hK => ?_)) | (refine AW.regionDK [] (pcs [(1, 0, fun r => r = .int .i64 0)] []) (by kernel_rfl) (by kernel_rfl) (fun K hK => ?_)) | (refine AW.condT ?_ ?_; (focus (simp [aev]; done))) | (refine AW.condF ?_ ?_; (focus (simp [aev]; done))) | with_reducible refine AW.block ?_ | ((first | ((first | refine arun_nil ?_ | refine arunD_nil ?_); refine hK _ ?_; clear hK K) | refine AW.skip ?_ | refine AW.exit ?_ | refine AW.ret ?_); simp only [thenA_exit, inBlockA_exit, if_true, if_false, Nat.reduceEqDiff, thenA_normal, inBlockA_normal, reduceIte, thenA_ret, inBlockA_ret, endQ_ret, endR_ret, endG_ret, endQ_normal, endR_normal, endG_normal])))
  exact ⟨by simp, by simp, by simp [upd]⟩
theorem putRgn33 {w : World} {a : Act} {Q : Exit → Act → World → Prop} (s : Sto) (nm : ByteArray) (n : Nd) (rm : Sto) (rb : Bool) (ks : costSto s ≤ 1048576) (kn : costN n ≤ 1048576) {l : List Oper} (h : Try.f5.body.bind (findR 33) = some l.toArray) (hB : Region.lexB .any l.toArray = true) (hc : cmpL [] [] l.toArray = true) (hD : dstsIn [102, 103, 104, 105, 106, 107, 101, 108, 109, 17, 18] l.toArray = true)
    (hcon : AC Try.prog 33 [storeA s, .str nm, nodeA n] 0 (fun r => r = .tup [storeA rm, .bool rb])) {b0 : Nat} {c0 : List Value} {b2 : Nat} {c2 : List Value}
    (hd : a.defers = []) (hsz : a.tmps.toList.length = 127) (t1 : a.tmps.toList[1]? = some (.string nm)) (z1 : nm.size ≤ Go.Proofs.Ytgfnmhfdmmnaoaa.big) (t0 : a.tmps.toList[3]? = some (.pointer (some ⟨b0, 0, none⟩))) (t2 : a.tmps.toList[5]? = some (.pointer (some ⟨b2, 0, none⟩)))
    (B0 : BoxN w b0 c0) (R0 : RV stoRep packA w Go.Proofs.Ytgfnmhfdmmnaoaa.any s (.agg c0.toArray)) (B2 : BoxN w b2 c2) (R2 : RV nodeRep packA w Go.Proofs.Ytgfnmhfdmmnaoaa.any n (.agg c2.toArray))
    (hQ : ∀ (w' : World) (f : Nat → Value) (g : Nat) (xs : List Value), Grow w w' → f 17 = .pointer (some ⟨g, 0, none⟩) → f 18 = .bool rb → BoxN w' g xs → RV stoRep packA w' Go.Proofs.Ytgfnmhfdmmnaoaa.any rm (.agg xs.toArray) → Q .normal ⟨laidOver f [102, 103, 104, 105, 106, 107, 101, 108, 109, 17, 18] a.tmps, []⟩ w') : (Code.region 33 l.toArray true).wp Try.prog Q a w := by
  refine region_worldK (S := fun b => b < w.heap.size) tab_ok mixed_ok [] (pcs [(1, 0, fun r => r = .agg (cellsS s)), (4, 0, fun r => r = .agg (cellsN n)), (5, 0, fun r => r = .tup [.agg (cellsS rm), .bool rb])] []) (fun s' : ASt => s'.tmps[17]? = some (.ptr true 2 1 17 0 0) ∧ s'.tmps[18]? = some (.bool rb) ∧ s'.rows 17 = some ⟨true, 62, 2, [cellsS rm]⟩) hB hc (mid_SR (cs := slots 0 127 [(1, .str nm), (3, .eptr .loose (cellsS s)), (5, .eptr .loose (nodeL n))]) hd (repL_slots 127 0 _ _ hsz (by simp) ?_)) (fun K' hK' => putA33 s nm n rm rb ks kn h hcon hK') ?_
  · simp only [List.forall_mem_cons, List.not_mem_nil, false_implies, implies_true, and_true]
    exact ⟨⟨Nat.zero_le _, _, t1, rep_str.2 ⟨rfl, z1⟩⟩, ⟨Nat.zero_le _, _, t0, eptr_sto B0 R0⟩, ⟨Nat.zero_le _, _, t2, eptr_node B2 R2⟩⟩
  · rintro s' w' a' ρ' hS ⟨k1, k2, k3⟩ hk
    obtain ⟨f, h1, h2⟩ := keeps_lit hk [102, 103, 104, 105, 106, 107, 101, 108, 109, 17, 18] hD
    obtain ⟨g, xs, g1, g2, g3, g4⟩ := box_of_row hS k1 k3 rfl
    obtain ⟨v, hv, hr⟩ := hS.tm.get k2
    rw [rep_bool] at hr
    subst hr
    have hdf := hS.df
    have hx : Grow w w' := hS.ext.mono (fun b h => h.elim (fun h => by cases h) (fun h => h))
    have hrv := sto_of_rep (rep_agg.2 ⟨xs, rfl, g4, g3⟩)
    have := hQ w' f g xs hx (h2 _ _ g1) (h2 _ _ (by rw [← Array.getElem?_toList]; exact hv)) g2 hrv
    rw [← h1, ← hdf] at this
    exact this
end Go.Proofs.Ytgfnmhfdmmnaoaa.Eng
namespace Go.Proofs.Ytgfnmhfdmmnaoaa
open Go.RowKit
theorem heldItemS_ok (l : List Itm) (a : Option Addr) (c k : Nat) (i : Int) (w : World) (hi : i = (k : Int)) (ha : SlR itmRep w any a c (mkR mkItm cntItm k l)) (h1 : 0 < k) (h2 : k + cntR cntItm l ≤ 1000000000) (hl : l.length ≤ 1000000000) :
    Calls Try.prog 92 #[.slice a l.length c, .int .i64 i] w fun e w' => e = .returned (.int .i64 ((k + cntR cntItm l : Nat) : Int)) ∧ Grow w w' := by
  subst hi
  have Ha := Lib.hid ha
  clear ha
  go_enter Try.func92, Try.ntmps92
  go_wp2_with fail
  go_loopw [1, 4, 5] (fun t1 t4 i wr => t4 = .int .i64 0 ∧ Grow w wr ∧ ∃ j : Nat, j ≤ l.length ∧ i = .int .i64 j ∧ t1 = .int .i64 ((k + cntR cntItm (l.take j) : Nat) : Int)) (fun _ _ i _ => l.length - (intOf i).toNat)
  case atStart => exact ⟨rfl, Ext.refl _ _, 0, Nat.zero_le _, rfl, rfl⟩
  case round =>
    obtain ⟨rfl, hg, j, hj, rfl, rfl⟩ := hrel
    have hct := cntR_take cntItm l j
    by_cases hlt : j < l.length
    · have hjl : j < (mkR mkItm cntItm k l).length := by rw [mkR_len]; exact hlt
      obtain ⟨_, _, ha4⟩ := (Ha.out).grow hg
      rcases ha4 with hh | ⟨b, o, rfl, _, hkr⟩
      · rw [hh] at hjl; simp at hjl
      obtain ⟨cs, hcs, hR⟩ := hkr j hjl
      obtain ⟨na, nc, ka, kc, rfl, _, hkc⟩ := itmRep_open hR
      rw [mkR_get' mkItm cntItm k l j hlt hjl] at hcs hkc
      have hct2 := cntR_take cntItm l (j + 1)
      have htk : l.take (j + 1) = l.take j ++ [l[j]] := take_snoc' _ _ hlt
      rw [htk, cntR_snoc] at hct2
      obtain ⟨k', hk'⟩ : ∃ k', k' = k + cntR cntItm (l.take j) := ⟨_, rfl⟩
      rw [← hk'] at hcs hkc ⊢
      obtain ⟨x, hx⟩ : ∃ x, x = l[j] := ⟨_, rfl⟩
      rw [← hx] at hcs hkc hct2 htk
      have hk1 : 0 < k' := by omega
      have hck := cntK_eq x.2.2
      have hci : cntItm x = 1 + 1 + cntK x.2.2 := rfl
      have hb9 : k' + (5 + x.2.2.names.length + cntL x.2.2.kids) ≤ 1000000000 := by omega
      have c0 := hcs 0 _ rfl
      have c1 := hcs 1 _ rfl
      have c2 := hcs 2 _ rfl
      have c3 := hcs 3 _ rfl
      have c4 := hcs 4 _ rfl
      have c5 := hcs 5 _ rfl
      have c6 := hcs 6 _ rfl
      obtain ⟨_, hnm, hkd⟩ := hkc.parts
      rw [itmRep_n] at c0 c1 c2 c3 c4 c5 c6
      unfold mkItm at c0 c1 c2 c3 c4 c5 c6 hnm hkd
      dsimp only at c0 c1 c2 c3 c4 c5 c6 hnm hkd
      rw [mkK_eq] at c2 c3 c4 c5 c6 hnm hkd
      simp only [mkS_len, mkL_len, Nat.add_zero] at c0 c1 c2 c3 c4 c5 c6
      have hm4 : k' + 1 + 1 + 2 = k' + 1 + 1 + 1 + 1 := rfl
      try rw [hm4] at c4
      clear hm4
      have Hnm := Lib.hid hnm
      have Hkd := Lib.hid hkd
      have Htk := Lib.hid htk
      have Hk' := Lib.hid hk'
      have Hci : Hid (cntItm x = 5 + x.2.2.names.length + cntL x.2.2.kids) := Lib.hid (by omega)
      have e1 : (((k' : Int) + 1) != ((k' : Int) + 1)) = false := by simp
      have e2 : (((k' : Int) + 1 + 1) != ((k' : Int) + 1 + 1)) = false := by simp
      have e3 : (((k' : Int) + 1 + 1 + 1) != ((k' : Int) + 1 + 1 + 1)) = false := by simp
      clear hkr hkc hnm hkd htk hk' hx hct hct2 Ha hcs hR hck hci
      simp only [Int.natCast_add, Int.natCast_one] at c1 c2 c3
      go_wp2_with fail
      (refine wp_region_later (by kernel_rfl) (by kernel_rfl) ?_; (repeat (first | go_big_quiet_step ((go_at_call 109; exact later_call (v := .string (mtxt k')) (markText_i k' _ _ (by omega) (by omega) (by omega)))) | quiet_step ((go_at_call 109; exact later_call (v := .string (mtxt k')) (markText_i k' _ _ (by omega) (by omega) (by omega)))))); refine wpQuiet_nil ?_; rintro _ ⟨x_w2, rfl⟩; have hg_w2 := later_grow wr x_w2; generalize later wr x_w2 = w2 at hg_w2 ⊢)
      (replace c1 := hg_w2.some c1; replace c2 := hg_w2.some c2; replace c3 := hg_w2.some c3; replace c4 := hg_w2.some c4; replace c5 := hg_w2.some c5; replace c6 := hg_w2.some c6)
      go_wp2_with fail
      (refine wp_region_later (by kernel_rfl) (by kernel_rfl) ?_; (repeat (first | go_big_quiet_step ((go_at_call 109; exact later_call (v := .string (mtxt (k' + 1 + 1 + 1 + 1))) (markText_i (k' + 1 + 1 + 1 + 1) _ _ (by omega) (by omega) (by omega)))) | quiet_step ((go_at_call 109; exact later_call (v := .string (mtxt (k' + 1 + 1 + 1 + 1))) (markText_i (k' + 1 + 1 + 1 + 1) _ _ (by omega) (by omega) (by omega)))))); refine wpQuiet_nil ?_; rintro _ ⟨x_w3, rfl⟩; have hg_w3 := later_grow w2 x_w3; generalize later w2 x_w3 = w3 at hg_w3 ⊢)
      (replace c5 := hg_w3.some c5; replace c6 := hg_w3.some c6)
      go_wp2_with fail
      refine (heldStringS_i na nc x.2.2.names.length (k' + 5) _ _ (by omega) (Hnm.out.grow (hg_w2.trans hg_w3)) (by omega) (by omega)).mono ?_
      rintro e w4 ⟨rfl, hg_w4⟩
      (replace c6 := hg_w4.some c6)
      go_wp2_with fail
      refine (heldNodeS_ok x.2.2.kids ka kc (k' + 5 + x.2.2.names.length) _ _ (by omega) (Hkd.out.grow ((hg_w2.trans hg_w3).trans hg_w4)) (by omega) (by omega)).mono ?_
      rintro e w5 ⟨rfl, hg_w5⟩
      go_wp2_with fail
      go_roundw
      case rel =>
        refine ⟨rfl, (((hg.trans hg_w2).trans hg_w3).trans hg_w4).trans hg_w5, j + 1, by omega, by go_num, ?_⟩
        rw [Htk.out, cntR_snoc, Hci.out]
        congr 1
        have := Hk'.out
        omega
      case measure => simp [intOf]; omega
    · go_wp2_with fail
      go_ret
      exact ⟨by rw [show j = l.length by omega]; simp, hg⟩
theorem uHeldSto (s : Sto) (v : Value) (k : Nat) (i : Int) (w : World) (hi : i = (k : Int)) (h : RV stoRep packA w any (mkSto k s) v) (h1 : 0 < k) (h2 : k + cntSto s ≤ 1000000000) :
    Calls Try.prog 36 #[v, .int .i64 i] w fun e w' => e = .returned (.int .i64 ((k + cntSto s : Nat) : Int)) ∧ Grow w w' := by
  have hl : s.1.length ≤ 1000000000 := by have := cntSto_len s; omega
  obtain ⟨a, c, rfl, hs⟩ := sto_open h
  subst hi
  have Hs : Hid (SlR itmRep w any a c (mkR mkItm cntItm k s.1)) := Lib.hid hs
  have hlen : (mkSto k s).1.length = s.1.length := mkR_len _ _ _ _
  clear h hs
  unfold stoV
  rw [hlen]
  unfold cntSto at *
  clear hlen
  go_enter Try.func36, Try.ntmps36
  go_wp2_with fail
  refine (heldItemS_ok s.1 a c k _ _ rfl (Hs.out.grow (by repeat (first | with_reducible exact Ext.refl _ _ | with_reducible refine Ext.trans ?_ (by assumption) | with_reducible refine Ext.drew ?_ | with_reducible refine Ext.drewN ?_ _ | with_reducible refine Ext.alloc ?_ _ | with_reducible refine Ext.setNew ?_ (by simp; done) _ | with_reducible refine Ext.setNew ?_ (by simp; omega) _))) h1 h2 hl).mono ?_
  rintro e w2 ⟨rfl, hg2⟩
  have kk : ¬ (((k + cntR cntItm s.1 : Nat) : Int) < 0) := by omega
  go_wp2_with fail
  go_ret
  exact ⟨rfl, (by repeat (first | with_reducible exact Ext.refl _ _ | with_reducible refine Ext.trans ?_ (by assumption) | with_reducible refine Ext.drew ?_ | with_reducible refine Ext.drewN ?_ _ | with_reducible refine Ext.alloc ?_ _ | with_reducible refine Ext.setNew ?_ (by simp; done) _ | with_reducible refine Ext.setNew ?_ (by simp; omega) _))⟩
end Go.Proofs.Ytgfnmhfdmmnaoaa
namespace Go.Proofs.Ytgfnmhfdmmnaoaa
open Go.RowKit
theorem lawPut_long1 (s : Sto) (nm : ByteArray) (n : Nd) (v0 : Value) (v2 : Value) (w : World) (h0 : RV stoRep packA w any s v0) (h2 : RV nodeRep packA w any n v2) (hs : ¬ nm.size ≤ 1048576) (hb : nm.size ≤ big) :
    Calls Try.prog 5 #[v0, .string nm, v2] w fun e w' => e = .returned (.bool true) ∧ Grow w w' := by
  unfold big at hb
  have hs' : (1048576 : Int) < (nm.size : Int) := by omega
  have HV0 := Lib.hid h0
  have HV2 := Lib.hid h2
  obtain ⟨sa0, sc0, rfl⟩ := openV_sto h0
  obtain ⟨na2, nc2, ka2, kc2, rfl⟩ := openV_node h2
  clear h0 h2
  unfold nodeV stoV at *
  go_enter Try.func5, Try.ntmps5
  go_wp2_with fail
  go_ret
  exact ⟨by simp, (by repeat (first | with_reducible exact Ext.refl _ _ | with_reducible refine Ext.trans ?_ (by assumption) | with_reducible refine Ext.drew ?_ | with_reducible refine Ext.drewN ?_ _ | with_reducible refine Ext.alloc ?_ _ | with_reducible refine Ext.setNew ?_ (by simp; done) _ | with_reducible refine Ext.setNew ?_ (by simp; omega) _))⟩
theorem lawPut_big (s : Sto) (nm : ByteArray) (n : Nd) (v0 : Value) (v2 : Value) (w : World) (h0 : RV stoRep packA w any s v0) (h2 : RV nodeRep packA w any n v2) (hq1 : nm.size ≤ 1048576) (hbig : ¬ costSto s + costN n ≤ 1048576) :
    Calls Try.prog 5 #[v0, .string nm, v2] w fun e w' => e = .returned (.bool true) ∧ Grow w w' := by
  have HV0 := Lib.hid h0
  have HV2 := Lib.hid h2
  obtain ⟨sa0, sc0, rfl⟩ := openV_sto h0
  obtain ⟨na2, nc2, ka2, kc2, rfl⟩ := openV_node h2
  clear h0 h2
  unfold nodeV stoV at *
  by_cases c0 : (costSto s : Int) ≤ 1048576
  rotate_left
  ·
    have Hs0 := Lib.hid (szR_neg (c := costSto s) (left := 1048576) (by omega))
    clear c0 hbig
    have HB0 := Lib.hid ((BoxN.new w [.slice sa0 s.1.length sc0, .int .i64 s.2] 57).grow ((Ext.refl nil _).alloc (.cells ([.int .i64 n.kind, .int .i64 n.num, .string n.text, .slice na2 n.names.length nc2, .slice ka2 n.kids.length kc2] : List Value).toArray 41)))
    have HB2 := Lib.hid (BoxN.new1 w (.cells ([.slice sa0 s.1.length sc0, .int .i64 s.2] : List Value).toArray 57) [.int .i64 n.kind, .int .i64 n.num, .string n.text, .slice na2 n.names.length nc2, .slice ka2 n.kids.length kc2] 41)
    go_enter Try.func5, Try.ntmps5
    go_wp2_with fail
    refine (uSzSto s _ _ _ (by omega) (by omega) (HV0.out.grow (by repeat (first | with_reducible exact Ext.refl _ _ | with_reducible refine Ext.trans ?_ (by assumption) | with_reducible refine Ext.drew ?_ | with_reducible refine Ext.drewN ?_ _ | with_reducible refine Ext.alloc ?_ _ | with_reducible refine Ext.setNew ?_ (by simp; done) _ | with_reducible refine Ext.setNew ?_ (by simp; omega) _)))).mono ?_
    rintro e w1 ⟨rfl, hg1⟩
    simp only [Hs0.out]
    have z1 := hg1.size
    try simp only [World.size_alloc] at z1
    go_wp2_with fail
    go_ret
    exact ⟨by simp, (by repeat (first | with_reducible exact Ext.refl _ _ | with_reducible refine Ext.trans ?_ (by assumption) | with_reducible refine Ext.drew ?_ | with_reducible refine Ext.drewN ?_ _ | with_reducible refine Ext.alloc ?_ _ | with_reducible refine Ext.setNew ?_ (by simp; done) _ | with_reducible refine Ext.setNew ?_ (by simp; omega) _))⟩
  have Hs0 := Lib.hid (szR_pos (c := costSto s) (left := 1048576) (by omega))
  by_cases c2 : (costN n : Int) ≤ 1048576 - costSto s
  rotate_left
  ·
    have Hs2 := Lib.hid (szR_neg (c := costN n) (left := 1048576 - costSto s) (by omega))
    clear c2 hbig
    have HB0 := Lib.hid ((BoxN.new w [.slice sa0 s.1.length sc0, .int .i64 s.2] 57).grow ((Ext.refl nil _).alloc (.cells ([.int .i64 n.kind, .int .i64 n.num, .string n.text, .slice na2 n.names.length nc2, .slice ka2 n.kids.length kc2] : List Value).toArray 41)))
    have HB2 := Lib.hid (BoxN.new1 w (.cells ([.slice sa0 s.1.length sc0, .int .i64 s.2] : List Value).toArray 57) [.int .i64 n.kind, .int .i64 n.num, .string n.text, .slice na2 n.names.length nc2, .slice ka2 n.kids.length kc2] 41)
    go_enter Try.func5, Try.ntmps5
    go_wp2_with fail
    refine (uSzSto s _ _ _ (by omega) (by omega) (HV0.out.grow (by repeat (first | with_reducible exact Ext.refl _ _ | with_reducible refine Ext.trans ?_ (by assumption) | with_reducible refine Ext.drew ?_ | with_reducible refine Ext.drewN ?_ _ | with_reducible refine Ext.alloc ?_ _ | with_reducible refine Ext.setNew ?_ (by simp; done) _ | with_reducible refine Ext.setNew ?_ (by simp; omega) _)))).mono ?_
    rintro e w1 ⟨rfl, hg1⟩
    simp only [Hs0.out]
    have z1 := hg1.size
    try simp only [World.size_alloc] at z1
    have pB := HB2.out.grow (w' := w1) (by repeat (first | with_reducible exact Ext.refl _ _ | with_reducible refine Ext.trans ?_ (by assumption) | with_reducible refine Ext.drew ?_ | with_reducible refine Ext.drewN ?_ _ | with_reducible refine Ext.alloc ?_ _ | with_reducible refine Ext.setNew ?_ (by simp; done) _ | with_reducible refine Ext.setNew ?_ (by simp; omega) _))
    have p0 := pB.cell 0 _ rfl; have p1 := pB.cell 1 _ rfl; have p2 := pB.cell 2 _ rfl; have p3 := pB.cell 3 _ rfl; have p4 := pB.cell 4 _ rfl
    go_wp2_with fail
    refine (uSzN n _ _ _ (by omega) (by omega) (HV2.out.grow (by repeat (first | with_reducible exact Ext.refl _ _ | with_reducible refine Ext.trans ?_ (by assumption) | with_reducible refine Ext.drew ?_ | with_reducible refine Ext.drewN ?_ _ | with_reducible refine Ext.alloc ?_ _ | with_reducible refine Ext.setNew ?_ (by simp; done) _ | with_reducible refine Ext.setNew ?_ (by simp; omega) _)))).mono ?_
    rintro e w2 ⟨rfl, hg2⟩
    simp only [Hs2.out]
    have z2 := hg2.size
    try simp only [World.size_alloc] at z2
    clear p0 p1 p2 p3 p4 pB
    go_wp2_with fail
    go_ret
    exact ⟨by simp, (by repeat (first | with_reducible exact Ext.refl _ _ | with_reducible refine Ext.trans ?_ (by assumption) | with_reducible refine Ext.drew ?_ | with_reducible refine Ext.drewN ?_ _ | with_reducible refine Ext.alloc ?_ _ | with_reducible refine Ext.setNew ?_ (by simp; done) _ | with_reducible refine Ext.setNew ?_ (by simp; omega) _))⟩
  have Hs2 := Lib.hid (szR_pos (c := costN n) (left := 1048576 - costSto s) (by omega))
  omega
theorem lawPut_main (s : Sto) (nm : ByteArray) (n : Nd) (v0 : Value) (v2 : Value) (w : World) (h0 : RV stoRep packA w any s v0) (h2 : RV nodeRep packA w any n v2) (hq1 : nm.size ≤ 1048576) (hcost : costSto s + costN n ≤ 1048576) :
    Calls Try.prog 5 #[v0, .string nm, v2] w fun e w' => e = .returned (.bool true) ∧ Grow w w' := by
  have HV0 := Lib.hid h0
  have HV2 := Lib.hid h2
  obtain ⟨sa0, sc0, rfl⟩ := openV_sto h0
  obtain ⟨na2, nc2, ka2, kc2, rfl⟩ := openV_node h2
  clear h0 h2
  unfold nodeV stoV at *
  have Hs0 := Lib.hid (szR_pos (c := costSto s) (left := 1048576) (by omega))
  have Hs2 := Lib.hid (szR_pos (c := costN n) (left := 1048576 - costSto s) (by omega))
  have C0 : Hid (costSto s ≤ 1048576) := Lib.hid (by omega)
  have C2 : Hid (costN n ≤ 1048576) := Lib.hid (by omega)
  have HB0 := Lib.hid ((BoxN.new w [.slice sa0 s.1.length sc0, .int .i64 s.2] 57).grow ((Ext.refl nil _).alloc (.cells ([.int .i64 n.kind, .int .i64 n.num, .string n.text, .slice na2 n.names.length nc2, .slice ka2 n.kids.length kc2] : List Value).toArray 41)))
  have HB2 := Lib.hid (BoxN.new1 w (.cells ([.slice sa0 s.1.length sc0, .int .i64 s.2] : List Value).toArray 57) [.int .i64 n.kind, .int .i64 n.num, .string n.text, .slice na2 n.names.length nc2, .slice ka2 n.kids.length kc2] 41)
  go_enter Try.func5, Try.ntmps5
  go_wp2_with fail
  refine (uSzSto s _ _ _ (by omega) (by omega) (HV0.out.grow (by repeat (first | with_reducible exact Ext.refl _ _ | with_reducible refine Ext.trans ?_ (by assumption) | with_reducible refine Ext.drew ?_ | with_reducible refine Ext.drewN ?_ _ | with_reducible refine Ext.alloc ?_ _ | with_reducible refine Ext.setNew ?_ (by simp; done) _ | with_reducible refine Ext.setNew ?_ (by simp; omega) _)))).mono ?_
  rintro e w1 ⟨rfl, hg1⟩
  simp only [Hs0.out]
  have z1 := hg1.size
  try simp only [World.size_alloc] at z1
  have pB := HB2.out.grow (w' := w1) (by repeat (first | with_reducible exact Ext.refl _ _ | with_reducible refine Ext.trans ?_ (by assumption) | with_reducible refine Ext.drew ?_ | with_reducible refine Ext.drewN ?_ _ | with_reducible refine Ext.alloc ?_ _ | with_reducible refine Ext.setNew ?_ (by simp; done) _ | with_reducible refine Ext.setNew ?_ (by simp; omega) _))
  have p0 := pB.cell 0 _ rfl; have p1 := pB.cell 1 _ rfl; have p2 := pB.cell 2 _ rfl; have p3 := pB.cell 3 _ rfl; have p4 := pB.cell 4 _ rfl
  go_wp2_with fail
  refine (uSzN n _ _ _ (by omega) (by omega) (HV2.out.grow (by repeat (first | with_reducible exact Ext.refl _ _ | with_reducible refine Ext.trans ?_ (by assumption) | with_reducible refine Ext.drew ?_ | with_reducible refine Ext.drewN ?_ _ | with_reducible refine Ext.alloc ?_ _ | with_reducible refine Ext.setNew ?_ (by simp; done) _ | with_reducible refine Ext.setNew ?_ (by simp; omega) _)))).mono ?_
  rintro e w2 ⟨rfl, hg2⟩
  simp only [Hs2.out]
  have z2 := hg2.size
  try simp only [World.size_alloc] at z2
  clear p0 p1 p2 p3 p4 pB
  go_wp2_with fail
  refine Eng.putRgn10 s nm n (ptN s nm n) (ptB s nm n) C0.out C2.out (by kernel_rfl) (by kernel_rfl) (by kernel_rfl) (by kernel_rfl) (specPutItem_AC0 s nm n) rfl rfl rfl (by unfold big; omega) rfl rfl (HB0.out.grow (w' := w2) (by repeat (first | with_reducible exact Ext.refl _ _ | with_reducible refine Ext.trans ?_ (by assumption) | with_reducible refine Ext.drew ?_ | with_reducible refine Ext.drewN ?_ _ | with_reducible refine Ext.alloc ?_ _ | with_reducible refine Ext.setNew ?_ (by simp; done) _ | with_reducible refine Ext.setNew ?_ (by simp; omega) _))) (HV0.out.grow (by repeat (first | with_reducible exact Ext.refl _ _ | with_reducible refine Ext.trans ?_ (by assumption) | with_reducible refine Ext.drew ?_ | with_reducible refine Ext.drewN ?_ _ | with_reducible refine Ext.alloc ?_ _ | with_reducible refine Ext.setNew ?_ (by simp; done) _ | with_reducible refine Ext.setNew ?_ (by simp; omega) _))) (HB2.out.grow (w' := w2) (by repeat (first | with_reducible exact Ext.refl _ _ | with_reducible refine Ext.trans ?_ (by assumption) | with_reducible refine Ext.drew ?_ | with_reducible refine Ext.drewN ?_ _ | with_reducible refine Ext.alloc ?_ _ | with_reducible refine Ext.setNew ?_ (by simp; done) _ | with_reducible refine Ext.setNew ?_ (by simp; omega) _))) (HV2.out.grow (by repeat (first | with_reducible exact Ext.refl _ _ | with_reducible refine Ext.trans ?_ (by assumption) | with_reducible refine Ext.drew ?_ | with_reducible refine Ext.drewN ?_ _ | with_reducible refine Ext.alloc ?_ _ | with_reducible refine Ext.setNew ?_ (by simp; done) _ | with_reducible refine Ext.setNew ?_ (by simp; omega) _))) ?_
  intro w3 fs gs xss hg3 fsp fso hBs hR
  have z3 := hg3.size
  have RW := Lib.hid hR.under
  obtain ⟨sas, scs, he⟩ := openV_sto hR
  unfold stoV at he
  have hxs : xss = _ := congrArg Array.toList (Value.agg.inj he)
  subst hxs
  clear hR he
  have gls := hBs.lt
  have HBs := Lib.hid hBs
  clear hBs
  simp only [Eng.laidOver, List.foldl_cons, List.foldl_nil]
  rw [fsp, fso]
  have ys : w3.heap.size ≤ w3.heap.size := Nat.le_refl _
  have hpB := HB0.out.grow (w' := w3) (by repeat (first | with_reducible exact Ext.refl _ _ | with_reducible refine Ext.trans ?_ (by assumption) | with_reducible refine Ext.drew ?_ | with_reducible refine Ext.drewN ?_ _ | with_reducible refine Ext.alloc ?_ _ | with_reducible refine Ext.setNew ?_ (by simp; done) _ | with_reducible refine Ext.setNew ?_ (by simp; omega) _))
  have p0 := hpB.cell 0 _ rfl; have p1 := hpB.cell 1 _ rfl; have pz := hpB.lt
  go_wp2_with fail
  refine (uToSto s _ _ C0.out (HV0.out.grow (by repeat (first | with_reducible exact Ext.refl _ _ | with_reducible refine Ext.trans ?_ (by assumption) | with_reducible refine Ext.drew ?_ | with_reducible refine Ext.drewN ?_ _ | with_reducible refine Ext.alloc ?_ _ | with_reducible refine Ext.setNew ?_ (by simp; done) _ | with_reducible refine Ext.setNew ?_ (by simp; omega) _)))).mono ?_
  rintro e w4 ⟨y0, f0, rfl, hg4, hF, hfr⟩
  have z4 := hg4.size
  try simp only [World.size_alloc] at z4
  try simp only [World.size_alloc] at hfr
  have F0 := Lib.hid hF
  have S0 := Lib.hid (Seg.of hfr)
  obtain ⟨sax0, scx0, rfl⟩ := openV_sto hF.rv
  unfold stoV at *
  clear hF hfr p0 p1 hpB pz
  have HBx0 := Lib.hid (BoxN.new w4 [.slice sax0 s.1.length scx0, .int .i64 s.2] 62)
  have hpB := HB2.out.grow (w' := w4) (by repeat (first | with_reducible exact Ext.refl _ _ | with_reducible refine Ext.trans ?_ (by assumption) | with_reducible refine Ext.drew ?_ | with_reducible refine Ext.drewN ?_ _ | with_reducible refine Ext.alloc ?_ _ | with_reducible refine Ext.setNew ?_ (by simp; done) _ | with_reducible refine Ext.setNew ?_ (by simp; omega) _))
  have p0 := hpB.cell 0 _ rfl; have p1 := hpB.cell 1 _ rfl; have p2 := hpB.cell 2 _ rfl; have p3 := hpB.cell 3 _ rfl; have p4 := hpB.cell 4 _ rfl; have pz := hpB.lt
  go_wp2_with fail
  refine (uToN n _ _ C2.out (HV2.out.grow (by repeat (first | with_reducible exact Ext.refl _ _ | with_reducible refine Ext.trans ?_ (by assumption) | with_reducible refine Ext.drew ?_ | with_reducible refine Ext.drewN ?_ _ | with_reducible refine Ext.alloc ?_ _ | with_reducible refine Ext.setNew ?_ (by simp; done) _ | with_reducible refine Ext.setNew ?_ (by simp; omega) _)))).mono ?_
  rintro e w5 ⟨y2, f2, rfl, hg5, hF, hfr⟩
  have z5 := hg5.size
  try simp only [World.size_alloc] at z5
  try simp only [World.size_alloc] at hfr
  have F2 := Lib.hid hF
  have S2 := Lib.hid (Seg.of hfr)
  obtain ⟨nax2, ncx2, kax2, kcx2, rfl⟩ := openV_node hF.rv
  unfold nodeV at *
  clear hF hfr p0 p1 p2 p3 p4 hpB pz
  have HBx2 := Lib.hid (BoxN.new w5 [.int .i64 n.kind, .int .i64 n.num, .string n.text, .slice nax2 n.names.length ncx2, .slice kax2 n.kids.length kcx2] 30)
  have pB0 := HBx0.out.grow (w' := w5) (by repeat (first | with_reducible exact Ext.refl _ _ | with_reducible refine Ext.trans ?_ (by assumption) | with_reducible refine Ext.drew ?_ | with_reducible refine Ext.drewN ?_ _ | with_reducible refine Ext.alloc ?_ _ | with_reducible refine Ext.setNew ?_ (by simp; done) _ | with_reducible refine Ext.setNew ?_ (by simp; omega) _))
  have p0 := pB0.cell 0 _ rfl; have p1 := pB0.cell 1 _ rfl; have pz := pB0.lt
  go_wp2_with fail
  refine (implPutItem_ok s nm n _ _ _ (by unfold big; omega) (F0.out.rv.grow (by repeat (first | with_reducible exact Ext.refl _ _ | with_reducible refine Ext.trans ?_ (by assumption) | with_reducible refine Ext.drew ?_ | with_reducible refine Ext.drewN ?_ _ | with_reducible refine Ext.alloc ?_ _ | with_reducible refine Ext.setNew ?_ (by simp; done) _ | with_reducible refine Ext.setNew ?_ (by simp; omega) _))) (F2.out.rv.grow (by repeat (first | with_reducible exact Ext.refl _ _ | with_reducible refine Ext.trans ?_ (by assumption) | with_reducible refine Ext.drew ?_ | with_reducible refine Ext.drewN ?_ _ | with_reducible refine Ext.alloc ?_ _ | with_reducible refine Ext.setNew ?_ (by simp; done) _ | with_reducible refine Ext.setNew ?_ (by simp; omega) _)))).mono ?_
  rintro e w6 ⟨rg, fg, rfl, hg6, hF, hfr⟩
  have z6 := hg6.size
  try simp only [World.size_alloc] at z6
  try simp only [World.size_alloc] at hfr
  have FG := Lib.hid hF
  have SG := Lib.hid (Seg.of hfr)
  obtain ⟨sag, scg, rfl⟩ := openV_sto hF.rv
  unfold stoV at *
  have HBg := Lib.hid (BoxN.new w6 [.slice sag (ptN s nm n).1.length scg, .int .i64 (ptN s nm n).2] 62)
  clear hF hfr
  clear p0 p1 pB0 pz
  have tB := HBs.out.grow (w' := w6) (by repeat (first | with_reducible exact Ext.refl _ _ | with_reducible refine Ext.trans ?_ (by assumption) | with_reducible refine Ext.drew ?_ | with_reducible refine Ext.drewN ?_ _ | with_reducible refine Ext.alloc ?_ _ | with_reducible refine Ext.setNew ?_ (by simp; done) _ | with_reducible refine Ext.setNew ?_ (by simp; omega) _))
  have t0 := tB.cell 0 _ rfl; have t1 := tB.cell 1 _ rfl; have tz := tB.lt
  go_wp2_with fail
  refine (uEqSto ((ptN s nm n)) _ _ _ (FG.out.rv.grow (by repeat (first | with_reducible exact Ext.refl _ _ | with_reducible refine Ext.trans ?_ (by assumption) | with_reducible refine Ext.drew ?_ | with_reducible refine Ext.drewN ?_ _ | with_reducible refine Ext.alloc ?_ _ | with_reducible refine Ext.setNew ?_ (by simp; done) _ | with_reducible refine Ext.setNew ?_ (by simp; omega) _))) (RW.out.any.grow (by repeat (first | with_reducible exact Ext.refl _ _ | with_reducible refine Ext.trans ?_ (by assumption) | with_reducible refine Ext.drew ?_ | with_reducible refine Ext.drewN ?_ _ | with_reducible refine Ext.alloc ?_ _ | with_reducible refine Ext.setNew ?_ (by simp; done) _ | with_reducible refine Ext.setNew ?_ (by simp; omega) _)))).mono ?_
  rintro e w7 ⟨rfl, hg7⟩
  have z7 := hg7.size
  try simp only [World.size_alloc] at z7
  clear t0 t1 tB tz
  go_wp2_with fail
  have pB := HBx0.out.grow (w' := w7) (by repeat (first | with_reducible exact Ext.refl _ _ | with_reducible refine Ext.trans ?_ (by assumption) | with_reducible refine Ext.drew ?_ | with_reducible refine Ext.drewN ?_ _ | with_reducible refine Ext.alloc ?_ _ | with_reducible refine Ext.setNew ?_ (by simp; done) _ | with_reducible refine Ext.setNew ?_ (by simp; omega) _))
  have p0 := pB.cell 0 _ rfl; have p1 := pB.cell 1 _ rfl
  have qB := HB0.out.grow (w' := w7) (by repeat (first | with_reducible exact Ext.refl _ _ | with_reducible refine Ext.trans ?_ (by assumption) | with_reducible refine Ext.drew ?_ | with_reducible refine Ext.drewN ?_ _ | with_reducible refine Ext.alloc ?_ _ | with_reducible refine Ext.setNew ?_ (by simp; done) _ | with_reducible refine Ext.setNew ?_ (by simp; omega) _))
  have q0 := qB.cell 0 _ rfl; have q1 := qB.cell 1 _ rfl
  refine wp_region_stab Grow (fun i => if i = 2 then some (fun v w' => RV stoRep packA w' any s v) else if i = 3 then some (fun v _ => v = .bool true) else none) (by kernel_rfl) (by kernel_rfl) ⟨Ext.refl nil, fun _ _ h1 h2 => h2.trans h1, ?_⟩ ?_
  · intro i V hV v w1 w2 hr hv
    by_cases h1 : i = 2
    · simp only [h1, if_true, Option.some.injEq] at hV; subst hV; exact RV.grow hv hr
    · by_cases h3 : i = 3
      · simp [h3] at hV; subst hV; exact hv
      · simp [h1, h3] at hV
  (refine wpStab_quiet (by kernel_rfl) (by kernel_rfl) (by simp) ?_; intro K hK; go_big_quiet_op; go_big_quiet_on)
  (refine wpStab_quiet (by kernel_rfl) (by kernel_rfl) (by simp) ?_; intro K hK; go_big_quiet_op; go_big_quiet_on)
  refine wpStab_made (fun v w' => RV stoRep packA w' any s v) ?_ ?_ ?_ ?_
  · go_simp
  · simp
  · intro y _
    refine stabAt_call (f := 31) (args := #[.agg #[.slice sa0 s.1.length sc0, .int .i64 s.2]]) ?_ ?_
    · go_simp
    · refine (uToSto s _ _ C0.out (HV0.out.grow (((by repeat (first | with_reducible exact Ext.refl _ _ | with_reducible refine Ext.trans ?_ (by assumption) | with_reducible refine Ext.drew ?_ | with_reducible refine Ext.drewN ?_ _ | with_reducible refine Ext.alloc ?_ _ | with_reducible refine Ext.setNew ?_ (by simp; done) _ | with_reducible refine Ext.setNew ?_ (by simp; omega) _)) : Grow w w7).trans (later_grow _ _)))).mono ?_
      rintro e w' ⟨v', fp, rfl, hg, hF, _⟩
      exact ⟨_, rfl, hg, hF.rv⟩
  intro vt
  go_frame
  refine wpStab_const (.bool true) ?_ ?_ ?_ ?_
  · go_simp
  · simp
  · intro y hE
    have Hr6 : RV stoRep packA (later w7 y) any s vt := (hE ⟨2, .data⟩ (by simp) (by decide)).2 rfl
    clear hE
    refine stabAt_call (f := 34) (args := #[.agg #[.slice sax0 s.1.length scx0, .int .i64 s.2], vt]) ?_ ?_
    · go_simp
    · refine (uEqSto s _ _ _ (F0.out.rv.grow (((by repeat (first | with_reducible exact Ext.refl _ _ | with_reducible refine Ext.trans ?_ (by assumption) | with_reducible refine Ext.drew ?_ | with_reducible refine Ext.drewN ?_ _ | with_reducible refine Ext.alloc ?_ _ | with_reducible refine Ext.setNew ?_ (by simp; done) _ | with_reducible refine Ext.setNew ?_ (by simp; omega) _)) : Grow _ w7).trans (later_grow _ _))) Hr6).mono ?_
      rintro e w' ⟨rfl, hg⟩
      exact ⟨_, rfl, hg, rfl⟩
  go_frame
  (refine wpStab_quiet (by kernel_rfl) (by kernel_rfl) (by simp) ?_; intro K hK; go_big_quiet_op; go_big_quiet_on)
  refine wpStab_end ?_
  intro w8 hg8
  clear p0 p1 pB q0 q1 qB
  have z8 := hg8.size
  go_wp2_with fail
  have pB := HBx2.out.grow (w' := w8) (by repeat (first | with_reducible exact Ext.refl _ _ | with_reducible refine Ext.trans ?_ (by assumption) | with_reducible refine Ext.drew ?_ | with_reducible refine Ext.drewN ?_ _ | with_reducible refine Ext.alloc ?_ _ | with_reducible refine Ext.setNew ?_ (by simp; done) _ | with_reducible refine Ext.setNew ?_ (by simp; omega) _))
  have p0 := pB.cell 0 _ rfl; have p1 := pB.cell 1 _ rfl; have p2 := pB.cell 2 _ rfl; have p3 := pB.cell 3 _ rfl; have p4 := pB.cell 4 _ rfl
  have qB := HB2.out.grow (w' := w8) (by repeat (first | with_reducible exact Ext.refl _ _ | with_reducible refine Ext.trans ?_ (by assumption) | with_reducible refine Ext.drew ?_ | with_reducible refine Ext.drewN ?_ _ | with_reducible refine Ext.alloc ?_ _ | with_reducible refine Ext.setNew ?_ (by simp; done) _ | with_reducible refine Ext.setNew ?_ (by simp; omega) _))
  have q0 := qB.cell 0 _ rfl; have q1 := qB.cell 1 _ rfl; have q2 := qB.cell 2 _ rfl; have q3 := qB.cell 3 _ rfl; have q4 := qB.cell 4 _ rfl
  refine wp_region_stab Grow (fun i => if i = 2 then some (fun v w' => RV nodeRep packA w' any n v) else if i = 3 then some (fun v _ => v = .bool true) else none) (by kernel_rfl) (by kernel_rfl) ⟨Ext.refl nil, fun _ _ h1 h2 => h2.trans h1, ?_⟩ ?_
  · intro i V hV v w1 w2 hr hv
    by_cases h1 : i = 2
    · simp only [h1, if_true, Option.some.injEq] at hV; subst hV; exact RV.grow hv hr
    · by_cases h3 : i = 3
      · simp [h3] at hV; subst hV; exact hv
      · simp [h1, h3] at hV
  (refine wpStab_quiet (by kernel_rfl) (by kernel_rfl) (by simp) ?_; intro K hK; go_big_quiet_op; go_big_quiet_on)
  (refine wpStab_quiet (by kernel_rfl) (by kernel_rfl) (by simp) ?_; intro K hK; go_big_quiet_op; go_big_quiet_on)
  refine wpStab_made (fun v w' => RV nodeRep packA w' any n v) ?_ ?_ ?_ ?_
  · go_simp
  · simp
  · intro y _
    refine stabAt_call (f := 32) (args := #[.agg #[.int .i64 n.kind, .int .i64 n.num, .string n.text, .slice na2 n.names.length nc2, .slice ka2 n.kids.length kc2]]) ?_ ?_
    · go_simp
    · refine (uToN n _ _ C2.out (HV2.out.grow (((by repeat (first | with_reducible exact Ext.refl _ _ | with_reducible refine Ext.trans ?_ (by assumption) | with_reducible refine Ext.drew ?_ | with_reducible refine Ext.drewN ?_ _ | with_reducible refine Ext.alloc ?_ _ | with_reducible refine Ext.setNew ?_ (by simp; done) _ | with_reducible refine Ext.setNew ?_ (by simp; omega) _)) : Grow w w8).trans (later_grow _ _)))).mono ?_
      rintro e w' ⟨v', fp, rfl, hg, hF, _⟩
      exact ⟨_, rfl, hg, hF.rv⟩
  intro vt
  go_frame
  refine wpStab_const (.bool true) ?_ ?_ ?_ ?_
  · go_simp
  · simp
  · intro y hE
    have Hr6 : RV nodeRep packA (later w8 y) any n vt := (hE ⟨2, .data⟩ (by simp) (by decide)).2 rfl
    clear hE
    refine stabAt_call (f := 23) (args := #[.agg #[.int .i64 n.kind, .int .i64 n.num, .string n.text, .slice nax2 n.names.length ncx2, .slice kax2 n.kids.length kcx2], vt]) ?_ ?_
    · go_simp
    · refine (uEqN n _ _ _ (F2.out.rv.grow (((by repeat (first | with_reducible exact Ext.refl _ _ | with_reducible refine Ext.trans ?_ (by assumption) | with_reducible refine Ext.drew ?_ | with_reducible refine Ext.drewN ?_ _ | with_reducible refine Ext.alloc ?_ _ | with_reducible refine Ext.setNew ?_ (by simp; done) _ | with_reducible refine Ext.setNew ?_ (by simp; omega) _)) : Grow _ w8).trans (later_grow _ _))) Hr6).mono ?_
      rintro e w' ⟨rfl, hg⟩
      exact ⟨_, rfl, hg, rfl⟩
  go_frame
  (refine wpStab_quiet (by kernel_rfl) (by kernel_rfl) (by simp) ?_; intro K hK; go_big_quiet_op; go_big_quiet_on)
  refine wpStab_end ?_
  intro w9 hg9
  clear p0 p1 p2 p3 p4 pB q0 q1 q2 q3 q4 qB
  have z9 := hg9.size
  replace F0 := Lib.hid (F0.out.grow S0.out (w' := w9) (by repeat (first | with_reducible exact Ext.refl _ _ | with_reducible refine Ext.trans ?_ (by assumption) | with_reducible refine Ext.drew ?_ | with_reducible refine Ext.drewN ?_ _ | with_reducible refine Ext.alloc ?_ _ | with_reducible refine Ext.setNew ?_ (by simp; done) _ | with_reducible refine Ext.setNew ?_ (by simp; omega) _)))
  replace S0 := Lib.hid (S0.out.grow (w' := w9) (by repeat (first | with_reducible exact Ext.refl _ _ | with_reducible refine Ext.trans ?_ (by assumption) | with_reducible refine Ext.drew ?_ | with_reducible refine Ext.drewN ?_ _ | with_reducible refine Ext.alloc ?_ _ | with_reducible refine Ext.setNew ?_ (by simp; done) _ | with_reducible refine Ext.setNew ?_ (by simp; omega) _)))
  replace F2 := Lib.hid (F2.out.grow S2.out (w' := w9) (by repeat (first | with_reducible exact Ext.refl _ _ | with_reducible refine Ext.trans ?_ (by assumption) | with_reducible refine Ext.drew ?_ | with_reducible refine Ext.drewN ?_ _ | with_reducible refine Ext.alloc ?_ _ | with_reducible refine Ext.setNew ?_ (by simp; done) _ | with_reducible refine Ext.setNew ?_ (by simp; omega) _)))
  replace S2 := Lib.hid (S2.out.grow (w' := w9) (by repeat (first | with_reducible exact Ext.refl _ _ | with_reducible refine Ext.trans ?_ (by assumption) | with_reducible refine Ext.drew ?_ | with_reducible refine Ext.drewN ?_ _ | with_reducible refine Ext.alloc ?_ _ | with_reducible refine Ext.setNew ?_ (by simp; done) _ | with_reducible refine Ext.setNew ?_ (by simp; omega) _)))
  replace FG := Lib.hid (FG.out.grow SG.out (w' := w9) (by repeat (first | with_reducible exact Ext.refl _ _ | with_reducible refine Ext.trans ?_ (by assumption) | with_reducible refine Ext.drew ?_ | with_reducible refine Ext.drewN ?_ _ | with_reducible refine Ext.alloc ?_ _ | with_reducible refine Ext.setNew ?_ (by simp; done) _ | with_reducible refine Ext.setNew ?_ (by simp; omega) _)))
  replace SG := Lib.hid (SG.out.grow (w' := w9) (by repeat (first | with_reducible exact Ext.refl _ _ | with_reducible refine Ext.trans ?_ (by assumption) | with_reducible refine Ext.drew ?_ | with_reducible refine Ext.drewN ?_ _ | with_reducible refine Ext.alloc ?_ _ | with_reducible refine Ext.setNew ?_ (by simp; done) _ | with_reducible refine Ext.setNew ?_ (by simp; omega) _)))
  replace RW := Lib.hid (RW.out.grow (w' := w9) (by repeat (first | with_reducible exact Ext.refl _ _ | with_reducible refine Ext.trans ?_ (by assumption) | with_reducible refine Ext.drew ?_ | with_reducible refine Ext.drewN ?_ _ | with_reducible refine Ext.alloc ?_ _ | with_reducible refine Ext.setNew ?_ (by simp; done) _ | with_reducible refine Ext.setNew ?_ (by simp; omega) _)))
  replace HB0 := Lib.hid (HB0.out.grow (w' := w9) (by repeat (first | with_reducible exact Ext.refl _ _ | with_reducible refine Ext.trans ?_ (by assumption) | with_reducible refine Ext.drew ?_ | with_reducible refine Ext.drewN ?_ _ | with_reducible refine Ext.alloc ?_ _ | with_reducible refine Ext.setNew ?_ (by simp; done) _ | with_reducible refine Ext.setNew ?_ (by simp; omega) _)))
  replace HB2 := Lib.hid (HB2.out.grow (w' := w9) (by repeat (first | with_reducible exact Ext.refl _ _ | with_reducible refine Ext.trans ?_ (by assumption) | with_reducible refine Ext.drew ?_ | with_reducible refine Ext.drewN ?_ _ | with_reducible refine Ext.alloc ?_ _ | with_reducible refine Ext.setNew ?_ (by simp; done) _ | with_reducible refine Ext.setNew ?_ (by simp; omega) _)))
  replace HBx0 := Lib.hid (HBx0.out.grow (w' := w9) (by repeat (first | with_reducible exact Ext.refl _ _ | with_reducible refine Ext.trans ?_ (by assumption) | with_reducible refine Ext.drew ?_ | with_reducible refine Ext.drewN ?_ _ | with_reducible refine Ext.alloc ?_ _ | with_reducible refine Ext.setNew ?_ (by simp; done) _ | with_reducible refine Ext.setNew ?_ (by simp; omega) _)))
  replace HBx2 := Lib.hid (HBx2.out.grow (w' := w9) (by repeat (first | with_reducible exact Ext.refl _ _ | with_reducible refine Ext.trans ?_ (by assumption) | with_reducible refine Ext.drew ?_ | with_reducible refine Ext.drewN ?_ _ | with_reducible refine Ext.alloc ?_ _ | with_reducible refine Ext.setNew ?_ (by simp; done) _ | with_reducible refine Ext.setNew ?_ (by simp; omega) _)))
  replace HBs := Lib.hid (HBs.out.grow (w' := w9) (by repeat (first | with_reducible exact Ext.refl _ _ | with_reducible refine Ext.trans ?_ (by assumption) | with_reducible refine Ext.drew ?_ | with_reducible refine Ext.drewN ?_ _ | with_reducible refine Ext.alloc ?_ _ | with_reducible refine Ext.setNew ?_ (by simp; done) _ | with_reducible refine Ext.setNew ?_ (by simp; omega) _)))
  replace HBg := Lib.hid (HBg.out.grow (w' := w9) (by repeat (first | with_reducible exact Ext.refl _ _ | with_reducible refine Ext.trans ?_ (by assumption) | with_reducible refine Ext.drew ?_ | with_reducible refine Ext.drewN ?_ _ | with_reducible refine Ext.alloc ?_ _ | with_reducible refine Ext.setNew ?_ (by simp; done) _ | with_reducible refine Ext.setNew ?_ (by simp; omega) _)))
  have lHB0 := HB0.out.lt
  have lHB2 := HB2.out.lt
  have lHBx0 := HBx0.out.lt
  have lHBx2 := HBx2.out.lt
  have lHBs := HBs.out.lt
  have lHBg := HBg.out.lt
  have hgA : Grow w w9 := (by repeat (first | with_reducible exact Ext.refl _ _ | with_reducible refine Ext.trans ?_ (by assumption) | with_reducible refine Ext.drew ?_ | with_reducible refine Ext.drewN ?_ _ | with_reducible refine Ext.alloc ?_ _ | with_reducible refine Ext.setNew ?_ (by simp; done) _ | with_reducible refine Ext.setNew ?_ (by simp; omega) _))
  clear hg1 hg2 hg3 hg4 hg5 hg6 hg7 hg8 hg9
  have m0 := cntSto_le s
  have m2 := cntT_le n
  have mg := ptN_cnt s nm n
  have p0 := HBx0.out.cell 0 _ rfl; have p1 := HBx0.out.cell 1 _ rfl
  go_wp2_with fail
  refine (uMarkSto s _ f0 _ (1) _ _ (by rfl) F0.out S0.out.1 (by omega) (by omega)).mono ?_
  rintro e w10 ⟨rfl, hx, _, _⟩
  clear p0 p1
  replace F2 := Lib.hid (F2.out.keep (S2.out.keeps S0.out (by omega) hx))
  replace S2 := Lib.hid (S2.out.ext S0.out (by omega) hx)
  replace FG := Lib.hid (FG.out.keep (SG.out.keeps S0.out (by omega) hx))
  replace SG := Lib.hid (SG.out.ext S0.out (by omega) hx)
  replace HB0 := Lib.hid (S0.out.box HB0.out hx (by omega))
  replace HB2 := Lib.hid (S0.out.box HB2.out hx (by omega))
  replace HBx0 := Lib.hid (S0.out.box HBx0.out hx (by omega))
  replace HBx2 := Lib.hid (S0.out.box HBx2.out hx (by omega))
  replace HBs := Lib.hid (S0.out.box HBs.out hx (by omega))
  replace HBg := Lib.hid (S0.out.box HBg.out hx (by omega))
  replace RW := Lib.hid (S0.out.rv RW.out hx (by omega))
  replace hgA := S0.out.inner hgA hx (by omega)
  clear hx F0
  have p0 := HBx2.out.cell 0 _ rfl; have p1 := HBx2.out.cell 1 _ rfl; have p2 := HBx2.out.cell 2 _ rfl; have p3 := HBx2.out.cell 3 _ rfl; have p4 := HBx2.out.cell 4 _ rfl
  go_wp2_with fail
  refine (uMarkN n _ f2 _ (1 + cntSto s) _ _ (by simp) F2.out S2.out.1 (by omega) (by omega)).mono ?_
  rintro e w11 ⟨rfl, hx, _, _⟩
  clear p0 p1 p2 p3 p4
  replace FG := Lib.hid (FG.out.keep (SG.out.keeps S2.out (by omega) hx))
  replace SG := Lib.hid (SG.out.ext S2.out (by omega) hx)
  replace HB0 := Lib.hid (S2.out.box HB0.out hx (by omega))
  replace HB2 := Lib.hid (S2.out.box HB2.out hx (by omega))
  replace HBx0 := Lib.hid (S2.out.box HBx0.out hx (by omega))
  replace HBx2 := Lib.hid (S2.out.box HBx2.out hx (by omega))
  replace HBs := Lib.hid (S2.out.box HBs.out hx (by omega))
  replace HBg := Lib.hid (S2.out.box HBg.out hx (by omega))
  replace RW := Lib.hid (S2.out.rv RW.out hx (by omega))
  replace hgA := S2.out.inner hgA hx (by omega)
  clear hx F2
  have r0 := HBg.out.cell 0 _ rfl; have r1 := HBg.out.cell 1 _ rfl
  have t0 := HBs.out.cell 0 _ rfl; have t1 := HBs.out.cell 1 _ rfl
  go_wp2_with fail
  refine (uEqSto ((ptN s nm n)) _ _ _ FG.out.rv RW.out.any).mono ?_
  rintro e w12 ⟨rfl, hg⟩
  clear r0 r1 t0 t1
  replace FG := Lib.hid (FG.out.grow SG.out hg)
  replace SG := Lib.hid (SG.out.grow hg)
  replace RW := Lib.hid (RW.out.grow hg)
  replace HB0 := Lib.hid (HB0.out.grow hg)
  replace HB2 := Lib.hid (HB2.out.grow hg)
  replace HBx0 := Lib.hid (HBx0.out.grow hg)
  replace HBx2 := Lib.hid (HBx2.out.grow hg)
  replace HBs := Lib.hid (HBs.out.grow hg)
  replace HBg := Lib.hid (HBg.out.grow hg)
  replace hgA := hgA.trans hg
  clear hg
  have r0 := HBg.out.cell 0 _ rfl; have r1 := HBg.out.cell 1 _ rfl
  go_wp2_with fail
  refine (uMarkSto ((ptN s nm n)) _ fg _ 1 _ _ (by rfl) FG.out SG.out.1 (by omega) (by omega)).mono ?_
  rintro e w13 ⟨rfl, hx, hfr, hF⟩
  clear r0 r1
  replace HB0 := Lib.hid (SG.out.box HB0.out hx (by omega))
  replace HB2 := Lib.hid (SG.out.box HB2.out hx (by omega))
  replace HBx0 := Lib.hid (SG.out.box HBx0.out hx (by omega))
  replace HBx2 := Lib.hid (SG.out.box HBx2.out hx (by omega))
  replace HBs := Lib.hid (SG.out.box HBs.out hx (by omega))
  replace HBg := Lib.hid (SG.out.box HBg.out hx (by omega))
  replace RW := Lib.hid (SG.out.rv RW.out hx (by omega))
  replace hgA := SG.out.inner hgA hx (by omega)
  replace FG := Lib.hid hF
  replace SG := Lib.hid (SG.out.marked hfr)
  clear hx hfr hF
  have r0 := HBg.out.cell 0 _ rfl; have r1 := HBg.out.cell 1 _ rfl
  go_wp2_with fail
  refine (uHeldSto ((ptN s nm n)) _ 1 _ _ (by rfl) FG.out.rv (by omega) (by omega)).mono ?_
  rintro e w14 ⟨rfl, hg⟩
  clear r0 r1
  replace FG := Lib.hid (FG.out.grow SG.out hg)
  replace SG := Lib.hid (SG.out.grow hg)
  replace RW := Lib.hid (RW.out.grow hg)
  replace HB0 := Lib.hid (HB0.out.grow hg)
  replace HB2 := Lib.hid (HB2.out.grow hg)
  replace HBx0 := Lib.hid (HBx0.out.grow hg)
  replace HBx2 := Lib.hid (HBx2.out.grow hg)
  replace HBs := Lib.hid (HBs.out.grow hg)
  replace HBg := Lib.hid (HBg.out.grow hg)
  replace hgA := hgA.trans hg
  clear hg
  have hbb : ((1 + cntSto ((ptN s nm n)) : Nat) != (1 + cntSto ((ptN s nm n)) : Nat)) = false := by simp
  have hgc := hgA
  go_wp2_with fail
  refine Eng.putRgn33 s nm n (ptN s nm n) (ptB s nm n) C0.out C2.out (by kernel_rfl) (by kernel_rfl) (by kernel_rfl) (by kernel_rfl) (implPutItem_hcon s nm n) rfl rfl rfl (by unfold big; omega) rfl rfl (HB0.out.grow (w' := w14) (by repeat (first | with_reducible exact Ext.refl _ _ | with_reducible refine Ext.trans ?_ (by assumption) | with_reducible refine Ext.drew ?_ | with_reducible refine Ext.drewN ?_ _ | with_reducible refine Ext.alloc ?_ _ | with_reducible refine Ext.setNew ?_ (by simp; done) _ | with_reducible refine Ext.setNew ?_ (by simp; omega) _))) (HV0.out.grow (by repeat (first | with_reducible exact Ext.refl _ _ | with_reducible refine Ext.trans ?_ (by assumption) | with_reducible refine Ext.drew ?_ | with_reducible refine Ext.drewN ?_ _ | with_reducible refine Ext.alloc ?_ _ | with_reducible refine Ext.setNew ?_ (by simp; done) _ | with_reducible refine Ext.setNew ?_ (by simp; omega) _))) (HB2.out.grow (w' := w14) (by repeat (first | with_reducible exact Ext.refl _ _ | with_reducible refine Ext.trans ?_ (by assumption) | with_reducible refine Ext.drew ?_ | with_reducible refine Ext.drewN ?_ _ | with_reducible refine Ext.alloc ?_ _ | with_reducible refine Ext.setNew ?_ (by simp; done) _ | with_reducible refine Ext.setNew ?_ (by simp; omega) _))) (HV2.out.grow (by repeat (first | with_reducible exact Ext.refl _ _ | with_reducible refine Ext.trans ?_ (by assumption) | with_reducible refine Ext.drew ?_ | with_reducible refine Ext.drewN ?_ _ | with_reducible refine Ext.alloc ?_ _ | with_reducible refine Ext.setNew ?_ (by simp; done) _ | with_reducible refine Ext.setNew ?_ (by simp; omega) _))) ?_
  intro w15 fh gh xsh hg15 fhp fho hBh hR
  have z15 := hg15.size
  have RH := Lib.hid hR
  obtain ⟨sah, sch, he⟩ := openV_sto hR
  unfold stoV at he
  have hxs : xsh = _ := congrArg Array.toList (Value.agg.inj he)
  subst hxs
  clear hR he
  have glh := hBh.lt
  have HBh := Lib.hid hBh
  clear hBh
  simp only [Eng.laidOver, List.foldl_cons, List.foldl_nil]
  rw [fhp, fho]
  have uB := HBh.out.grow (w' := w15) (by repeat (first | with_reducible exact Ext.refl _ _ | with_reducible refine Ext.trans ?_ (by assumption) | with_reducible refine Ext.drew ?_ | with_reducible refine Ext.drewN ?_ _ | with_reducible refine Ext.alloc ?_ _ | with_reducible refine Ext.setNew ?_ (by simp; done) _ | with_reducible refine Ext.setNew ?_ (by simp; omega) _))
  have u0 := uB.cell 0 _ rfl; have u1 := uB.cell 1 _ rfl; have uz := uB.lt
  have tB := HBs.out.grow (w' := w15) (by repeat (first | with_reducible exact Ext.refl _ _ | with_reducible refine Ext.trans ?_ (by assumption) | with_reducible refine Ext.drew ?_ | with_reducible refine Ext.drewN ?_ _ | with_reducible refine Ext.alloc ?_ _ | with_reducible refine Ext.setNew ?_ (by simp; done) _ | with_reducible refine Ext.setNew ?_ (by simp; omega) _))
  have t0 := tB.cell 0 _ rfl; have t1 := tB.cell 1 _ rfl; have tz := tB.lt
  go_wp2_with fail
  refine (uEqSto ((ptN s nm n)) _ _ _ (RH.out.grow (by repeat (first | with_reducible exact Ext.refl _ _ | with_reducible refine Ext.trans ?_ (by assumption) | with_reducible refine Ext.drew ?_ | with_reducible refine Ext.drewN ?_ _ | with_reducible refine Ext.alloc ?_ _ | with_reducible refine Ext.setNew ?_ (by simp; done) _ | with_reducible refine Ext.setNew ?_ (by simp; omega) _))) (RW.out.any.grow (by repeat (first | with_reducible exact Ext.refl _ _ | with_reducible refine Ext.trans ?_ (by assumption) | with_reducible refine Ext.drew ?_ | with_reducible refine Ext.drewN ?_ _ | with_reducible refine Ext.alloc ?_ _ | with_reducible refine Ext.setNew ?_ (by simp; done) _ | with_reducible refine Ext.setNew ?_ (by simp; omega) _)))).mono ?_
  rintro e w16 ⟨rfl, hg16⟩
  have z16 := hg16.size
  try simp only [World.size_alloc] at z16
  clear t0 t1 tB tz
  have rB := HBg.out.grow (w' := w16) (by repeat (first | with_reducible exact Ext.refl _ _ | with_reducible refine Ext.trans ?_ (by assumption) | with_reducible refine Ext.drew ?_ | with_reducible refine Ext.drewN ?_ _ | with_reducible refine Ext.alloc ?_ _ | with_reducible refine Ext.setNew ?_ (by simp; done) _ | with_reducible refine Ext.setNew ?_ (by simp; omega) _))
  have r0 := rB.cell 0 _ rfl; have r1 := rB.cell 1 _ rfl; have rz := rB.lt
  go_wp2_with fail
  refine (uHeldSto ((ptN s nm n)) _ 1 _ _ (by rfl) (FG.out.rv.grow (by repeat (first | with_reducible exact Ext.refl _ _ | with_reducible refine Ext.trans ?_ (by assumption) | with_reducible refine Ext.drew ?_ | with_reducible refine Ext.drewN ?_ _ | with_reducible refine Ext.alloc ?_ _ | with_reducible refine Ext.setNew ?_ (by simp; done) _ | with_reducible refine Ext.setNew ?_ (by simp; omega) _))) (by omega) (by omega)).mono ?_
  rintro e w17 ⟨rfl, hg17⟩
  have z17 := hg17.size
  try simp only [World.size_alloc] at z17
  clear r0 r1 rB rz
  go_wp2_with fail
  go_ret
  exact ⟨by simp, (by repeat (first | with_reducible exact Ext.refl _ _ | with_reducible refine Ext.trans ?_ (by assumption) | with_reducible refine Ext.drew ?_ | with_reducible refine Ext.drewN ?_ _ | with_reducible refine Ext.alloc ?_ _ | with_reducible refine Ext.setNew ?_ (by simp; done) _ | with_reducible refine Ext.setNew ?_ (by simp; omega) _))⟩
theorem lawPut_ok (s : Sto) (nm : ByteArray) (n : Nd) (v0 : Value) (v2 : Value) (w : World) (h0 : RV stoRep packA w any s v0) (h2 : RV nodeRep packA w any n v2) (hb1 : nm.size ≤ big) :
    Calls Try.prog 5 #[v0, .string nm, v2] w fun e w' => e = .returned (.bool true) ∧ Grow w w' := by
  by_cases hq1 : nm.size ≤ 1048576
  rotate_left
  · exact lawPut_long1 s nm n v0 v2 w h0 h2 hq1 hb1
  by_cases hc : costSto s + costN n ≤ 1048576
  · exact lawPut_main s nm n v0 v2 w h0 h2 hq1 hc
  · exact lawPut_big s nm n v0 v2 w h0 h2 hq1 hc
end Go.Proofs.Ytgfnmhfdmmnaoaa
namespace Go.Proofs.Ytgfnmhfdmmnaoaa
open Go.RowKit Go.ChangeShapes Go.WideShapes Go.Deep
section
variable {H : Type} {enc : TypeId × Value → H} {W : World} {base : Nat} {sp : Nat → Bool} {held : Bool}
theorem addr_spot {w : World} {a : Addr} {v : Value} (h : w.cell? a = some v) : ∃ b o, a = ⟨b, o, none⟩ := by
  have := World.cell?_spot h
  exact ⟨a.block, a.off, by cases a; simp_all⟩
theorem add_mk (b o i : Nat) : (⟨b, o, none⟩ : Addr).add i = ⟨b, o + i, none⟩ := by
  unfold Addr.add; split
  · rename_i h; subst h; rfl
  · rfl
theorem open_strs' {fuel : Nat} {cs : List Value} {x : DataW H × List MemPlace} (h : DataW.trod enc Try.prog W base sp held fuel 23 cs = some x) :
    ∃ a c xs, cs = [.slice a xs.length c] ∧ StrsR W any a c xs := by
  rcases open_slice Try.underlying23 h with ⟨rfl, _⟩ | ⟨a, len, cap, m, n, D, Pl, rfl, _, hl, hm, hmm, _, hi⟩
  · exact ⟨none, 0, [], rfl, by simp, by simp, by simp, .inl rfl⟩
  · have hlm : len ≤ m := by rw [hmm]; split <;> omega
    have hel : ∀ i, i < len → ∃ s : ByteArray, W.cell? (a.add i) = some (.string s) ∧ s.size ≤ maxLen := fun i hi' => by
      obtain ⟨cs', h1, h2⟩ := hi i (by omega)
      have hc : Try.prog.cellsOf 9 = 1 := by kernel_rfl
      rw [hc] at h1
      obtain ⟨_, hlen, hat⟩ := World.cells?_some h1
      obtain ⟨s, rfl, _, hs⟩ := DataW.trod_string Try.underlying9 h2
      have := hat 0 (by omega)
      exact ⟨s, by simpa [Go.Deep.add_add] using this, hs⟩
    have : Inhabited ByteArray := ⟨ByteArray.empty⟩
    obtain ⟨f, hf⟩ := choose_lt hel
    refine ⟨some a, cap, (List.range len).map f, by simp, by simpa using hl, by simp; unfold maxLen at hm; unfold big; omega, ?_, ?_⟩
    · intro x hx
      obtain ⟨i, hi', rfl⟩ := List.mem_map.1 hx
      have := (hf i (List.mem_range.1 hi')).2
      unfold maxLen at this; unfold big; omega
    · by_cases h0 : len = 0
      · subst h0; exact .inl rfl
      · obtain ⟨b, o, ha⟩ := addr_spot (hf 0 (by omega)).1
        have ha' : a = ⟨b, o, none⟩ := by simpa [Addr.add] using ha
        subst ha'
        refine .inr ⟨b, o, rfl, trivial, fun i hi' => ?_⟩
        simp at hi'
        have := (hf i hi').1
        rw [add_mk] at this
        simpa using this
theorem open_node : ∀ (fuel : Nat) (cs : List Value) (x : DataW H × List MemPlace), DataW.trod enc Try.prog W base sp held fuel 41 cs = some x →
    ∃ n na nc ka kc, cs = [.int .i64 n.kind, .int .i64 n.num, .string n.text, .slice na n.names.length nc, .slice ka n.kids.length kc] ∧ NodeC W any n na nc ka kc := by
  intro fuel
  induction fuel using Nat.strongRecOn with
  | ind fuel ih =>
    intro cs x h
    obtain ⟨xs, n, rfl, _, hlen, hxs, hf⟩ := DataW.trod_struct Try.underlying41 h
    have hc : Try.prog.cellsOf 41 = 5 := by kernel_rfl
    have c3 : Try.prog.cellsOf 3 = 1 := by kernel_rfl
    have c9 : Try.prog.cellsOf 9 = 1 := by kernel_rfl
    have c23 : Try.prog.cellsOf 23 = 1 := by kernel_rfl
    have c57 : Try.prog.cellsOf 39 = 1 := by kernel_rfl
    rw [hc] at hlen
    match cs, hlen with
    | [v0, v1, v2, v3, v4], _ =>
      obtain ⟨y0, g0⟩ : ∃ y, DataW.trod enc Try.prog W base sp held n 3 [v0] = some y := ⟨xs[0]'(by simp at hxs; omega), by
        have h := hf 0 _ rfl
        rw [List.getElem?_eq_getElem (by simp at hxs; omega)] at h
        simpa [c3, c9, c23, c57] using h⟩
      obtain ⟨y1, g1⟩ : ∃ y, DataW.trod enc Try.prog W base sp held n 3 [v1] = some y := ⟨xs[1]'(by simp at hxs; omega), by
        have h := hf 1 _ rfl
        rw [List.getElem?_eq_getElem (by simp at hxs; omega)] at h
        simpa [c3, c9, c23, c57] using h⟩
      obtain ⟨y2, g2⟩ : ∃ y, DataW.trod enc Try.prog W base sp held n 9 [v2] = some y := ⟨xs[2]'(by simp at hxs; omega), by
        have h := hf 2 _ rfl
        rw [List.getElem?_eq_getElem (by simp at hxs; omega)] at h
        simpa [c3, c9, c23, c57] using h⟩
      obtain ⟨y3, g3⟩ : ∃ y, DataW.trod enc Try.prog W base sp held n 23 [v3] = some y := ⟨xs[3]'(by simp at hxs; omega), by
        have h := hf 3 _ rfl
        rw [List.getElem?_eq_getElem (by simp at hxs; omega)] at h
        simpa [c3, c9, c23, c57] using h⟩
      obtain ⟨y4, g4⟩ : ∃ y, DataW.trod enc Try.prog W base sp held n 39 [v4] = some y := ⟨xs[4]'(by simp at hxs; omega), by
        have h := hf 4 _ rfl
        rw [List.getElem?_eq_getElem (by simp at hxs; omega)] at h
        simpa [c3, c9, c23, c57] using h⟩
      clear hf
      obtain ⟨kind, e0, _, _⟩ := DataW.trod_int Try.underlying3 g0
      obtain ⟨num, e1, _, _⟩ := DataW.trod_int Try.underlying3 g1
      obtain ⟨text, e2, _, hts⟩ := DataW.trod_string Try.underlying9 g2
      obtain ⟨na, nc, names, e3, hns⟩ := open_strs' g3
      simp only [List.cons.injEq, and_true] at e0 e1 e2 e3
      subst e0 e1 e2 e3
      have htx : text.size ≤ big := by unfold maxLen at hts; unfold big; omega
      rcases DataW.trod_slice Try.underlying39 g4 with ⟨e4, _⟩ | ⟨a, len, cap, elems, rest, n', rfl, e4, _, _, hl, hm, hel, hi, _, _⟩
      · simp only [List.cons.injEq, and_true] at e4
        subst e4
        exact ⟨⟨kind, num, text, names, []⟩, na, nc, none, 0, rfl, NodeC.mk htx hns ⟨by simp, by simp, .inl rfl⟩⟩
      · simp only [List.cons.injEq, and_true] at e4
        subst e4
        rw [hc] at hi
        have key : ∀ i, i < len → ∃ (k : Nd × (Option Addr × Nat × Option Addr × Nat)), W.cell? (a.add (i * 5)) = some (.int .i64 k.1.kind) ∧ W.cell? (a.add (i * 5 + 1)) = some (.int .i64 k.1.num) ∧ W.cell? (a.add (i * 5 + 2)) = some (.string k.1.text) ∧
            W.cell? (a.add (i * 5 + 3)) = some (.slice k.2.1 k.1.names.length k.2.2.1) ∧ W.cell? (a.add (i * 5 + 4)) = some (.slice k.2.2.2.1 k.1.kids.length k.2.2.2.2) ∧ NodeC W any k.1 k.2.1 k.2.2.1 k.2.2.2.1 k.2.2.2.2 := fun i hi' => by
          have h := hi i hi'
          rw [List.getElem?_eq_getElem (by omega)] at h
          obtain ⟨cs', h1, h2⟩ := Option.bind_eq_some_iff.1 h
          obtain ⟨_, hl5, hat⟩ := World.cells?_some h1
          obtain ⟨m, na', nc', ka', kc', rfl, hn'⟩ := ih n' (by omega) cs' _ h2
          refine ⟨⟨m, na', nc', ka', kc'⟩, ?_, ?_, ?_, ?_, ?_, hn'⟩
          · simpa [Go.Deep.add_add] using hat 0 (by omega)
          · simpa [Go.Deep.add_add] using hat 1 (by omega)
          · simpa [Go.Deep.add_add] using hat 2 (by omega)
          · simpa [Go.Deep.add_add] using hat 3 (by omega)
          · simpa [Go.Deep.add_add] using hat 4 (by omega)
        have : Inhabited (Nd × (Option Addr × Nat × Option Addr × Nat)) := ⟨⟨⟨0, 0, ByteArray.empty, [], []⟩, none, 0, none, 0⟩⟩
        obtain ⟨f, hf⟩ := choose_lt key
        have hkl : ((List.range len).map fun i => (f i).1).length = len := by simp
        have hbig : len ≤ big := by unfold maxLen at hm; unfold big; omega
        refine ⟨⟨kind, num, text, names, (List.range len).map fun i => (f i).1⟩, na, nc, some a, cap, by simp, NodeC.mk htx hns ⟨by rw [hkl]; exact hl, by rw [hkl]; exact hbig, ?_⟩⟩
        by_cases h0 : len = 0
        · subst h0; exact .inl rfl
        · obtain ⟨b, o, ha⟩ := addr_spot (hf 0 (by omega)).1
          have ha' : a = ⟨b, o, none⟩ := by simpa [Addr.add] using ha
          subst ha'
          refine .inr ⟨b, o, rfl, trivial, KidsR.of_get (fun i hi' => ?_)⟩
          rw [hkl] at hi'
          obtain ⟨k0, k1, k2, k3, k4, kn⟩ := hf i hi'
          rw [add_mk] at k0 k1 k2 k3 k4
          simp only [List.getElem_map, List.getElem_range]
          exact ⟨_, _, _, _, k0, by rw [Nat.add_assoc]; exact k1, by rw [Nat.add_assoc]; exact k2, by rw [Nat.add_assoc]; exact k3, by rw [Nat.add_assoc]; exact k4, kn⟩
end
end Go.Proofs.Ytgfnmhfdmmnaoaa
namespace Go.Proofs.Ytgfnmhfdmmnaoaa
open Go.RowKit
end Go.Proofs.Ytgfnmhfdmmnaoaa
namespace Go.Proofs.Ytgfnmhfdmmnaoaa
open Go.RowKit
end Go.Proofs.Ytgfnmhfdmmnaoaa
namespace Go.Proofs.Ytgfnmhfdmmnaoaa
open Go.RowKit
end Go.Proofs.Ytgfnmhfdmmnaoaa
namespace Go.Proofs.Ytgfnmhfdmmnaoaa
open Go.RowKit Go.ChangeShapes Go.WideShapes Go.Deep
section
variable {H : Type} {enc : TypeId × Value → H} {W : World} {base : Nat} {sp : Nat → Bool} {held : Bool}
end
end Go.Proofs.Ytgfnmhfdmmnaoaa
namespace Go.Proofs.Ytgfnmhfdmmnaoaa
open Go.RowKit Go.ChangeShapes Go.WideShapes Go.Deep
section
variable {H : Type} {enc : TypeId × Value → H} {W : World} {base : Nat} {sp : Nat → Bool} {held : Bool}
theorem open_slR {α : Type} [Inhabited α] (E : Rep α) (hpos : 0 < E.n) (TS T : TypeId) (hu : Try.prog.underlying TS = some (.slice T)) (hc : Try.prog.cellsOf T = E.n)
    (hel : ∀ (fuel : Nat) (cs : List Value) (x : DataW H × List MemPlace), DataW.trod enc Try.prog W base sp held fuel T cs = some x → ∃ y, E.R W any y cs)
    {fuel : Nat} {cs : List Value} {x : DataW H × List MemPlace} (h : DataW.trod enc Try.prog W base sp held fuel TS cs = some x) :
    ∃ a c l, cs = [.slice a (l : List α).length c] ∧ SlR E W any a c l := by
  rcases open_slice hu h with ⟨rfl, _⟩ | ⟨a, len, cap, m, n, D, Pl, rfl, _, hl, hm, hmm, _, hi⟩
  · exact ⟨none, 0, [], rfl, by simp, by simp, .inl rfl⟩
  · have hlm : len ≤ m := by rw [hmm]; split <;> omega
    rw [hc] at hi
    have key : ∀ i, i < len → ∃ k : α × List Value, (∀ j v, k.2[j]? = some v → W.cell? (a.add (i * E.n + j)) = some v) ∧ E.R W any k.1 k.2 := fun i hi' => by
      obtain ⟨cs', h1, h2⟩ := hi i (by omega)
      obtain ⟨_, hlen, hat⟩ := World.cells?_some h1
      obtain ⟨y, hy⟩ := hel _ _ _ h2
      refine ⟨⟨y, cs'⟩, fun j v hv => ?_, hy⟩
      have hj : j < E.n := by
        have h3 : j < cs'.length := (List.getElem?_eq_some_iff.1 hv).1
        omega
      have := hat j hj
      rw [hv] at this
      simpa [Go.Deep.add_add] using this
    have : Inhabited (α × List Value) := ⟨⟨default, []⟩⟩
    obtain ⟨f, hf⟩ := choose_lt key
    have hkl : ((List.range len).map fun i => (f i).1).length = len := by simp
    have hbig : len ≤ big := by unfold maxLen at hm; unfold big; omega
    refine ⟨some a, cap, (List.range len).map fun i => (f i).1, by simp, by rw [hkl]; exact hl, by rw [hkl]; exact hbig, ?_⟩
    by_cases h0 : len = 0
    · subst h0; exact .inl rfl
    · have hr0 := (hf 0 (by omega)).2
      have hl0 := E.rlen hr0
      obtain ⟨v0, hv0⟩ : ∃ v0, (f 0).2[0]? = some v0 := ⟨_, List.getElem?_eq_getElem (by omega)⟩
      obtain ⟨b, o, ha⟩ := addr_spot ((hf 0 (by omega)).1 0 v0 hv0)
      have ha' : a = ⟨b, o, none⟩ := by simpa [Addr.add] using ha
      subst ha'
      refine .inr ⟨b, o, rfl, trivial, fun i hi' => ?_⟩
      rw [hkl] at hi'
      obtain ⟨k1, k2⟩ := hf i hi'
      simp only [List.getElem_map, List.getElem_range]
      refine ⟨_, fun j v hv => ?_, k2⟩
      have := k1 j v hv
      rw [add_mk] at this
      rw [Nat.add_assoc]; exact this
end
end Go.Proofs.Ytgfnmhfdmmnaoaa
namespace Go.Proofs.Ytgfnmhfdmmnaoaa
open Go.RowKit Go.ChangeShapes Go.WideShapes Go.Deep
section
variable {H : Type} {enc : TypeId × Value → H} {W : World} {base : Nat} {sp : Nat → Bool} {held : Bool}
theorem open_item (fuel : Nat) (cs : List Value) (x : DataW H × List MemPlace) (h : DataW.trod enc Try.prog W base sp held fuel 155 cs = some x) : ∃ y, itmRep.R W any y cs := by
  obtain ⟨xs, n, rfl, _, hlen, hxs, hf⟩ := DataW.trod_struct Try.underlying155 h
  have hc : Try.prog.cellsOf 155 = 7 := by kernel_rfl
  have c9 : Try.prog.cellsOf 9 = 1 := by kernel_rfl
  have cI : Try.prog.cellsOf 3 = 1 := by kernel_rfl
  have cN : Try.prog.cellsOf 41 = 5 := by kernel_rfl
  rw [hc] at hlen
  match cs, hlen with
  | [v0, v1, v2, v3, v4, v5, v6], _ =>
    obtain ⟨y0, g0⟩ : ∃ y, DataW.trod enc Try.prog W base sp held n 9 [v0] = some y := ⟨xs[0]'(by simp at hxs; omega), by
      have h := hf 0 _ rfl
      rw [List.getElem?_eq_getElem (by simp at hxs; omega)] at h
      simpa [c9, cI, cN] using h⟩
    obtain ⟨y1, g1⟩ : ∃ y, DataW.trod enc Try.prog W base sp held n 3 [v1] = some y := ⟨xs[1]'(by simp at hxs; omega), by
      have h := hf 1 _ rfl
      rw [List.getElem?_eq_getElem (by simp at hxs; omega)] at h
      simpa [c9, cI, cN] using h⟩
    obtain ⟨y2, g2⟩ : ∃ y, DataW.trod enc Try.prog W base sp held n 41 [v2, v3, v4, v5, v6] = some y := ⟨xs[2]'(by simp at hxs; omega), by
      have h := hf 2 _ rfl
      rw [List.getElem?_eq_getElem (by simp at hxs; omega)] at h
      simpa [c9, cI, cN] using h⟩
    obtain ⟨s, e0, _, hs⟩ := DataW.trod_string Try.underlying9 g0
    obtain ⟨k, e1, _⟩ := DataW.trod_int Try.underlying3 g1
    obtain ⟨q, na, nc, ka, kc, e2, hq⟩ := open_node _ _ _ g2
    have e0' : v0 = .string s := by simpa using e0
    have e1' : v1 = .int .i64 k := by simpa using e1
    exact ⟨(s, k, q), [v0], [v1, v2, v3, v4, v5, v6], rfl, ⟨by simp [e0'], by show s.size ≤ big; unfold maxLen at hs; unfold big; omega⟩, [v1], [v2, v3, v4, v5, v6], rfl, by simp [e1', intRep], na, nc, ka, kc, e2, hq⟩
theorem open_items {fuel : Nat} {cs : List Value} {x : DataW H × List MemPlace} (h : DataW.trod enc Try.prog W base sp held fuel 55 cs = some x) :
    ∃ a c l, cs = [.slice a (l : List Itm).length c] ∧ SlR itmRep W any a c l :=
  have : Inhabited Itm := ⟨(ByteArray.empty, 0, ⟨0, 0, ByteArray.empty, [], []⟩)⟩
  open_slR itmRep (by rw [itmRep_n]; omega) _ _ Try.underlying55 (by rw [itmRep_n]; kernel_rfl) open_item h
theorem rv_sto {fuel : Nat} {cs : Array Value} {x : DataW H × List MemPlace} (h : DataW.trod enc Try.prog W base sp held fuel 57 cs.toList = some x) : ∃ y, RV stoRep packA W any y (.agg cs) := by
  obtain ⟨xs, n, rfl, _, hlen, hxs, hf⟩ := DataW.trod_struct Try.underlying57 h
  have hc : Try.prog.cellsOf 57 = 2 := by kernel_rfl
  have cI : Try.prog.cellsOf 3 = 1 := by kernel_rfl
  have cS : Try.prog.cellsOf 55 = 1 := by kernel_rfl
  rw [hc] at hlen
  obtain ⟨l⟩ := cs
  match l, hlen with
  | [v0, v1], _ =>
    obtain ⟨y0, g0⟩ : ∃ y, DataW.trod enc Try.prog W base sp held n 55 [v0] = some y := ⟨xs[0]'(by simp at hxs; omega), by
      have h := hf 0 _ rfl
      rw [List.getElem?_eq_getElem (by simp at hxs; omega)] at h
      simpa [cS, cI] using h⟩
    obtain ⟨y1, g1⟩ : ∃ y, DataW.trod enc Try.prog W base sp held n 3 [v1] = some y := ⟨xs[1]'(by simp at hxs; omega), by
      have h := hf 1 _ rfl
      rw [List.getElem?_eq_getElem (by simp at hxs; omega)] at h
      simpa [cS, cI] using h⟩
    obtain ⟨a, c, l, e0, hl⟩ := open_items g0
    obtain ⟨k, e1, _⟩ := DataW.trod_int Try.underlying3 g1
    have e1' : v1 = .int .i64 k := by simpa using e1
    exact ⟨(l, k), [v0, v1], rfl, [v0], [v1], rfl, ⟨a, c, e0, hl⟩, by simp [e1', intRep]⟩
theorem rv_node {fuel : Nat} {cs : Array Value} {x : DataW H × List MemPlace} (h : DataW.trod enc Try.prog W base sp held fuel 41 cs.toList = some x) : ∃ y, RV nodeRep packA W any y (.agg cs) := by
  obtain ⟨q, na, nc, ka, kc, e2, hq⟩ := open_node _ _ _ h
  exact ⟨q, cs.toList, rfl, na, nc, ka, kc, e2, hq⟩
theorem rv_str {fuel : Nat} {s : ByteArray} {x : DataW H × List MemPlace} (h : DataW.trod enc Try.prog W base sp held fuel 9 [.string s] = some x) : s.size ≤ big := by
  obtain ⟨s', e, _, hs⟩ := DataW.trod_string Try.underlying9 h
  simp at e
  subst e
  unfold maxLen at hs; unfold big; omega
end
end Go.Proofs.Ytgfnmhfdmmnaoaa
namespace Go.Proofs.Ytgfnmhfdmmnaoaa
open Go.RowKit
theorem lawDrop_long1 (s : Sto) (nm : ByteArray) (v0 : Value) (w : World) (h0 : RV stoRep packA w any s v0) (hs : ¬ nm.size ≤ 1048576) (hb : nm.size ≤ big) :
    Calls Try.prog 9 #[v0, .string nm] w fun e w' => e = .returned (.bool true) ∧ Grow w w' := by
  unfold big at hb
  have hs' : (1048576 : Int) < (nm.size : Int) := by omega
  have HV0 := Lib.hid h0
  obtain ⟨sa0, sc0, rfl⟩ := openV_sto h0
  clear h0
  unfold stoV at *
  go_enter Try.func9, Try.ntmps9
  go_wp2_with fail
  go_ret
  exact ⟨by simp, (by repeat (first | with_reducible exact Ext.refl _ _ | with_reducible refine Ext.trans ?_ (by assumption) | with_reducible refine Ext.drew ?_ | with_reducible refine Ext.drewN ?_ _ | with_reducible refine Ext.alloc ?_ _ | with_reducible refine Ext.setNew ?_ (by simp; done) _ | with_reducible refine Ext.setNew ?_ (by simp; omega) _))⟩
theorem lawDrop_big (s : Sto) (nm : ByteArray) (v0 : Value) (w : World) (h0 : RV stoRep packA w any s v0) (hq1 : nm.size ≤ 1048576) (hbig : ¬ costSto s ≤ 1048576) :
    Calls Try.prog 9 #[v0, .string nm] w fun e w' => e = .returned (.bool true) ∧ Grow w w' := by
  have HV0 := Lib.hid h0
  obtain ⟨sa0, sc0, rfl⟩ := openV_sto h0
  clear h0
  unfold stoV at *
  by_cases c0 : (costSto s : Int) ≤ 1048576
  rotate_left
  ·
    have Hs0 := Lib.hid (szR_neg (c := costSto s) (left := 1048576) (by omega))
    clear c0 hbig
    have HB0 := Lib.hid (BoxN.new w [.slice sa0 s.1.length sc0, .int .i64 s.2] 57)
    go_enter Try.func9, Try.ntmps9
    go_wp2_with fail
    refine (uSzSto s _ _ _ (by omega) (by omega) (HV0.out.grow (by repeat (first | with_reducible exact Ext.refl _ _ | with_reducible refine Ext.trans ?_ (by assumption) | with_reducible refine Ext.drew ?_ | with_reducible refine Ext.drewN ?_ _ | with_reducible refine Ext.alloc ?_ _ | with_reducible refine Ext.setNew ?_ (by simp; done) _ | with_reducible refine Ext.setNew ?_ (by simp; omega) _)))).mono ?_
    rintro e w1 ⟨rfl, hg1⟩
    simp only [Hs0.out]
    have z1 := hg1.size
    try simp only [World.size_alloc] at z1
    go_wp2_with fail
    go_ret
    exact ⟨by simp, (by repeat (first | with_reducible exact Ext.refl _ _ | with_reducible refine Ext.trans ?_ (by assumption) | with_reducible refine Ext.drew ?_ | with_reducible refine Ext.drewN ?_ _ | with_reducible refine Ext.alloc ?_ _ | with_reducible refine Ext.setNew ?_ (by simp; done) _ | with_reducible refine Ext.setNew ?_ (by simp; omega) _))⟩
  have Hs0 := Lib.hid (szR_pos (c := costSto s) (left := 1048576) (by omega))
  omega
theorem lawDrop_main (s : Sto) (nm : ByteArray) (v0 : Value) (w : World) (h0 : RV stoRep packA w any s v0) (hq1 : nm.size ≤ 1048576) (hcost : costSto s ≤ 1048576) :
    Calls Try.prog 9 #[v0, .string nm] w fun e w' => e = .returned (.bool true) ∧ Grow w w' := by
  have HV0 := Lib.hid h0
  obtain ⟨sa0, sc0, rfl⟩ := openV_sto h0
  clear h0
  unfold stoV at *
  have Hs0 := Lib.hid (szR_pos (c := costSto s) (left := 1048576) (by omega))
  have C0 : Hid (costSto s ≤ 1048576) := Lib.hid (by omega)
  have HB0 := Lib.hid (BoxN.new w [.slice sa0 s.1.length sc0, .int .i64 s.2] 57)
  go_enter Try.func9, Try.ntmps9
  go_wp2_with fail
  refine (uSzSto s _ _ _ (by omega) (by omega) (HV0.out.grow (by repeat (first | with_reducible exact Ext.refl _ _ | with_reducible refine Ext.trans ?_ (by assumption) | with_reducible refine Ext.drew ?_ | with_reducible refine Ext.drewN ?_ _ | with_reducible refine Ext.alloc ?_ _ | with_reducible refine Ext.setNew ?_ (by simp; done) _ | with_reducible refine Ext.setNew ?_ (by simp; omega) _)))).mono ?_
  rintro e w1 ⟨rfl, hg1⟩
  simp only [Hs0.out]
  have z1 := hg1.size
  try simp only [World.size_alloc] at z1
  have pB := HB0.out.grow (w' := w1) (by repeat (first | with_reducible exact Ext.refl _ _ | with_reducible refine Ext.trans ?_ (by assumption) | with_reducible refine Ext.drew ?_ | with_reducible refine Ext.drewN ?_ _ | with_reducible refine Ext.alloc ?_ _ | with_reducible refine Ext.setNew ?_ (by simp; done) _ | with_reducible refine Ext.setNew ?_ (by simp; omega) _))
  have p0 := pB.cell 0 _ rfl; have p1 := pB.cell 1 _ rfl
  go_wp2_with fail
  refine (uToSto s _ _ C0.out (HV0.out.grow (by repeat (first | with_reducible exact Ext.refl _ _ | with_reducible refine Ext.trans ?_ (by assumption) | with_reducible refine Ext.drew ?_ | with_reducible refine Ext.drewN ?_ _ | with_reducible refine Ext.alloc ?_ _ | with_reducible refine Ext.setNew ?_ (by simp; done) _ | with_reducible refine Ext.setNew ?_ (by simp; omega) _)))).mono ?_
  rintro e w2 ⟨us, fs, rfl, hg2, hF, hfr⟩
  have z2 := hg2.size
  try simp only [World.size_alloc] at z2
  have RUs := Lib.hid hF.rv
  clear hF hfr p0 p1 pB
  go_wp2_with fail
  refine (specDropItem_ok s nm _ _ (by unfold big; omega) RUs.out).mono ?_
  rintro e w3 ⟨rs, rfl, hg3, hR⟩
  have z3 := hg3.size
  try simp only [World.size_alloc] at z3
  have RW := Lib.hid hR.under
  obtain ⟨sas, scs, rfl⟩ := openV_sto hR
  unfold stoV
  clear hR
  have HBs := Lib.hid (BoxN.new w3 [.slice sas (drpN s nm).1.length scs, .int .i64 (drpN s nm).2] 62)
  have ys : w3.heap.size ≤ w3.heap.size := Nat.le_refl _
  have hpB := HB0.out.grow (w' := w3) (by repeat (first | with_reducible exact Ext.refl _ _ | with_reducible refine Ext.trans ?_ (by assumption) | with_reducible refine Ext.drew ?_ | with_reducible refine Ext.drewN ?_ _ | with_reducible refine Ext.alloc ?_ _ | with_reducible refine Ext.setNew ?_ (by simp; done) _ | with_reducible refine Ext.setNew ?_ (by simp; omega) _))
  have p0 := hpB.cell 0 _ rfl; have p1 := hpB.cell 1 _ rfl; have pz := hpB.lt
  go_wp2_with fail
  refine (uToSto s _ _ C0.out (HV0.out.grow (by repeat (first | with_reducible exact Ext.refl _ _ | with_reducible refine Ext.trans ?_ (by assumption) | with_reducible refine Ext.drew ?_ | with_reducible refine Ext.drewN ?_ _ | with_reducible refine Ext.alloc ?_ _ | with_reducible refine Ext.setNew ?_ (by simp; done) _ | with_reducible refine Ext.setNew ?_ (by simp; omega) _)))).mono ?_
  rintro e w4 ⟨y0, f0, rfl, hg4, hF, hfr⟩
  have z4 := hg4.size
  try simp only [World.size_alloc] at z4
  try simp only [World.size_alloc] at hfr
  have F0 := Lib.hid hF
  have S0 := Lib.hid (Seg.of hfr)
  obtain ⟨sax0, scx0, rfl⟩ := openV_sto hF.rv
  unfold stoV at *
  clear hF hfr p0 p1 hpB pz
  have HBx0 := Lib.hid (BoxN.new w4 [.slice sax0 s.1.length scx0, .int .i64 s.2] 62)
  go_wp2_with fail
  refine (implDropItem_ok s nm _ _ (by unfold big; omega) (F0.out.rv.grow (by repeat (first | with_reducible exact Ext.refl _ _ | with_reducible refine Ext.trans ?_ (by assumption) | with_reducible refine Ext.drew ?_ | with_reducible refine Ext.drewN ?_ _ | with_reducible refine Ext.alloc ?_ _ | with_reducible refine Ext.setNew ?_ (by simp; done) _ | with_reducible refine Ext.setNew ?_ (by simp; omega) _)))).mono ?_
  rintro e w5 ⟨rg, fg, rfl, hg5, hF, hfr⟩
  have z5 := hg5.size
  try simp only [World.size_alloc] at z5
  try simp only [World.size_alloc] at hfr
  have FG := Lib.hid hF
  have SG := Lib.hid (Seg.of hfr)
  obtain ⟨sag, scg, rfl⟩ := openV_sto hF.rv
  unfold stoV at *
  have HBg := Lib.hid (BoxN.new w5 [.slice sag (drpN s nm).1.length scg, .int .i64 (drpN s nm).2] 62)
  clear hF hfr
  have tB := HBs.out.grow (w' := w5) (by repeat (first | with_reducible exact Ext.refl _ _ | with_reducible refine Ext.trans ?_ (by assumption) | with_reducible refine Ext.drew ?_ | with_reducible refine Ext.drewN ?_ _ | with_reducible refine Ext.alloc ?_ _ | with_reducible refine Ext.setNew ?_ (by simp; done) _ | with_reducible refine Ext.setNew ?_ (by simp; omega) _))
  have t0 := tB.cell 0 _ rfl; have t1 := tB.cell 1 _ rfl; have tz := tB.lt
  go_wp2_with fail
  refine (uEqSto ((drpN s nm)) _ _ _ (FG.out.rv.grow (by repeat (first | with_reducible exact Ext.refl _ _ | with_reducible refine Ext.trans ?_ (by assumption) | with_reducible refine Ext.drew ?_ | with_reducible refine Ext.drewN ?_ _ | with_reducible refine Ext.alloc ?_ _ | with_reducible refine Ext.setNew ?_ (by simp; done) _ | with_reducible refine Ext.setNew ?_ (by simp; omega) _))) (RW.out.any.grow (by repeat (first | with_reducible exact Ext.refl _ _ | with_reducible refine Ext.trans ?_ (by assumption) | with_reducible refine Ext.drew ?_ | with_reducible refine Ext.drewN ?_ _ | with_reducible refine Ext.alloc ?_ _ | with_reducible refine Ext.setNew ?_ (by simp; done) _ | with_reducible refine Ext.setNew ?_ (by simp; omega) _)))).mono ?_
  rintro e w6 ⟨rfl, hg6⟩
  have z6 := hg6.size
  try simp only [World.size_alloc] at z6
  clear t0 t1 tB tz
  go_wp2_with fail
  have pB := HBx0.out.grow (w' := w6) (by repeat (first | with_reducible exact Ext.refl _ _ | with_reducible refine Ext.trans ?_ (by assumption) | with_reducible refine Ext.drew ?_ | with_reducible refine Ext.drewN ?_ _ | with_reducible refine Ext.alloc ?_ _ | with_reducible refine Ext.setNew ?_ (by simp; done) _ | with_reducible refine Ext.setNew ?_ (by simp; omega) _))
  have p0 := pB.cell 0 _ rfl; have p1 := pB.cell 1 _ rfl
  have qB := HB0.out.grow (w' := w6) (by repeat (first | with_reducible exact Ext.refl _ _ | with_reducible refine Ext.trans ?_ (by assumption) | with_reducible refine Ext.drew ?_ | with_reducible refine Ext.drewN ?_ _ | with_reducible refine Ext.alloc ?_ _ | with_reducible refine Ext.setNew ?_ (by simp; done) _ | with_reducible refine Ext.setNew ?_ (by simp; omega) _))
  have q0 := qB.cell 0 _ rfl; have q1 := qB.cell 1 _ rfl
  refine wp_region_stab Grow (fun i => if i = 2 then some (fun v w' => RV stoRep packA w' any s v) else if i = 3 then some (fun v _ => v = .bool true) else none) (by kernel_rfl) (by kernel_rfl) ⟨Ext.refl nil, fun _ _ h1 h2 => h2.trans h1, ?_⟩ ?_
  · intro i V hV v w1 w2 hr hv
    by_cases h1 : i = 2
    · simp only [h1, if_true, Option.some.injEq] at hV; subst hV; exact RV.grow hv hr
    · by_cases h3 : i = 3
      · simp [h3] at hV; subst hV; exact hv
      · simp [h1, h3] at hV
  (refine wpStab_quiet (by kernel_rfl) (by kernel_rfl) (by simp) ?_; intro K hK; go_big_quiet_op; go_big_quiet_on)
  (refine wpStab_quiet (by kernel_rfl) (by kernel_rfl) (by simp) ?_; intro K hK; go_big_quiet_op; go_big_quiet_on)
  refine wpStab_made (fun v w' => RV stoRep packA w' any s v) ?_ ?_ ?_ ?_
  · go_simp
  · simp
  · intro y _
    refine stabAt_call (f := 31) (args := #[.agg #[.slice sa0 s.1.length sc0, .int .i64 s.2]]) ?_ ?_
    · go_simp
    · refine (uToSto s _ _ C0.out (HV0.out.grow (((by repeat (first | with_reducible exact Ext.refl _ _ | with_reducible refine Ext.trans ?_ (by assumption) | with_reducible refine Ext.drew ?_ | with_reducible refine Ext.drewN ?_ _ | with_reducible refine Ext.alloc ?_ _ | with_reducible refine Ext.setNew ?_ (by simp; done) _ | with_reducible refine Ext.setNew ?_ (by simp; omega) _)) : Grow w w6).trans (later_grow _ _)))).mono ?_
      rintro e w' ⟨v', fp, rfl, hg, hF, _⟩
      exact ⟨_, rfl, hg, hF.rv⟩
  intro vt
  go_frame
  refine wpStab_const (.bool true) ?_ ?_ ?_ ?_
  · go_simp
  · simp
  · intro y hE
    have Hr6 : RV stoRep packA (later w6 y) any s vt := (hE ⟨2, .data⟩ (by simp) (by decide)).2 rfl
    clear hE
    refine stabAt_call (f := 34) (args := #[.agg #[.slice sax0 s.1.length scx0, .int .i64 s.2], vt]) ?_ ?_
    · go_simp
    · refine (uEqSto s _ _ _ (F0.out.rv.grow (((by repeat (first | with_reducible exact Ext.refl _ _ | with_reducible refine Ext.trans ?_ (by assumption) | with_reducible refine Ext.drew ?_ | with_reducible refine Ext.drewN ?_ _ | with_reducible refine Ext.alloc ?_ _ | with_reducible refine Ext.setNew ?_ (by simp; done) _ | with_reducible refine Ext.setNew ?_ (by simp; omega) _)) : Grow _ w6).trans (later_grow _ _))) Hr6).mono ?_
      rintro e w' ⟨rfl, hg⟩
      exact ⟨_, rfl, hg, rfl⟩
  go_frame
  (refine wpStab_quiet (by kernel_rfl) (by kernel_rfl) (by simp) ?_; intro K hK; go_big_quiet_op; go_big_quiet_on)
  refine wpStab_end ?_
  intro w7 hg7
  clear p0 p1 pB q0 q1 qB
  have z7 := hg7.size
  replace F0 := Lib.hid (F0.out.grow S0.out (w' := w7) (by repeat (first | with_reducible exact Ext.refl _ _ | with_reducible refine Ext.trans ?_ (by assumption) | with_reducible refine Ext.drew ?_ | with_reducible refine Ext.drewN ?_ _ | with_reducible refine Ext.alloc ?_ _ | with_reducible refine Ext.setNew ?_ (by simp; done) _ | with_reducible refine Ext.setNew ?_ (by simp; omega) _)))
  replace S0 := Lib.hid (S0.out.grow (w' := w7) (by repeat (first | with_reducible exact Ext.refl _ _ | with_reducible refine Ext.trans ?_ (by assumption) | with_reducible refine Ext.drew ?_ | with_reducible refine Ext.drewN ?_ _ | with_reducible refine Ext.alloc ?_ _ | with_reducible refine Ext.setNew ?_ (by simp; done) _ | with_reducible refine Ext.setNew ?_ (by simp; omega) _)))
  replace FG := Lib.hid (FG.out.grow SG.out (w' := w7) (by repeat (first | with_reducible exact Ext.refl _ _ | with_reducible refine Ext.trans ?_ (by assumption) | with_reducible refine Ext.drew ?_ | with_reducible refine Ext.drewN ?_ _ | with_reducible refine Ext.alloc ?_ _ | with_reducible refine Ext.setNew ?_ (by simp; done) _ | with_reducible refine Ext.setNew ?_ (by simp; omega) _)))
  replace SG := Lib.hid (SG.out.grow (w' := w7) (by repeat (first | with_reducible exact Ext.refl _ _ | with_reducible refine Ext.trans ?_ (by assumption) | with_reducible refine Ext.drew ?_ | with_reducible refine Ext.drewN ?_ _ | with_reducible refine Ext.alloc ?_ _ | with_reducible refine Ext.setNew ?_ (by simp; done) _ | with_reducible refine Ext.setNew ?_ (by simp; omega) _)))
  replace RW := Lib.hid (RW.out.grow (w' := w7) (by repeat (first | with_reducible exact Ext.refl _ _ | with_reducible refine Ext.trans ?_ (by assumption) | with_reducible refine Ext.drew ?_ | with_reducible refine Ext.drewN ?_ _ | with_reducible refine Ext.alloc ?_ _ | with_reducible refine Ext.setNew ?_ (by simp; done) _ | with_reducible refine Ext.setNew ?_ (by simp; omega) _)))
  replace HB0 := Lib.hid (HB0.out.grow (w' := w7) (by repeat (first | with_reducible exact Ext.refl _ _ | with_reducible refine Ext.trans ?_ (by assumption) | with_reducible refine Ext.drew ?_ | with_reducible refine Ext.drewN ?_ _ | with_reducible refine Ext.alloc ?_ _ | with_reducible refine Ext.setNew ?_ (by simp; done) _ | with_reducible refine Ext.setNew ?_ (by simp; omega) _)))
  replace HBx0 := Lib.hid (HBx0.out.grow (w' := w7) (by repeat (first | with_reducible exact Ext.refl _ _ | with_reducible refine Ext.trans ?_ (by assumption) | with_reducible refine Ext.drew ?_ | with_reducible refine Ext.drewN ?_ _ | with_reducible refine Ext.alloc ?_ _ | with_reducible refine Ext.setNew ?_ (by simp; done) _ | with_reducible refine Ext.setNew ?_ (by simp; omega) _)))
  replace HBs := Lib.hid (HBs.out.grow (w' := w7) (by repeat (first | with_reducible exact Ext.refl _ _ | with_reducible refine Ext.trans ?_ (by assumption) | with_reducible refine Ext.drew ?_ | with_reducible refine Ext.drewN ?_ _ | with_reducible refine Ext.alloc ?_ _ | with_reducible refine Ext.setNew ?_ (by simp; done) _ | with_reducible refine Ext.setNew ?_ (by simp; omega) _)))
  replace HBg := Lib.hid (HBg.out.grow (w' := w7) (by repeat (first | with_reducible exact Ext.refl _ _ | with_reducible refine Ext.trans ?_ (by assumption) | with_reducible refine Ext.drew ?_ | with_reducible refine Ext.drewN ?_ _ | with_reducible refine Ext.alloc ?_ _ | with_reducible refine Ext.setNew ?_ (by simp; done) _ | with_reducible refine Ext.setNew ?_ (by simp; omega) _)))
  have lHB0 := HB0.out.lt
  have lHBx0 := HBx0.out.lt
  have lHBs := HBs.out.lt
  have lHBg := HBg.out.lt
  have hgA : Grow w w7 := (by repeat (first | with_reducible exact Ext.refl _ _ | with_reducible refine Ext.trans ?_ (by assumption) | with_reducible refine Ext.drew ?_ | with_reducible refine Ext.drewN ?_ _ | with_reducible refine Ext.alloc ?_ _ | with_reducible refine Ext.setNew ?_ (by simp; done) _ | with_reducible refine Ext.setNew ?_ (by simp; omega) _))
  clear hg1 hg2 hg3 hg4 hg5 hg6 hg7
  have m0 := cntSto_le s
  have mg := drpN_cnt s nm
  have p0 := HBx0.out.cell 0 _ rfl; have p1 := HBx0.out.cell 1 _ rfl
  go_wp2_with fail
  refine (uMarkSto s _ f0 _ (1) _ _ (by rfl) F0.out S0.out.1 (by omega) (by omega)).mono ?_
  rintro e w8 ⟨rfl, hx, _, _⟩
  clear p0 p1
  replace FG := Lib.hid (FG.out.keep (SG.out.keeps S0.out (by omega) hx))
  replace SG := Lib.hid (SG.out.ext S0.out (by omega) hx)
  replace HB0 := Lib.hid (S0.out.box HB0.out hx (by omega))
  replace HBx0 := Lib.hid (S0.out.box HBx0.out hx (by omega))
  replace HBs := Lib.hid (S0.out.box HBs.out hx (by omega))
  replace HBg := Lib.hid (S0.out.box HBg.out hx (by omega))
  replace RW := Lib.hid (S0.out.rv RW.out hx (by omega))
  replace hgA := S0.out.inner hgA hx (by omega)
  clear hx F0
  have r0 := HBg.out.cell 0 _ rfl; have r1 := HBg.out.cell 1 _ rfl
  have t0 := HBs.out.cell 0 _ rfl; have t1 := HBs.out.cell 1 _ rfl
  go_wp2_with fail
  refine (uEqSto ((drpN s nm)) _ _ _ FG.out.rv RW.out.any).mono ?_
  rintro e w9 ⟨rfl, hg⟩
  clear r0 r1 t0 t1
  replace FG := Lib.hid (FG.out.grow SG.out hg)
  replace SG := Lib.hid (SG.out.grow hg)
  replace RW := Lib.hid (RW.out.grow hg)
  replace HB0 := Lib.hid (HB0.out.grow hg)
  replace HBx0 := Lib.hid (HBx0.out.grow hg)
  replace HBs := Lib.hid (HBs.out.grow hg)
  replace HBg := Lib.hid (HBg.out.grow hg)
  replace hgA := hgA.trans hg
  clear hg
  have r0 := HBg.out.cell 0 _ rfl; have r1 := HBg.out.cell 1 _ rfl
  go_wp2_with fail
  refine (uMarkSto ((drpN s nm)) _ fg _ 1 _ _ (by rfl) FG.out SG.out.1 (by omega) (by omega)).mono ?_
  rintro e w10 ⟨rfl, hx, hfr, hF⟩
  clear r0 r1
  replace HB0 := Lib.hid (SG.out.box HB0.out hx (by omega))
  replace HBx0 := Lib.hid (SG.out.box HBx0.out hx (by omega))
  replace HBs := Lib.hid (SG.out.box HBs.out hx (by omega))
  replace HBg := Lib.hid (SG.out.box HBg.out hx (by omega))
  replace RW := Lib.hid (SG.out.rv RW.out hx (by omega))
  replace hgA := SG.out.inner hgA hx (by omega)
  replace FG := Lib.hid hF
  replace SG := Lib.hid (SG.out.marked hfr)
  clear hx hfr hF
  have r0 := HBg.out.cell 0 _ rfl; have r1 := HBg.out.cell 1 _ rfl
  go_wp2_with fail
  refine (uHeldSto ((drpN s nm)) _ 1 _ _ (by rfl) FG.out.rv (by omega) (by omega)).mono ?_
  rintro e w11 ⟨rfl, hg⟩
  clear r0 r1
  replace FG := Lib.hid (FG.out.grow SG.out hg)
  replace SG := Lib.hid (SG.out.grow hg)
  replace RW := Lib.hid (RW.out.grow hg)
  replace HB0 := Lib.hid (HB0.out.grow hg)
  replace HBx0 := Lib.hid (HBx0.out.grow hg)
  replace HBs := Lib.hid (HBs.out.grow hg)
  replace HBg := Lib.hid (HBg.out.grow hg)
  replace hgA := hgA.trans hg
  clear hg
  have hbb : ((1 + cntSto ((drpN s nm)) : Nat) != (1 + cntSto ((drpN s nm)) : Nat)) = false := by simp
  have hgc := hgA
  have pB := HB0.out.grow (w' := w11) (by repeat (first | with_reducible exact Ext.refl _ _ | with_reducible refine Ext.trans ?_ (by assumption) | with_reducible refine Ext.drew ?_ | with_reducible refine Ext.drewN ?_ _ | with_reducible refine Ext.alloc ?_ _ | with_reducible refine Ext.setNew ?_ (by simp; done) _ | with_reducible refine Ext.setNew ?_ (by simp; omega) _))
  have p0 := pB.cell 0 _ rfl; have p1 := pB.cell 1 _ rfl
  go_wp2_with fail
  refine (uToSto s _ _ C0.out (HV0.out.grow (by repeat (first | with_reducible exact Ext.refl _ _ | with_reducible refine Ext.trans ?_ (by assumption) | with_reducible refine Ext.drew ?_ | with_reducible refine Ext.drewN ?_ _ | with_reducible refine Ext.alloc ?_ _ | with_reducible refine Ext.setNew ?_ (by simp; done) _ | with_reducible refine Ext.setNew ?_ (by simp; omega) _)))).mono ?_
  rintro e w12 ⟨uh, fh, rfl, hg12, hF, hfr⟩
  have z12 := hg12.size
  try simp only [World.size_alloc] at z12
  have RUh := Lib.hid hF.rv
  clear hF hfr p0 p1 pB
  go_wp2_with fail
  refine (implDropItem_ok s nm _ _ (by unfold big; omega) RUh.out).mono ?_
  rintro e w13 ⟨rh, fh, rfl, hg13, hF, hfr⟩
  have z13 := hg13.size
  try simp only [World.size_alloc] at z13
  have hR := hF.rv
  clear hF hfr
  have RH := Lib.hid hR
  obtain ⟨sah, sch, rfl⟩ := openV_sto hR
  unfold stoV
  have HBh := Lib.hid (BoxN.new w13 [.slice sah (drpN s nm).1.length sch, .int .i64 (drpN s nm).2] 62)
  clear hR
  have tB := HBs.out.grow (w' := w13) (by repeat (first | with_reducible exact Ext.refl _ _ | with_reducible refine Ext.trans ?_ (by assumption) | with_reducible refine Ext.drew ?_ | with_reducible refine Ext.drewN ?_ _ | with_reducible refine Ext.alloc ?_ _ | with_reducible refine Ext.setNew ?_ (by simp; done) _ | with_reducible refine Ext.setNew ?_ (by simp; omega) _))
  have t0 := tB.cell 0 _ rfl; have t1 := tB.cell 1 _ rfl; have tz := tB.lt
  go_wp2_with fail
  refine (uEqSto ((drpN s nm)) _ _ _ (RH.out.grow (by repeat (first | with_reducible exact Ext.refl _ _ | with_reducible refine Ext.trans ?_ (by assumption) | with_reducible refine Ext.drew ?_ | with_reducible refine Ext.drewN ?_ _ | with_reducible refine Ext.alloc ?_ _ | with_reducible refine Ext.setNew ?_ (by simp; done) _ | with_reducible refine Ext.setNew ?_ (by simp; omega) _))) (RW.out.any.grow (by repeat (first | with_reducible exact Ext.refl _ _ | with_reducible refine Ext.trans ?_ (by assumption) | with_reducible refine Ext.drew ?_ | with_reducible refine Ext.drewN ?_ _ | with_reducible refine Ext.alloc ?_ _ | with_reducible refine Ext.setNew ?_ (by simp; done) _ | with_reducible refine Ext.setNew ?_ (by simp; omega) _)))).mono ?_
  rintro e w14 ⟨rfl, hg14⟩
  have z14 := hg14.size
  try simp only [World.size_alloc] at z14
  clear t0 t1 tB tz
  have rB := HBg.out.grow (w' := w14) (by repeat (first | with_reducible exact Ext.refl _ _ | with_reducible refine Ext.trans ?_ (by assumption) | with_reducible refine Ext.drew ?_ | with_reducible refine Ext.drewN ?_ _ | with_reducible refine Ext.alloc ?_ _ | with_reducible refine Ext.setNew ?_ (by simp; done) _ | with_reducible refine Ext.setNew ?_ (by simp; omega) _))
  have r0 := rB.cell 0 _ rfl; have r1 := rB.cell 1 _ rfl; have rz := rB.lt
  go_wp2_with fail
  refine (uHeldSto ((drpN s nm)) _ 1 _ _ (by rfl) (FG.out.rv.grow (by repeat (first | with_reducible exact Ext.refl _ _ | with_reducible refine Ext.trans ?_ (by assumption) | with_reducible refine Ext.drew ?_ | with_reducible refine Ext.drewN ?_ _ | with_reducible refine Ext.alloc ?_ _ | with_reducible refine Ext.setNew ?_ (by simp; done) _ | with_reducible refine Ext.setNew ?_ (by simp; omega) _))) (by omega) (by omega)).mono ?_
  rintro e w15 ⟨rfl, hg15⟩
  have z15 := hg15.size
  try simp only [World.size_alloc] at z15
  clear r0 r1 rB rz
  go_wp2_with fail
  go_ret
  exact ⟨by simp, (by repeat (first | with_reducible exact Ext.refl _ _ | with_reducible refine Ext.trans ?_ (by assumption) | with_reducible refine Ext.drew ?_ | with_reducible refine Ext.drewN ?_ _ | with_reducible refine Ext.alloc ?_ _ | with_reducible refine Ext.setNew ?_ (by simp; done) _ | with_reducible refine Ext.setNew ?_ (by simp; omega) _))⟩
theorem lawDrop_ok (s : Sto) (nm : ByteArray) (v0 : Value) (w : World) (h0 : RV stoRep packA w any s v0) (hb1 : nm.size ≤ big) :
    Calls Try.prog 9 #[v0, .string nm] w fun e w' => e = .returned (.bool true) ∧ Grow w w' := by
  by_cases hq1 : nm.size ≤ 1048576
  rotate_left
  · exact lawDrop_long1 s nm v0 w h0 hq1 hb1
  by_cases hc : costSto s ≤ 1048576
  · exact lawDrop_main s nm v0 w h0 hq1 hc
  · exact lawDrop_big s nm v0 w h0 hq1 hc
end Go.Proofs.Ytgfnmhfdmmnaoaa
