/-
  Texts of this claim, joined.
-/
import Derived.Lib.Bytealg
import Derived.Test.YtgfnmhfdmmnaoaaNqG

set_option linter.unusedSimpArgs false
set_option linter.unusedVariables false
set_option linter.unnecessarySimpa false
set_option maxRecDepth 100000
set_option maxHeartbeats 16000000
-- EV: rows skip
namespace Go.Proofs.Ytgfnmhfdmmnaoaa.Eng
open Go Go.RowKit
attribute [local simp] big size_mk ASt.pay Option.map_map Function.comp_def awant aop acall ado aev ofVal ofVal0 ASt.put ASt.add ASt.turn ASt.kill abox aalloc astore aload aloadD astoreD idOf ASt.at cellsTo afieldAddr afield aindexAddr aindex alen abin aint acmp astr aun apick aextract anil aslice abound abuild afill abuildSlice asCells aps avCells over upd aappend asrc amax amin aconv mkSt slots rowsOf_cons rowsOf_nil usedOf_cons usedOf_nil ZK.av List.replicate ASt.back ASt.addL ASt.killL nodeA nodeT nodeTL_eq nodeL_eq strsE_get strsE_len intsE_get intsE_len strsE_at intsE_at nodeN namesRow nodeO kidsRow tab2 tab3 tab4 tab5 tab6 tab7 tab8 tab9 tab10 tab11 tab12 tab13 tab14 tab15 tab16 tab17 tab18 tab19 tab21 tab22 tab23 tab24 tab25 tab26 tab27 tab28 tab29 tab30 tab39 tab40 tab41 tab42 tab43 tab47 tab48 tab55 tab56 tab57 tab60 tab61 tab62 tab73 tab74 tab75 tab85 tab92 tab115 tab116 tab143 tab144 tab145 tab154 tab155 tab170 tab175 tab182 tab197 tab198 tab203 tab204 tab205 tab207 tab208 tab209
theorem AC.toR {P : Program} {f : FuncId} {args : List AV} {c : Nat} {Q : AV → Prop} (h : AC P f args c Q) : ACR P f args c Q (fun _ _ => False) :=
  ⟨h.1, fun w L S rb k vs h0 h1 h2 h3 => (h.2 w L S rb k vs h0 h1 h2 h3).mono fun _ _ ⟨v, r, S', k1, k2, k3, k4, k5, k6, k7⟩ => ⟨v, S', k1, k2, k3, k4, k5, .inl ⟨r, k6, k7⟩⟩⟩
theorem someNodeA_AC : AC Try.prog 111 [.rdr] (nC 3 + 10 + 4 * nC 2) rNodeA := by
  refine (AC.ofR someNode_ACR ?_).mono ?_
  · rintro r R ⟨n, _, rfl, rfl⟩
    rw [nodeN_sub]; exact node_in n
  · rintro r (h | ⟨f, R, ⟨n, h1, rfl, rfl⟩, rfl⟩)
    · exact h.elim
    · rw [nodeN_sub]; exact ⟨n, h1.1, rfl⟩
theorem rNodeA_ex : ∃ r, rNodeA r ∧ NoId r := ⟨_, ⟨_, sml_leaf 0 0 ⟨#[]⟩, rfl⟩, node_in _⟩
def tupL (m : Nd) (b : Bool) : AV := .tup [.agg [.int .i64 m.kind, .int .i64 m.num, .str m.text, .view .loose 1 (strsE m.names), .view .loose 5 (m.kids.map nodeL)], .bool b]
def rOpt (r : AV) : Prop := ∃ m b, Sml m ∧ r = tupL m b
theorem rOpt_ex : ∃ r, rOpt r ∧ NoId r := ⟨_, ⟨Nd.zero, false, sml_leaf 0 0 ⟨#[]⟩, rfl⟩, optL_in none⟩
theorem rOpt_of {f : FuncId} {args : List AV} {o : Option Nd} (h : AC Try.prog f args 0 (fun r => r = optA o)) (hs : ∀ m, o = some m → Sml m) : AC Try.prog f args 0 rOpt := h.mono (fun r hr => by
  rw [optA_eq] at hr
  cases o with
  | none => exact ⟨Nd.zero, false, sml_leaf 0 0 ⟨#[]⟩, hr⟩
  | some m => exact ⟨m, true, hs m rfl, hr⟩)
def rStr (r : AV) : Prop := ∃ x : ByteArray, r = .str x
theorem rStr_ex : ∃ r, rStr r ∧ NoId r := ⟨_, ⟨⟨#[]⟩, rfl⟩, in_str⟩
def wC : Nat := 3 + (nC 3 + 10 + 4 * nC 2) + nC 2
theorem snoc_clo (p : List ByteArray) (x : ByteArray) : ∀ e ∈ strsE p ++ [[AV.str x]], ∀ c ∈ e, Clo c := by
  rw [← strs_snoc]; exact strsE_clo _
theorem near_AC (n : Nd) (hv : validB n = true) : AC Try.prog 123 [.rdr, nodeA n] wC rNodeA := by
  have hn := Shp.of hv
  obtain ⟨hw, hd, hc⟩ := valid_way hv
  have pall := all_AC n hw (by omega) (by omega)
  have hlen := allS_len n
  have hpos : 0 < (allS n).length := by rw [hlen, Nd.count_eq]; omega
  have hsh := allS_short n
  have hclo : Clo (.view .loose 1 (pathsE (allS n))) := paths_clo (allS n)
  have hcnt : (allS n).length ≤ 1000 := by omega
  have hS := someNodeA_AC
  have hR : AC Try.prog 150 [.rdr, .int .i64 2] (nC 2) rNodeA := randomNode_AC 2 (by omega)
  have hof : AC Try.prog 163 [.rdr, .view .tight 1 [[.str ⟨#[97]⟩], [.str ⟨#[48]⟩], [.str ⟨#[45]⟩], [.str ⟨#[122]⟩]]] 1 rStr := (of_AC .tight [⟨#[97]⟩, ⟨#[48]⟩, ⟨#[45]⟩, ⟨#[122]⟩] (by simp) (by simp)).mono (fun r ⟨x, _, hx⟩ => ⟨x, hx⟩)
  have hwC : wC = 3 + (nC 3 + 10 + 4 * nC 2) + nC 2 := rfl
  generalize wC = W at *
  generalize nC 3 + 10 + 4 * nC 2 = A at *
  generalize nC 2 = B at *
  subst hwC
  generalize allS n = P at *
  have hpos' : (0 : Int) < (P.length : Int) := by omega
  unfold nodeA at pall ⊢
  rw [nodeL_eq] at pall ⊢
  refine AC.of tab_ok mixed_ok Try.func123 (by rfl) (by kernel_rfl) ?_; rintro ⟨P, T, hT, hm, w0, S0, rd0, k0⟩ hP hTT; dsimp only at hP hTT; subst hP hTT; unfold initSt; rw [Try.ntmps123]
  (repeat (first | with_reducible refine AW.seq ?_ | ((first | refine arun_kn 1 rfl (fun C hC => ?_) | refine arunD_kn 1 rfl (fun C hC => ?_)); (repeat ((conv => whnf); simp [pathsE_len, hpos, hpos'])); refine hC _ ?_; clear hC C; simp only [List.drop, Nat.reduceAdd]) | (refine arun_skip ?_ ?_; (focus (simp [awant, pathsE_len, hpos, hpos']; done))) | (refine arun_c0 (pall) ?_; rintro _ rfl) | (refine arun_c (1) (pick_AC P.length (by omega) (by omega)) ?_; (rintro _ ⟨u, rfl, hu⟩; obtain ⟨u0, u1⟩ := hu.1 (by omega); obtain ⟨k, rfl⟩ := Int.eq_ofNat_of_zero_le u0)) | (refine arunD_skip ?_ ?_; (focus (simp [awant, pathsE_len, hpos, hpos']; done))) | (refine AW.regionK [] (fun K hK => ?_)) | (refine AW.regionDK [] (pcs [] []) (by kernel_rfl) (by kernel_rfl) (fun K hK => ?_)) | (refine AW.condT ?_ ?_; (focus (simp [aev, pathsE_len, hpos, hpos']; done))) | (refine AW.condF ?_ ?_; (focus (simp [aev, pathsE_len, hpos, hpos']; done))) | with_reducible refine AW.block ?_ | ((first | ((first | refine arun_nil ?_ | refine arunD_nil ?_); refine hK _ ?_; clear hK K) | refine AW.skip ?_ | refine AW.exit ?_ | refine AW.ret ?_); simp only [wE, if_true, if_false, Nat.reduceEqDiff, reduceIte])))
  have hk : k < P.length := by omega
  have hpl := hsh _ (List.getElem_mem hk)
  (repeat (first | with_reducible refine AW.seq ?_ | ((first | refine arun_kn 1 rfl (fun C hC => ?_) | refine arunD_kn 1 rfl (fun C hC => ?_)); (repeat ((conv => whnf); simp [pathsE_len, hk, pathsE_get, pathsE_at])); refine hC _ ?_; clear hC C; simp only [List.drop, Nat.reduceAdd]) | (refine arun_skip ?_ ?_; (focus (simp [awant, pathsE_len, hk, pathsE_get, pathsE_at]; done))) | (refine arun_c0 (copyNode_AC n hn.sml .loose) ?_; rintro _ rfl) | (refine arun_c (1) (pick_AC 5 (by omega) (by omega)) ?_; (rintro _ ⟨v, rfl, -⟩)) | (refine arunD_skip ?_ ?_; (focus (simp [awant, pathsE_len, hk, pathsE_get, pathsE_at]; done))) | (refine AW.regionK [] (fun K hK => ?_)) | (refine AW.regionDK [] (pcs [] []) (by kernel_rfl) (by kernel_rfl) (fun K hK => ?_)) | (refine AW.condT ?_ ?_; (focus (simp [aev, pathsE_len, hk, pathsE_get, pathsE_at]; done))) | (refine AW.condF ?_ ?_; (focus (simp [aev, pathsE_len, hk, pathsE_get, pathsE_at]; done))) | with_reducible refine AW.block ?_ | ((first | ((first | refine arun_nil ?_ | refine arunD_nil ?_); refine hK _ ?_; clear hK K) | refine AW.skip ?_ | refine AW.exit ?_ | refine AW.ret ?_); simp only [wE, if_true, if_false, Nat.reduceEqDiff, reduceIte])))
  generalize P[k] = p at *
  have h4 : v = 0 ∨ v = 1 ∨ v = 2 ∨ v = 3 ∨ ((v == 0) = false ∧ (v == 1) = false ∧ (v == 2) = false ∧ (v == 3) = false) := by
    by_cases h0 : v = 0; · simp [h0]
    by_cases h1 : v = 1; · simp [h1]
    by_cases h2 : v = 2; · simp [h2]
    by_cases h3 : v = 3; · simp [h3]
    simp [h0, h1, h2, h3]
  rcases h4 with rfl | rfl | rfl | rfl | ⟨e0, e1, e2, e3⟩
  · have pr := rOpt_of (removeAt_AC n p .loose hn (by omega)) (fun m h => remS_sml hn h)
    unfold nodeA at pr
    rw [nodeL_eq] at pr
    (repeat (first | with_reducible refine AW.seq ?_ | ((first | refine arun_kn 1 rfl (fun C hC => ?_) | refine arunD_kn 1 rfl (fun C hC => ?_)); (repeat ((conv => whnf); simp [tupL])); refine hC _ ?_; clear hC C; simp only [List.drop, Nat.reduceAdd]) | (refine arun_skip ?_ ?_; (focus (simp [awant, tupL]; done))) | (refine arun_c0 (pr) ?_; (rintro _ ⟨m, b, hm, rfl⟩)) | (refine arunD_skip ?_ ?_; (focus (simp [awant, tupL]; done))) | (refine AW.regionK [] (fun K hK => ?_)) | (refine AW.regionDK [] (pcs [] []) (by kernel_rfl) (by kernel_rfl) (fun K hK => ?_)) | (refine AW.condT ?_ ?_; (focus (simp [aev, tupL]; done))) | (refine AW.condF ?_ ?_; (focus (simp [aev, tupL]; done))) | with_reducible refine AW.block ?_ | ((first | ((first | refine arun_nil ?_ | refine arunD_nil ?_); refine hK _ ?_; clear hK K) | refine AW.skip ?_ | refine AW.exit ?_ | refine AW.ret ?_); simp only [wE, if_true, if_false, Nat.reduceEqDiff, reduceIte])))
    have e9 : Sml n := hn.sml
    cases b
    · (repeat (first | with_reducible refine AW.seq ?_ | ((first | refine arun_kn 1 rfl (fun C hC => ?_) | refine arunD_kn 1 rfl (fun C hC => ?_)); (repeat ((conv => whnf); simp [tupL])); refine hC _ ?_; clear hC C; simp only [List.drop, Nat.reduceAdd]) | (refine arun_skip ?_ ?_; (focus (simp [awant, tupL]; done))) | (refine arun_c0 (copyNode_AC n e9 .loose) ?_; rintro _ rfl) | (refine arunD_skip ?_ ?_; (focus (simp [awant, tupL]; done))) | (refine AW.regionK [] (fun K hK => ?_)) | (refine AW.regionDK [] (pcs [] []) (by kernel_rfl) (by kernel_rfl) (fun K hK => ?_)) | (refine AW.condT ?_ ?_; (focus (simp [aev, tupL]; done))) | (refine AW.condF ?_ ?_; (focus (simp [aev, tupL]; done))) | with_reducible refine AW.block ?_ | ((first | ((first | refine arun_nil ?_ | refine arunD_nil ?_); refine hK _ ?_; clear hK K) | refine AW.skip ?_ | refine AW.exit ?_ | refine AW.ret ?_); simp only [wE, if_true, if_false, Nat.reduceEqDiff, reduceIte])))
      exact ⟨nodeA n, by simp [ares, aresL], node_pur n, n, e9, rfl⟩
    · have pv := validNode_AC m .loose
      cases hb : validB m
      · rw [hb] at pv
        (repeat (first | with_reducible refine AW.seq ?_ | ((first | refine arun_kn 1 rfl (fun C hC => ?_) | refine arunD_kn 1 rfl (fun C hC => ?_)); (repeat ((conv => whnf); simp [tupL])); refine hC _ ?_; clear hC C; simp only [List.drop, Nat.reduceAdd]) | (refine arun_skip ?_ ?_; (focus (simp [awant, tupL]; done))) | (refine arun_c0 (pv) ?_; rintro _ rfl) | (refine arun_c0 (copyNode_AC n e9 .loose) ?_; rintro _ rfl) | (refine arunD_skip ?_ ?_; (focus (simp [awant, tupL]; done))) | (refine AW.regionK [] (fun K hK => ?_)) | (refine AW.regionDK [] (pcs [] []) (by kernel_rfl) (by kernel_rfl) (fun K hK => ?_)) | (refine AW.condT ?_ ?_; (focus (simp [aev, tupL]; done))) | (refine AW.condF ?_ ?_; (focus (simp [aev, tupL]; done))) | with_reducible refine AW.block ?_ | ((first | ((first | refine arun_nil ?_ | refine arunD_nil ?_); refine hK _ ?_; clear hK K) | refine AW.skip ?_ | refine AW.exit ?_ | refine AW.ret ?_); simp only [wE, if_true, if_false, Nat.reduceEqDiff, reduceIte])))
        exact ⟨nodeA n, by simp [ares, aresL], node_pur n, n, e9, rfl⟩
      · rw [hb] at pv
        (repeat (first | with_reducible refine AW.seq ?_ | ((first | refine arun_kn 1 rfl (fun C hC => ?_) | refine arunD_kn 1 rfl (fun C hC => ?_)); (repeat ((conv => whnf); simp [tupL])); refine hC _ ?_; clear hC C; simp only [List.drop, Nat.reduceAdd]) | (refine arun_skip ?_ ?_; (focus (simp [awant, tupL]; done))) | (refine arun_c0 (pv) ?_; rintro _ rfl) | (refine arunD_skip ?_ ?_; (focus (simp [awant, tupL]; done))) | (refine AW.regionK [] (fun K hK => ?_)) | (refine AW.regionDK [] (pcs [] []) (by kernel_rfl) (by kernel_rfl) (fun K hK => ?_)) | (refine AW.condT ?_ ?_; (focus (simp [aev, tupL]; done))) | (refine AW.condF ?_ ?_; (focus (simp [aev, tupL]; done))) | with_reducible refine AW.block ?_ | ((first | ((first | refine arun_nil ?_ | refine arunD_nil ?_); refine hK _ ?_; clear hK K) | refine AW.skip ?_ | refine AW.exit ?_ | refine AW.ret ?_); simp only [wE, if_true, if_false, Nat.reduceEqDiff, reduceIte])))
        exact ⟨nodeA m, by simp [ares, aresL], node_pur m, m, hm, rfl⟩
  · have pa : ∀ x y, Sml y → AC Try.prog 165 [nodeA n, .view .lent 1 (strsE (p ++ [x])), nodeA y] 0 rOpt := fun x y hy => rOpt_of (addAt_AC n y (p ++ [x]) .lent hn hy (by simp; omega)) (fun m h => addS_sml hn hy h)
    unfold nodeA at pa
    rw [nodeL_eq] at pa
    simp only [strs_snoc] at pa
    have hb1 : p.length * 16 ≤ 140737488355328 := by omega
    have hb2 : p.length ≤ 140737488355328 := by omega
    have hb3 : (p.length + 1) * 16 ≤ 140737488355328 := by omega
    have hb4 : p.length + 1 ≤ 140737488355328 := by omega
    (repeat (first | with_reducible refine AW.seq ?_ | ((first | refine arun_kn 1 rfl (fun C hC => ?_) | refine arunD_kn 1 rfl (fun C hC => ?_)); (repeat ((conv => whnf); simp [tupL, strsE_len, hb1, hb2, hb3, hb4])); refine hC _ ?_; clear hC C; simp only [List.drop, Nat.reduceAdd]) | (refine arun_skip ?_ ?_; (focus (simp [awant, tupL, strsE_len, hb1, hb2, hb3, hb4]; done))) | (refine arun_c (1) (hof) ?_; (rintro _ ⟨x, rfl⟩; have hcx := snoc_clo p x)) | (refine arun_c (B) (hR) ?_; (rintro _ ⟨y, hy, rfl⟩)) | (refine arunD_skip ?_ ?_; (focus (simp [awant, tupL, strsE_len, hb1, hb2, hb3, hb4]; done))) | (refine arunD_cE (1) (hof) (by exact rStr_ex) ?_; (rintro _ ⟨x, rfl⟩; have hcx := snoc_clo p x); intro _) | (refine arunD_cE (B) (hR) (by exact rNodeA_ex) ?_; (rintro _ ⟨y, hy, rfl⟩); intro _) | (refine arunD_sE (0) ((pa x y hy).toR) (by exact rOpt_ex) ?_ ?_; (rintro _ ⟨m, b, hm, rfl⟩ -)) | (refine AW.regionK [] (fun K hK => ?_)) | (refine AW.regionDK [] (pcs [(6, 1, rStr), (10, B, rNodeA)] [11]) (by kernel_rfl) (by kernel_rfl) (fun K hK => ?_)) | (refine AW.condT ?_ ?_; (focus (simp [aev, tupL, strsE_len, hb1, hb2, hb3, hb4]; done))) | (refine AW.condF ?_ ?_; (focus (simp [aev, tupL, strsE_len, hb1, hb2, hb3, hb4]; done))) | with_reducible refine AW.block ?_ | ((first | ((first | refine arun_nil ?_ | refine arunD_nil ?_); refine hK _ ?_; clear hK K) | refine AW.skip ?_ | refine AW.exit ?_ | refine AW.ret ?_); simp only [wE, if_true, if_false, Nat.reduceEqDiff, reduceIte])))
    · skip
      have e9 : Sml n := hn.sml
      cases b
      · (repeat (first | with_reducible refine AW.seq ?_ | ((first | refine arun_kn 1 rfl (fun C hC => ?_) | refine arunD_kn 1 rfl (fun C hC => ?_)); (repeat ((conv => whnf); simp [tupL])); refine hC _ ?_; clear hC C; simp only [List.drop, Nat.reduceAdd]) | (refine arun_skip ?_ ?_; (focus (simp [awant, tupL]; done))) | (refine arun_c0 (copyNode_AC n e9 .loose) ?_; rintro _ rfl) | (refine arunD_skip ?_ ?_; (focus (simp [awant, tupL]; done))) | (refine AW.regionK [] (fun K hK => ?_)) | (refine AW.regionDK [] (pcs [] []) (by kernel_rfl) (by kernel_rfl) (fun K hK => ?_)) | (refine AW.condT ?_ ?_; (focus (simp [aev, tupL]; done))) | (refine AW.condF ?_ ?_; (focus (simp [aev, tupL]; done))) | with_reducible refine AW.block ?_ | ((first | ((first | refine arun_nil ?_ | refine arunD_nil ?_); refine hK _ ?_; clear hK K) | refine AW.skip ?_ | refine AW.exit ?_ | refine AW.ret ?_); simp only [wE, if_true, if_false, Nat.reduceEqDiff, reduceIte])))
        exact ⟨nodeA n, by simp [ares, aresL], node_pur n, n, e9, rfl⟩
      · have pv := validNode_AC m .loose
        cases hb : validB m
        · rw [hb] at pv
          (repeat (first | with_reducible refine AW.seq ?_ | ((first | refine arun_kn 1 rfl (fun C hC => ?_) | refine arunD_kn 1 rfl (fun C hC => ?_)); (repeat ((conv => whnf); simp [tupL])); refine hC _ ?_; clear hC C; simp only [List.drop, Nat.reduceAdd]) | (refine arun_skip ?_ ?_; (focus (simp [awant, tupL]; done))) | (refine arun_c0 (pv) ?_; rintro _ rfl) | (refine arun_c0 (copyNode_AC n e9 .loose) ?_; rintro _ rfl) | (refine arunD_skip ?_ ?_; (focus (simp [awant, tupL]; done))) | (refine AW.regionK [] (fun K hK => ?_)) | (refine AW.regionDK [] (pcs [] []) (by kernel_rfl) (by kernel_rfl) (fun K hK => ?_)) | (refine AW.condT ?_ ?_; (focus (simp [aev, tupL]; done))) | (refine AW.condF ?_ ?_; (focus (simp [aev, tupL]; done))) | with_reducible refine AW.block ?_ | ((first | ((first | refine arun_nil ?_ | refine arunD_nil ?_); refine hK _ ?_; clear hK K) | refine AW.skip ?_ | refine AW.exit ?_ | refine AW.ret ?_); simp only [wE, if_true, if_false, Nat.reduceEqDiff, reduceIte])))
          exact ⟨nodeA n, by simp [ares, aresL], node_pur n, n, e9, rfl⟩
        · rw [hb] at pv
          (repeat (first | with_reducible refine AW.seq ?_ | ((first | refine arun_kn 1 rfl (fun C hC => ?_) | refine arunD_kn 1 rfl (fun C hC => ?_)); (repeat ((conv => whnf); simp [tupL])); refine hC _ ?_; clear hC C; simp only [List.drop, Nat.reduceAdd]) | (refine arun_skip ?_ ?_; (focus (simp [awant, tupL]; done))) | (refine arun_c0 (pv) ?_; rintro _ rfl) | (refine arunD_skip ?_ ?_; (focus (simp [awant, tupL]; done))) | (refine AW.regionK [] (fun K hK => ?_)) | (refine AW.regionDK [] (pcs [] []) (by kernel_rfl) (by kernel_rfl) (fun K hK => ?_)) | (refine AW.condT ?_ ?_; (focus (simp [aev, tupL]; done))) | (refine AW.condF ?_ ?_; (focus (simp [aev, tupL]; done))) | with_reducible refine AW.block ?_ | ((first | ((first | refine arun_nil ?_ | refine arunD_nil ?_); refine hK _ ?_; clear hK K) | refine AW.skip ?_ | refine AW.exit ?_ | refine AW.ret ?_); simp only [wE, if_true, if_false, Nat.reduceEqDiff, reduceIte])))
          exact ⟨nodeA m, by simp [ares, aresL], node_pur m, m, hm, rfl⟩
    · rintro _ _ h; exact h.elim
  · have ps : ∀ y, Sml y → AC Try.prog 166 [nodeA n, .view .loose 1 (strsE p), nodeT .loose y] 0 rOpt := fun y hy => rOpt_of (setAt_AC .loose p n y .loose hn hy) (fun m h => setS_sml p n y m hn hy h)
    unfold nodeA at ps
    rw [nodeL_eq] at ps
    (repeat (first | with_reducible refine AW.seq ?_ | ((first | refine arun_kn 1 rfl (fun C hC => ?_) | refine arunD_kn 1 rfl (fun C hC => ?_)); (repeat ((conv => whnf); simp [tupL])); refine hC _ ?_; clear hC C; simp only [List.drop, Nat.reduceAdd]) | (refine arun_skip ?_ ?_; (focus (simp [awant, tupL]; done))) | (refine arun_c (B) (hR) ?_; (rintro _ ⟨y, hy, rfl⟩)) | (refine arun_c0 (ps y hy) ?_; (rintro _ ⟨m, b, hm, rfl⟩)) | (refine arunD_skip ?_ ?_; (focus (simp [awant, tupL]; done))) | (refine arunD_cE (B) (hR) (by exact rNodeA_ex) ?_; (rintro _ ⟨y, hy, rfl⟩); intro _) | (refine arunD_cE (0) (ps y hy) (by exact rOpt_ex) ?_; (rintro _ ⟨m, b, hm, rfl⟩); intro _) | (refine AW.regionK [] (fun K hK => ?_)) | (refine AW.regionDK [] (pcs [(3, B, rNodeA), (4, 0, rOpt)] []) (by kernel_rfl) (by kernel_rfl) (fun K hK => ?_)) | (refine AW.condT ?_ ?_; (focus (simp [aev, tupL]; done))) | (refine AW.condF ?_ ?_; (focus (simp [aev, tupL]; done))) | with_reducible refine AW.block ?_ | ((first | ((first | refine arun_nil ?_ | refine arunD_nil ?_); refine hK _ ?_; clear hK K) | refine AW.skip ?_ | refine AW.exit ?_ | refine AW.ret ?_); simp only [wE, if_true, if_false, Nat.reduceEqDiff, reduceIte])))
    have e9 : Sml n := hn.sml
    cases b
    · (repeat (first | with_reducible refine AW.seq ?_ | ((first | refine arun_kn 1 rfl (fun C hC => ?_) | refine arunD_kn 1 rfl (fun C hC => ?_)); (repeat ((conv => whnf); simp [tupL])); refine hC _ ?_; clear hC C; simp only [List.drop, Nat.reduceAdd]) | (refine arun_skip ?_ ?_; (focus (simp [awant, tupL]; done))) | (refine arun_c0 (copyNode_AC n e9 .loose) ?_; rintro _ rfl) | (refine arunD_skip ?_ ?_; (focus (simp [awant, tupL]; done))) | (refine AW.regionK [] (fun K hK => ?_)) | (refine AW.regionDK [] (pcs [] []) (by kernel_rfl) (by kernel_rfl) (fun K hK => ?_)) | (refine AW.condT ?_ ?_; (focus (simp [aev, tupL]; done))) | (refine AW.condF ?_ ?_; (focus (simp [aev, tupL]; done))) | with_reducible refine AW.block ?_ | ((first | ((first | refine arun_nil ?_ | refine arunD_nil ?_); refine hK _ ?_; clear hK K) | refine AW.skip ?_ | refine AW.exit ?_ | refine AW.ret ?_); simp only [wE, if_true, if_false, Nat.reduceEqDiff, reduceIte])))
      exact ⟨nodeA n, by simp [ares, aresL], node_pur n, n, e9, rfl⟩
    · have pv := validNode_AC m .loose
      cases hb : validB m
      · rw [hb] at pv
        (repeat (first | with_reducible refine AW.seq ?_ | ((first | refine arun_kn 1 rfl (fun C hC => ?_) | refine arunD_kn 1 rfl (fun C hC => ?_)); (repeat ((conv => whnf); simp [tupL])); refine hC _ ?_; clear hC C; simp only [List.drop, Nat.reduceAdd]) | (refine arun_skip ?_ ?_; (focus (simp [awant, tupL]; done))) | (refine arun_c0 (pv) ?_; rintro _ rfl) | (refine arun_c0 (copyNode_AC n e9 .loose) ?_; rintro _ rfl) | (refine arunD_skip ?_ ?_; (focus (simp [awant, tupL]; done))) | (refine AW.regionK [] (fun K hK => ?_)) | (refine AW.regionDK [] (pcs [] []) (by kernel_rfl) (by kernel_rfl) (fun K hK => ?_)) | (refine AW.condT ?_ ?_; (focus (simp [aev, tupL]; done))) | (refine AW.condF ?_ ?_; (focus (simp [aev, tupL]; done))) | with_reducible refine AW.block ?_ | ((first | ((first | refine arun_nil ?_ | refine arunD_nil ?_); refine hK _ ?_; clear hK K) | refine AW.skip ?_ | refine AW.exit ?_ | refine AW.ret ?_); simp only [wE, if_true, if_false, Nat.reduceEqDiff, reduceIte])))
        exact ⟨nodeA n, by simp [ares, aresL], node_pur n, n, e9, rfl⟩
      · rw [hb] at pv
        (repeat (first | with_reducible refine AW.seq ?_ | ((first | refine arun_kn 1 rfl (fun C hC => ?_) | refine arunD_kn 1 rfl (fun C hC => ?_)); (repeat ((conv => whnf); simp [tupL])); refine hC _ ?_; clear hC C; simp only [List.drop, Nat.reduceAdd]) | (refine arun_skip ?_ ?_; (focus (simp [awant, tupL]; done))) | (refine arun_c0 (pv) ?_; rintro _ rfl) | (refine arunD_skip ?_ ?_; (focus (simp [awant, tupL]; done))) | (refine AW.regionK [] (fun K hK => ?_)) | (refine AW.regionDK [] (pcs [] []) (by kernel_rfl) (by kernel_rfl) (fun K hK => ?_)) | (refine AW.condT ?_ ?_; (focus (simp [aev, tupL]; done))) | (refine AW.condF ?_ ?_; (focus (simp [aev, tupL]; done))) | with_reducible refine AW.block ?_ | ((first | ((first | refine arun_nil ?_ | refine arunD_nil ?_); refine hK _ ?_; clear hK K) | refine AW.skip ?_ | refine AW.exit ?_ | refine AW.ret ?_); simp only [wE, if_true, if_false, Nat.reduceEqDiff, reduceIte])))
        exact ⟨nodeA m, by simp [ares, aresL], node_pur m, m, hm, rfl⟩
  · (repeat (first | with_reducible refine AW.seq ?_ | ((first | refine arun_kn 1 rfl (fun C hC => ?_) | refine arunD_kn 1 rfl (fun C hC => ?_)); (repeat ((conv => whnf); simp)); refine hC _ ?_; clear hC C; simp only [List.drop, Nat.reduceAdd]) | (refine arun_skip ?_ ?_; (focus (simp [awant]; done))) | (refine arun_c (A) (hS) ?_; (rintro _ ⟨m, hm, rfl⟩)) | (refine arunD_skip ?_ ?_; (focus (simp [awant]; done))) | (refine AW.regionK [] (fun K hK => ?_)) | (refine AW.regionDK [] (pcs [] []) (by kernel_rfl) (by kernel_rfl) (fun K hK => ?_)) | (refine AW.condT ?_ ?_; (focus (simp [aev]; done))) | (refine AW.condF ?_ ?_; (focus (simp [aev]; done))) | with_reducible refine AW.block ?_ | ((first | ((first | refine arun_nil ?_ | refine arunD_nil ?_); refine hK _ ?_; clear hK K) | refine AW.skip ?_ | refine AW.exit ?_ | refine AW.ret ?_); simp only [wE, if_true, if_false, Nat.reduceEqDiff, reduceIte])))
    exact ⟨nodeA m, by simp [ares, aresL], node_pur m, m, hm, rfl⟩
  · have pv := validNode_AC n .loose
    rw [hv] at pv
    (repeat (first | with_reducible refine AW.seq ?_ | ((first | refine arun_kn 1 rfl (fun C hC => ?_) | refine arunD_kn 1 rfl (fun C hC => ?_)); (repeat ((conv => whnf); simp [e0, e1, e2, e3])); refine hC _ ?_; clear hC C; simp only [List.drop, Nat.reduceAdd]) | (refine arun_skip ?_ ?_; (focus (simp [awant, e0, e1, e2, e3]; done))) | (refine arun_c0 (pv) ?_; rintro _ rfl) | (refine arunD_skip ?_ ?_; (focus (simp [awant, e0, e1, e2, e3]; done))) | (refine AW.regionK [] (fun K hK => ?_)) | (refine AW.regionDK [] (pcs [] []) (by kernel_rfl) (by kernel_rfl) (fun K hK => ?_)) | (refine AW.condT ?_ ?_; (focus (simp [aev, e0, e1, e2, e3]; done))) | (refine AW.condF ?_ ?_; (focus (simp [aev, e0, e1, e2, e3]; done))) | with_reducible refine AW.block ?_ | ((first | ((first | refine arun_nil ?_ | refine arunD_nil ?_); refine hK _ ?_; clear hK K) | refine AW.skip ?_ | refine AW.exit ?_ | refine AW.ret ?_); simp only [wE, if_true, if_false, Nat.reduceEqDiff, reduceIte])))
    exact ⟨nodeA n, by simp [ares, aresL], node_pur n, n, hn.sml, rfl⟩
end Go.Proofs.Ytgfnmhfdmmnaoaa.Eng
-- EV: rows skip
namespace Go.Proofs.Ytgfnmhfdmmnaoaa.Eng
open Go Go.RowKit
attribute [local simp] big size_mk ASt.pay Option.map_map Function.comp_def awant aop acall ado aev ofVal ofVal0 ASt.put ASt.add ASt.turn ASt.kill abox aalloc astore aload aloadD astoreD idOf ASt.at cellsTo afieldAddr afield aindexAddr aindex alen abin aint acmp astr aun apick aextract anil aslice abound abuild afill abuildSlice asCells aps avCells over upd aappend asrc amax amin aconv mkSt slots rowsOf_cons rowsOf_nil usedOf_cons usedOf_nil ZK.av List.replicate ASt.back ASt.addL ASt.killL nodeA nodeT nodeTL_eq nodeL_eq strsE_get strsE_len intsE_get intsE_len strsE_at intsE_at nodeN namesRow nodeO kidsRow tab2 tab3 tab4 tab5 tab6 tab7 tab8 tab9 tab10 tab11 tab12 tab13 tab14 tab15 tab16 tab17 tab18 tab19 tab21 tab22 tab23 tab24 tab25 tab26 tab27 tab28 tab29 tab30 tab39 tab40 tab41 tab42 tab43 tab47 tab48 tab55 tab56 tab57 tab60 tab61 tab62 tab73 tab74 tab75 tab85 tab92 tab115 tab116 tab143 tab144 tab145 tab154 tab155 tab170 tab175 tab182 tab197 tab198 tab203 tab204 tab205 tab207 tab208 tab209
def rOpr (r : AV) : Prop := ∃ o : Opr, Sml o.2.2.2 ∧ o.2.1.length ≤ 1000 ∧ o.2.2.1.length ≤ 1000 ∧ r = oprA o
def oC : Nat := 29 + nC 2
theorem opn_end (k : Int) (p f : List ByteArray) (fv : AV) (m : Nd) (hm : Sml m) (hp : p.length ≤ 1000) (hf : f.length ≤ 1000) (hw : Wk fv (.view .loose 1 (strsE f))) (hpu : Pur fv) {r : AV}
    (hr : r = .agg [.int .i64 k, .view .loose 1 (strsE p), fv, .int .i64 m.kind, .int .i64 m.num, .str m.text, .view .loose 1 (strsE m.names), .view .loose 5 (m.kids.map nodeL)]) : Pur r ∧ ∃ r', Wk r r' ∧ rOpr r' := by
  subst hr
  have hn := node_pur m
  refine ⟨pur_agg ?_, oprA (k, p, f, m), ?_, (k, p, f, m), hm, hp, hf, rfl⟩
  · simp only [List.forall_mem_cons, List.not_mem_nil, false_implies, implies_true, and_true]
    exact ⟨pur_int, strs_pur _ (by decide), hpu, pur_int, pur_int, pur_str, strs_pur _ (by decide), nodes_pur _ (by decide)⟩
  · unfold oprA
    exact .agg (.cons (Wk.refl _) (.cons (Wk.refl _) (.cons hw (.cons (Wk.refl _) (.cons (Wk.refl _) (.cons (Wk.refl _) (.cons (Wk.refl _) (.cons (Wk.refl _) .nil))))))))
theorem opz_end (k : Int) (p f : List ByteArray) (fv : AV) (hp : p.length ≤ 1000) (hf : f.length ≤ 1000) (hw : Wk fv (.view .loose 1 (strsE f))) (hpu : Pur fv) {r : AV}
    (hr : r = .agg [.int .i64 k, .view .loose 1 (strsE p), fv, .int .i64 0, .int .i64 0, .str ⟨#[]⟩, .view .tight 0 [], .view .tight 0 []]) : Pur r ∧ ∃ r', Wk r r' ∧ rOpr r' := by
  subst hr
  have h0 : Pur (.view .tight 0 []) := pur_view (by decide) (fun e he => by cases he)
  have hz : Sml Nd.zero := (Shp.of (n := Nd.zero) (by decide +kernel)).sml
  refine ⟨pur_agg ?_, oprA (k, p, f, Nd.zero), ?_, (k, p, f, Nd.zero), hz, hp, hf, rfl⟩
  · simp only [List.forall_mem_cons, List.not_mem_nil, false_implies, implies_true, and_true]
    exact ⟨pur_int, strs_pur _ (by decide), hpu, pur_int, pur_int, pur_str, h0, h0⟩
  · unfold oprA
    exact .agg (.cons (Wk.refl _) (.cons (Wk.refl _) (.cons hw (.cons (Wk.refl _) (.cons (Wk.refl _) (.cons (Wk.refl _) (.cons (Wk.nil (fun h => by cases h)) (.cons (Wk.nil (fun h => by cases h)) .nil))))))))
theorem tight_wk : Wk (.view .tight 1 []) (.view .loose 1 (strsE [])) := Wk.loose (by decide)
theorem tight_pur : Pur (.view .tight 1 []) := pur_view (by decide) (fun e he => by cases he)
set_option maxRecDepth 100000
set_option maxHeartbeats 16000000
theorem someOp_AC (n : Nd) (hv : validB n = true) : AC Try.prog 120 [.rdr, nodeA n] oC rOpr := by
  refine AC.weak ?_
  have hP := pathIn_AC n
  have hR := randomNode_AC 2 (by omega)
  have hat := fun p hp => at_AC .loose n p (Shp.of hv) hp
  have hgs : ∀ (p : List ByteArray) (m : Nd), getS n p = some m → Sml m := fun p m h => (getS_shp p n m (Shp.of hv) h).sml
  have hoC : oC = 29 + nC 2 := rfl
  generalize oC = C at *
  generalize nC 2 = M at *
  subst hoC
  have hcn := node_clo n
  have hcN : ∀ n : Nd, Clo (nodeA n) := fun n => node_clo n
  unfold nodeA at hP hat hcn ⊢
  rw [nodeL_eq n] at hP hat hcn ⊢
  refine AC.of tab_ok mixed_ok Try.func120 (by rfl) (by kernel_rfl) ?_; rintro ⟨P, T, hT, hm, w0, S0, rd0, k0⟩ hP hTT; dsimp only at hP hTT; subst hP hTT; unfold initSt; rw [Try.ntmps120]
  (repeat (first | with_reducible refine AW.seq ?_ | ((first | refine arun_kn 1 rfl (fun C hC => ?_) | refine arunD_kn 1 rfl (fun C hC => ?_)); (repeat ((conv => whnf); simp)); refine hC _ ?_; clear hC C; simp only [List.drop, Nat.reduceAdd]) | (refine arun_skip ?_ ?_; (focus (simp [awant]; done))) | (refine arunD_skip ?_ ?_; (focus (simp [awant]; done))) | (refine AW.regionK [] (fun K hK => ?_)) | (refine AW.condT ?_ ?_; (focus (simp [aev]; done))) | (refine AW.condF ?_ ?_; (focus (simp [aev]; done))) | with_reducible refine AW.block ?_ | ((first | ((first | refine arun_nil ?_ | refine arunD_nil ?_); refine hK _ ?_; clear hK K) | refine AW.skip ?_ | refine AW.exit ?_ | refine AW.ret ?_); simp only [wE, if_true, if_false, Nat.reduceEqDiff, reduceIte])))
  refine AW.regionDK [] (pcs [(1, 1, fun r => ∃ v, r = .int .i64 v ∧ Below' 6 v), (5, 12, rPath)] []) (by kernel_rfl) (by kernel_rfl) (fun K hK => ?_)
  (repeat (first | with_reducible refine AW.seq ?_ | ((first | refine arun_kn 1 rfl (fun C hC => ?_) | refine arunD_kn 1 rfl (fun C hC => ?_)); (repeat ((conv => whnf); simp)); refine hC _ ?_; clear hC C; simp only [List.drop, Nat.reduceAdd]) | (refine arun_skip ?_ ?_; (focus (simp [awant]; done))) | (refine arunD_skip ?_ ?_; (focus (simp [awant]; done))) | (refine AW.regionK [] (fun K hK => ?_)) | (refine AW.condT ?_ ?_; (focus (simp [aev]; done))) | (refine AW.condF ?_ ?_; (focus (simp [aev]; done))) | with_reducible refine AW.block ?_ | ((first | ((first | refine arun_nil ?_ | refine arunD_nil ?_); refine hK _ ?_; clear hK K) | refine AW.skip ?_ | refine AW.exit ?_ | refine AW.ret ?_); simp only [wE, if_true, if_false, Nat.reduceEqDiff, reduceIte])))
  refine arunD_cE (1) (pick_AC 6 (by omega) (by omega)) (by exact ⟨_, ⟨0, rfl, by unfold Below'; omega⟩, in_int⟩) ?_
  rintro _ ⟨v, rfl, hv6⟩
  intro _
  obtain ⟨k, hk, hk6⟩ : ∃ k : Int, IntKind.i64.wrap (1 + v) = k ∧ (k = 1 ∨ k = 2 ∨ k = 3 ∨ k = 4 ∨ k = 5 ∨ k = 6) := by
    have := hv6.1 (by omega)
    exact ⟨1 + v, i64_nat (by omega) (by omega), by omega⟩
  clear hv6
  (repeat (first | with_reducible refine AW.seq ?_ | ((first | refine arun_kn 1 rfl (fun C hC => ?_) | refine arunD_kn 1 rfl (fun C hC => ?_)); (repeat ((conv => whnf); simp [hk])); refine hC _ ?_; clear hC C; simp only [List.drop, Nat.reduceAdd]) | (refine arun_skip ?_ ?_; (focus (simp [awant, hk]; done))) | (refine arun_c (12) (hP) ?_; (rintro _ ⟨p, hp, rfl⟩)) | (refine arunD_skip ?_ ?_; (focus (simp [awant, hk]; done))) | (refine arunD_cE (12) (hP) (by exact rPath_ex) ?_; (rintro _ ⟨p, hp, rfl⟩); intro _) | (refine AW.regionK [] (fun K hK => ?_)) | (refine AW.condT ?_ ?_; (focus (simp [aev, hk]; done))) | (refine AW.condF ?_ ?_; (focus (simp [aev, hk]; done))) | with_reducible refine AW.block ?_ | ((first | ((first | refine arun_nil ?_ | refine arunD_nil ?_); refine hK _ ?_; clear hK K) | refine AW.skip ?_ | refine AW.exit ?_ | refine AW.ret ?_); simp only [wE, if_true, if_false, Nat.reduceEqDiff, reduceIte])))
  clear hk
  rcases hk6 with rfl | rfl | rfl | rfl | rfl | rfl
  · skip
    by_cases h4 : (p.length : Int) < 4
    rotate_left
    · (repeat (first | with_reducible refine AW.seq ?_ | ((first | refine arun_kn 1 rfl (fun C hC => ?_) | refine arunD_kn 1 rfl (fun C hC => ?_)); (repeat ((conv => whnf); simp [strsE_len, h4])); refine hC _ ?_; clear hC C; simp only [List.drop, Nat.reduceAdd]) | (refine arun_skip ?_ ?_; (focus (simp [awant, strsE_len, h4]; done))) | (refine arun_c (M) (hR) ?_; (rintro _ ⟨m, hm, rfl⟩)) | (refine arunD_skip ?_ ?_; (focus (simp [awant, strsE_len, h4]; done))) | (refine AW.regionK [] (fun K hK => ?_)) | (refine AW.condT ?_ ?_; (focus (simp [aev, strsE_len, h4]; done))) | (refine AW.condF ?_ ?_; (focus (simp [aev, strsE_len, h4]; done))) | with_reducible refine AW.block ?_ | ((first | ((first | refine arun_nil ?_ | refine arunD_nil ?_); refine hK _ ?_; clear hK K) | refine AW.skip ?_ | refine AW.exit ?_ | refine AW.ret ?_); simp only [wE, if_true, if_false, Nat.reduceEqDiff, reduceIte])))
      (repeat (first | with_reducible refine AW.seq ?_ | ((first | refine arun_kn 1 rfl (fun C hC => ?_) | refine arunD_kn 1 rfl (fun C hC => ?_)); (repeat ((conv => whnf); simp [strsE_len])); refine hC _ ?_; clear hC C; simp only [List.drop, Nat.reduceAdd]) | (refine arun_skip ?_ ?_; (focus (simp [awant, strsE_len]; done))) | (refine arunD_skip ?_ ?_; (focus (simp [awant, strsE_len]; done))) | (refine AW.regionK [] (fun K hK => ?_)) | (refine AW.regionDK [] (pcs [] []) (by kernel_rfl) (by kernel_rfl) (fun K hK => ?_)) | (refine AW.condT ?_ ?_; (focus (simp [aev, strsE_len]; done))) | (refine AW.condF ?_ ?_; (focus (simp [aev, strsE_len]; done))) | with_reducible refine AW.block ?_ | ((first | ((first | refine arun_nil ?_ | refine arunD_nil ?_); refine hK _ ?_; clear hK K) | refine AW.skip ?_ | refine AW.exit ?_ | refine AW.ret ?_); simp only [wE, if_true, if_false, Nat.reduceEqDiff, reduceIte])))
      exact ⟨.agg [.int .i64 1, .view .loose 1 (strsE p), .view .tight 1 [], .int .i64 m.kind, .int .i64 m.num, .str m.text, .view .loose 1 (strsE m.names), .view .loose 5 (m.kids.map nodeL)], by simp [ares, aresL, upd, rowsOf_cons, strsE_len], opn_end _ p [] _ m hm (by first | assumption | simp; omega) (by simp) tight_wk tight_pur rfl⟩
    (repeat (first | with_reducible refine AW.seq ?_ | ((first | refine arun_kn 1 rfl (fun C hC => ?_) | refine arunD_kn 1 rfl (fun C hC => ?_)); (repeat ((conv => whnf); simp [strsE_len, h4])); refine hC _ ?_; clear hC C; simp only [List.drop, Nat.reduceAdd]) | (refine arun_skip ?_ ?_; (focus (simp [awant, strsE_len, h4]; done))) | (refine arun_c (M) (hR) ?_; (rintro _ ⟨m, hm, rfl⟩)) | (refine arun_c (1) (pick_AC 2 (by omega) (by omega)) ?_; (rintro _ ⟨u, rfl, -⟩)) | (refine arunD_skip ?_ ?_; (focus (simp [awant, strsE_len, h4]; done))) | (refine AW.regionK [] (fun K hK => ?_)) | (refine AW.condT ?_ ?_; (focus (simp [aev, strsE_len, h4]; done))) | (refine AW.condF ?_ ?_; (focus (simp [aev, strsE_len, h4]; done))) | with_reducible refine AW.block ?_ | ((first | ((first | refine arun_nil ?_ | refine arunD_nil ?_); refine hK _ ?_; clear hK K) | refine AW.skip ?_ | refine AW.exit ?_ | refine AW.ret ?_); simp only [wE, if_true, if_false, Nat.reduceEqDiff, reduceIte])))
    cases hu : u == 0
    · (repeat (first | with_reducible refine AW.seq ?_ | ((first | refine arun_kn 1 rfl (fun C hC => ?_) | refine arunD_kn 1 rfl (fun C hC => ?_)); (repeat ((conv => whnf); simp [strsE_len, h4, hu])); refine hC _ ?_; clear hC C; simp only [List.drop, Nat.reduceAdd]) | (refine arun_skip ?_ ?_; (focus (simp [awant, strsE_len, h4, hu]; done))) | (refine arunD_skip ?_ ?_; (focus (simp [awant, strsE_len, h4, hu]; done))) | (refine AW.regionK [] (fun K hK => ?_)) | (refine AW.condT ?_ ?_; (focus (simp [aev, strsE_len, h4, hu]; done))) | (refine AW.condF ?_ ?_; (focus (simp [aev, strsE_len, h4, hu]; done))) | with_reducible refine AW.block ?_ | ((first | ((first | refine arun_nil ?_ | refine arunD_nil ?_); refine hK _ ?_; clear hK K) | refine AW.skip ?_ | refine AW.exit ?_ | refine AW.ret ?_); simp only [wE, if_true, if_false, Nat.reduceEqDiff, reduceIte])))
      (repeat (first | with_reducible refine AW.seq ?_ | ((first | refine arun_kn 1 rfl (fun C hC => ?_) | refine arunD_kn 1 rfl (fun C hC => ?_)); (repeat ((conv => whnf); simp [strsE_len])); refine hC _ ?_; clear hC C; simp only [List.drop, Nat.reduceAdd]) | (refine arun_skip ?_ ?_; (focus (simp [awant, strsE_len]; done))) | (refine arunD_skip ?_ ?_; (focus (simp [awant, strsE_len]; done))) | (refine AW.regionK [] (fun K hK => ?_)) | (refine AW.regionDK [] (pcs [] []) (by kernel_rfl) (by kernel_rfl) (fun K hK => ?_)) | (refine AW.condT ?_ ?_; (focus (simp [aev, strsE_len]; done))) | (refine AW.condF ?_ ?_; (focus (simp [aev, strsE_len]; done))) | with_reducible refine AW.block ?_ | ((first | ((first | refine arun_nil ?_ | refine arunD_nil ?_); refine hK _ ?_; clear hK K) | refine AW.skip ?_ | refine AW.exit ?_ | refine AW.ret ?_); simp only [wE, if_true, if_false, Nat.reduceEqDiff, reduceIte])))
      exact ⟨.agg [.int .i64 1, .view .loose 1 (strsE p), .view .tight 1 [], .int .i64 m.kind, .int .i64 m.num, .str m.text, .view .loose 1 (strsE m.names), .view .loose 5 (m.kids.map nodeL)], by simp [ares, aresL, upd, rowsOf_cons, strsE_len], opn_end _ p [] _ m hm (by first | assumption | simp; omega) (by simp) tight_wk tight_pur rfl⟩
    have b1 : p.length * 16 ≤ 140737488355328 := by omega
    have b2 : p.length ≤ 140737488355328 := by omega
    have b3 : (p.length + 1) * 16 ≤ 140737488355328 := by omega
    have b4 : p.length + 1 ≤ 140737488355328 := by omega
    (repeat (first | with_reducible refine AW.seq ?_ | ((first | refine arun_kn 1 rfl (fun C hC => ?_) | refine arunD_kn 1 rfl (fun C hC => ?_)); (repeat ((conv => whnf); simp [strsE_len, h4, hu])); refine hC _ ?_; clear hC C; simp only [List.drop, Nat.reduceAdd]) | (refine arun_skip ?_ ?_; (focus (simp [awant, strsE_len, h4, hu]; done))) | (refine arunD_skip ?_ ?_; (focus (simp [awant, strsE_len, h4, hu]; done))) | (refine AW.condT ?_ ?_; (focus (simp [aev, strsE_len, h4, hu]; done))) | (refine AW.condF ?_ ?_; (focus (simp [aev, strsE_len, h4, hu]; done))) | with_reducible refine AW.block ?_ | ((first | ((first | refine arun_nil ?_ | refine arunD_nil ?_); refine hK _ ?_; clear hK K) | refine AW.skip ?_ | refine AW.exit ?_ | refine AW.ret ?_); simp only [wE, if_true, if_false, Nat.reduceEqDiff, reduceIte])))
    refine AW.regionK [] (fun K hK => ?_)
    (repeat (first | with_reducible refine AW.seq ?_ | ((first | refine arun_kn 1 rfl (fun C hC => ?_) | refine arunD_kn 1 rfl (fun C hC => ?_)); (repeat ((conv => whnf); simp [strsE_len, h4, hu, b1, b2, b3, b4])); refine hC _ ?_; clear hC C; simp only [List.drop, Nat.reduceAdd]) | (refine arun_skip ?_ ?_; (focus (simp [awant, strsE_len, h4, hu, b1, b2, b3, b4]; done))) | (refine arun_cU (1) rfl (of_ACU _ _ (by rfl) (by simp) (by simp)) ?_; (rintro _ ⟨x, -, rfl⟩)) | (refine arunD_skip ?_ ?_; (focus (simp [awant, strsE_len, h4, hu, b1, b2, b3, b4]; done))) | (refine AW.condT ?_ ?_; (focus (simp [aev, strsE_len, h4, hu, b1, b2, b3, b4]; done))) | (refine AW.condF ?_ ?_; (focus (simp [aev, strsE_len, h4, hu, b1, b2, b3, b4]; done))) | with_reducible refine AW.block ?_ | ((first | ((first | refine arun_nil ?_ | refine arunD_nil ?_); refine hK _ ?_; clear hK K) | refine AW.skip ?_ | refine AW.exit ?_ | refine AW.ret ?_); simp only [wE, if_true, if_false, Nat.reduceEqDiff, reduceIte])))
    have es : strsE (p ++ [x]) = strsE p ++ [[AV.str x]] := by simp [strsE]
    have L1 : (strsE p ++ [[AV.str x]]).length = p.length + 1 := by rw [List.length_append, strsE_len]; rfl
    refine AW.hold 76 ?_
    (repeat (first | with_reducible refine AW.seq ?_ | ((first | refine arun_kn 1 rfl (fun C hC => ?_) | refine arunD_kn 1 rfl (fun C hC => ?_)); (repeat ((conv => whnf); simp [ASt.hold, strsE_len, L1, AV.subL, AV.sub, Row.sub, upd, strsE_sub, nodeL_sub, nodesE_sub])); refine hC _ ?_; clear hC C; simp only [List.drop, Nat.reduceAdd]) | (refine arun_skip ?_ ?_; (focus (simp [awant, ASt.hold, strsE_len, L1, AV.subL, AV.sub, Row.sub, upd, strsE_sub, nodeL_sub, nodesE_sub]; done))) | (refine arunD_skip ?_ ?_; (focus (simp [awant, ASt.hold, strsE_len, L1, AV.subL, AV.sub, Row.sub, upd, strsE_sub, nodeL_sub, nodesE_sub]; done))) | (refine AW.regionK [] (fun K hK => ?_)) | (refine AW.condT ?_ ?_; (focus (simp [aev, ASt.hold, strsE_len, L1, AV.subL, AV.sub, Row.sub, upd, strsE_sub, nodeL_sub, nodesE_sub]; done))) | (refine AW.condF ?_ ?_; (focus (simp [aev, ASt.hold, strsE_len, L1, AV.subL, AV.sub, Row.sub, upd, strsE_sub, nodeL_sub, nodesE_sub]; done))) | with_reducible refine AW.block ?_ | ((first | ((first | refine arun_nil ?_ | refine arunD_nil ?_); refine hK _ ?_; clear hK K) | refine AW.skip ?_ | refine AW.exit ?_ | refine AW.ret ?_); simp only [wE, if_true, if_false, Nat.reduceEqDiff, reduceIte])))
    rw [← es]
    (repeat (first | with_reducible refine AW.seq ?_ | ((first | refine arun_kn 1 rfl (fun C hC => ?_) | refine arunD_kn 1 rfl (fun C hC => ?_)); (repeat ((conv => whnf); simp [strsE_len, upd])); refine hC _ ?_; clear hC C; simp only [List.drop, Nat.reduceAdd]) | (refine arun_skip ?_ ?_; (focus (simp [awant, strsE_len, upd]; done))) | (refine arunD_skip ?_ ?_; (focus (simp [awant, strsE_len, upd]; done))) | (refine AW.regionK [] (fun K hK => ?_)) | (refine AW.regionDK [] (pcs [] []) (by kernel_rfl) (by kernel_rfl) (fun K hK => ?_)) | (refine AW.condT ?_ ?_; (focus (simp [aev, strsE_len, upd]; done))) | (refine AW.condF ?_ ?_; (focus (simp [aev, strsE_len, upd]; done))) | with_reducible refine AW.block ?_ | ((first | ((first | refine arun_nil ?_ | refine arunD_nil ?_); refine hK _ ?_; clear hK K) | refine AW.skip ?_ | refine AW.exit ?_ | refine AW.ret ?_); simp only [wE, if_true, if_false, Nat.reduceEqDiff, reduceIte])))
    exact ⟨.agg [.int .i64 1, .view .loose 1 (strsE (p ++ [x])), .view .tight 1 [], .int .i64 m.kind, .int .i64 m.num, .str m.text, .view .loose 1 (strsE m.names), .view .loose 5 (m.kids.map nodeL)], by simp [ares, aresL, upd, rowsOf_cons, strsE_len, upd], opn_end _ (p ++ [x]) [] _ m hm (by first | assumption | simp; omega) (by simp) tight_wk tight_pur rfl⟩
  · skip
    by_cases h4 : (p.length : Int) < 4
    · (repeat (first | with_reducible refine AW.seq ?_ | ((first | refine arun_kn 1 rfl (fun C hC => ?_) | refine arunD_kn 1 rfl (fun C hC => ?_)); (repeat ((conv => whnf); simp [strsE_len, h4])); refine hC _ ?_; clear hC C; simp only [List.drop, Nat.reduceAdd]) | (refine arun_skip ?_ ?_; (focus (simp [awant, strsE_len, h4]; done))) | (refine arunD_skip ?_ ?_; (focus (simp [awant, strsE_len, h4]; done))) | (refine AW.regionK [] (fun K hK => ?_)) | (refine AW.condT ?_ ?_; (focus (simp [aev, strsE_len, h4]; done))) | (refine AW.condF ?_ ?_; (focus (simp [aev, strsE_len, h4]; done))) | with_reducible refine AW.block ?_ | ((first | ((first | refine arun_nil ?_ | refine arunD_nil ?_); refine hK _ ?_; clear hK K) | refine AW.skip ?_ | refine AW.exit ?_ | refine AW.ret ?_); simp only [wE, if_true, if_false, Nat.reduceEqDiff, reduceIte])))
      (repeat (first | with_reducible refine AW.seq ?_ | ((first | refine arun_kn 1 rfl (fun C hC => ?_) | refine arunD_kn 1 rfl (fun C hC => ?_)); (repeat ((conv => whnf); simp [strsE_len])); refine hC _ ?_; clear hC C; simp only [List.drop, Nat.reduceAdd]) | (refine arun_skip ?_ ?_; (focus (simp [awant, strsE_len]; done))) | (refine arunD_skip ?_ ?_; (focus (simp [awant, strsE_len]; done))) | (refine AW.regionK [] (fun K hK => ?_)) | (refine AW.regionDK [] (pcs [] []) (by kernel_rfl) (by kernel_rfl) (fun K hK => ?_)) | (refine AW.condT ?_ ?_; (focus (simp [aev, strsE_len]; done))) | (refine AW.condF ?_ ?_; (focus (simp [aev, strsE_len]; done))) | with_reducible refine AW.block ?_ | ((first | ((first | refine arun_nil ?_ | refine arunD_nil ?_); refine hK _ ?_; clear hK K) | refine AW.skip ?_ | refine AW.exit ?_ | refine AW.ret ?_); simp only [wE, if_true, if_false, Nat.reduceEqDiff, reduceIte])))
      exact ⟨.agg [.int .i64 2, .view .loose 1 (strsE p), .view .tight 1 [], .int .i64 0, .int .i64 0, .str ⟨#[]⟩, .view .tight 0 [], .view .tight 0 []], by simp [ares, aresL, upd, rowsOf_cons, strsE_len], opz_end _ p [] _ (by first | assumption | simp; omega) (by first | assumption | simp) tight_wk tight_pur rfl⟩
    · (repeat (first | with_reducible refine AW.seq ?_ | ((first | refine arun_kn 1 rfl (fun C hC => ?_) | refine arunD_kn 1 rfl (fun C hC => ?_)); (repeat ((conv => whnf); simp [strsE_len, h4])); refine hC _ ?_; clear hC C; simp only [List.drop, Nat.reduceAdd]) | (refine arun_skip ?_ ?_; (focus (simp [awant, strsE_len, h4]; done))) | (refine arunD_skip ?_ ?_; (focus (simp [awant, strsE_len, h4]; done))) | (refine AW.regionK [] (fun K hK => ?_)) | (refine AW.condT ?_ ?_; (focus (simp [aev, strsE_len, h4]; done))) | (refine AW.condF ?_ ?_; (focus (simp [aev, strsE_len, h4]; done))) | with_reducible refine AW.block ?_ | ((first | ((first | refine arun_nil ?_ | refine arunD_nil ?_); refine hK _ ?_; clear hK K) | refine AW.skip ?_ | refine AW.exit ?_ | refine AW.ret ?_); simp only [wE, if_true, if_false, Nat.reduceEqDiff, reduceIte])))
      (repeat (first | with_reducible refine AW.seq ?_ | ((first | refine arun_kn 1 rfl (fun C hC => ?_) | refine arunD_kn 1 rfl (fun C hC => ?_)); (repeat ((conv => whnf); simp [strsE_len])); refine hC _ ?_; clear hC C; simp only [List.drop, Nat.reduceAdd]) | (refine arun_skip ?_ ?_; (focus (simp [awant, strsE_len]; done))) | (refine arunD_skip ?_ ?_; (focus (simp [awant, strsE_len]; done))) | (refine AW.regionK [] (fun K hK => ?_)) | (refine AW.regionDK [] (pcs [] []) (by kernel_rfl) (by kernel_rfl) (fun K hK => ?_)) | (refine AW.condT ?_ ?_; (focus (simp [aev, strsE_len]; done))) | (refine AW.condF ?_ ?_; (focus (simp [aev, strsE_len]; done))) | with_reducible refine AW.block ?_ | ((first | ((first | refine arun_nil ?_ | refine arunD_nil ?_); refine hK _ ?_; clear hK K) | refine AW.skip ?_ | refine AW.exit ?_ | refine AW.ret ?_); simp only [wE, if_true, if_false, Nat.reduceEqDiff, reduceIte])))
      exact ⟨.agg [.int .i64 2, .view .loose 1 (strsE p), .view .tight 1 [], .int .i64 0, .int .i64 0, .str ⟨#[]⟩, .view .tight 0 [], .view .tight 0 []], by simp [ares, aresL, upd, rowsOf_cons, strsE_len], opz_end _ p [] _ (by first | assumption | simp; omega) (by first | assumption | simp) tight_wk tight_pur rfl⟩
  · skip
    by_cases h4 : (p.length : Int) < 4
    · (repeat (first | with_reducible refine AW.seq ?_ | ((first | refine arun_kn 1 rfl (fun C hC => ?_) | refine arunD_kn 1 rfl (fun C hC => ?_)); (repeat ((conv => whnf); simp [strsE_len, h4])); refine hC _ ?_; clear hC C; simp only [List.drop, Nat.reduceAdd]) | (refine arun_skip ?_ ?_; (focus (simp [awant, strsE_len, h4]; done))) | (refine arun_c (M) (hR) ?_; (rintro _ ⟨m, hm, rfl⟩)) | (refine arunD_skip ?_ ?_; (focus (simp [awant, strsE_len, h4]; done))) | (refine AW.regionK [] (fun K hK => ?_)) | (refine AW.condT ?_ ?_; (focus (simp [aev, strsE_len, h4]; done))) | (refine AW.condF ?_ ?_; (focus (simp [aev, strsE_len, h4]; done))) | with_reducible refine AW.block ?_ | ((first | ((first | refine arun_nil ?_ | refine arunD_nil ?_); refine hK _ ?_; clear hK K) | refine AW.skip ?_ | refine AW.exit ?_ | refine AW.ret ?_); simp only [wE, if_true, if_false, Nat.reduceEqDiff, reduceIte])))
      (repeat (first | with_reducible refine AW.seq ?_ | ((first | refine arun_kn 1 rfl (fun C hC => ?_) | refine arunD_kn 1 rfl (fun C hC => ?_)); (repeat ((conv => whnf); simp [strsE_len])); refine hC _ ?_; clear hC C; simp only [List.drop, Nat.reduceAdd]) | (refine arun_skip ?_ ?_; (focus (simp [awant, strsE_len]; done))) | (refine arunD_skip ?_ ?_; (focus (simp [awant, strsE_len]; done))) | (refine AW.regionK [] (fun K hK => ?_)) | (refine AW.regionDK [] (pcs [] []) (by kernel_rfl) (by kernel_rfl) (fun K hK => ?_)) | (refine AW.condT ?_ ?_; (focus (simp [aev, strsE_len]; done))) | (refine AW.condF ?_ ?_; (focus (simp [aev, strsE_len]; done))) | with_reducible refine AW.block ?_ | ((first | ((first | refine arun_nil ?_ | refine arunD_nil ?_); refine hK _ ?_; clear hK K) | refine AW.skip ?_ | refine AW.exit ?_ | refine AW.ret ?_); simp only [wE, if_true, if_false, Nat.reduceEqDiff, reduceIte])))
      exact ⟨.agg [.int .i64 3, .view .loose 1 (strsE p), .view .tight 1 [], .int .i64 m.kind, .int .i64 m.num, .str m.text, .view .loose 1 (strsE m.names), .view .loose 5 (m.kids.map nodeL)], by simp [ares, aresL, upd, rowsOf_cons, strsE_len], opn_end _ p [] _ m hm (by first | assumption | simp; omega) (by simp) tight_wk tight_pur rfl⟩
    · (repeat (first | with_reducible refine AW.seq ?_ | ((first | refine arun_kn 1 rfl (fun C hC => ?_) | refine arunD_kn 1 rfl (fun C hC => ?_)); (repeat ((conv => whnf); simp [strsE_len, h4])); refine hC _ ?_; clear hC C; simp only [List.drop, Nat.reduceAdd]) | (refine arun_skip ?_ ?_; (focus (simp [awant, strsE_len, h4]; done))) | (refine arun_c (M) (hR) ?_; (rintro _ ⟨m, hm, rfl⟩)) | (refine arunD_skip ?_ ?_; (focus (simp [awant, strsE_len, h4]; done))) | (refine AW.regionK [] (fun K hK => ?_)) | (refine AW.condT ?_ ?_; (focus (simp [aev, strsE_len, h4]; done))) | (refine AW.condF ?_ ?_; (focus (simp [aev, strsE_len, h4]; done))) | with_reducible refine AW.block ?_ | ((first | ((first | refine arun_nil ?_ | refine arunD_nil ?_); refine hK _ ?_; clear hK K) | refine AW.skip ?_ | refine AW.exit ?_ | refine AW.ret ?_); simp only [wE, if_true, if_false, Nat.reduceEqDiff, reduceIte])))
      (repeat (first | with_reducible refine AW.seq ?_ | ((first | refine arun_kn 1 rfl (fun C hC => ?_) | refine arunD_kn 1 rfl (fun C hC => ?_)); (repeat ((conv => whnf); simp [strsE_len])); refine hC _ ?_; clear hC C; simp only [List.drop, Nat.reduceAdd]) | (refine arun_skip ?_ ?_; (focus (simp [awant, strsE_len]; done))) | (refine arunD_skip ?_ ?_; (focus (simp [awant, strsE_len]; done))) | (refine AW.regionK [] (fun K hK => ?_)) | (refine AW.regionDK [] (pcs [] []) (by kernel_rfl) (by kernel_rfl) (fun K hK => ?_)) | (refine AW.condT ?_ ?_; (focus (simp [aev, strsE_len]; done))) | (refine AW.condF ?_ ?_; (focus (simp [aev, strsE_len]; done))) | with_reducible refine AW.block ?_ | ((first | ((first | refine arun_nil ?_ | refine arunD_nil ?_); refine hK _ ?_; clear hK K) | refine AW.skip ?_ | refine AW.exit ?_ | refine AW.ret ?_); simp only [wE, if_true, if_false, Nat.reduceEqDiff, reduceIte])))
      exact ⟨.agg [.int .i64 3, .view .loose 1 (strsE p), .view .tight 1 [], .int .i64 m.kind, .int .i64 m.num, .str m.text, .view .loose 1 (strsE m.names), .view .loose 5 (m.kids.map nodeL)], by simp [ares, aresL, upd, rowsOf_cons, strsE_len], opn_end _ p [] _ m hm (by first | assumption | simp; omega) (by simp) tight_wk tight_pur rfl⟩
  · skip
    by_cases h4 : (p.length : Int) < 4
    rotate_left
    · (repeat (first | with_reducible refine AW.seq ?_ | ((first | refine arun_kn 1 rfl (fun C hC => ?_) | refine arunD_kn 1 rfl (fun C hC => ?_)); (repeat ((conv => whnf); simp [strsE_len, h4])); refine hC _ ?_; clear hC C; simp only [List.drop, Nat.reduceAdd]) | (refine arun_skip ?_ ?_; (focus (simp [awant, strsE_len, h4]; done))) | (refine arun_c (12) (hP) ?_; (rintro _ ⟨f, hf, rfl⟩)) | (refine arunD_skip ?_ ?_; (focus (simp [awant, strsE_len, h4]; done))) | (refine AW.regionK [] (fun K hK => ?_)) | (refine AW.condT ?_ ?_; (focus (simp [aev, strsE_len, h4]; done))) | (refine AW.condF ?_ ?_; (focus (simp [aev, strsE_len, h4]; done))) | with_reducible refine AW.block ?_ | ((first | ((first | refine arun_nil ?_ | refine arunD_nil ?_); refine hK _ ?_; clear hK K) | refine AW.skip ?_ | refine AW.exit ?_ | refine AW.ret ?_); simp only [wE, if_true, if_false, Nat.reduceEqDiff, reduceIte])))
      (repeat (first | with_reducible refine AW.seq ?_ | ((first | refine arun_kn 1 rfl (fun C hC => ?_) | refine arunD_kn 1 rfl (fun C hC => ?_)); (repeat ((conv => whnf); simp [strsE_len])); refine hC _ ?_; clear hC C; simp only [List.drop, Nat.reduceAdd]) | (refine arun_skip ?_ ?_; (focus (simp [awant, strsE_len]; done))) | (refine arunD_skip ?_ ?_; (focus (simp [awant, strsE_len]; done))) | (refine AW.regionK [] (fun K hK => ?_)) | (refine AW.regionDK [] (pcs [] []) (by kernel_rfl) (by kernel_rfl) (fun K hK => ?_)) | (refine AW.condT ?_ ?_; (focus (simp [aev, strsE_len]; done))) | (refine AW.condF ?_ ?_; (focus (simp [aev, strsE_len]; done))) | with_reducible refine AW.block ?_ | ((first | ((first | refine arun_nil ?_ | refine arunD_nil ?_); refine hK _ ?_; clear hK K) | refine AW.skip ?_ | refine AW.exit ?_ | refine AW.ret ?_); simp only [wE, if_true, if_false, Nat.reduceEqDiff, reduceIte])))
      exact ⟨.agg [.int .i64 4, .view .loose 1 (strsE p), .view .loose 1 (strsE f), .int .i64 0, .int .i64 0, .str ⟨#[]⟩, .view .tight 0 [], .view .tight 0 []], by simp [ares, aresL, upd, rowsOf_cons, strsE_len], opz_end _ p f _ (by first | assumption | simp; omega) (by first | assumption | simp) (Wk.refl _) (strs_pur f (by decide)) rfl⟩
    (repeat (first | with_reducible refine AW.seq ?_ | ((first | refine arun_kn 1 rfl (fun C hC => ?_) | refine arunD_kn 1 rfl (fun C hC => ?_)); (repeat ((conv => whnf); simp [strsE_len, h4])); refine hC _ ?_; clear hC C; simp only [List.drop, Nat.reduceAdd]) | (refine arun_skip ?_ ?_; (focus (simp [awant, strsE_len, h4]; done))) | (refine arun_c (12) (hP) ?_; (rintro _ ⟨f, hf, rfl⟩)) | (refine arun_c (1) (pick_AC 2 (by omega) (by omega)) ?_; (rintro _ ⟨u, rfl, -⟩)) | (refine arunD_skip ?_ ?_; (focus (simp [awant, strsE_len, h4]; done))) | (refine AW.regionK [] (fun K hK => ?_)) | (refine AW.condT ?_ ?_; (focus (simp [aev, strsE_len, h4]; done))) | (refine AW.condF ?_ ?_; (focus (simp [aev, strsE_len, h4]; done))) | with_reducible refine AW.block ?_ | ((first | ((first | refine arun_nil ?_ | refine arunD_nil ?_); refine hK _ ?_; clear hK K) | refine AW.skip ?_ | refine AW.exit ?_ | refine AW.ret ?_); simp only [wE, if_true, if_false, Nat.reduceEqDiff, reduceIte])))
    cases hu : u == 0
    · (repeat (first | with_reducible refine AW.seq ?_ | ((first | refine arun_kn 1 rfl (fun C hC => ?_) | refine arunD_kn 1 rfl (fun C hC => ?_)); (repeat ((conv => whnf); simp [strsE_len, h4, hu])); refine hC _ ?_; clear hC C; simp only [List.drop, Nat.reduceAdd]) | (refine arun_skip ?_ ?_; (focus (simp [awant, strsE_len, h4, hu]; done))) | (refine arunD_skip ?_ ?_; (focus (simp [awant, strsE_len, h4, hu]; done))) | (refine AW.regionK [] (fun K hK => ?_)) | (refine AW.condT ?_ ?_; (focus (simp [aev, strsE_len, h4, hu]; done))) | (refine AW.condF ?_ ?_; (focus (simp [aev, strsE_len, h4, hu]; done))) | with_reducible refine AW.block ?_ | ((first | ((first | refine arun_nil ?_ | refine arunD_nil ?_); refine hK _ ?_; clear hK K) | refine AW.skip ?_ | refine AW.exit ?_ | refine AW.ret ?_); simp only [wE, if_true, if_false, Nat.reduceEqDiff, reduceIte])))
      (repeat (first | with_reducible refine AW.seq ?_ | ((first | refine arun_kn 1 rfl (fun C hC => ?_) | refine arunD_kn 1 rfl (fun C hC => ?_)); (repeat ((conv => whnf); simp [strsE_len])); refine hC _ ?_; clear hC C; simp only [List.drop, Nat.reduceAdd]) | (refine arun_skip ?_ ?_; (focus (simp [awant, strsE_len]; done))) | (refine arunD_skip ?_ ?_; (focus (simp [awant, strsE_len]; done))) | (refine AW.regionK [] (fun K hK => ?_)) | (refine AW.regionDK [] (pcs [] []) (by kernel_rfl) (by kernel_rfl) (fun K hK => ?_)) | (refine AW.condT ?_ ?_; (focus (simp [aev, strsE_len]; done))) | (refine AW.condF ?_ ?_; (focus (simp [aev, strsE_len]; done))) | with_reducible refine AW.block ?_ | ((first | ((first | refine arun_nil ?_ | refine arunD_nil ?_); refine hK _ ?_; clear hK K) | refine AW.skip ?_ | refine AW.exit ?_ | refine AW.ret ?_); simp only [wE, if_true, if_false, Nat.reduceEqDiff, reduceIte])))
      exact ⟨.agg [.int .i64 4, .view .loose 1 (strsE p), .view .loose 1 (strsE f), .int .i64 0, .int .i64 0, .str ⟨#[]⟩, .view .tight 0 [], .view .tight 0 []], by simp [ares, aresL, upd, rowsOf_cons, strsE_len], opz_end _ p f _ (by first | assumption | simp; omega) (by first | assumption | simp) (Wk.refl _) (strs_pur f (by decide)) rfl⟩
    have b1 : p.length * 16 ≤ 140737488355328 := by omega
    have b2 : p.length ≤ 140737488355328 := by omega
    have b3 : (p.length + 1) * 16 ≤ 140737488355328 := by omega
    have b4 : p.length + 1 ≤ 140737488355328 := by omega
    (repeat (first | with_reducible refine AW.seq ?_ | ((first | refine arun_kn 1 rfl (fun C hC => ?_) | refine arunD_kn 1 rfl (fun C hC => ?_)); (repeat ((conv => whnf); simp [strsE_len, h4, hu])); refine hC _ ?_; clear hC C; simp only [List.drop, Nat.reduceAdd]) | (refine arun_skip ?_ ?_; (focus (simp [awant, strsE_len, h4, hu]; done))) | (refine arunD_skip ?_ ?_; (focus (simp [awant, strsE_len, h4, hu]; done))) | (refine AW.condT ?_ ?_; (focus (simp [aev, strsE_len, h4, hu]; done))) | (refine AW.condF ?_ ?_; (focus (simp [aev, strsE_len, h4, hu]; done))) | with_reducible refine AW.block ?_ | ((first | ((first | refine arun_nil ?_ | refine arunD_nil ?_); refine hK _ ?_; clear hK K) | refine AW.skip ?_ | refine AW.exit ?_ | refine AW.ret ?_); simp only [wE, if_true, if_false, Nat.reduceEqDiff, reduceIte])))
    refine AW.regionK [] (fun K hK => ?_)
    (repeat (first | with_reducible refine AW.seq ?_ | ((first | refine arun_kn 1 rfl (fun C hC => ?_) | refine arunD_kn 1 rfl (fun C hC => ?_)); (repeat ((conv => whnf); simp [strsE_len, h4, hu, b1, b2, b3, b4])); refine hC _ ?_; clear hC C; simp only [List.drop, Nat.reduceAdd]) | (refine arun_skip ?_ ?_; (focus (simp [awant, strsE_len, h4, hu, b1, b2, b3, b4]; done))) | (refine arun_cU (1) rfl (of_ACU _ _ (by rfl) (by simp) (by simp)) ?_; (rintro _ ⟨x, -, rfl⟩)) | (refine arunD_skip ?_ ?_; (focus (simp [awant, strsE_len, h4, hu, b1, b2, b3, b4]; done))) | (refine AW.condT ?_ ?_; (focus (simp [aev, strsE_len, h4, hu, b1, b2, b3, b4]; done))) | (refine AW.condF ?_ ?_; (focus (simp [aev, strsE_len, h4, hu, b1, b2, b3, b4]; done))) | with_reducible refine AW.block ?_ | ((first | ((first | refine arun_nil ?_ | refine arunD_nil ?_); refine hK _ ?_; clear hK K) | refine AW.skip ?_ | refine AW.exit ?_ | refine AW.ret ?_); simp only [wE, if_true, if_false, Nat.reduceEqDiff, reduceIte])))
    have es : strsE (p ++ [x]) = strsE p ++ [[AV.str x]] := by simp [strsE]
    have L1 : (strsE p ++ [[AV.str x]]).length = p.length + 1 := by rw [List.length_append, strsE_len]; rfl
    refine AW.hold 76 ?_
    (repeat (first | with_reducible refine AW.seq ?_ | ((first | refine arun_kn 1 rfl (fun C hC => ?_) | refine arunD_kn 1 rfl (fun C hC => ?_)); (repeat ((conv => whnf); simp [ASt.hold, strsE_len, L1, AV.subL, AV.sub, Row.sub, upd, strsE_sub, nodeL_sub, nodesE_sub])); refine hC _ ?_; clear hC C; simp only [List.drop, Nat.reduceAdd]) | (refine arun_skip ?_ ?_; (focus (simp [awant, ASt.hold, strsE_len, L1, AV.subL, AV.sub, Row.sub, upd, strsE_sub, nodeL_sub, nodesE_sub]; done))) | (refine arunD_skip ?_ ?_; (focus (simp [awant, ASt.hold, strsE_len, L1, AV.subL, AV.sub, Row.sub, upd, strsE_sub, nodeL_sub, nodesE_sub]; done))) | (refine AW.regionK [] (fun K hK => ?_)) | (refine AW.condT ?_ ?_; (focus (simp [aev, ASt.hold, strsE_len, L1, AV.subL, AV.sub, Row.sub, upd, strsE_sub, nodeL_sub, nodesE_sub]; done))) | (refine AW.condF ?_ ?_; (focus (simp [aev, ASt.hold, strsE_len, L1, AV.subL, AV.sub, Row.sub, upd, strsE_sub, nodeL_sub, nodesE_sub]; done))) | with_reducible refine AW.block ?_ | ((first | ((first | refine arun_nil ?_ | refine arunD_nil ?_); refine hK _ ?_; clear hK K) | refine AW.skip ?_ | refine AW.exit ?_ | refine AW.ret ?_); simp only [wE, if_true, if_false, Nat.reduceEqDiff, reduceIte])))
    rw [← es]
    (repeat (first | with_reducible refine AW.seq ?_ | ((first | refine arun_kn 1 rfl (fun C hC => ?_) | refine arunD_kn 1 rfl (fun C hC => ?_)); (repeat ((conv => whnf); simp [strsE_len, upd])); refine hC _ ?_; clear hC C; simp only [List.drop, Nat.reduceAdd]) | (refine arun_skip ?_ ?_; (focus (simp [awant, strsE_len, upd]; done))) | (refine arunD_skip ?_ ?_; (focus (simp [awant, strsE_len, upd]; done))) | (refine AW.regionK [] (fun K hK => ?_)) | (refine AW.regionDK [] (pcs [] []) (by kernel_rfl) (by kernel_rfl) (fun K hK => ?_)) | (refine AW.condT ?_ ?_; (focus (simp [aev, strsE_len, upd]; done))) | (refine AW.condF ?_ ?_; (focus (simp [aev, strsE_len, upd]; done))) | with_reducible refine AW.block ?_ | ((first | ((first | refine arun_nil ?_ | refine arunD_nil ?_); refine hK _ ?_; clear hK K) | refine AW.skip ?_ | refine AW.exit ?_ | refine AW.ret ?_); simp only [wE, if_true, if_false, Nat.reduceEqDiff, reduceIte])))
    exact ⟨.agg [.int .i64 4, .view .loose 1 (strsE (p ++ [x])), .view .loose 1 (strsE f), .int .i64 0, .int .i64 0, .str ⟨#[]⟩, .view .tight 0 [], .view .tight 0 []], by simp [ares, aresL, upd, rowsOf_cons, strsE_len, upd], opz_end _ (p ++ [x]) f _ (by first | assumption | simp; omega) (by first | assumption | simp) (Wk.refl _) (strs_pur f (by decide)) rfl⟩
  · skip
    by_cases h4 : (p.length : Int) < 4
    rotate_left
    · (repeat (first | with_reducible refine AW.seq ?_ | ((first | refine arun_kn 1 rfl (fun C hC => ?_) | refine arunD_kn 1 rfl (fun C hC => ?_)); (repeat ((conv => whnf); simp [strsE_len, h4])); refine hC _ ?_; clear hC C; simp only [List.drop, Nat.reduceAdd]) | (refine arun_skip ?_ ?_; (focus (simp [awant, strsE_len, h4]; done))) | (refine arun_c (12) (hP) ?_; (rintro _ ⟨f, hf, rfl⟩)) | (refine arunD_skip ?_ ?_; (focus (simp [awant, strsE_len, h4]; done))) | (refine AW.regionK [] (fun K hK => ?_)) | (refine AW.condT ?_ ?_; (focus (simp [aev, strsE_len, h4]; done))) | (refine AW.condF ?_ ?_; (focus (simp [aev, strsE_len, h4]; done))) | with_reducible refine AW.block ?_ | ((first | ((first | refine arun_nil ?_ | refine arunD_nil ?_); refine hK _ ?_; clear hK K) | refine AW.skip ?_ | refine AW.exit ?_ | refine AW.ret ?_); simp only [wE, if_true, if_false, Nat.reduceEqDiff, reduceIte])))
      (repeat (first | with_reducible refine AW.seq ?_ | ((first | refine arun_kn 1 rfl (fun C hC => ?_) | refine arunD_kn 1 rfl (fun C hC => ?_)); (repeat ((conv => whnf); simp [strsE_len])); refine hC _ ?_; clear hC C; simp only [List.drop, Nat.reduceAdd]) | (refine arun_skip ?_ ?_; (focus (simp [awant, strsE_len]; done))) | (refine arunD_skip ?_ ?_; (focus (simp [awant, strsE_len]; done))) | (refine AW.regionK [] (fun K hK => ?_)) | (refine AW.regionDK [] (pcs [] []) (by kernel_rfl) (by kernel_rfl) (fun K hK => ?_)) | (refine AW.condT ?_ ?_; (focus (simp [aev, strsE_len]; done))) | (refine AW.condF ?_ ?_; (focus (simp [aev, strsE_len]; done))) | with_reducible refine AW.block ?_ | ((first | ((first | refine arun_nil ?_ | refine arunD_nil ?_); refine hK _ ?_; clear hK K) | refine AW.skip ?_ | refine AW.exit ?_ | refine AW.ret ?_); simp only [wE, if_true, if_false, Nat.reduceEqDiff, reduceIte])))
      exact ⟨.agg [.int .i64 5, .view .loose 1 (strsE p), .view .loose 1 (strsE f), .int .i64 0, .int .i64 0, .str ⟨#[]⟩, .view .tight 0 [], .view .tight 0 []], by simp [ares, aresL, upd, rowsOf_cons, strsE_len], opz_end _ p f _ (by first | assumption | simp; omega) (by first | assumption | simp) (Wk.refl _) (strs_pur f (by decide)) rfl⟩
    (repeat (first | with_reducible refine AW.seq ?_ | ((first | refine arun_kn 1 rfl (fun C hC => ?_) | refine arunD_kn 1 rfl (fun C hC => ?_)); (repeat ((conv => whnf); simp [strsE_len, h4])); refine hC _ ?_; clear hC C; simp only [List.drop, Nat.reduceAdd]) | (refine arun_skip ?_ ?_; (focus (simp [awant, strsE_len, h4]; done))) | (refine arun_c (12) (hP) ?_; (rintro _ ⟨f, hf, rfl⟩)) | (refine arun_c (1) (pick_AC 2 (by omega) (by omega)) ?_; (rintro _ ⟨u, rfl, -⟩)) | (refine arunD_skip ?_ ?_; (focus (simp [awant, strsE_len, h4]; done))) | (refine AW.regionK [] (fun K hK => ?_)) | (refine AW.condT ?_ ?_; (focus (simp [aev, strsE_len, h4]; done))) | (refine AW.condF ?_ ?_; (focus (simp [aev, strsE_len, h4]; done))) | with_reducible refine AW.block ?_ | ((first | ((first | refine arun_nil ?_ | refine arunD_nil ?_); refine hK _ ?_; clear hK K) | refine AW.skip ?_ | refine AW.exit ?_ | refine AW.ret ?_); simp only [wE, if_true, if_false, Nat.reduceEqDiff, reduceIte])))
    cases hu : u == 0
    · (repeat (first | with_reducible refine AW.seq ?_ | ((first | refine arun_kn 1 rfl (fun C hC => ?_) | refine arunD_kn 1 rfl (fun C hC => ?_)); (repeat ((conv => whnf); simp [strsE_len, h4, hu])); refine hC _ ?_; clear hC C; simp only [List.drop, Nat.reduceAdd]) | (refine arun_skip ?_ ?_; (focus (simp [awant, strsE_len, h4, hu]; done))) | (refine arunD_skip ?_ ?_; (focus (simp [awant, strsE_len, h4, hu]; done))) | (refine AW.regionK [] (fun K hK => ?_)) | (refine AW.condT ?_ ?_; (focus (simp [aev, strsE_len, h4, hu]; done))) | (refine AW.condF ?_ ?_; (focus (simp [aev, strsE_len, h4, hu]; done))) | with_reducible refine AW.block ?_ | ((first | ((first | refine arun_nil ?_ | refine arunD_nil ?_); refine hK _ ?_; clear hK K) | refine AW.skip ?_ | refine AW.exit ?_ | refine AW.ret ?_); simp only [wE, if_true, if_false, Nat.reduceEqDiff, reduceIte])))
      (repeat (first | with_reducible refine AW.seq ?_ | ((first | refine arun_kn 1 rfl (fun C hC => ?_) | refine arunD_kn 1 rfl (fun C hC => ?_)); (repeat ((conv => whnf); simp [strsE_len])); refine hC _ ?_; clear hC C; simp only [List.drop, Nat.reduceAdd]) | (refine arun_skip ?_ ?_; (focus (simp [awant, strsE_len]; done))) | (refine arunD_skip ?_ ?_; (focus (simp [awant, strsE_len]; done))) | (refine AW.regionK [] (fun K hK => ?_)) | (refine AW.regionDK [] (pcs [] []) (by kernel_rfl) (by kernel_rfl) (fun K hK => ?_)) | (refine AW.condT ?_ ?_; (focus (simp [aev, strsE_len]; done))) | (refine AW.condF ?_ ?_; (focus (simp [aev, strsE_len]; done))) | with_reducible refine AW.block ?_ | ((first | ((first | refine arun_nil ?_ | refine arunD_nil ?_); refine hK _ ?_; clear hK K) | refine AW.skip ?_ | refine AW.exit ?_ | refine AW.ret ?_); simp only [wE, if_true, if_false, Nat.reduceEqDiff, reduceIte])))
      exact ⟨.agg [.int .i64 5, .view .loose 1 (strsE p), .view .loose 1 (strsE f), .int .i64 0, .int .i64 0, .str ⟨#[]⟩, .view .tight 0 [], .view .tight 0 []], by simp [ares, aresL, upd, rowsOf_cons, strsE_len], opz_end _ p f _ (by first | assumption | simp; omega) (by first | assumption | simp) (Wk.refl _) (strs_pur f (by decide)) rfl⟩
    have b1 : p.length * 16 ≤ 140737488355328 := by omega
    have b2 : p.length ≤ 140737488355328 := by omega
    have b3 : (p.length + 1) * 16 ≤ 140737488355328 := by omega
    have b4 : p.length + 1 ≤ 140737488355328 := by omega
    (repeat (first | with_reducible refine AW.seq ?_ | ((first | refine arun_kn 1 rfl (fun C hC => ?_) | refine arunD_kn 1 rfl (fun C hC => ?_)); (repeat ((conv => whnf); simp [strsE_len, h4, hu])); refine hC _ ?_; clear hC C; simp only [List.drop, Nat.reduceAdd]) | (refine arun_skip ?_ ?_; (focus (simp [awant, strsE_len, h4, hu]; done))) | (refine arunD_skip ?_ ?_; (focus (simp [awant, strsE_len, h4, hu]; done))) | (refine AW.condT ?_ ?_; (focus (simp [aev, strsE_len, h4, hu]; done))) | (refine AW.condF ?_ ?_; (focus (simp [aev, strsE_len, h4, hu]; done))) | with_reducible refine AW.block ?_ | ((first | ((first | refine arun_nil ?_ | refine arunD_nil ?_); refine hK _ ?_; clear hK K) | refine AW.skip ?_ | refine AW.exit ?_ | refine AW.ret ?_); simp only [wE, if_true, if_false, Nat.reduceEqDiff, reduceIte])))
    refine AW.regionK [] (fun K hK => ?_)
    (repeat (first | with_reducible refine AW.seq ?_ | ((first | refine arun_kn 1 rfl (fun C hC => ?_) | refine arunD_kn 1 rfl (fun C hC => ?_)); (repeat ((conv => whnf); simp [strsE_len, h4, hu, b1, b2, b3, b4])); refine hC _ ?_; clear hC C; simp only [List.drop, Nat.reduceAdd]) | (refine arun_skip ?_ ?_; (focus (simp [awant, strsE_len, h4, hu, b1, b2, b3, b4]; done))) | (refine arun_cU (1) rfl (of_ACU _ _ (by rfl) (by simp) (by simp)) ?_; (rintro _ ⟨x, -, rfl⟩)) | (refine arunD_skip ?_ ?_; (focus (simp [awant, strsE_len, h4, hu, b1, b2, b3, b4]; done))) | (refine AW.condT ?_ ?_; (focus (simp [aev, strsE_len, h4, hu, b1, b2, b3, b4]; done))) | (refine AW.condF ?_ ?_; (focus (simp [aev, strsE_len, h4, hu, b1, b2, b3, b4]; done))) | with_reducible refine AW.block ?_ | ((first | ((first | refine arun_nil ?_ | refine arunD_nil ?_); refine hK _ ?_; clear hK K) | refine AW.skip ?_ | refine AW.exit ?_ | refine AW.ret ?_); simp only [wE, if_true, if_false, Nat.reduceEqDiff, reduceIte])))
    have es : strsE (p ++ [x]) = strsE p ++ [[AV.str x]] := by simp [strsE]
    have L1 : (strsE p ++ [[AV.str x]]).length = p.length + 1 := by rw [List.length_append, strsE_len]; rfl
    refine AW.hold 76 ?_
    (repeat (first | with_reducible refine AW.seq ?_ | ((first | refine arun_kn 1 rfl (fun C hC => ?_) | refine arunD_kn 1 rfl (fun C hC => ?_)); (repeat ((conv => whnf); simp [ASt.hold, strsE_len, L1, AV.subL, AV.sub, Row.sub, upd, strsE_sub, nodeL_sub, nodesE_sub])); refine hC _ ?_; clear hC C; simp only [List.drop, Nat.reduceAdd]) | (refine arun_skip ?_ ?_; (focus (simp [awant, ASt.hold, strsE_len, L1, AV.subL, AV.sub, Row.sub, upd, strsE_sub, nodeL_sub, nodesE_sub]; done))) | (refine arunD_skip ?_ ?_; (focus (simp [awant, ASt.hold, strsE_len, L1, AV.subL, AV.sub, Row.sub, upd, strsE_sub, nodeL_sub, nodesE_sub]; done))) | (refine AW.regionK [] (fun K hK => ?_)) | (refine AW.condT ?_ ?_; (focus (simp [aev, ASt.hold, strsE_len, L1, AV.subL, AV.sub, Row.sub, upd, strsE_sub, nodeL_sub, nodesE_sub]; done))) | (refine AW.condF ?_ ?_; (focus (simp [aev, ASt.hold, strsE_len, L1, AV.subL, AV.sub, Row.sub, upd, strsE_sub, nodeL_sub, nodesE_sub]; done))) | with_reducible refine AW.block ?_ | ((first | ((first | refine arun_nil ?_ | refine arunD_nil ?_); refine hK _ ?_; clear hK K) | refine AW.skip ?_ | refine AW.exit ?_ | refine AW.ret ?_); simp only [wE, if_true, if_false, Nat.reduceEqDiff, reduceIte])))
    rw [← es]
    (repeat (first | with_reducible refine AW.seq ?_ | ((first | refine arun_kn 1 rfl (fun C hC => ?_) | refine arunD_kn 1 rfl (fun C hC => ?_)); (repeat ((conv => whnf); simp [strsE_len, upd])); refine hC _ ?_; clear hC C; simp only [List.drop, Nat.reduceAdd]) | (refine arun_skip ?_ ?_; (focus (simp [awant, strsE_len, upd]; done))) | (refine arunD_skip ?_ ?_; (focus (simp [awant, strsE_len, upd]; done))) | (refine AW.regionK [] (fun K hK => ?_)) | (refine AW.regionDK [] (pcs [] []) (by kernel_rfl) (by kernel_rfl) (fun K hK => ?_)) | (refine AW.condT ?_ ?_; (focus (simp [aev, strsE_len, upd]; done))) | (refine AW.condF ?_ ?_; (focus (simp [aev, strsE_len, upd]; done))) | with_reducible refine AW.block ?_ | ((first | ((first | refine arun_nil ?_ | refine arunD_nil ?_); refine hK _ ?_; clear hK K) | refine AW.skip ?_ | refine AW.exit ?_ | refine AW.ret ?_); simp only [wE, if_true, if_false, Nat.reduceEqDiff, reduceIte])))
    exact ⟨.agg [.int .i64 5, .view .loose 1 (strsE (p ++ [x])), .view .loose 1 (strsE f), .int .i64 0, .int .i64 0, .str ⟨#[]⟩, .view .tight 0 [], .view .tight 0 []], by simp [ares, aresL, upd, rowsOf_cons, strsE_len, upd], opz_end _ (p ++ [x]) f _ (by first | assumption | simp; omega) (by first | assumption | simp) (Wk.refl _) (strs_pur f (by decide)) rfl⟩
  · have hap := hat p hp
    cases hg : getS n p with
    | none =>
      rw [hg] at hap
      by_cases h4 : (p.length : Int) < 4
      · (repeat (first | with_reducible refine AW.seq ?_ | ((first | refine arun_kn 1 rfl (fun C hC => ?_) | refine arunD_kn 1 rfl (fun C hC => ?_)); (repeat ((conv => whnf); simp [strsE_len, h4])); refine hC _ ?_; clear hC C; simp only [List.drop, Nat.reduceAdd]) | (refine arun_skip ?_ ?_; (focus (simp [awant, strsE_len, h4]; done))) | (refine arun_c0 (hap) ?_; rintro _ rfl) | (refine arunD_skip ?_ ?_; (focus (simp [awant, strsE_len, h4]; done))) | (refine AW.regionK [] (fun K hK => ?_)) | (refine AW.condT ?_ ?_; (focus (simp [aev, strsE_len, h4]; done))) | (refine AW.condF ?_ ?_; (focus (simp [aev, strsE_len, h4]; done))) | with_reducible refine AW.block ?_ | ((first | ((first | refine arun_nil ?_ | refine arunD_nil ?_); refine hK _ ?_; clear hK K) | refine AW.skip ?_ | refine AW.exit ?_ | refine AW.ret ?_); simp only [wE, if_true, if_false, Nat.reduceEqDiff, reduceIte])))
        (repeat (first | with_reducible refine AW.seq ?_ | ((first | refine arun_kn 1 rfl (fun C hC => ?_) | refine arunD_kn 1 rfl (fun C hC => ?_)); (repeat ((conv => whnf); simp [strsE_len])); refine hC _ ?_; clear hC C; simp only [List.drop, Nat.reduceAdd]) | (refine arun_skip ?_ ?_; (focus (simp [awant, strsE_len]; done))) | (refine arunD_skip ?_ ?_; (focus (simp [awant, strsE_len]; done))) | (refine AW.regionK [] (fun K hK => ?_)) | (refine AW.regionDK [] (pcs [] []) (by kernel_rfl) (by kernel_rfl) (fun K hK => ?_)) | (refine AW.condT ?_ ?_; (focus (simp [aev, strsE_len]; done))) | (refine AW.condF ?_ ?_; (focus (simp [aev, strsE_len]; done))) | with_reducible refine AW.block ?_ | ((first | ((first | refine arun_nil ?_ | refine arunD_nil ?_); refine hK _ ?_; clear hK K) | refine AW.skip ?_ | refine AW.exit ?_ | refine AW.ret ?_); simp only [wE, if_true, if_false, Nat.reduceEqDiff, reduceIte])))
        exact ⟨.agg [.int .i64 6, .view .loose 1 (strsE p), .view .tight 1 [], .int .i64 0, .int .i64 0, .str ⟨#[]⟩, .view .tight 0 [], .view .tight 0 []], by simp [ares, aresL, upd, rowsOf_cons, strsE_len], opz_end _ p [] _ (by first | assumption | simp; omega) (by first | assumption | simp) tight_wk tight_pur rfl⟩
      · (repeat (first | with_reducible refine AW.seq ?_ | ((first | refine arun_kn 1 rfl (fun C hC => ?_) | refine arunD_kn 1 rfl (fun C hC => ?_)); (repeat ((conv => whnf); simp [strsE_len, h4])); refine hC _ ?_; clear hC C; simp only [List.drop, Nat.reduceAdd]) | (refine arun_skip ?_ ?_; (focus (simp [awant, strsE_len, h4]; done))) | (refine arun_c0 (hap) ?_; rintro _ rfl) | (refine arunD_skip ?_ ?_; (focus (simp [awant, strsE_len, h4]; done))) | (refine AW.regionK [] (fun K hK => ?_)) | (refine AW.condT ?_ ?_; (focus (simp [aev, strsE_len, h4]; done))) | (refine AW.condF ?_ ?_; (focus (simp [aev, strsE_len, h4]; done))) | with_reducible refine AW.block ?_ | ((first | ((first | refine arun_nil ?_ | refine arunD_nil ?_); refine hK _ ?_; clear hK K) | refine AW.skip ?_ | refine AW.exit ?_ | refine AW.ret ?_); simp only [wE, if_true, if_false, Nat.reduceEqDiff, reduceIte])))
        (repeat (first | with_reducible refine AW.seq ?_ | ((first | refine arun_kn 1 rfl (fun C hC => ?_) | refine arunD_kn 1 rfl (fun C hC => ?_)); (repeat ((conv => whnf); simp [strsE_len])); refine hC _ ?_; clear hC C; simp only [List.drop, Nat.reduceAdd]) | (refine arun_skip ?_ ?_; (focus (simp [awant, strsE_len]; done))) | (refine arunD_skip ?_ ?_; (focus (simp [awant, strsE_len]; done))) | (refine AW.regionK [] (fun K hK => ?_)) | (refine AW.regionDK [] (pcs [] []) (by kernel_rfl) (by kernel_rfl) (fun K hK => ?_)) | (refine AW.condT ?_ ?_; (focus (simp [aev, strsE_len]; done))) | (refine AW.condF ?_ ?_; (focus (simp [aev, strsE_len]; done))) | with_reducible refine AW.block ?_ | ((first | ((first | refine arun_nil ?_ | refine arunD_nil ?_); refine hK _ ?_; clear hK K) | refine AW.skip ?_ | refine AW.exit ?_ | refine AW.ret ?_); simp only [wE, if_true, if_false, Nat.reduceEqDiff, reduceIte])))
        exact ⟨.agg [.int .i64 6, .view .loose 1 (strsE p), .view .tight 1 [], .int .i64 0, .int .i64 0, .str ⟨#[]⟩, .view .tight 0 [], .view .tight 0 []], by simp [ares, aresL, upd, rowsOf_cons, strsE_len], opz_end _ p [] _ (by first | assumption | simp; omega) (by first | assumption | simp) tight_wk tight_pur rfl⟩
    | some m =>
      have hm := hgs p m hg
      rw [hg] at hap
      unfold optA at hap
      simp only [Option.getD_some, Option.isSome_some] at hap
      unfold nodeA at hap
      rw [nodeL_eq m] at hap
      (repeat (first | with_reducible refine AW.seq ?_ | ((first | refine arun_kn 1 rfl (fun C hC => ?_) | refine arunD_kn 1 rfl (fun C hC => ?_)); (repeat ((conv => whnf); simp [strsE_len])); refine hC _ ?_; clear hC C; simp only [List.drop, Nat.reduceAdd]) | (refine arun_skip ?_ ?_; (focus (simp [awant, strsE_len]; done))) | (refine arun_c0 (hap) ?_; rintro _ rfl) | (refine arun_c (1) (pick_AC 3 (by omega) (by omega)) ?_; (rintro _ ⟨u, rfl, -⟩)) | (refine arunD_skip ?_ ?_; (focus (simp [awant, strsE_len]; done))) | (refine AW.regionK [] (fun K hK => ?_)) | (refine AW.condT ?_ ?_; (focus (simp [aev, strsE_len]; done))) | (refine AW.condF ?_ ?_; (focus (simp [aev, strsE_len]; done))) | with_reducible refine AW.block ?_ | ((first | ((first | refine arun_nil ?_ | refine arunD_nil ?_); refine hK _ ?_; clear hK K) | refine AW.skip ?_ | refine AW.exit ?_ | refine AW.ret ?_); simp only [wE, if_true, if_false, Nat.reduceEqDiff, reduceIte])))
      rcases Int.lt_or_le 0 u with h0 | h0
      · (repeat (first | with_reducible refine AW.seq ?_ | ((first | refine arun_kn 1 rfl (fun C hC => ?_) | refine arunD_kn 1 rfl (fun C hC => ?_)); (repeat ((conv => whnf); simp [strsE_len, h0])); refine hC _ ?_; clear hC C; simp only [List.drop, Nat.reduceAdd]) | (refine arun_skip ?_ ?_; (focus (simp [awant, strsE_len, h0]; done))) | (refine arunD_skip ?_ ?_; (focus (simp [awant, strsE_len, h0]; done))) | (refine AW.regionK [] (fun K hK => ?_)) | (refine AW.condT ?_ ?_; (focus (simp [aev, strsE_len, h0]; done))) | (refine AW.condF ?_ ?_; (focus (simp [aev, strsE_len, h0]; done))) | with_reducible refine AW.block ?_ | ((first | ((first | refine arun_nil ?_ | refine arunD_nil ?_); refine hK _ ?_; clear hK K) | refine AW.skip ?_ | refine AW.exit ?_ | refine AW.ret ?_); simp only [wE, if_true, if_false, Nat.reduceEqDiff, reduceIte])))
        by_cases h4 : (p.length : Int) < 4
        · (repeat (first | with_reducible refine AW.seq ?_ | ((first | refine arun_kn 1 rfl (fun C hC => ?_) | refine arunD_kn 1 rfl (fun C hC => ?_)); (repeat ((conv => whnf); simp [strsE_len, h4])); refine hC _ ?_; clear hC C; simp only [List.drop, Nat.reduceAdd]) | (refine arun_skip ?_ ?_; (focus (simp [awant, strsE_len, h4]; done))) | (refine arunD_skip ?_ ?_; (focus (simp [awant, strsE_len, h4]; done))) | (refine AW.regionK [] (fun K hK => ?_)) | (refine AW.condT ?_ ?_; (focus (simp [aev, strsE_len, h4]; done))) | (refine AW.condF ?_ ?_; (focus (simp [aev, strsE_len, h4]; done))) | with_reducible refine AW.block ?_ | ((first | ((first | refine arun_nil ?_ | refine arunD_nil ?_); refine hK _ ?_; clear hK K) | refine AW.skip ?_ | refine AW.exit ?_ | refine AW.ret ?_); simp only [wE, if_true, if_false, Nat.reduceEqDiff, reduceIte])))
          (repeat (first | with_reducible refine AW.seq ?_ | ((first | refine arun_kn 1 rfl (fun C hC => ?_) | refine arunD_kn 1 rfl (fun C hC => ?_)); (repeat ((conv => whnf); simp [strsE_len])); refine hC _ ?_; clear hC C; simp only [List.drop, Nat.reduceAdd]) | (refine arun_skip ?_ ?_; (focus (simp [awant, strsE_len]; done))) | (refine arunD_skip ?_ ?_; (focus (simp [awant, strsE_len]; done))) | (refine AW.regionK [] (fun K hK => ?_)) | (refine AW.regionDK [] (pcs [] []) (by kernel_rfl) (by kernel_rfl) (fun K hK => ?_)) | (refine AW.condT ?_ ?_; (focus (simp [aev, strsE_len]; done))) | (refine AW.condF ?_ ?_; (focus (simp [aev, strsE_len]; done))) | with_reducible refine AW.block ?_ | ((first | ((first | refine arun_nil ?_ | refine arunD_nil ?_); refine hK _ ?_; clear hK K) | refine AW.skip ?_ | refine AW.exit ?_ | refine AW.ret ?_); simp only [wE, if_true, if_false, Nat.reduceEqDiff, reduceIte])))
          exact ⟨.agg [.int .i64 6, .view .loose 1 (strsE p), .view .tight 1 [], .int .i64 m.kind, .int .i64 m.num, .str m.text, .view .loose 1 (strsE m.names), .view .loose 5 (m.kids.map nodeL)], by simp [ares, aresL, upd, rowsOf_cons, strsE_len], opn_end _ p [] _ m hm (by first | assumption | simp; omega) (by simp) tight_wk tight_pur rfl⟩
        · (repeat (first | with_reducible refine AW.seq ?_ | ((first | refine arun_kn 1 rfl (fun C hC => ?_) | refine arunD_kn 1 rfl (fun C hC => ?_)); (repeat ((conv => whnf); simp [strsE_len, h4])); refine hC _ ?_; clear hC C; simp only [List.drop, Nat.reduceAdd]) | (refine arun_skip ?_ ?_; (focus (simp [awant, strsE_len, h4]; done))) | (refine arunD_skip ?_ ?_; (focus (simp [awant, strsE_len, h4]; done))) | (refine AW.regionK [] (fun K hK => ?_)) | (refine AW.condT ?_ ?_; (focus (simp [aev, strsE_len, h4]; done))) | (refine AW.condF ?_ ?_; (focus (simp [aev, strsE_len, h4]; done))) | with_reducible refine AW.block ?_ | ((first | ((first | refine arun_nil ?_ | refine arunD_nil ?_); refine hK _ ?_; clear hK K) | refine AW.skip ?_ | refine AW.exit ?_ | refine AW.ret ?_); simp only [wE, if_true, if_false, Nat.reduceEqDiff, reduceIte])))
          (repeat (first | with_reducible refine AW.seq ?_ | ((first | refine arun_kn 1 rfl (fun C hC => ?_) | refine arunD_kn 1 rfl (fun C hC => ?_)); (repeat ((conv => whnf); simp [strsE_len])); refine hC _ ?_; clear hC C; simp only [List.drop, Nat.reduceAdd]) | (refine arun_skip ?_ ?_; (focus (simp [awant, strsE_len]; done))) | (refine arunD_skip ?_ ?_; (focus (simp [awant, strsE_len]; done))) | (refine AW.regionK [] (fun K hK => ?_)) | (refine AW.regionDK [] (pcs [] []) (by kernel_rfl) (by kernel_rfl) (fun K hK => ?_)) | (refine AW.condT ?_ ?_; (focus (simp [aev, strsE_len]; done))) | (refine AW.condF ?_ ?_; (focus (simp [aev, strsE_len]; done))) | with_reducible refine AW.block ?_ | ((first | ((first | refine arun_nil ?_ | refine arunD_nil ?_); refine hK _ ?_; clear hK K) | refine AW.skip ?_ | refine AW.exit ?_ | refine AW.ret ?_); simp only [wE, if_true, if_false, Nat.reduceEqDiff, reduceIte])))
          exact ⟨.agg [.int .i64 6, .view .loose 1 (strsE p), .view .tight 1 [], .int .i64 m.kind, .int .i64 m.num, .str m.text, .view .loose 1 (strsE m.names), .view .loose 5 (m.kids.map nodeL)], by simp [ares, aresL, upd, rowsOf_cons, strsE_len], opn_end _ p [] _ m hm (by first | assumption | simp; omega) (by simp) tight_wk tight_pur rfl⟩
      · have h0' : ¬ 0 < u := by omega
        (repeat (first | with_reducible refine AW.seq ?_ | ((first | refine arun_kn 1 rfl (fun C hC => ?_) | refine arunD_kn 1 rfl (fun C hC => ?_)); (repeat ((conv => whnf); simp [strsE_len, h0'])); refine hC _ ?_; clear hC C; simp only [List.drop, Nat.reduceAdd]) | (refine arun_skip ?_ ?_; (focus (simp [awant, strsE_len, h0']; done))) | (refine arunD_skip ?_ ?_; (focus (simp [awant, strsE_len, h0']; done))) | (refine AW.regionK [] (fun K hK => ?_)) | (refine AW.condT ?_ ?_; (focus (simp [aev, strsE_len, h0']; done))) | (refine AW.condF ?_ ?_; (focus (simp [aev, strsE_len, h0']; done))) | with_reducible refine AW.block ?_ | ((first | ((first | refine arun_nil ?_ | refine arunD_nil ?_); refine hK _ ?_; clear hK K) | refine AW.skip ?_ | refine AW.exit ?_ | refine AW.ret ?_); simp only [wE, if_true, if_false, Nat.reduceEqDiff, reduceIte])))
        by_cases h4 : (p.length : Int) < 4
        · (repeat (first | with_reducible refine AW.seq ?_ | ((first | refine arun_kn 1 rfl (fun C hC => ?_) | refine arunD_kn 1 rfl (fun C hC => ?_)); (repeat ((conv => whnf); simp [strsE_len, h4])); refine hC _ ?_; clear hC C; simp only [List.drop, Nat.reduceAdd]) | (refine arun_skip ?_ ?_; (focus (simp [awant, strsE_len, h4]; done))) | (refine arunD_skip ?_ ?_; (focus (simp [awant, strsE_len, h4]; done))) | (refine AW.regionK [] (fun K hK => ?_)) | (refine AW.condT ?_ ?_; (focus (simp [aev, strsE_len, h4]; done))) | (refine AW.condF ?_ ?_; (focus (simp [aev, strsE_len, h4]; done))) | with_reducible refine AW.block ?_ | ((first | ((first | refine arun_nil ?_ | refine arunD_nil ?_); refine hK _ ?_; clear hK K) | refine AW.skip ?_ | refine AW.exit ?_ | refine AW.ret ?_); simp only [wE, if_true, if_false, Nat.reduceEqDiff, reduceIte])))
          (repeat (first | with_reducible refine AW.seq ?_ | ((first | refine arun_kn 1 rfl (fun C hC => ?_) | refine arunD_kn 1 rfl (fun C hC => ?_)); (repeat ((conv => whnf); simp [strsE_len])); refine hC _ ?_; clear hC C; simp only [List.drop, Nat.reduceAdd]) | (refine arun_skip ?_ ?_; (focus (simp [awant, strsE_len]; done))) | (refine arunD_skip ?_ ?_; (focus (simp [awant, strsE_len]; done))) | (refine AW.regionK [] (fun K hK => ?_)) | (refine AW.regionDK [] (pcs [] []) (by kernel_rfl) (by kernel_rfl) (fun K hK => ?_)) | (refine AW.condT ?_ ?_; (focus (simp [aev, strsE_len]; done))) | (refine AW.condF ?_ ?_; (focus (simp [aev, strsE_len]; done))) | with_reducible refine AW.block ?_ | ((first | ((first | refine arun_nil ?_ | refine arunD_nil ?_); refine hK _ ?_; clear hK K) | refine AW.skip ?_ | refine AW.exit ?_ | refine AW.ret ?_); simp only [wE, if_true, if_false, Nat.reduceEqDiff, reduceIte])))
          exact ⟨.agg [.int .i64 6, .view .loose 1 (strsE p), .view .tight 1 [], .int .i64 0, .int .i64 0, .str ⟨#[]⟩, .view .tight 0 [], .view .tight 0 []], by simp [ares, aresL, upd, rowsOf_cons, strsE_len], opz_end _ p [] _ (by first | assumption | simp; omega) (by first | assumption | simp) tight_wk tight_pur rfl⟩
        · (repeat (first | with_reducible refine AW.seq ?_ | ((first | refine arun_kn 1 rfl (fun C hC => ?_) | refine arunD_kn 1 rfl (fun C hC => ?_)); (repeat ((conv => whnf); simp [strsE_len, h4])); refine hC _ ?_; clear hC C; simp only [List.drop, Nat.reduceAdd]) | (refine arun_skip ?_ ?_; (focus (simp [awant, strsE_len, h4]; done))) | (refine arunD_skip ?_ ?_; (focus (simp [awant, strsE_len, h4]; done))) | (refine AW.regionK [] (fun K hK => ?_)) | (refine AW.condT ?_ ?_; (focus (simp [aev, strsE_len, h4]; done))) | (refine AW.condF ?_ ?_; (focus (simp [aev, strsE_len, h4]; done))) | with_reducible refine AW.block ?_ | ((first | ((first | refine arun_nil ?_ | refine arunD_nil ?_); refine hK _ ?_; clear hK K) | refine AW.skip ?_ | refine AW.exit ?_ | refine AW.ret ?_); simp only [wE, if_true, if_false, Nat.reduceEqDiff, reduceIte])))
          (repeat (first | with_reducible refine AW.seq ?_ | ((first | refine arun_kn 1 rfl (fun C hC => ?_) | refine arunD_kn 1 rfl (fun C hC => ?_)); (repeat ((conv => whnf); simp [strsE_len])); refine hC _ ?_; clear hC C; simp only [List.drop, Nat.reduceAdd]) | (refine arun_skip ?_ ?_; (focus (simp [awant, strsE_len]; done))) | (refine arunD_skip ?_ ?_; (focus (simp [awant, strsE_len]; done))) | (refine AW.regionK [] (fun K hK => ?_)) | (refine AW.regionDK [] (pcs [] []) (by kernel_rfl) (by kernel_rfl) (fun K hK => ?_)) | (refine AW.condT ?_ ?_; (focus (simp [aev, strsE_len]; done))) | (refine AW.condF ?_ ?_; (focus (simp [aev, strsE_len]; done))) | with_reducible refine AW.block ?_ | ((first | ((first | refine arun_nil ?_ | refine arunD_nil ?_); refine hK _ ?_; clear hK K) | refine AW.skip ?_ | refine AW.exit ?_ | refine AW.ret ?_); simp only [wE, if_true, if_false, Nat.reduceEqDiff, reduceIte])))
          exact ⟨.agg [.int .i64 6, .view .loose 1 (strsE p), .view .tight 1 [], .int .i64 0, .int .i64 0, .str ⟨#[]⟩, .view .tight 0 [], .view .tight 0 []], by simp [ares, aresL, upd, rowsOf_cons, strsE_len], opz_end _ p [] _ (by first | assumption | simp; omega) (by first | assumption | simp) tight_wk tight_pur rfl⟩
end Go.Proofs.Ytgfnmhfdmmnaoaa.Eng
-- EV: rows skip
namespace Go.Proofs.Ytgfnmhfdmmnaoaa.Eng
open Go Go.RowKit
attribute [local simp] big size_mk ASt.pay Option.map_map Function.comp_def awant aop acall ado aev ofVal ofVal0 ASt.put ASt.add ASt.turn ASt.kill abox aalloc astore aload aloadD astoreD idOf ASt.at cellsTo afieldAddr afield aindexAddr aindex alen abin aint acmp astr aun apick aextract anil aslice abound abuild afill abuildSlice asCells aps avCells over upd aappend asrc amax amin aconv mkSt slots rowsOf_cons rowsOf_nil usedOf_cons usedOf_nil ZK.av List.replicate ASt.back ASt.addL ASt.killL nodeA nodeT nodeTL_eq nodeL_eq strsE_get strsE_len intsE_get intsE_len strsE_at intsE_at nodeN namesRow nodeO kidsRow tab2 tab3 tab4 tab5 tab6 tab7 tab8 tab9 tab10 tab11 tab12 tab13 tab14 tab15 tab16 tab17 tab18 tab19 tab21 tab22 tab23 tab24 tab25 tab26 tab27 tab28 tab29 tab30 tab39 tab40 tab41 tab42 tab43 tab47 tab48 tab55 tab56 tab57 tab60 tab61 tab62 tab73 tab74 tab75 tab85 tab92 tab115 tab116 tab143 tab144 tab145 tab154 tab155 tab170 tab175 tab182 tab197 tab198 tab203 tab204 tab205 tab207 tab208 tab209
end Go.Proofs.Ytgfnmhfdmmnaoaa.Eng
namespace Go.Proofs.Ytgfnmhfdmmnaoaa
open Go.RowKit
abbrev Itm := ByteArray × Int × Nd
end Go.Proofs.Ytgfnmhfdmmnaoaa
namespace Go.Proofs.Ytgfnmhfdmmnaoaa
open Go.RowKit
end Go.Proofs.Ytgfnmhfdmmnaoaa
namespace Go.Proofs.Ytgfnmhfdmmnaoaa
open Go.RowKit
end Go.Proofs.Ytgfnmhfdmmnaoaa
namespace Go.Proofs.Ytgfnmhfdmmnaoaa
open Go.RowKit
abbrev Sto := List Itm × Int
theorem lt_trans {a b c : ByteArray} (h1 : lt a b = true) (h2 : lt b c = true) : lt a c = true := bl_trans _ _ _ h1 h2
end Go.Proofs.Ytgfnmhfdmmnaoaa
namespace Go.Proofs.Ytgfnmhfdmmnaoaa.Eng
open Go Go.RowKit
def itemL (x : Itm) : List AV := .str x.1 :: .int .i64 x.2.1 :: nodeL x.2.2
def itemA (x : Itm) : AV := .agg (itemL x)
theorem itemL_eq (x : Itm) : itemL x = [.str x.1, .int .i64 x.2.1, .int .i64 x.2.2.kind, .int .i64 x.2.2.num, .str x.2.2.text, .view .loose 1 (strsE x.2.2.names), .view .loose 5 (x.2.2.kids.map nodeL)] := by unfold itemL; rw [nodeL_eq]
theorem itemL_pur (x : Itm) : ∀ c ∈ itemL x, Pur c := by
  intro c hc
  simp only [itemL, List.mem_cons] at hc
  rcases hc with rfl | rfl | hc
  · exact pur_str
  · exact pur_int
  · exact nodeL_pur _ c hc
theorem itemL_in {U : Nat → Bool} (x : Itm) : ∀ c ∈ itemL x, AV.In U c := by
  intro c hc
  simp only [itemL, List.mem_cons] at hc
  rcases hc with rfl | rfl | hc
  · exact in_str
  · exact in_int
  · exact nodeL_in _ c hc
theorem item_pur (x : Itm) : Pur (itemA x) := pur_agg (itemL_pur x)
theorem item_clo (x : Itm) : Clo (itemA x) := (item_pur x).clo
theorem item_in {U : Nat → Bool} (x : Itm) : AV.In U (itemA x) := in_agg.2 (itemL_in x)
theorem itemsE_pur (l : List Itm) : ∀ e ∈ l.map itemL, ∀ c ∈ e, Pur c := fun e he c hc => by
  obtain ⟨k, _, rfl⟩ := List.mem_map.1 he
  exact itemL_pur k c hc
theorem itemsE_clo (l : List Itm) : ∀ e ∈ l.map itemL, ∀ c ∈ e, Clo c := fun e he c hc => (itemsE_pur l e he c hc).clo
theorem itemsE_in {U : Nat → Bool} (l : List Itm) : ∀ e ∈ l.map itemL, ∀ c ∈ e, AV.In U c := fun e he c hc => by
  obtain ⟨k, _, rfl⟩ := List.mem_map.1 he
  exact itemL_in k c hc
theorem items_clo {t : VC} (l : List Itm) : Clo (.view t 7 (l.map itemL)) := clo_view (itemsE_clo l)
theorem items_in {U : Nat → Bool} {t : VC} (l : List Itm) : AV.In U (.view t 7 (l.map itemL)) := in_view.2 (itemsE_in l)
def storeT (t : VC) (s : Sto) : AV := .agg [.view t 7 (s.1.map itemL), .int .i64 s.2]
def storeA (s : Sto) : AV := storeT .loose s
theorem store_clo (t : VC) (s : Sto) : Clo (storeT t s) := clo_agg (by
  simp only [List.forall_mem_cons, List.not_mem_nil, false_implies, implies_true, and_true]
  exact ⟨items_clo _, clo_int⟩)
theorem storeA_clo (s : Sto) : Clo (storeA s) := store_clo .loose s
theorem store_in {U : Nat → Bool} (t : VC) (s : Sto) : AV.In U (storeT t s) := in_agg.2 (by
  simp only [List.forall_mem_cons, List.not_mem_nil, false_implies, implies_true, and_true]
  exact ⟨items_in _, in_int⟩)
theorem storeA_in {U : Nat → Bool} (s : Sto) : AV.In U (storeA s) := store_in .loose s
def storeO (s : Sto) (id : Nat) : AV := .agg [.own id s.1.length, .int .i64 s.2]
def itemsRow (s : Sto) : Row := ⟨false, 116, 7, s.1.map itemL⟩
end Go.Proofs.Ytgfnmhfdmmnaoaa.Eng
-- EV: store
namespace Go.Proofs.Ytgfnmhfdmmnaoaa.Eng
open Go Go.RowKit
attribute [local simp] big size_mk ASt.pay Option.map_map Function.comp_def awant aop acall ado aev ofVal ofVal0 ASt.put ASt.add ASt.turn ASt.kill abox aalloc astore aload aloadD astoreD idOf ASt.at cellsTo afieldAddr afield aindexAddr aindex alen abin aint acmp astr aun apick aextract anil aslice abound abuild afill abuildSlice asCells aps avCells over upd aappend asrc amax amin aconv mkSt slots rowsOf_cons rowsOf_nil usedOf_cons usedOf_nil ZK.av List.replicate ASt.back ASt.addL ASt.killL nodeA nodeT nodeTL_eq nodeL_eq strsE_get strsE_len intsE_get intsE_len strsE_at intsE_at itemA itemL_eq storeA storeT storeO itemsRow tab2 tab3 tab4 tab5 tab6 tab7 tab8 tab9 tab10 tab11 tab12 tab13 tab14 tab15 tab16 tab17 tab18 tab19 tab21 tab22 tab23 tab24 tab25 tab26 tab27 tab28 tab29 tab30 tab39 tab40 tab41 tab42 tab43 tab47 tab48 tab55 tab56 tab57 tab60 tab61 tab62 tab73 tab74 tab75 tab85 tab92 tab115 tab116 tab143 tab144 tab145 tab154 tab155 tab170 tab175 tab182 tab197 tab198 tab203 tab204 tab205 tab207 tab208 tab209
end Go.Proofs.Ytgfnmhfdmmnaoaa.Eng
-- EV: store
namespace Go.Proofs.Ytgfnmhfdmmnaoaa.Eng
open Go Go.RowKit
attribute [local simp] big size_mk ASt.pay Option.map_map Function.comp_def awant aop acall ado aev ofVal ofVal0 ASt.put ASt.add ASt.turn ASt.kill abox aalloc astore aload aloadD astoreD idOf ASt.at cellsTo afieldAddr afield aindexAddr aindex alen abin aint acmp astr aun apick aextract anil aslice abound abuild afill abuildSlice asCells aps avCells over upd aappend asrc amax amin aconv mkSt slots rowsOf_cons rowsOf_nil usedOf_cons usedOf_nil ZK.av List.replicate ASt.back ASt.addL ASt.killL nodeA nodeT nodeTL_eq nodeL_eq strsE_get strsE_len intsE_get intsE_len strsE_at intsE_at itemA itemL_eq storeA storeT storeO itemsRow tab2 tab3 tab4 tab5 tab6 tab7 tab8 tab9 tab10 tab11 tab12 tab13 tab14 tab15 tab16 tab17 tab18 tab19 tab21 tab22 tab23 tab24 tab25 tab26 tab27 tab28 tab29 tab30 tab39 tab40 tab41 tab42 tab43 tab47 tab48 tab55 tab56 tab57 tab60 tab61 tab62 tab73 tab74 tab75 tab85 tab92 tab115 tab116 tab143 tab144 tab145 tab154 tab155 tab170 tab175 tab182 tab197 tab198 tab203 tab204 tab205 tab207 tab208 tab209
def putL (nm : ByteArray) (nx : Itm) : Bool → List Itm → List Itm
  | d, [] => if d then [] else [nx]
  | d, x :: l => (if !d && !(lts x.1 nm) then [nx] else []) ++ (if eqs x.1 nm then [] else [x]) ++ putL nm nx (d || !(lts x.1 nm)) l
def putS (s : Sto) (nm : ByteArray) (n : Nd) : Sto := (putL nm (nm, s.2 + 1, n) false s.1, s.2 + 1)
end Go.Proofs.Ytgfnmhfdmmnaoaa.Eng
namespace Go.Proofs.Ytgfnmhfdmmnaoaa
open Go Go.RowKit
def RB (b n : Nat) (K : World → Prop) (w w' : World) : Prop := Ext (fun k => k = b) w w' ∧ (RowIn w b n → RowIn w' b n) ∧ (K w → K w')
theorem RB.refl (b n : Nat) (K : World → Prop) (w : World) : RB b n K w w := ⟨Ext.refl _ _, fun h => h, fun h => h⟩
theorem RB.trans {b n : Nat} {K : World → Prop} {a c d : World} (h : RB b n K a c) (k : RB b n K c d) : RB b n K a d := ⟨h.1.trans k.1, fun x => k.2.1 (h.2.1 x), fun x => k.2.2 (h.2.2 x)⟩
structure LaterB (b n : Nat) (K : World → Prop) (w : World) : Type where
  at' : World
  rel : RB b n K w at'
def laterB {b n : Nat} {K : World → Prop} (w : World) (x : LaterB b n K w) : World := x.at'
instance laterB_some (b n : Nat) (K : World → Prop) (w : World) : Nonempty (LaterB b n K w) := ⟨⟨w, RB.refl _ _ _ _⟩⟩
theorem laterB_rel {b n : Nat} {K : World → Prop} (w : World) (x : LaterB b n K w) : RB b n K w (laterB w x) := x.rel
@[go_sem] theorem laterB_cell {b n : Nat} {K : World → Prop} (w : World) (x : LaterB b n K w) (a : Addr) (h : (w.cell? a).isSome = true) (hb : ¬ a.block = b) : (laterB w x).cell? a = w.cell? a := by
  obtain ⟨v, hv⟩ := Option.isSome_iff_exists.1 h
  rw [hv]; exact (laterB_rel w x).1.some hv hb
section
variable {P : Program} {ops : Array Oper} {Vs : Nat → Option (Value → World → Prop)} {w : World} {Q : Act → World → Prop} {b n : Nat} {K : World → Prop}
end
end Go.Proofs.Ytgfnmhfdmmnaoaa
namespace Go.Proofs.Ytgfnmhfdmmnaoaa
open Go.RowKit
end Go.Proofs.Ytgfnmhfdmmnaoaa
namespace Go.Proofs.Ytgfnmhfdmmnaoaa
open Go.RowKit
end Go.Proofs.Ytgfnmhfdmmnaoaa
namespace Go.Proofs.Ytgfnmhfdmmnaoaa
open Go.RowKit
def behind (af : ByteArray) (l : List Itm) : List ByteArray := (l.filter (fun x => lt af x.1)).map (·.1)
end Go.Proofs.Ytgfnmhfdmmnaoaa
namespace Go.Proofs.Ytgfnmhfdmmnaoaa
open Go.RowKit
end Go.Proofs.Ytgfnmhfdmmnaoaa
-- EV: store
namespace Go.Proofs.Ytgfnmhfdmmnaoaa.Eng
open Go Go.RowKit
end Go.Proofs.Ytgfnmhfdmmnaoaa.Eng
-- EV: store
namespace Go.Proofs.Ytgfnmhfdmmnaoaa.Eng
open Go Go.RowKit
attribute [local simp] big size_mk ASt.pay Option.map_map Function.comp_def awant aop acall ado aev ofVal ofVal0 ASt.put ASt.add ASt.turn ASt.kill abox aalloc astore aload aloadD astoreD idOf ASt.at cellsTo afieldAddr afield aindexAddr aindex alen abin aint acmp astr aun apick aextract anil aslice abound abuild afill abuildSlice asCells aps avCells over upd aappend asrc amax amin aconv mkSt slots rowsOf_cons rowsOf_nil usedOf_cons usedOf_nil ZK.av List.replicate ASt.back ASt.addL ASt.killL nodeA nodeT nodeTL_eq nodeL_eq strsE_get strsE_len intsE_get intsE_len strsE_at intsE_at itemA itemL_eq storeA storeT storeO itemsRow tab2 tab3 tab4 tab5 tab6 tab7 tab8 tab9 tab10 tab11 tab12 tab13 tab14 tab15 tab16 tab17 tab18 tab19 tab21 tab22 tab23 tab24 tab25 tab26 tab27 tab28 tab29 tab30 tab39 tab40 tab41 tab42 tab43 tab47 tab48 tab55 tab56 tab57 tab60 tab61 tab62 tab73 tab74 tab75 tab85 tab92 tab115 tab116 tab143 tab144 tab145 tab154 tab155 tab170 tab175 tab182 tab197 tab198 tab203 tab204 tab205 tab207 tab208 tab209
end Go.Proofs.Ytgfnmhfdmmnaoaa.Eng
-- EV: store
namespace Go.Proofs.Ytgfnmhfdmmnaoaa.Eng
open Go Go.RowKit
attribute [local simp] big size_mk ASt.pay Option.map_map Function.comp_def awant aop acall ado aev ofVal ofVal0 ASt.put ASt.add ASt.turn ASt.kill abox aalloc astore aload aloadD astoreD idOf ASt.at cellsTo afieldAddr afield aindexAddr aindex alen abin aint acmp astr aun apick aextract anil aslice abound abuild afill abuildSlice asCells aps avCells over upd aappend asrc amax amin aconv mkSt slots rowsOf_cons rowsOf_nil usedOf_cons usedOf_nil ZK.av List.replicate ASt.back ASt.addL ASt.killL nodeA nodeT nodeTL_eq nodeL_eq strsE_get strsE_len intsE_get intsE_len strsE_at intsE_at itemA itemL_eq storeA storeT storeO itemsRow tab2 tab3 tab4 tab5 tab6 tab7 tab8 tab9 tab10 tab11 tab12 tab13 tab14 tab15 tab16 tab17 tab18 tab19 tab21 tab22 tab23 tab24 tab25 tab26 tab27 tab28 tab29 tab30 tab39 tab40 tab41 tab42 tab43 tab47 tab48 tab55 tab56 tab57 tab60 tab61 tab62 tab73 tab74 tab75 tab85 tab92 tab115 tab116 tab143 tab144 tab145 tab154 tab155 tab170 tab175 tab182 tab197 tab198 tab203 tab204 tab205 tab207 tab208 tab209
theorem someNode_AC : AC Try.prog 111 [.rdr] (nC 3 + 10 + 4 * nC 2) (fun r => ∃ n, SmlV n ∧ r = nodeA n) := by
  refine (AC.ofR someNode_ACR ?_).mono ?_
  · rintro r R ⟨n, _, rfl, rfl⟩
    rw [nodeN_sub]; exact node_in n
  · rintro r (h | ⟨f, R, ⟨n, h1, rfl, rfl⟩, rfl⟩)
    · exact h.elim
    · rw [nodeN_sub]; exact ⟨n, h1, rfl⟩
end Go.Proofs.Ytgfnmhfdmmnaoaa.Eng
-- EV: rows skip
namespace Go.Proofs.Ytgfnmhfdmmnaoaa.Eng
open Go Go.RowKit
attribute [local simp] big size_mk ASt.pay Option.map_map Function.comp_def awant aop acall ado aev ofVal ofVal0 ASt.put ASt.add ASt.turn ASt.kill abox aalloc astore aload aloadD astoreD idOf ASt.at cellsTo afieldAddr afield aindexAddr aindex alen abin aint acmp astr aun apick aextract anil aslice abound abuild afill abuildSlice asCells aps avCells over upd aappend asrc amax amin aconv mkSt slots rowsOf_cons rowsOf_nil usedOf_cons usedOf_nil ZK.av List.replicate ASt.back ASt.addL ASt.killL nodeA nodeT nodeTL_eq nodeL_eq strsE_get strsE_len intsE_get intsE_len strsE_at intsE_at nodeN namesRow nodeO kidsRow tab2 tab3 tab4 tab5 tab6 tab7 tab8 tab9 tab10 tab11 tab12 tab13 tab14 tab15 tab16 tab17 tab18 tab19 tab21 tab22 tab23 tab24 tab25 tab26 tab27 tab28 tab29 tab30 tab39 tab40 tab41 tab42 tab43 tab47 tab48 tab55 tab56 tab57 tab60 tab61 tab62 tab73 tab74 tab75 tab85 tab92 tab115 tab116 tab143 tab144 tab145 tab154 tab155 tab170 tab175 tab182 tab197 tab198 tab203 tab204 tab205 tab207 tab208 tab209
set_option maxRecDepth 100000
set_option maxHeartbeats 16000000
theorem dN_le : (nC 3 + 10 + 4 * nC 2) + oC + cN + 1 + wC ≤ 1000000 := by decide +kernel
theorem o2n_valid {o : Opr} (h : o2nB o = true) : validB (o2nN o) = true := by
  rw [o2n_yes h]
  unfold o2nB at h
  rw [Bool.and_eq_true] at h
  exact h.2
theorem o2n_sml (o : Opr) : Sml (o2nN o) := by
  cases h : o2nB o
  · rw [o2n_no h]; exact (Shp.of (n := Nd.zero) (by decide +kernel)).sml
  · exact (Shp.of (o2n_valid h)).sml
theorem drawNodeToOp_AC0 (zs : List Int) (hl : zs.length ≤ 1048576) (hb : ByteL zs) : AC0 Try.prog 55 [.view .loose 1 (bytesE zs)] rNodeA := by
  have hc := dN_le
  have hN := someNode_AC
  have hO := someOp_AC
  have hA : AC Try.prog 121 [.rdr] cN rNodeA := anyNode_AC
  have hR := near_AC
  generalize oC = M at *
  generalize cN = C at *
  generalize wC = W at *
  generalize nC 3 + 10 + 4 * nC 2 = Q at *
  refine AC0.of tab_ok mixed_ok Try.func55 (by rfl) (by kernel_rfl) ?_; rintro ⟨P, T, hT, hm, w0, S0, rd0, k0⟩ hP hTT hk0; dsimp only at hP hTT hk0; subst hP hTT hk0; unfold initSt; rw [Try.ntmps55]
  obtain ⟨B, hB⟩ : ∃ B, B = Q + M + C + 1 + W := ⟨_, rfl⟩
  (repeat (first | with_reducible refine AW.seq ?_ | ((first | refine arun_kn 1 rfl (fun C hC => ?_) | refine arunD_kn 1 rfl (fun C hC => ?_)); (repeat ((conv => whnf); simp)); refine hC _ ?_; clear hC C; simp only [List.drop, Nat.reduceAdd]) | (refine arun_skip ?_ ?_; (focus (simp [awant]; done))) | (refine arun_cN B (newReader_ACN zs (0 + B) hl (by omega) hb) ?_) | (refine arun_c (Q) (hN) ?_; (rintro _ ⟨n, hn, rfl⟩)) | (refine arunD_skip ?_ ?_; (focus (simp [awant]; done))) | (refine AW.regionK [] (fun K hK => ?_)) | (refine AW.condT ?_ ?_; (focus (simp [aev]; done))) | (refine AW.condF ?_ ?_; (focus (simp [aev]; done))) | with_reducible refine AW.block ?_ | ((first | ((first | refine arun_nil ?_ | refine arunD_nil ?_); refine hK _ ?_; clear hK K) | refine AW.skip ?_ | refine AW.exit ?_ | refine AW.ret ?_); simp only [wE, if_true, if_false, Nat.reduceEqDiff, reduceIte])))
  have hOn := hO n hn.2
  have hcn := node_clo n
  unfold nodeA at hOn hcn ⊢
  rw [nodeL_eq n] at hOn hcn ⊢
  (repeat (first | with_reducible refine AW.seq ?_ | ((first | refine arun_kn 1 rfl (fun C hC => ?_) | refine arunD_kn 1 rfl (fun C hC => ?_)); (repeat ((conv => whnf); simp)); refine hC _ ?_; clear hC C; simp only [List.drop, Nat.reduceAdd]) | (refine arun_skip ?_ ?_; (focus (simp [awant]; done))) | (refine arun_c (M) (hOn) ?_; (rintro _ ⟨o, ho, hp, hf, rfl⟩)) | (refine arunD_skip ?_ ?_; (focus (simp [awant]; done))) | (refine AW.regionK [] (fun K hK => ?_)) | (refine AW.condT ?_ ?_; (focus (simp [aev]; done))) | (refine AW.condF ?_ ?_; (focus (simp [aev]; done))) | with_reducible refine AW.block ?_ | ((first | ((first | refine arun_nil ?_ | refine arunD_nil ?_); refine hK _ ?_; clear hK K) | refine AW.skip ?_ | refine AW.exit ?_ | refine AW.ret ?_); simp only [wE, if_true, if_false, Nat.reduceEqDiff, reduceIte])))
  have pc := specOpToNode_AC o ho
  have hco := oprA_clo o
  have hz := o2n_sml o
  have hcm := node_clo (o2nN o)
  have hRv := hR (o2nN o)
  have hva := o2n_valid (o := o)
  generalize o2nN o = m at *
  cases hb : o2nB o
  · rw [hb] at pc
    unfold nodeA at pc
    rw [nodeL_eq m] at pc
    unfold oprA at pc hco ⊢
    (repeat (first | with_reducible refine AW.seq ?_ | ((first | refine arun_kn 1 rfl (fun C hC => ?_) | refine arunD_kn 1 rfl (fun C hC => ?_)); (repeat ((conv => whnf); simp)); refine hC _ ?_; clear hC C; simp only [List.drop, Nat.reduceAdd]) | (refine arun_skip ?_ ?_; (focus (simp [awant]; done))) | (refine arun_c0 (pc) ?_; rintro _ rfl) | (refine arun_c (C) (hA) ?_; (rintro _ ⟨y, hy, rfl⟩)) | (refine arunD_skip ?_ ?_; (focus (simp [awant]; done))) | (refine AW.regionK [] (fun K hK => ?_)) | (refine AW.condT ?_ ?_; (focus (simp [aev]; done))) | (refine AW.condF ?_ ?_; (focus (simp [aev]; done))) | with_reducible refine AW.block ?_ | ((first | ((first | refine arun_nil ?_ | refine arunD_nil ?_); refine hK _ ?_; clear hK K) | refine AW.skip ?_ | refine AW.exit ?_ | refine AW.ret ?_); simp only [wE, if_true, if_false, Nat.reduceEqDiff, reduceIte])))
    exact ⟨nodeA y, by simp [ares, aresL, upd, rowsOf_cons], node_pur y, y, hy, rfl⟩
  · have hRm := hRv (hva hb)
    rw [hb] at pc
    unfold nodeA at pc hRm hcm
    rw [nodeL_eq m] at pc hRm hcm
    unfold oprA at pc hco ⊢
    (repeat (first | with_reducible refine AW.seq ?_ | ((first | refine arun_kn 1 rfl (fun C hC => ?_) | refine arunD_kn 1 rfl (fun C hC => ?_)); (repeat ((conv => whnf); simp)); refine hC _ ?_; clear hC C; simp only [List.drop, Nat.reduceAdd]) | (refine arun_skip ?_ ?_; (focus (simp [awant]; done))) | (refine arun_c0 (pc) ?_; rintro _ rfl) | (refine arun_c (1) (pick_AC 4 (by omega) (by omega)) ?_; (rintro _ ⟨v, rfl, -⟩)) | (refine arunD_skip ?_ ?_; (focus (simp [awant]; done))) | (refine AW.regionK [] (fun K hK => ?_)) | (refine AW.condT ?_ ?_; (focus (simp [aev]; done))) | (refine AW.condF ?_ ?_; (focus (simp [aev]; done))) | with_reducible refine AW.block ?_ | ((first | ((first | refine arun_nil ?_ | refine arunD_nil ?_); refine hK _ ?_; clear hK K) | refine AW.skip ?_ | refine AW.exit ?_ | refine AW.ret ?_); simp only [wE, if_true, if_false, Nat.reduceEqDiff, reduceIte])))
    cases hv : v == 0
    · (repeat (first | with_reducible refine AW.seq ?_ | ((first | refine arun_kn 1 rfl (fun C hC => ?_) | refine arunD_kn 1 rfl (fun C hC => ?_)); (repeat ((conv => whnf); simp [hv])); refine hC _ ?_; clear hC C; simp only [List.drop, Nat.reduceAdd]) | (refine arun_skip ?_ ?_; (focus (simp [awant, hv]; done))) | (refine arunD_skip ?_ ?_; (focus (simp [awant, hv]; done))) | (refine AW.regionK [] (fun K hK => ?_)) | (refine AW.condT ?_ ?_; (focus (simp [aev, hv]; done))) | (refine AW.condF ?_ ?_; (focus (simp [aev, hv]; done))) | with_reducible refine AW.block ?_ | ((first | ((first | refine arun_nil ?_ | refine arunD_nil ?_); refine hK _ ?_; clear hK K) | refine AW.skip ?_ | refine AW.exit ?_ | refine AW.ret ?_); simp only [wE, if_true, if_false, Nat.reduceEqDiff, reduceIte])))
      exact ⟨nodeA m, by simp [ares, aresL, upd, rowsOf_cons], node_pur m, m, hz, rfl⟩
    · (repeat (first | with_reducible refine AW.seq ?_ | ((first | refine arun_kn 1 rfl (fun C hC => ?_) | refine arunD_kn 1 rfl (fun C hC => ?_)); (repeat ((conv => whnf); simp [hv])); refine hC _ ?_; clear hC C; simp only [List.drop, Nat.reduceAdd]) | (refine arun_skip ?_ ?_; (focus (simp [awant, hv]; done))) | (refine arun_c (W) (hRm) ?_; (rintro _ ⟨y, hy, rfl⟩)) | (refine arunD_skip ?_ ?_; (focus (simp [awant, hv]; done))) | (refine AW.regionK [] (fun K hK => ?_)) | (refine AW.condT ?_ ?_; (focus (simp [aev, hv]; done))) | (refine AW.condF ?_ ?_; (focus (simp [aev, hv]; done))) | with_reducible refine AW.block ?_ | ((first | ((first | refine arun_nil ?_ | refine arunD_nil ?_); refine hK _ ?_; clear hK K) | refine AW.skip ?_ | refine AW.exit ?_ | refine AW.ret ?_); simp only [wE, if_true, if_false, Nat.reduceEqDiff, reduceIte])))
      exact ⟨nodeA y, by simp [ares, aresL, upd, rowsOf_cons], node_pur y, y, hy, rfl⟩
end Go.Proofs.Ytgfnmhfdmmnaoaa.Eng
namespace Go.Proofs.Ytgfnmhfdmmnaoaa.Eng
open Go Go.RowKit
attribute [local simp] big size_mk ASt.pay Option.map_map Function.comp_def awant aop acall ado aev ofVal ofVal0 ASt.put ASt.add ASt.turn ASt.kill abox aalloc astore aload aloadD astoreD idOf ASt.at cellsTo afieldAddr afield aindexAddr aindex alen abin aint acmp astr aun apick aextract anil aslice abound abuild afill abuildSlice asCells aps avCells over upd aappend asrc amax amin aconv mkSt slots rowsOf_cons rowsOf_nil usedOf_cons usedOf_nil ZK.av List.replicate ASt.back ASt.addL ASt.killL nodeA nodeT nodeTL_eq nodeL_eq strsE_get strsE_len intsE_get intsE_len strsE_at intsE_at tab2 tab3 tab4 tab5 tab6 tab7 tab8 tab9 tab10 tab11 tab12 tab13 tab14 tab15 tab16 tab17 tab18 tab19 tab21 tab22 tab23 tab24 tab25 tab26 tab27 tab28 tab29 tab30 tab39 tab40 tab41 tab42 tab43 tab47 tab48 tab55 tab56 tab57 tab60 tab61 tab62 tab73 tab74 tab75 tab85 tab92 tab115 tab116 tab143 tab144 tab145 tab154 tab155 tab170 tab175 tab182 tab197 tab198 tab203 tab204 tab205 tab207 tab208 tab209
theorem equalNodes_step (t t' : VC) (ks : List Nd) (hn : ks.length ≤ 1000000) (ih : ∀ k ∈ ks, AC Try.prog 49 [nodeA k, nodeA k] 0 (fun r => r = .bool true)) : AC Try.prog 113 [.view t 5 (ks.map nodeL), .view t' 5 (ks.map nodeL)] 0 (fun r => r = .bool true) := by
  refine AC.of tab_ok mixed_ok Try.func113 (by rfl) (by kernel_rfl) ?_; rintro ⟨P, T, hT, hm, w0, S0, rd0, k0⟩ hP hTT; dsimp only at hP hTT; subst hP hTT; unfold initSt; rw [Try.ntmps113]
  (repeat (first | with_reducible refine AW.seq ?_ | ((first | refine arun_kn 1 rfl (fun C hC => ?_) | refine arunD_kn 1 rfl (fun C hC => ?_)); (repeat ((conv => whnf); simp [List.length_map])); refine hC _ ?_; clear hC C; simp only [List.drop, Nat.reduceAdd]) | (refine arun_skip ?_ ?_; (focus (simp [awant, List.length_map]; done))) | (refine AW.regionK [] (fun K hK => ?_)) | (refine AW.regionDK [] (pcs [] []) (by kernel_rfl) (by kernel_rfl) (fun K hK => ?_)) | (refine AW.condT ?_ ?_; (focus (simp [aev, List.length_map]; done))) | (refine AW.condF ?_ ?_; (focus (simp [aev, List.length_map]; done))) | with_reducible refine AW.block ?_ | ((first | ((first | refine arun_nil ?_ | refine arunD_nil ?_); refine hK _ ?_; clear hK K) | refine AW.skip ?_ | refine AW.exit ?_ | refine AW.ret ?_); simp only [wE, if_true, if_false, Nat.reduceEqDiff, reduceIte])))
  refine AW.loopS (fun (i : Nat) => mkSt (slots 0 27 [(0, .view t 5 (ks.map nodeL)), (1, .view t' 5 (ks.map nodeL)), (5, .int .i64 i)]) [] [] (rd0.map fun _ => 0)) (fun i => ks.length - i) (fun i => i ≤ ks.length) 0 ?_ (Nat.zero_le _) ?_
  · exact less_a
  · intro i hi
    by_cases hlt : i < ks.length
    · have hw : IntKind.i64.wrap ((i : Int) + 1) = (i : Int) + 1 := i64_nat (by omega) (by omega)
      have hik := ih ks[i] (List.getElem_mem hlt)
      (repeat (first | with_reducible refine AW.seq ?_ | ((first | refine arun_kn 1 rfl (fun C hC => ?_) | refine arunD_kn 1 rfl (fun C hC => ?_)); (repeat ((conv => whnf); simp [hlt, hw, List.length_map])); refine hC _ ?_; clear hC C; simp only [List.drop, Nat.reduceAdd]) | (refine arun_skip ?_ ?_; (focus (simp [awant, hlt, hw, List.length_map]; done))) | (refine arun_c0 (hik) ?_; rintro _ rfl) | (refine arunD_c (0) (hik) ?_; rintro _ rfl; intro _) | (refine AW.regionK [] (fun K hK => ?_)) | (refine AW.regionDK [] (pcs [(8, 0, fun r => r = .bool true)] []) (by kernel_rfl) (by kernel_rfl) (fun K hK => ?_)) | (refine AW.condT ?_ ?_; (focus (simp [aev, hlt, hw, List.length_map]; done))) | (refine AW.condF ?_ ?_; (focus (simp [aev, hlt, hw, List.length_map]; done))) | with_reducible refine AW.block ?_ | ((first | ((first | refine arun_nil ?_ | refine arunD_nil ?_); refine hK _ ?_; clear hK K) | refine AW.skip ?_ | refine AW.exit ?_ | refine AW.ret ?_); simp only [wE, if_true, if_false, Nat.reduceEqDiff, reduceIte])))
      exact ⟨i + 1, by omega, by omega, less_a⟩
    · (repeat (first | with_reducible refine AW.seq ?_ | ((first | refine arun_kn 1 rfl (fun C hC => ?_) | refine arunD_kn 1 rfl (fun C hC => ?_)); (repeat ((conv => whnf); simp [hlt, List.length_map])); refine hC _ ?_; clear hC C; simp only [List.drop, Nat.reduceAdd]) | (refine arun_skip ?_ ?_; (focus (simp [awant, hlt, List.length_map]; done))) | (refine AW.regionK [] (fun K hK => ?_)) | (refine AW.regionDK [] (pcs [] []) (by kernel_rfl) (by kernel_rfl) (fun K hK => ?_)) | (refine AW.condT ?_ ?_; (focus (simp [aev, hlt, List.length_map]; done))) | (refine AW.condF ?_ ?_; (focus (simp [aev, hlt, List.length_map]; done))) | with_reducible refine AW.block ?_ | ((first | ((first | refine arun_nil ?_ | refine arunD_nil ?_); refine hK _ ?_; clear hK K) | refine AW.skip ?_ | refine AW.exit ?_ | refine AW.ret ?_); simp only [wE, if_true, if_false, Nat.reduceEqDiff, reduceIte])))
      exact ⟨.bool true, by simp [ares, aresL], pur_bool, rfl⟩
theorem equalNode_step (n : Nd) (hs : Sml n) (t t' : VC) (ih : ∀ k ∈ n.kids, AC Try.prog 49 [nodeA k, nodeA k] 0 (fun r => r = .bool true)) : AC Try.prog 49 [nodeT t n, nodeT t' n] 0 (fun r => r = .bool true) := by
  have hs1 := hs.names
  have hs2 := hs.kids
  have p1 := equalTexts_AC t t' n.names n.names (by omega)
  have p2 := equalNodes_step .loose .loose n.kids (by omega) ih
  rw [eqT_refl] at p1
  refine AC.of tab_ok mixed_ok Try.func49 (by rfl) (by kernel_rfl) ?_; rintro ⟨P, T, hT, hm, w0, S0, rd0, k0⟩ hP hTT; dsimp only at hP hTT; subst hP hTT; unfold initSt; rw [Try.ntmps49]
  unfold nodeT
  rw [nodeTL_eq, nodeTL_eq]
  (repeat (first | with_reducible refine AW.seq ?_ | ((first | refine arun_kn 1 rfl (fun C hC => ?_) | refine arunD_kn 1 rfl (fun C hC => ?_)); (repeat ((conv => whnf); simp [eqs_self', nodeTL_eq])); refine hC _ ?_; clear hC C; simp only [List.drop, Nat.reduceAdd]) | (refine arun_skip ?_ ?_; (focus (simp [awant, eqs_self', nodeTL_eq]; done))) | (refine arun_c0 (p1) ?_; rintro _ rfl) | (refine arun_c0 (p2) ?_; rintro _ rfl) | (refine AW.regionK [] (fun K hK => ?_)) | (refine AW.regionDK [] (pcs [] []) (by kernel_rfl) (by kernel_rfl) (fun K hK => ?_)) | (refine AW.condT ?_ ?_; (focus (simp [aev, eqs_self', nodeTL_eq]; done))) | (refine AW.condF ?_ ?_; (focus (simp [aev, eqs_self', nodeTL_eq]; done))) | with_reducible refine AW.block ?_ | ((first | ((first | refine arun_nil ?_ | refine arunD_nil ?_); refine hK _ ?_; clear hK K) | refine AW.skip ?_ | refine AW.exit ?_ | refine AW.ret ?_); simp only [wE, if_true, if_false, Nat.reduceEqDiff, reduceIte])))
  exact ⟨.bool true, by simp [ares, aresL], pur_bool, rfl⟩
theorem equalNode_AC : ∀ n, Sml n → ∀ t t', AC Try.prog 49 [nodeT t n, nodeT t' n] 0 (fun r => r = .bool true) := Nd.ind' _ (fun n ih hs t t' =>
  equalNode_step n hs t t' (fun k hk => by have := ih k hk (hs.kid hk) .loose .loose; rwa [nodeT_loose] at this))
theorem eqT_dec : ∀ xs ys : List ByteArray, eqT xs ys = decide (xs = ys)
  | [], [] => by simp [eqT]
  | [], _ :: _ => by simp [eqT]
  | _ :: _, [] => by simp [eqT]
  | x :: xs, y :: ys => by
    rw [eqT, eqT_dec xs ys]
    cases h : eqs x y
    · have : x ≠ y := eqs_false.1 h
      simp [this]
    · have : x = y := eqs_iff.1 h
      simp [this]
theorem eqs_dec (x y : ByteArray) : eqs x y = decide (x = y) := by
  cases h : eqs x y
  · have : x ≠ y := eqs_false.1 h
    simp [this]
  · have : x = y := eqs_iff.1 h
    simp [this]
theorem eqN_T (a b : Nd) : eqN a b = ((a.kind == b.kind) && (a.num == b.num) && eqs a.text b.text && eqT a.names b.names && eqL a.kids b.kids) := by
  rw [eqN_eq, eqT_dec, eqs_dec]
  congr 4
theorem equalNodesG_step (t t' : VC) (ks js : List Nd) (hn : ks.length ≤ 1000000) (ih : ∀ k ∈ ks, ∀ j, AC Try.prog 49 [nodeA k, nodeA j] 0 (fun r => r = .bool (eqN k j))) : AC Try.prog 113 [.view t 5 (ks.map nodeL), .view t' 5 (js.map nodeL)] 0 (fun r => r = .bool (eqL ks js)) := by
  refine AC.of tab_ok mixed_ok Try.func113 (by rfl) (by kernel_rfl) ?_; rintro ⟨P, T, hT, hm, w0, S0, rd0, k0⟩ hP hTT; dsimp only at hP hTT; subst hP hTT; unfold initSt; rw [Try.ntmps113]
  by_cases hlen : ks.length = js.length
  · have hlen' : ((ks.length : Int) != (js.length : Int)) = false := by rw [hlen]; simp
    (repeat (first | with_reducible refine AW.seq ?_ | ((first | refine arun_kn 1 rfl (fun C hC => ?_) | refine arunD_kn 1 rfl (fun C hC => ?_)); (repeat ((conv => whnf); simp [List.length_map, hlen'])); refine hC _ ?_; clear hC C; simp only [List.drop, Nat.reduceAdd]) | (refine arun_skip ?_ ?_; (focus (simp [awant, List.length_map, hlen']; done))) | (refine AW.regionK [] (fun K hK => ?_)) | (refine AW.regionDK [] (pcs [] []) (by kernel_rfl) (by kernel_rfl) (fun K hK => ?_)) | (refine AW.condT ?_ ?_; (focus (simp [aev, List.length_map, hlen']; done))) | (refine AW.condF ?_ ?_; (focus (simp [aev, List.length_map, hlen']; done))) | with_reducible refine AW.block ?_ | ((first | ((first | refine arun_nil ?_ | refine arunD_nil ?_); refine hK _ ?_; clear hK K) | refine AW.skip ?_ | refine AW.exit ?_ | refine AW.ret ?_); simp only [wE, if_true, if_false, Nat.reduceEqDiff, reduceIte])))
    refine AW.loopS (fun (i : Nat) => mkSt (slots 0 27 [(0, .view t 5 (ks.map nodeL)), (1, .view t' 5 (js.map nodeL)), (5, .int .i64 i)]) [] [] (rd0.map fun _ => 0)) (fun i => ks.length - i) (fun i => i ≤ ks.length ∧ eqL ks js = eqL (ks.drop i) (js.drop i)) 0 ?_ ⟨Nat.zero_le _, rfl⟩ ?_
    · exact less_a
    · rintro i ⟨hi, hf⟩
      by_cases hlt : i < ks.length
      · have hlt2 : i < js.length := by omega
        have hw : IntKind.i64.wrap ((i : Int) + 1) = (i : Int) + 1 := i64_nat (by omega) (by omega)
        have hik := ih ks[i] (List.getElem_mem hlt) js[i]
        rw [List.drop_eq_getElem_cons hlt, List.drop_eq_getElem_cons hlt2, eqL] at hf
        cases hb : eqN ks[i] js[i]
        · rw [hb] at hf hik
          (repeat (first | with_reducible refine AW.seq ?_ | ((first | refine arun_kn 1 rfl (fun C hC => ?_) | refine arunD_kn 1 rfl (fun C hC => ?_)); (repeat ((conv => whnf); simp [hlt, hlt2, hw, List.length_map])); refine hC _ ?_; clear hC C; simp only [List.drop, Nat.reduceAdd]) | (refine arun_skip ?_ ?_; (focus (simp [awant, hlt, hlt2, hw, List.length_map]; done))) | (refine arun_c0 (hik) ?_; rintro _ rfl) | (refine arunD_c (0) (hik) ?_; rintro _ rfl; intro _) | (refine AW.regionK [] (fun K hK => ?_)) | (refine AW.regionDK [] (pcs [(8, 0, fun r => r = .bool false)] []) (by kernel_rfl) (by kernel_rfl) (fun K hK => ?_)) | (refine AW.condT ?_ ?_; (focus (simp [aev, hlt, hlt2, hw, List.length_map]; done))) | (refine AW.condF ?_ ?_; (focus (simp [aev, hlt, hlt2, hw, List.length_map]; done))) | with_reducible refine AW.block ?_ | ((first | ((first | refine arun_nil ?_ | refine arunD_nil ?_); refine hK _ ?_; clear hK K) | refine AW.skip ?_ | refine AW.exit ?_ | refine AW.ret ?_); simp only [wE, if_true, if_false, Nat.reduceEqDiff, reduceIte])))
          exact ⟨.bool false, by simp [ares, aresL], pur_bool, by rw [hf]; rfl⟩
        · rw [hb] at hf hik
          (repeat (first | with_reducible refine AW.seq ?_ | ((first | refine arun_kn 1 rfl (fun C hC => ?_) | refine arunD_kn 1 rfl (fun C hC => ?_)); (repeat ((conv => whnf); simp [hlt, hlt2, hw, List.length_map])); refine hC _ ?_; clear hC C; simp only [List.drop, Nat.reduceAdd]) | (refine arun_skip ?_ ?_; (focus (simp [awant, hlt, hlt2, hw, List.length_map]; done))) | (refine arun_c0 (hik) ?_; rintro _ rfl) | (refine arunD_c (0) (hik) ?_; rintro _ rfl; intro _) | (refine AW.regionK [] (fun K hK => ?_)) | (refine AW.regionDK [] (pcs [(8, 0, fun r => r = .bool true)] []) (by kernel_rfl) (by kernel_rfl) (fun K hK => ?_)) | (refine AW.condT ?_ ?_; (focus (simp [aev, hlt, hlt2, hw, List.length_map]; done))) | (refine AW.condF ?_ ?_; (focus (simp [aev, hlt, hlt2, hw, List.length_map]; done))) | with_reducible refine AW.block ?_ | ((first | ((first | refine arun_nil ?_ | refine arunD_nil ?_); refine hK _ ?_; clear hK K) | refine AW.skip ?_ | refine AW.exit ?_ | refine AW.ret ?_); simp only [wE, if_true, if_false, Nat.reduceEqDiff, reduceIte])))
          exact ⟨i + 1, by omega, ⟨by omega, by rw [hf]; simp⟩, less_a⟩
      · rw [List.drop_eq_nil_of_le (by omega), List.drop_eq_nil_of_le (by omega)] at hf
        (repeat (first | with_reducible refine AW.seq ?_ | ((first | refine arun_kn 1 rfl (fun C hC => ?_) | refine arunD_kn 1 rfl (fun C hC => ?_)); (repeat ((conv => whnf); simp [hlt, List.length_map])); refine hC _ ?_; clear hC C; simp only [List.drop, Nat.reduceAdd]) | (refine arun_skip ?_ ?_; (focus (simp [awant, hlt, List.length_map]; done))) | (refine AW.regionK [] (fun K hK => ?_)) | (refine AW.regionDK [] (pcs [] []) (by kernel_rfl) (by kernel_rfl) (fun K hK => ?_)) | (refine AW.condT ?_ ?_; (focus (simp [aev, hlt, List.length_map]; done))) | (refine AW.condF ?_ ?_; (focus (simp [aev, hlt, List.length_map]; done))) | with_reducible refine AW.block ?_ | ((first | ((first | refine arun_nil ?_ | refine arunD_nil ?_); refine hK _ ?_; clear hK K) | refine AW.skip ?_ | refine AW.exit ?_ | refine AW.ret ?_); simp only [wE, if_true, if_false, Nat.reduceEqDiff, reduceIte])))
        exact ⟨.bool true, by simp [ares, aresL], pur_bool, by rw [hf]; rfl⟩
  · have hlen' : ((ks.length : Int) != (js.length : Int)) = true := by simp; omega
    (repeat (first | with_reducible refine AW.seq ?_ | ((first | refine arun_kn 1 rfl (fun C hC => ?_) | refine arunD_kn 1 rfl (fun C hC => ?_)); (repeat ((conv => whnf); simp [List.length_map, hlen'])); refine hC _ ?_; clear hC C; simp only [List.drop, Nat.reduceAdd]) | (refine arun_skip ?_ ?_; (focus (simp [awant, List.length_map, hlen']; done))) | (refine AW.regionK [] (fun K hK => ?_)) | (refine AW.regionDK [] (pcs [] []) (by kernel_rfl) (by kernel_rfl) (fun K hK => ?_)) | (refine AW.condT ?_ ?_; (focus (simp [aev, List.length_map, hlen']; done))) | (refine AW.condF ?_ ?_; (focus (simp [aev, List.length_map, hlen']; done))) | with_reducible refine AW.block ?_ | ((first | ((first | refine arun_nil ?_ | refine arunD_nil ?_); refine hK _ ?_; clear hK K) | refine AW.skip ?_ | refine AW.exit ?_ | refine AW.ret ?_); simp only [wE, if_true, if_false, Nat.reduceEqDiff, reduceIte])))
    exact ⟨.bool false, by simp [ares, aresL], pur_bool, by rw [eqL_len hlen]⟩
theorem equalNodeG_step (n m : Nd) (hs : Sml n) (t t' : VC) (ih : ∀ k ∈ n.kids, ∀ j, AC Try.prog 49 [nodeA k, nodeA j] 0 (fun r => r = .bool (eqN k j))) : AC Try.prog 49 [nodeT t n, nodeT t' m] 0 (fun r => r = .bool (eqN n m)) := by
  have hs1 := hs.names
  have hs2 := hs.kids
  have p1 := equalTexts_AC t t' n.names m.names (by omega)
  have p2 := equalNodesG_step .loose .loose n.kids m.kids (by omega) ih
  rw [eqN_T]
  refine AC.of tab_ok mixed_ok Try.func49 (by rfl) (by kernel_rfl) ?_; rintro ⟨P, T, hT, hm, w0, S0, rd0, k0⟩ hP hTT; dsimp only at hP hTT; subst hP hTT; unfold initSt; rw [Try.ntmps49]
  unfold nodeT
  rw [nodeTL_eq, nodeTL_eq]
  cases e1 : (n.kind == m.kind)
  · (repeat (first | with_reducible refine AW.seq ?_ | ((first | refine arun_kn 1 rfl (fun C hC => ?_) | refine arunD_kn 1 rfl (fun C hC => ?_)); (repeat ((conv => whnf); simp [e1, nodeTL_eq])); refine hC _ ?_; clear hC C; simp only [List.drop, Nat.reduceAdd]) | (refine arun_skip ?_ ?_; (focus (simp [awant, e1, nodeTL_eq]; done))) | (refine AW.regionK [] (fun K hK => ?_)) | (refine AW.regionDK [] (pcs [] []) (by kernel_rfl) (by kernel_rfl) (fun K hK => ?_)) | (refine AW.condT ?_ ?_; (focus (simp [aev, e1, nodeTL_eq]; done))) | (refine AW.condF ?_ ?_; (focus (simp [aev, e1, nodeTL_eq]; done))) | with_reducible refine AW.block ?_ | ((first | ((first | refine arun_nil ?_ | refine arunD_nil ?_); refine hK _ ?_; clear hK K) | refine AW.skip ?_ | refine AW.exit ?_ | refine AW.ret ?_); simp only [wE, if_true, if_false, Nat.reduceEqDiff, reduceIte])))
    exact ⟨.bool false, by simp [ares, aresL], pur_bool, rfl⟩
  cases e2 : (n.num == m.num)
  · (repeat (first | with_reducible refine AW.seq ?_ | ((first | refine arun_kn 1 rfl (fun C hC => ?_) | refine arunD_kn 1 rfl (fun C hC => ?_)); (repeat ((conv => whnf); simp [e1, e2, nodeTL_eq])); refine hC _ ?_; clear hC C; simp only [List.drop, Nat.reduceAdd]) | (refine arun_skip ?_ ?_; (focus (simp [awant, e1, e2, nodeTL_eq]; done))) | (refine AW.regionK [] (fun K hK => ?_)) | (refine AW.regionDK [] (pcs [] []) (by kernel_rfl) (by kernel_rfl) (fun K hK => ?_)) | (refine AW.condT ?_ ?_; (focus (simp [aev, e1, e2, nodeTL_eq]; done))) | (refine AW.condF ?_ ?_; (focus (simp [aev, e1, e2, nodeTL_eq]; done))) | with_reducible refine AW.block ?_ | ((first | ((first | refine arun_nil ?_ | refine arunD_nil ?_); refine hK _ ?_; clear hK K) | refine AW.skip ?_ | refine AW.exit ?_ | refine AW.ret ?_); simp only [wE, if_true, if_false, Nat.reduceEqDiff, reduceIte])))
    exact ⟨.bool false, by simp [ares, aresL], pur_bool, rfl⟩
  cases e3 : eqs n.text m.text
  · (repeat (first | with_reducible refine AW.seq ?_ | ((first | refine arun_kn 1 rfl (fun C hC => ?_) | refine arunD_kn 1 rfl (fun C hC => ?_)); (repeat ((conv => whnf); simp [e1, e2, e3, nodeTL_eq])); refine hC _ ?_; clear hC C; simp only [List.drop, Nat.reduceAdd]) | (refine arun_skip ?_ ?_; (focus (simp [awant, e1, e2, e3, nodeTL_eq]; done))) | (refine AW.regionK [] (fun K hK => ?_)) | (refine AW.regionDK [] (pcs [] []) (by kernel_rfl) (by kernel_rfl) (fun K hK => ?_)) | (refine AW.condT ?_ ?_; (focus (simp [aev, e1, e2, e3, nodeTL_eq]; done))) | (refine AW.condF ?_ ?_; (focus (simp [aev, e1, e2, e3, nodeTL_eq]; done))) | with_reducible refine AW.block ?_ | ((first | ((first | refine arun_nil ?_ | refine arunD_nil ?_); refine hK _ ?_; clear hK K) | refine AW.skip ?_ | refine AW.exit ?_ | refine AW.ret ?_); simp only [wE, if_true, if_false, Nat.reduceEqDiff, reduceIte])))
    exact ⟨.bool false, by simp [ares, aresL], pur_bool, rfl⟩
  cases e4 : eqT n.names m.names <;> rw [e4] at p1
  · (repeat (first | with_reducible refine AW.seq ?_ | ((first | refine arun_kn 1 rfl (fun C hC => ?_) | refine arunD_kn 1 rfl (fun C hC => ?_)); (repeat ((conv => whnf); simp [e1, e2, e3, nodeTL_eq])); refine hC _ ?_; clear hC C; simp only [List.drop, Nat.reduceAdd]) | (refine arun_skip ?_ ?_; (focus (simp [awant, e1, e2, e3, nodeTL_eq]; done))) | (refine arun_c0 (p1) ?_; rintro _ rfl) | (refine AW.regionK [] (fun K hK => ?_)) | (refine AW.regionDK [] (pcs [] []) (by kernel_rfl) (by kernel_rfl) (fun K hK => ?_)) | (refine AW.condT ?_ ?_; (focus (simp [aev, e1, e2, e3, nodeTL_eq]; done))) | (refine AW.condF ?_ ?_; (focus (simp [aev, e1, e2, e3, nodeTL_eq]; done))) | with_reducible refine AW.block ?_ | ((first | ((first | refine arun_nil ?_ | refine arunD_nil ?_); refine hK _ ?_; clear hK K) | refine AW.skip ?_ | refine AW.exit ?_ | refine AW.ret ?_); simp only [wE, if_true, if_false, Nat.reduceEqDiff, reduceIte])))
    exact ⟨.bool false, by simp [ares, aresL], pur_bool, rfl⟩
  cases e5 : eqL n.kids m.kids <;> rw [e5] at p2
  · (repeat (first | with_reducible refine AW.seq ?_ | ((first | refine arun_kn 1 rfl (fun C hC => ?_) | refine arunD_kn 1 rfl (fun C hC => ?_)); (repeat ((conv => whnf); simp [e1, e2, e3, nodeTL_eq])); refine hC _ ?_; clear hC C; simp only [List.drop, Nat.reduceAdd]) | (refine arun_skip ?_ ?_; (focus (simp [awant, e1, e2, e3, nodeTL_eq]; done))) | (refine arun_c0 (p1) ?_; rintro _ rfl) | (refine arun_c0 (p2) ?_; rintro _ rfl) | (refine AW.regionK [] (fun K hK => ?_)) | (refine AW.regionDK [] (pcs [] []) (by kernel_rfl) (by kernel_rfl) (fun K hK => ?_)) | (refine AW.condT ?_ ?_; (focus (simp [aev, e1, e2, e3, nodeTL_eq]; done))) | (refine AW.condF ?_ ?_; (focus (simp [aev, e1, e2, e3, nodeTL_eq]; done))) | with_reducible refine AW.block ?_ | ((first | ((first | refine arun_nil ?_ | refine arunD_nil ?_); refine hK _ ?_; clear hK K) | refine AW.skip ?_ | refine AW.exit ?_ | refine AW.ret ?_); simp only [wE, if_true, if_false, Nat.reduceEqDiff, reduceIte])))
    exact ⟨.bool false, by simp [ares, aresL], pur_bool, rfl⟩
  · (repeat (first | with_reducible refine AW.seq ?_ | ((first | refine arun_kn 1 rfl (fun C hC => ?_) | refine arunD_kn 1 rfl (fun C hC => ?_)); (repeat ((conv => whnf); simp [e1, e2, e3, nodeTL_eq])); refine hC _ ?_; clear hC C; simp only [List.drop, Nat.reduceAdd]) | (refine arun_skip ?_ ?_; (focus (simp [awant, e1, e2, e3, nodeTL_eq]; done))) | (refine arun_c0 (p1) ?_; rintro _ rfl) | (refine arun_c0 (p2) ?_; rintro _ rfl) | (refine AW.regionK [] (fun K hK => ?_)) | (refine AW.regionDK [] (pcs [] []) (by kernel_rfl) (by kernel_rfl) (fun K hK => ?_)) | (refine AW.condT ?_ ?_; (focus (simp [aev, e1, e2, e3, nodeTL_eq]; done))) | (refine AW.condF ?_ ?_; (focus (simp [aev, e1, e2, e3, nodeTL_eq]; done))) | with_reducible refine AW.block ?_ | ((first | ((first | refine arun_nil ?_ | refine arunD_nil ?_); refine hK _ ?_; clear hK K) | refine AW.skip ?_ | refine AW.exit ?_ | refine AW.ret ?_); simp only [wE, if_true, if_false, Nat.reduceEqDiff, reduceIte])))
    exact ⟨.bool true, by simp [ares, aresL], pur_bool, rfl⟩
theorem equalNodeG_AC : ∀ n, Sml n → ∀ m t t', AC Try.prog 49 [nodeT t n, nodeT t' m] 0 (fun r => r = .bool (eqN n m)) := Nd.ind' _ (fun n ih hs m t t' =>
  equalNodeG_step n m hs t t' (fun k hk j => by have := ih k hk (hs.kid hk) j .loose .loose; rwa [nodeT_loose, nodeT_loose] at this))
end Go.Proofs.Ytgfnmhfdmmnaoaa.Eng
-- EV: skip
namespace Go.Proofs.Ytgfnmhfdmmnaoaa.Eng
open Go Go.RowKit
attribute [local simp] big size_mk ASt.pay Option.map_map Function.comp_def awant aop acall ado aev ofVal ofVal0 ASt.put ASt.add ASt.turn ASt.kill abox aalloc astore aload aloadD astoreD idOf ASt.at cellsTo afieldAddr afield aindexAddr aindex alen abin aint acmp astr aun apick aextract anil aslice abound abuild afill abuildSlice asCells aps avCells over upd aappend asrc amax amin aconv mkSt slots rowsOf_cons rowsOf_nil usedOf_cons usedOf_nil ZK.av List.replicate ASt.back ASt.addL ASt.killL nodeA nodeT nodeTL_eq nodeL_eq strsE_get strsE_len intsE_get intsE_len strsE_at intsE_at tab2 tab3 tab4 tab5 tab6 tab7 tab8 tab9 tab10 tab11 tab12 tab13 tab14 tab15 tab16 tab17 tab18 tab19 tab21 tab22 tab23 tab24 tab25 tab26 tab27 tab28 tab29 tab30 tab39 tab40 tab41 tab42 tab43 tab47 tab48 tab55 tab56 tab57 tab60 tab61 tab62 tab73 tab74 tab75 tab85 tab92 tab115 tab116 tab143 tab144 tab145 tab154 tab155 tab170 tab175 tab182 tab197 tab198 tab203 tab204 tab205 tab207 tab208 tab209
set_option maxRecDepth 100000
set_option maxHeartbeats 8000000
def oprC (o : Opr) : List AV := [.int .i64 o.1, .view .loose 1 (strsE o.2.1), .view .loose 1 (strsE o.2.2.1), .int .i64 o.2.2.2.kind, .int .i64 o.2.2.2.num, .str o.2.2.2.text, .view .loose 1 (strsE o.2.2.2.names), .view .loose 5 (o.2.2.2.kids.map nodeL)]
theorem equalOps1_AC (o : Opr) (h1 : o.2.1.length ≤ 1000) (h2 : o.2.2.1.length ≤ 1000) (hs : Sml o.2.2.2) : AC Try.prog 50 [.view .tight 8 [oprC o], .view .tight 8 [oprC o]] 0 (fun r => r = .bool true) := by
  have p1 := equalTexts_AC .loose .loose o.2.1 o.2.1 (by omega)
  have p2 := equalTexts_AC .loose .loose o.2.2.1 o.2.2.1 (by omega)
  have p3 := equalNodeG_AC o.2.2.2 hs o.2.2.2 .loose .loose
  have hc := node_clo o.2.2.2
  rw [eqT_refl] at p1 p2
  rw [nodeT_loose] at p3
  rw [eqN_refl] at p3
  unfold nodeA at p3 hc
  rw [nodeL_eq] at p3 hc
  have hio : ∀ U : Nat → Bool, AV.In U (.view .tight 8 [oprC o]) := fun U => in_view.2 (by
    simp only [List.forall_mem_cons, List.not_mem_nil, false_implies, implies_true, and_true, oprC]
    exact ⟨in_int, strs_in _, strs_in _, in_int, in_int, in_str, strs_in _, in_view.2 (nodesE_in _)⟩)
  unfold oprC at hio
  unfold oprC
  refine AC.of tab_ok mixed_ok Try.func50 (by rfl) (by kernel_rfl) ?_; rintro ⟨P, T, hT, hm, w0, S0, rd0, k0⟩ hP hTT; dsimp only at hP hTT; subst hP hTT; unfold initSt; rw [Try.ntmps50]
  (repeat (first | with_reducible refine AW.seq ?_ | ((first | refine arun_kn 1 rfl (fun C hC => ?_) | refine arunD_kn 1 rfl (fun C hC => ?_)); (repeat ((conv => whnf); simp)); refine hC _ ?_; clear hC C; simp only [List.drop, Nat.reduceAdd]) | (refine arun_skip ?_ ?_; (focus (simp [awant]; done))) | (refine arunD_skip ?_ ?_; (focus (simp [awant]; done))) | (refine AW.regionK [] (fun K hK => ?_)) | (refine AW.regionDK [] (pcs [] []) (by kernel_rfl) (by kernel_rfl) (fun K hK => ?_)) | (refine AW.condT ?_ ?_; (focus (simp [aev]; done))) | (refine AW.condF ?_ ?_; (focus (simp [aev]; done))) | with_reducible refine AW.block ?_ | ((first | ((first | refine arun_nil ?_ | refine arunD_nil ?_); refine hK _ ?_; clear hK K) | refine AW.skip ?_ | refine AW.exit ?_ | refine AW.ret ?_); simp only [wE, if_true, if_false, Nat.reduceEqDiff, reduceIte])))
  refine AW.loopS (fun (i : Nat) => mkSt (slots 0 70 [(0, .view .tight 8 [oprC o]), (1, .view .tight 8 [oprC o]), (5, .int .i64 i)]) [] [] (rd0.map fun _ => 0)) (fun i => 1 - i) (fun i => i ≤ 1) 0 ?_ (Nat.zero_le _) ?_
  · unfold oprC
    exact (less_of (by simp [lessL, mkSt, slots, hio]) (by simp [upd, mkSt, rowsOf_cons, hio]) (by simp [upd, mkSt, usedOf_cons, hio]) (by first | exact rd_less (by omega) | simp [mkSt, hio]) (by simp [slots, in_any, in_int, in_bool, in_str, in_ptr, in_own, in_agg, in_vnil, in_rdr, usedOf_cons, usedOf_nil, strs_in, ints_in, nodes_in, in_tup, hio]) (by simp only [List.forall_mem_cons, List.not_mem_nil, false_implies, implies_true, and_true, true_and, hio]; (repeat (first | with_reducible exact trivial | with_reducible refine And.intro ?_ ?_ | with_reducible exact in_int | with_reducible exact in_str | with_reducible exact in_bool | with_reducible exact strs_in _ | with_reducible exact nodes_in _ | with_reducible exact items_in _ | with_reducible exact in_vnil | with_reducible exact in_any | exact hin _ | with_reducible refine take_in ?_ | with_reducible exact strsE_in _ | with_reducible exact nodesE_in _ | with_reducible exact nodeL_in _ | with_reducible exact itemsE_in _ | with_reducible exact itemL_in _ | with_reducible refine app_in ?_ ?_ | with_reducible refine sing_in ?_ | (focus (simp [in_any, in_int, in_bool, in_str, in_ptr, in_own, in_agg, in_vnil, in_rdr, usedOf_cons, usedOf_nil, strs_in, ints_in, nodes_in, hio]; done)))); done))
  intro i hi
  unfold oprC
  by_cases h0 : i = 0
  · subst h0
    have e0 : (o.1 != o.1) = false := by simp
    have hw : IntKind.i64.wrap (1 : Int) = 1 := i64_nat (by omega) (by omega)
    (repeat (first | with_reducible refine AW.seq ?_ | ((first | refine arun_kn 1 rfl (fun C hC => ?_) | refine arunD_kn 1 rfl (fun C hC => ?_)); (repeat ((conv => whnf); simp [e0])); refine hC _ ?_; clear hC C; simp only [List.drop, Nat.reduceAdd]) | (refine arun_skip ?_ ?_; (focus (simp [awant, e0]; done))) | (refine arunD_skip ?_ ?_; (focus (simp [awant, e0]; done))) | (refine AW.regionK [] (fun K hK => ?_)) | (refine AW.condT ?_ ?_; (focus (simp [aev, e0]; done))) | (refine AW.condF ?_ ?_; (focus (simp [aev, e0]; done))) | with_reducible refine AW.block ?_ | ((first | ((first | refine arun_nil ?_ | refine arunD_nil ?_); refine hK _ ?_; clear hK K) | refine AW.skip ?_ | refine AW.exit ?_ | refine AW.ret ?_); simp only [wE, if_true, if_false, Nat.reduceEqDiff, reduceIte])))
    refine AW.regionDK [] (pcs [(22, 0, fun r => r = .bool true), (36, 0, fun r => r = .bool true), (50, 0, fun r => r = .bool true)] []) (by kernel_rfl) (by kernel_rfl) (fun K hK => ?_)
    (repeat (first | with_reducible refine AW.seq ?_ | ((first | refine arun_kn 1 rfl (fun C hC => ?_) | refine arunD_kn 1 rfl (fun C hC => ?_)); (repeat ((conv => whnf); simp [e0, hw])); refine hC _ ?_; clear hC C; simp only [List.drop, Nat.reduceAdd]) | (refine arun_skip ?_ ?_; (focus (simp [awant, e0, hw]; done))) | (refine arun_c0 (p1) ?_; rintro _ rfl) | (refine arun_c0 (p2) ?_; rintro _ rfl) | (refine arun_c0 (p3) ?_; rintro _ rfl) | (refine arunD_skip ?_ ?_; (focus (simp [awant, e0, hw]; done))) | (refine arunD_cE (0) (p1) (by exact ⟨_, rfl, in_bool⟩) ?_; rintro _ rfl; intro _) | (refine arunD_cE (0) (p2) (by exact ⟨_, rfl, in_bool⟩) ?_; rintro _ rfl; intro _) | (refine arunD_cE (0) (p3) (by exact ⟨_, rfl, in_bool⟩) ?_; rintro _ rfl; intro _) | (refine AW.regionK [] (fun K hK => ?_)) | (refine AW.regionDK [] (pcs [] []) (by kernel_rfl) (by kernel_rfl) (fun K hK => ?_)) | (refine AW.condT ?_ ?_; (focus (simp [aev, e0, hw]; done))) | (refine AW.condF ?_ ?_; (focus (simp [aev, e0, hw]; done))) | with_reducible refine AW.block ?_ | ((first | ((first | refine arun_nil ?_ | refine arunD_nil ?_); refine hK _ ?_; clear hK K) | refine AW.skip ?_ | refine AW.exit ?_ | refine AW.ret ?_); simp only [wE, if_true, if_false, Nat.reduceEqDiff, reduceIte])))
    refine ⟨1, by omega, by omega, ?_⟩
    exact (less_of (by simp [lessL, mkSt, slots, hio]) (by simp [upd, mkSt, rowsOf_cons, hio]) (by simp [upd, mkSt, usedOf_cons, hio]) (by first | exact rd_less (by omega) | simp [mkSt, hio]) (by simp [slots, in_any, in_int, in_bool, in_str, in_ptr, in_own, in_agg, in_vnil, in_rdr, usedOf_cons, usedOf_nil, strs_in, ints_in, nodes_in, in_tup, hio]) (by simp only [List.forall_mem_cons, List.not_mem_nil, false_implies, implies_true, and_true, true_and, hio]; (repeat (first | with_reducible exact trivial | with_reducible refine And.intro ?_ ?_ | with_reducible exact in_int | with_reducible exact in_str | with_reducible exact in_bool | with_reducible exact strs_in _ | with_reducible exact nodes_in _ | with_reducible exact items_in _ | with_reducible exact in_vnil | with_reducible exact in_any | exact hin _ | with_reducible refine take_in ?_ | with_reducible exact strsE_in _ | with_reducible exact nodesE_in _ | with_reducible exact nodeL_in _ | with_reducible exact itemsE_in _ | with_reducible exact itemL_in _ | with_reducible refine app_in ?_ ?_ | with_reducible refine sing_in ?_ | (focus (simp [in_any, in_int, in_bool, in_str, in_ptr, in_own, in_agg, in_vnil, in_rdr, usedOf_cons, usedOf_nil, strs_in, ints_in, nodes_in, hio]; done)))); done))
  · obtain rfl : i = 1 := by omega
    (repeat (first | with_reducible refine AW.seq ?_ | ((first | refine arun_kn 1 rfl (fun C hC => ?_) | refine arunD_kn 1 rfl (fun C hC => ?_)); (repeat ((conv => whnf); simp)); refine hC _ ?_; clear hC C; simp only [List.drop, Nat.reduceAdd]) | (refine arun_skip ?_ ?_; (focus (simp [awant]; done))) | (refine arunD_skip ?_ ?_; (focus (simp [awant]; done))) | (refine AW.regionK [] (fun K hK => ?_)) | (refine AW.regionDK [] (pcs [] []) (by kernel_rfl) (by kernel_rfl) (fun K hK => ?_)) | (refine AW.condT ?_ ?_; (focus (simp [aev]; done))) | (refine AW.condF ?_ ?_; (focus (simp [aev]; done))) | with_reducible refine AW.block ?_ | ((first | ((first | refine arun_nil ?_ | refine arunD_nil ?_); refine hK _ ?_; clear hK K) | refine AW.skip ?_ | refine AW.exit ?_ | refine AW.ret ?_); simp only [wE, if_true, if_false, Nat.reduceEqDiff, reduceIte])))
    exact ⟨.bool true, by simp [ares, aresL], pur_bool, rfl⟩
end Go.Proofs.Ytgfnmhfdmmnaoaa.Eng
-- EV: skip
namespace Go.Proofs.Ytgfnmhfdmmnaoaa.Eng
open Go Go.RowKit
attribute [local simp] big size_mk ASt.pay Option.map_map Function.comp_def awant aop acall ado aev ofVal ofVal0 ASt.put ASt.add ASt.turn ASt.kill abox aalloc astore aload aloadD astoreD idOf ASt.at cellsTo afieldAddr afield aindexAddr aindex alen abin aint acmp astr aun apick aextract anil aslice abound abuild afill abuildSlice asCells aps avCells over upd aappend asrc amax amin aconv mkSt slots rowsOf_cons rowsOf_nil usedOf_cons usedOf_nil ZK.av List.replicate ASt.back ASt.addL ASt.killL nodeA nodeT nodeTL_eq nodeL_eq strsE_get strsE_len intsE_get intsE_len strsE_at intsE_at tab2 tab3 tab4 tab5 tab6 tab7 tab8 tab9 tab10 tab11 tab12 tab13 tab14 tab15 tab16 tab17 tab18 tab19 tab21 tab22 tab23 tab24 tab25 tab26 tab27 tab28 tab29 tab30 tab39 tab40 tab41 tab42 tab43 tab47 tab48 tab55 tab56 tab57 tab60 tab61 tab62 tab73 tab74 tab75 tab85 tab92 tab115 tab116 tab143 tab144 tab145 tab154 tab155 tab170 tab175 tab182 tab197 tab198 tab203 tab204 tab205 tab207 tab208 tab209
set_option maxRecDepth 100000
set_option maxHeartbeats 16000000
def zeroOA : AV := .agg [.int .i64 0, .view .tight 0 [], .view .tight 0 [], .int .i64 0, .int .i64 0, .str ⟨#[]⟩, .view .tight 0 [], .view .tight 0 []]
theorem zeroOA_pur : Pur zeroOA := pur_agg (by
  simp only [List.forall_mem_cons, List.not_mem_nil, false_implies, implies_true, and_true]
  have := pur_view (t := .tight) (sz := 0) (es := []) (by decide) (fun e he => by cases he)
  exact ⟨pur_int, this, this, pur_int, pur_int, pur_str, this, this⟩)
theorem zeroOA_wk : Wk zeroOA (oprA zeroO) := by
  unfold zeroOA oprA zeroO
  exact Wk.agg (.cons (Wk.refl _) (.cons (Wk.nil (fun h => by cases h)) (.cons (Wk.nil (fun h => by cases h)) (.cons (Wk.refl _) (.cons (Wk.refl _) (.cons (Wk.refl _) (.cons (Wk.nil (fun h => by cases h)) (.cons (Wk.nil (fun h => by cases h)) .nil))))))))
theorem kdT_one (t : ByteArray) : kdT t 1 = 0 := by simp [kdT]
theorem n2o_no {n : Nd} (h : n2oB n = false) : n2oN n = zeroO := by unfold n2oN; rw [h]; rfl
theorem n2o_yes {n : Nd} (h : n2oB n = true) : n2oN n = partO n := by unfold n2oN; rw [h]; rfl
theorem specNodeToOp_AC (n : Nd) : AC Try.prog 37 [nodeA n] 0 (fun r => r = .tup [oprA (n2oN n), .bool (n2oB n)]) := by
  refine AC.weak ?_
  have p1 := validNode_AC n .loose
  rw [nodeT_loose] at p1
  have hcl := node_clo n
  cases hv : validB n
  · have hb : n2oB n = false := by unfold n2oB; rw [hv]; rfl
    rw [hv] at p1
    unfold nodeA at *
    rw [nodeL_eq n] at *
    refine AC.of tab_ok mixed_ok Try.func37 (by rfl) (by kernel_rfl) ?_; rintro ⟨P, T, hT, hm, w0, S0, rd0, k0⟩ hP hTT; dsimp only at hP hTT; subst hP hTT; unfold initSt; rw [Try.ntmps37]
    (repeat (first | with_reducible refine AW.seq ?_ | ((first | refine arun_kn 1 rfl (fun C hC => ?_) | refine arunD_kn 1 rfl (fun C hC => ?_)); (repeat ((conv => whnf); simp)); refine hC _ ?_; clear hC C; simp only [List.drop, Nat.reduceAdd]) | (refine arun_skip ?_ ?_; (focus (simp [awant]; done))) | (refine arun_c0 (p1) ?_; rintro _ rfl) | (refine arunD_skip ?_ ?_; (focus (simp [awant]; done))) | (refine AW.regionK [] (fun K hK => ?_)) | (refine AW.regionDK [] (pcs [] []) (by kernel_rfl) (by kernel_rfl) (fun K hK => ?_)) | (refine AW.condT ?_ ?_; (focus (simp [aev]; done))) | (refine AW.condF ?_ ?_; (focus (simp [aev]; done))) | with_reducible refine AW.block ?_ | ((first | ((first | refine arun_nil ?_ | refine arunD_nil ?_); refine hK _ ?_; clear hK K) | refine AW.skip ?_ | refine AW.exit ?_ | refine AW.ret ?_); simp only [wE, if_true, if_false, Nat.reduceEqDiff, reduceIte])))
    exact ⟨.tup [zeroOA, .bool false], by simp [ares, aresL, upd, rowsOf_cons, zeroOA], tup2_pur zeroOA_pur pur_bool, .tup [oprA zeroO, .bool false], Wk.tup (.cons zeroOA_wk (.cons (Wk.refl _) .nil)), by rw [hb, n2o_no hb]⟩
  rw [hv] at p1
  by_cases h4 : n.kind = 4
  rotate_left
  · have hb : n2oB n = false := by unfold n2oB; simp [h4]
    have e4 : (n.kind != 4) = true := by simpa using h4
    unfold nodeA at *
    rw [nodeL_eq n] at *
    refine AC.of tab_ok mixed_ok Try.func37 (by rfl) (by kernel_rfl) ?_; rintro ⟨P, T, hT, hm, w0, S0, rd0, k0⟩ hP hTT; dsimp only at hP hTT; subst hP hTT; unfold initSt; rw [Try.ntmps37]
    (repeat (first | with_reducible refine AW.seq ?_ | ((first | refine arun_kn 1 rfl (fun C hC => ?_) | refine arunD_kn 1 rfl (fun C hC => ?_)); (repeat ((conv => whnf); simp [e4])); refine hC _ ?_; clear hC C; simp only [List.drop, Nat.reduceAdd]) | (refine arun_skip ?_ ?_; (focus (simp [awant, e4]; done))) | (refine arun_c0 (p1) ?_; rintro _ rfl) | (refine arunD_skip ?_ ?_; (focus (simp [awant, e4]; done))) | (refine AW.regionK [] (fun K hK => ?_)) | (refine AW.regionDK [] (pcs [] []) (by kernel_rfl) (by kernel_rfl) (fun K hK => ?_)) | (refine AW.condT ?_ ?_; (focus (simp [aev, e4]; done))) | (refine AW.condF ?_ ?_; (focus (simp [aev, e4]; done))) | with_reducible refine AW.block ?_ | ((first | ((first | refine arun_nil ?_ | refine arunD_nil ?_); refine hK _ ?_; clear hK K) | refine AW.skip ?_ | refine AW.exit ?_ | refine AW.ret ?_); simp only [wE, if_true, if_false, Nat.reduceEqDiff, reduceIte])))
    exact ⟨.tup [zeroOA, .bool false], by simp [ares, aresL, upd, rowsOf_cons, zeroOA], tup2_pur zeroOA_pur pur_bool, .tup [oprA zeroO, .bool false], Wk.tup (.cons zeroOA_wk (.cons (Wk.refl _) .nil)), by rw [hb, n2o_no hb]⟩
  have e4 : (n.kind != 4) = false := by simp [h4]
  by_cases hl : n.kids.length = 4
  rotate_left
  · have hb : n2oB n = false := by unfold n2oB; simp [hl]
    have el : ((n.kids.length : Int) != 4) = true := by simp; omega
    unfold nodeA at *
    rw [nodeL_eq n] at *
    refine AC.of tab_ok mixed_ok Try.func37 (by rfl) (by kernel_rfl) ?_; rintro ⟨P, T, hT, hm, w0, S0, rd0, k0⟩ hP hTT; dsimp only at hP hTT; subst hP hTT; unfold initSt; rw [Try.ntmps37]
    (repeat (first | with_reducible refine AW.seq ?_ | ((first | refine arun_kn 1 rfl (fun C hC => ?_) | refine arunD_kn 1 rfl (fun C hC => ?_)); (repeat ((conv => whnf); simp [e4, el])); refine hC _ ?_; clear hC C; simp only [List.drop, Nat.reduceAdd]) | (refine arun_skip ?_ ?_; (focus (simp [awant, e4, el]; done))) | (refine arun_c0 (p1) ?_; rintro _ rfl) | (refine arunD_skip ?_ ?_; (focus (simp [awant, e4, el]; done))) | (refine AW.regionK [] (fun K hK => ?_)) | (refine AW.regionDK [] (pcs [] []) (by kernel_rfl) (by kernel_rfl) (fun K hK => ?_)) | (refine AW.condT ?_ ?_; (focus (simp [aev, e4, el]; done))) | (refine AW.condF ?_ ?_; (focus (simp [aev, e4, el]; done))) | with_reducible refine AW.block ?_ | ((first | ((first | refine arun_nil ?_ | refine arunD_nil ?_); refine hK _ ?_; clear hK K) | refine AW.skip ?_ | refine AW.exit ?_ | refine AW.ret ?_); simp only [wE, if_true, if_false, Nat.reduceEqDiff, reduceIte])))
    exact ⟨.tup [zeroOA, .bool false], by simp [ares, aresL, upd, rowsOf_cons, zeroOA], tup2_pur zeroOA_pur pur_bool, .tup [oprA zeroO, .bool false], Wk.tup (.cons zeroOA_wk (.cons (Wk.refl _) .nil)), by rw [hb, n2o_no hb]⟩
  have hg : Good n := Good.ofV hv
  obtain ⟨a, b, c, d, hk⟩ : ∃ a b c d, n.kids = [a, b, c, d] := ⟨_, _, _, _, four hl⟩
  obtain ⟨o, ho⟩ : ∃ o : Opr, o = (((kdN b.text : Nat) : Int), txtsN c, txtsN a, d) := ⟨_, rfl⟩
  have hpo : partO n = o := by unfold partO; rw [hk, ho]; rfl
  have hbo : n2oB n = (oprB o && (cmpN (opOf o) n == 0)) := by
    unfold n2oB; rw [hv, hpo, hl, h4]; rfl
  have ga := hg.kid (show a ∈ n.kids by rw [hk]; simp)
  have gc := hg.kid (show c ∈ n.kids by rw [hk]; simp)
  have gd : validB d = true := validB_kid hv (by rw [hk]; simp)
  have pm := methods_AC
  have pa := pathOf_AC a ga.kids6
  have pc := pathOf_AC c gc.kids6
  have sd : Sml d := by
    obtain ⟨e, he⟩ := Good.ofV gd
    exact shape_sml d e he
  have pd := copyNode_AC d sd .loose
  rw [nodeT_loose] at pd
  have ca := node_clo a
  have cc := node_clo c
  have cd := node_clo d
  have id := node_in (U := fun _ => false) d
  have m3 : (strsE mets).length = 7 := rfl
  have m2 : mets.length = 7 := rfl
  have en : nodeL n = [.int .i64 4, .int .i64 n.num, .str n.text, .view .loose 1 (strsE n.names), .view .loose 5 [[.int .i64 a.kind, .int .i64 a.num, .str a.text, .view .loose 1 (strsE a.names), .view .loose 5 (a.kids.map nodeL)], [.int .i64 b.kind, .int .i64 b.num, .str b.text, .view .loose 1 (strsE b.names), .view .loose 5 (b.kids.map nodeL)], [.int .i64 c.kind, .int .i64 c.num, .str c.text, .view .loose 1 (strsE c.names), .view .loose 5 (c.kids.map nodeL)], [.int .i64 d.kind, .int .i64 d.num, .str d.text, .view .loose 1 (strsE d.names), .view .loose 5 (d.kids.map nodeL)]]] := by
    rw [nodeL_eq, hk, h4, ← nodeL_eq a, ← nodeL_eq b, ← nodeL_eq c, ← nodeL_eq d]; rfl
  have hik : ∀ U : Nat → Bool, AV.In U (.view .loose 5 ([a, b, c, d].map nodeL)) := fun U => in_view.2 (nodesE_in _)
  simp only [List.map_cons, List.map_nil, nodeL_eq] at hik
  unfold nodeA at p1 pa pc pd ca cc cd hcl id ⊢
  rw [nodeL_eq] at pa pc pd ca cc cd id
  rw [en] at p1 hcl ⊢
  refine AC.of tab_ok mixed_ok Try.func37 (by rfl) (by kernel_rfl) ?_; rintro ⟨P, T, hT, hm, w0, S0, rd0, k0⟩ hP hTT; dsimp only at hP hTT; subst hP hTT; unfold initSt; rw [Try.ntmps37]
  (repeat (first | with_reducible refine AW.seq ?_ | ((first | refine arun_kn 1 rfl (fun C hC => ?_) | refine arunD_kn 1 rfl (fun C hC => ?_)); (repeat ((conv => whnf); simp)); refine hC _ ?_; clear hC C; simp only [List.drop, Nat.reduceAdd]) | (refine arun_skip ?_ ?_; (focus (simp [awant]; done))) | (refine arun_c0 (p1) ?_; rintro _ rfl) | (refine arun_c0 (pm) ?_; rintro _ rfl) | (refine arunD_skip ?_ ?_; (focus (simp [awant]; done))) | (refine AW.regionK [] (fun K hK => ?_)) | (refine AW.regionDK [] (pcs [] []) (by kernel_rfl) (by kernel_rfl) (fun K hK => ?_)) | (refine AW.condT ?_ ?_; (focus (simp [aev]; done))) | (refine AW.condF ?_ ?_; (focus (simp [aev]; done))) | with_reducible refine AW.block ?_ | ((first | ((first | refine arun_nil ?_ | refine arunD_nil ?_); refine hK _ ?_; clear hK K) | refine AW.skip ?_ | refine AW.exit ?_ | refine AW.ret ?_); simp only [wE, if_true, if_false, Nat.reduceEqDiff, reduceIte])))
  refine AW.loopS (fun (i : Nat) => mkSt (slots 0 70 [(1, .ptr true 5 1 1 0 0), (2, .ptr true 8 1 2 0 0), (4, .view .loose 1 (strsE mets)), (5, .int .i64 (kdT b.text i)), (6, .int .i64 i)]) [(1, ⟨true, 30, 5, [nodeL n]⟩), (2, ⟨true, 48, 8, [[.int .i64 0, .view .tight 0 [], .view .tight 0 [], .int .i64 0, .int .i64 0, .str ⟨#[]⟩, .view .tight 0 [], .view .tight 0 []]]⟩)] [1, 2] (rd0.map fun _ => 0)) (fun i => 7 - i) (fun i => 1 ≤ i ∧ i ≤ 7) 1 ?_ ⟨Nat.le_refl _, by omega⟩ ?_
  · rw [en, kdT_one]
    exact (less_of (by simp [lessL, mkSt, slots, hik]) (by simp [upd, mkSt, rowsOf_cons, hik]) (by simp [upd, mkSt, usedOf_cons, hik]) (by first | exact rd_less (by omega) | simp [mkSt, hik]) (by simp [slots, in_any, in_int, in_bool, in_str, in_ptr, in_own, in_agg, in_vnil, in_rdr, usedOf_cons, usedOf_nil, strs_in, ints_in, nodes_in, in_tup, hik]) (by simp only [List.forall_mem_cons, List.not_mem_nil, false_implies, implies_true, and_true, true_and, hik]; (repeat (first | with_reducible exact trivial | with_reducible refine And.intro ?_ ?_ | with_reducible exact in_int | with_reducible exact in_str | with_reducible exact in_bool | with_reducible exact strs_in _ | with_reducible exact nodes_in _ | with_reducible exact items_in _ | with_reducible exact in_vnil | with_reducible exact in_any | exact hin _ | with_reducible refine take_in ?_ | with_reducible exact strsE_in _ | with_reducible exact nodesE_in _ | with_reducible exact nodeL_in _ | with_reducible exact itemsE_in _ | with_reducible exact itemL_in _ | with_reducible refine app_in ?_ ?_ | with_reducible refine sing_in ?_ | (focus (simp [in_any, in_int, in_bool, in_str, in_ptr, in_own, in_agg, in_vnil, in_rdr, usedOf_cons, usedOf_nil, strs_in, ints_in, nodes_in, hik]; done)))); done))
  rintro i ⟨hi1, hi7⟩
  rw [en]
  by_cases hlt : i < 7
  · have hlt' : (i : Int) < 7 := by omega
    have hw : IntKind.i64.wrap ((i : Int) + 1) = (i : Int) + 1 := i64_nat (by omega) (by omega)
    have m4 := fun h => mets_at hi1 (by omega) (k := i) h
    by_cases he : b.text = wd i
    · have e1 : eqs b.text (wd i) = true := eqs_iff.2 he
      have ek : kdT b.text (i + 1) = i := by conv => lhs; unfold kdT
                                             rw [if_pos ⟨hi1, he⟩]
      (repeat (first | with_reducible refine AW.seq ?_ | ((first | refine arun_kn 1 rfl (fun C hC => ?_) | refine arunD_kn 1 rfl (fun C hC => ?_)); (repeat ((conv => whnf); simp [hlt, hlt', m3, m2, m4, e1, hw])); refine hC _ ?_; clear hC C; simp only [List.drop, Nat.reduceAdd]) | (refine arun_skip ?_ ?_; (focus (simp [awant, hlt, hlt', m3, m2, m4, e1, hw]; done))) | (refine arunD_skip ?_ ?_; (focus (simp [awant, hlt, hlt', m3, m2, m4, e1, hw]; done))) | (refine AW.regionK [] (fun K hK => ?_)) | (refine AW.regionDK [] (pcs [] []) (by kernel_rfl) (by kernel_rfl) (fun K hK => ?_)) | (refine AW.condT ?_ ?_; (focus (simp [aev, hlt, hlt', m3, m2, m4, e1, hw]; done))) | (refine AW.condF ?_ ?_; (focus (simp [aev, hlt, hlt', m3, m2, m4, e1, hw]; done))) | with_reducible refine AW.block ?_ | ((first | ((first | refine arun_nil ?_ | refine arunD_nil ?_); refine hK _ ?_; clear hK K) | refine AW.skip ?_ | refine AW.exit ?_ | refine AW.ret ?_); simp only [wE, if_true, if_false, Nat.reduceEqDiff, reduceIte])))
      refine ⟨i + 1, by omega, ⟨by omega, by omega⟩, ?_⟩
      rw [ek]
      exact (less_of (by simp [lessL, mkSt, slots, hik]) (by simp [upd, mkSt, rowsOf_cons, hik]) (by simp [upd, mkSt, usedOf_cons, hik]) (by first | exact rd_less (by omega) | simp [mkSt, hik]) (by simp [slots, in_any, in_int, in_bool, in_str, in_ptr, in_own, in_agg, in_vnil, in_rdr, usedOf_cons, usedOf_nil, strs_in, ints_in, nodes_in, in_tup, hik]) (by simp only [List.forall_mem_cons, List.not_mem_nil, false_implies, implies_true, and_true, true_and, hik]; (repeat (first | with_reducible exact trivial | with_reducible refine And.intro ?_ ?_ | with_reducible exact in_int | with_reducible exact in_str | with_reducible exact in_bool | with_reducible exact strs_in _ | with_reducible exact nodes_in _ | with_reducible exact items_in _ | with_reducible exact in_vnil | with_reducible exact in_any | exact hin _ | with_reducible refine take_in ?_ | with_reducible exact strsE_in _ | with_reducible exact nodesE_in _ | with_reducible exact nodeL_in _ | with_reducible exact itemsE_in _ | with_reducible exact itemL_in _ | with_reducible refine app_in ?_ ?_ | with_reducible refine sing_in ?_ | (focus (simp [in_any, in_int, in_bool, in_str, in_ptr, in_own, in_agg, in_vnil, in_rdr, usedOf_cons, usedOf_nil, strs_in, ints_in, nodes_in, hik]; done)))); done))
    · have e1 : eqs b.text (wd i) = false := eqs_false.2 he
      have ek : kdT b.text (i + 1) = kdT b.text i := by conv => lhs; unfold kdT
                                                        rw [if_neg (fun h => he h.2)]
      (repeat (first | with_reducible refine AW.seq ?_ | ((first | refine arun_kn 1 rfl (fun C hC => ?_) | refine arunD_kn 1 rfl (fun C hC => ?_)); (repeat ((conv => whnf); simp [hlt, hlt', m3, m2, m4, e1, hw])); refine hC _ ?_; clear hC C; simp only [List.drop, Nat.reduceAdd]) | (refine arun_skip ?_ ?_; (focus (simp [awant, hlt, hlt', m3, m2, m4, e1, hw]; done))) | (refine arunD_skip ?_ ?_; (focus (simp [awant, hlt, hlt', m3, m2, m4, e1, hw]; done))) | (refine AW.regionK [] (fun K hK => ?_)) | (refine AW.regionDK [] (pcs [] []) (by kernel_rfl) (by kernel_rfl) (fun K hK => ?_)) | (refine AW.condT ?_ ?_; (focus (simp [aev, hlt, hlt', m3, m2, m4, e1, hw]; done))) | (refine AW.condF ?_ ?_; (focus (simp [aev, hlt, hlt', m3, m2, m4, e1, hw]; done))) | with_reducible refine AW.block ?_ | ((first | ((first | refine arun_nil ?_ | refine arunD_nil ?_); refine hK _ ?_; clear hK K) | refine AW.skip ?_ | refine AW.exit ?_ | refine AW.ret ?_); simp only [wE, if_true, if_false, Nat.reduceEqDiff, reduceIte])))
      refine ⟨i + 1, by omega, ⟨by omega, by omega⟩, ?_⟩
      rw [ek]
      exact (less_of (by simp [lessL, mkSt, slots, hik]) (by simp [upd, mkSt, rowsOf_cons, hik]) (by simp [upd, mkSt, usedOf_cons, hik]) (by first | exact rd_less (by omega) | simp [mkSt, hik]) (by simp [slots, in_any, in_int, in_bool, in_str, in_ptr, in_own, in_agg, in_vnil, in_rdr, usedOf_cons, usedOf_nil, strs_in, ints_in, nodes_in, in_tup, hik]) (by simp only [List.forall_mem_cons, List.not_mem_nil, false_implies, implies_true, and_true, true_and, hik]; (repeat (first | with_reducible exact trivial | with_reducible refine And.intro ?_ ?_ | with_reducible exact in_int | with_reducible exact in_str | with_reducible exact in_bool | with_reducible exact strs_in _ | with_reducible exact nodes_in _ | with_reducible exact items_in _ | with_reducible exact in_vnil | with_reducible exact in_any | exact hin _ | with_reducible refine take_in ?_ | with_reducible exact strsE_in _ | with_reducible exact nodesE_in _ | with_reducible exact nodeL_in _ | with_reducible exact itemsE_in _ | with_reducible exact itemL_in _ | with_reducible refine app_in ?_ ?_ | with_reducible refine sing_in ?_ | (focus (simp [in_any, in_int, in_bool, in_str, in_ptr, in_own, in_agg, in_vnil, in_rdr, usedOf_cons, usedOf_nil, strs_in, ints_in, nodes_in, hik]; done)))); done))
  obtain rfl : i = 7 := by omega
  have pv := validOp_AC o
  obtain ⟨k, hkd⟩ : ∃ k, k = kdT b.text 7 := ⟨_, rfl⟩
  rw [← hkd]
  have hok : o.1 = (k : Int) := by rw [ho, hkd]; rfl
  have eo : oprA o = .agg [.int .i64 (k : Int), .view .loose 1 (strsE (txtsN c)), .view .loose 1 (strsE (txtsN a)), .int .i64 d.kind, .int .i64 d.num, .str d.text, .view .loose 1 (strsE d.names), .view .loose 5 (d.kids.map nodeL)] := by
    unfold oprA; rw [hok, ho]
  have co := oprA_clo o
  have io := fun U => oprA_in (U := U) o
  rw [eo] at pv co io
  (repeat (first | with_reducible refine AW.seq ?_ | ((first | refine arun_kn 1 rfl (fun C hC => ?_) | refine arunD_kn 1 rfl (fun C hC => ?_)); (repeat ((conv => whnf); simp [m3, m2])); refine hC _ ?_; clear hC C; simp only [List.drop, Nat.reduceAdd]) | (refine arun_skip ?_ ?_; (focus (simp [awant, m3, m2]; done))) | (refine arunD_skip ?_ ?_; (focus (simp [awant, m3, m2]; done))) | (refine AW.regionK [] (fun K hK => ?_)) | (refine AW.condT ?_ ?_; (focus (simp [aev, m3, m2]; done))) | (refine AW.condF ?_ ?_; (focus (simp [aev, m3, m2]; done))) | with_reducible refine AW.block ?_ | ((first | ((first | refine arun_nil ?_ | refine arunD_nil ?_); refine hK _ ?_; clear hK K) | refine AW.skip ?_ | refine AW.exit ?_ | refine AW.ret ?_); simp only [wE, if_true, if_false, Nat.reduceEqDiff, reduceIte])))
  refine AW.regionDK [] (pcs [(5, 0, fun r => r = .view .loose 1 (strsE (txtsN c))), (10, 0, fun r => r = .view .loose 1 (strsE (txtsN a))), (15, 0, fun r => r = .agg [.int .i64 d.kind, .int .i64 d.num, .str d.text, .view .loose 1 (strsE d.names), .view .loose 5 (d.kids.map nodeL)])] []) (by kernel_rfl) (by kernel_rfl) (fun K hK => ?_)
  (repeat (first | with_reducible refine AW.seq ?_ | ((first | refine arun_kn 1 rfl (fun C hC => ?_) | refine arunD_kn 1 rfl (fun C hC => ?_)); (repeat ((conv => whnf); simp [m3, m2])); refine hC _ ?_; clear hC C; simp only [List.drop, Nat.reduceAdd]) | (refine arun_skip ?_ ?_; (focus (simp [awant, m3, m2]; done))) | (refine arun_c0 (pc) ?_; rintro _ rfl) | (refine arun_c0 (pa) ?_; rintro _ rfl) | (refine arun_c0 (pd) ?_; rintro _ rfl) | (refine arunD_skip ?_ ?_; (focus (simp [awant, m3, m2]; done))) | (refine arunD_cE (0) (pc) (by exact ⟨_, rfl, strs_in _⟩) ?_; rintro _ rfl; intro _) | (refine arunD_cE (0) (pa) (by exact ⟨_, rfl, strs_in _⟩) ?_; rintro _ rfl; intro _) | (refine arunD_cE (0) (pd) (by exact ⟨_, rfl, id⟩) ?_; rintro _ rfl; intro _) | (refine AW.regionK [] (fun K hK => ?_)) | (refine AW.condT ?_ ?_; (focus (simp [aev, m3, m2]; done))) | (refine AW.condF ?_ ?_; (focus (simp [aev, m3, m2]; done))) | with_reducible refine AW.block ?_ | ((first | ((first | refine arun_nil ?_ | refine arunD_nil ?_); refine hK _ ?_; clear hK K) | refine AW.skip ?_ | refine AW.exit ?_ | refine AW.ret ?_); simp only [wE, if_true, if_false, Nat.reduceEqDiff, reduceIte])))
  cases hvo : oprB o
  · have hb : n2oB n = false := by rw [hbo, hvo]; rfl
    rw [hvo] at pv
    refine AW.regionDK [] (pcs [(1, 0, fun r => r = .bool false)] []) (by kernel_rfl) (by kernel_rfl) (fun K hK => ?_)
    (repeat (first | with_reducible refine AW.seq ?_ | ((first | refine arun_kn 1 rfl (fun C hC => ?_) | refine arunD_kn 1 rfl (fun C hC => ?_)); (repeat ((conv => whnf); simp)); refine hC _ ?_; clear hC C; simp only [List.drop, Nat.reduceAdd]) | (refine arun_skip ?_ ?_; (focus (simp [awant]; done))) | (refine arun_c0 (pv) ?_; rintro _ rfl) | (refine arunD_skip ?_ ?_; (focus (simp [awant]; done))) | (refine arunD_cE (0) (pv) (by exact ⟨_, rfl, in_bool⟩) ?_; rintro _ rfl; intro _) | (refine AW.regionK [] (fun K hK => ?_)) | (refine AW.condT ?_ ?_; (focus (simp [aev]; done))) | (refine AW.condF ?_ ?_; (focus (simp [aev]; done))) | with_reducible refine AW.block ?_ | ((first | ((first | refine arun_nil ?_ | refine arunD_nil ?_); refine hK _ ?_; clear hK K) | refine AW.skip ?_ | refine AW.exit ?_ | refine AW.ret ?_); simp only [wE, if_true, if_false, Nat.reduceEqDiff, reduceIte])))
    exact ⟨.tup [zeroOA, .bool false], by simp [ares, aresL, upd, rowsOf_cons, zeroOA], tup2_pur zeroOA_pur pur_bool, .tup [oprA zeroO, .bool false], Wk.tup (.cons zeroOA_wk (.cons (Wk.refl _) .nil)), by rw [hb, n2o_no hb]⟩
  rw [hvo] at pv hbo
  have hvo' := hvo
  unfold oprB at hvo'
  simp only [Bool.and_eq_true] at hvo'
  obtain ⟨⟨⟨k1, q1⟩, q2⟩, q3⟩ := hvo'
  have k16 : 1 ≤ k ∧ k ≤ 6 := by
    unfold inR at k1
    rw [hok] at k1
    simp at k1
    omega
  have l1 : o.2.1.length ≤ 5 := by unfold pathB at q1; simp at q1; exact q1.1
  have l2 : o.2.2.1.length ≤ 5 := by unfold pathB at q2; simp at q2; exact q2.1
  have so : Sml o.2.2.2 := by rw [ho]; exact sd
  have po := opNode_AC o k hok k16.1 k16.2 l1 l2 so
  have go : Good (opOf o) := by
    obtain ⟨e, he⟩ := Good.ofV q3
    refine ⟨(e + 2) + 1, good_op ?_ ?_ q1 q2 (by omega) (shapeB_up _ e _ (by omega) he)⟩ <;> rw [hok] <;> simp <;> omega
  have ps := specSame_AC (opOf o) n go hg
  rw [eo] at po
  generalize opOf o = M at *
  have iM := node_in (U := fun _ => false) M
  have cM := node_clo M
  unfold nodeA at po ps iM cM
  rw [nodeL_eq M] at po ps iM cM
  rw [en] at ps
  generalize (cmpN M n == 0) = z at *
  refine AW.regionDK [] (pcs [(1, 0, fun r => r = .bool true), (5, 0, fun r => r = .agg [.int .i64 M.kind, .int .i64 M.num, .str M.text, .view .loose 1 (strsE M.names), .view .loose 5 (M.kids.map nodeL)]), (7, 0, fun r => r = .bool z)] []) (by kernel_rfl) (by kernel_rfl) (fun K hK => ?_)
  (repeat (first | with_reducible refine AW.seq ?_ | ((first | refine arun_kn 1 rfl (fun C hC => ?_) | refine arunD_kn 1 rfl (fun C hC => ?_)); (repeat ((conv => whnf); simp)); refine hC _ ?_; clear hC C; simp only [List.drop, Nat.reduceAdd]) | (refine arun_skip ?_ ?_; (focus (simp [awant]; done))) | (refine arun_c0 (pv) ?_; rintro _ rfl) | (refine arun_c0 (po) ?_; rintro _ rfl) | (refine arun_c0 (ps) ?_; rintro _ rfl) | (refine arunD_skip ?_ ?_; (focus (simp [awant]; done))) | (refine arunD_cE (0) (pv) (by exact ⟨_, rfl, in_bool⟩) ?_; rintro _ rfl; intro _) | (refine arunD_cE (0) (po) (by exact ⟨_, rfl, iM⟩) ?_; rintro _ rfl; intro _) | (refine arunD_cE (0) (ps) (by exact ⟨_, rfl, in_bool⟩) ?_; rintro _ rfl; intro _) | (refine AW.regionK [] (fun K hK => ?_)) | (refine AW.condT ?_ ?_; (focus (simp [aev]; done))) | (refine AW.condF ?_ ?_; (focus (simp [aev]; done))) | with_reducible refine AW.block ?_ | ((first | ((first | refine arun_nil ?_ | refine arunD_nil ?_); refine hK _ ?_; clear hK K) | refine AW.skip ?_ | refine AW.exit ?_ | refine AW.ret ?_); simp only [wE, if_true, if_false, Nat.reduceEqDiff, reduceIte])))
  cases z
  · have hb : n2oB n = false := by rw [hbo]; rfl
    (repeat (first | with_reducible refine AW.seq ?_ | ((first | refine arun_kn 1 rfl (fun C hC => ?_) | refine arunD_kn 1 rfl (fun C hC => ?_)); (repeat ((conv => whnf); simp)); refine hC _ ?_; clear hC C; simp only [List.drop, Nat.reduceAdd]) | (refine arun_skip ?_ ?_; (focus (simp [awant]; done))) | (refine arunD_skip ?_ ?_; (focus (simp [awant]; done))) | (refine AW.regionK [] (fun K hK => ?_)) | (refine AW.condT ?_ ?_; (focus (simp [aev]; done))) | (refine AW.condF ?_ ?_; (focus (simp [aev]; done))) | with_reducible refine AW.block ?_ | ((first | ((first | refine arun_nil ?_ | refine arunD_nil ?_); refine hK _ ?_; clear hK K) | refine AW.skip ?_ | refine AW.exit ?_ | refine AW.ret ?_); simp only [wE, if_true, if_false, Nat.reduceEqDiff, reduceIte])))
    exact ⟨.tup [zeroOA, .bool false], by simp [ares, aresL, upd, rowsOf_cons, zeroOA], tup2_pur zeroOA_pur pur_bool, .tup [oprA zeroO, .bool false], Wk.tup (.cons zeroOA_wk (.cons (Wk.refl _) .nil)), by rw [hb, n2o_no hb]⟩
  · have hb : n2oB n = true := by rw [hbo]; rfl
    (repeat (first | with_reducible refine AW.seq ?_ | ((first | refine arun_kn 1 rfl (fun C hC => ?_) | refine arunD_kn 1 rfl (fun C hC => ?_)); (repeat ((conv => whnf); simp)); refine hC _ ?_; clear hC C; simp only [List.drop, Nat.reduceAdd]) | (refine arun_skip ?_ ?_; (focus (simp [awant]; done))) | (refine arunD_skip ?_ ?_; (focus (simp [awant]; done))) | (refine AW.regionK [] (fun K hK => ?_)) | (refine AW.condT ?_ ?_; (focus (simp [aev]; done))) | (refine AW.condF ?_ ?_; (focus (simp [aev]; done))) | with_reducible refine AW.block ?_ | ((first | ((first | refine arun_nil ?_ | refine arunD_nil ?_); refine hK _ ?_; clear hK K) | refine AW.skip ?_ | refine AW.exit ?_ | refine AW.ret ?_); simp only [wE, if_true, if_false, Nat.reduceEqDiff, reduceIte])))
    refine ⟨.tup [oprA o, .bool true], by rw [eo]; simp [ares, aresL, upd, rowsOf_cons], tup2_pur (oprA_pur o) pur_bool, _, Wk.refl _, by rw [hb, n2o_yes hb, hpo]⟩
end Go.Proofs.Ytgfnmhfdmmnaoaa.Eng
-- EV: skip
namespace Go.Proofs.Ytgfnmhfdmmnaoaa.Eng
open Go Go.RowKit
attribute [local simp] big size_mk ASt.pay Option.map_map Function.comp_def awant aop acall ado aev ofVal ofVal0 ASt.put ASt.add ASt.turn ASt.kill abox aalloc astore aload aloadD astoreD idOf ASt.at cellsTo afieldAddr afield aindexAddr aindex alen abin aint acmp astr aun apick aextract anil aslice abound abuild afill abuildSlice asCells aps avCells over upd aappend asrc amax amin aconv mkSt slots rowsOf_cons rowsOf_nil usedOf_cons usedOf_nil ZK.av List.replicate ASt.back ASt.addL ASt.killL nodeA nodeT nodeTL_eq nodeL_eq strsE_get strsE_len intsE_get intsE_len strsE_at intsE_at tab2 tab3 tab4 tab5 tab6 tab7 tab8 tab9 tab10 tab11 tab12 tab13 tab14 tab15 tab16 tab17 tab18 tab19 tab21 tab22 tab23 tab24 tab25 tab26 tab27 tab28 tab29 tab30 tab39 tab40 tab41 tab42 tab43 tab47 tab48 tab55 tab56 tab57 tab60 tab61 tab62 tab73 tab74 tab75 tab85 tab92 tab115 tab116 tab143 tab144 tab145 tab154 tab155 tab170 tab175 tab182 tab197 tab198 tab203 tab204 tab205 tab207 tab208 tab209
set_option maxRecDepth 100000
set_option maxHeartbeats 16000000
def rStA (n : Nd) (b : Bool) (r : AV) : Prop := ∃ p : List ByteArray, (lstB n = true → p = txtsN n) ∧ r = .tup [.view .loose 1 (strsE p), .bool b]
theorem nodeToPath_AC (n : Nd) (hn : Good n) {b : Bool} (hb : b = (lstB n && pathB (txtsN n))) : AC Try.prog 98 [nodeA n] 0 (rStA n b) := by
  refine AC.weak ((nodeToPath_ACF n hn).toAC.mono ?_)
  rintro r ⟨g, p, h1, rfl⟩
  exact ⟨.tup [.view .loose 1 (strsE p), .bool b], Wk.tup (.cons (Wk.loose (by simp)) (.cons (by rw [hb]; exact Wk.refl _) .nil)), p, h1, rfl⟩
theorem NodeToOp_AC (n : Nd) : AC Try.prog 38 [nodeA n] 0 (fun r => r = .tup [oprA (n2oN n), .bool (n2oB n)]) := by
  refine AC.weak ?_
  have hno : n2oB n = false → ∃ r', Wk (.tup [zeroOA, .bool false]) r' ∧ r' = .tup [oprA (n2oN n), .bool (n2oB n)] := fun hb => ⟨.tup [oprA zeroO, .bool false], Wk.tup (.cons zeroOA_wk (.cons (Wk.refl _) .nil)), by rw [hb, n2o_no hb]⟩
  have p1 := ValidNode_AC n .loose
  rw [nodeT_loose] at p1
  have hcl := node_clo n
  cases hv : validB n
  · have hb : n2oB n = false := by unfold n2oB; rw [hv]; rfl
    rw [hv] at p1
    unfold nodeA at p1 hcl ⊢
    rw [nodeL_eq n] at p1 hcl ⊢
    refine AC.of tab_ok mixed_ok Try.func38 (by rfl) (by kernel_rfl) ?_; rintro ⟨P, T, hT, hm, w0, S0, rd0, k0⟩ hP hTT; dsimp only at hP hTT; subst hP hTT; unfold initSt; rw [Try.ntmps38]
    (repeat (first | with_reducible refine AW.seq ?_ | ((first | refine arun_kn 1 rfl (fun C hC => ?_) | refine arunD_kn 1 rfl (fun C hC => ?_)); (repeat ((conv => whnf); simp)); refine hC _ ?_; clear hC C; simp only [List.drop, Nat.reduceAdd]) | (refine arun_skip ?_ ?_; (focus (simp [awant]; done))) | (refine arun_c0 (p1) ?_; rintro _ rfl) | (refine arunD_skip ?_ ?_; (focus (simp [awant]; done))) | (refine AW.regionK [] (fun K hK => ?_)) | (refine AW.regionDK [] (pcs [] []) (by kernel_rfl) (by kernel_rfl) (fun K hK => ?_)) | (refine AW.condT ?_ ?_; (focus (simp [aev]; done))) | (refine AW.condF ?_ ?_; (focus (simp [aev]; done))) | with_reducible refine AW.block ?_ | ((first | ((first | refine arun_nil ?_ | refine arunD_nil ?_); refine hK _ ?_; clear hK K) | refine AW.skip ?_ | refine AW.exit ?_ | refine AW.ret ?_); simp only [wE, if_true, if_false, Nat.reduceEqDiff, reduceIte])))
    exact ⟨.tup [zeroOA, .bool false], by simp [ares, aresL, upd, rowsOf_cons, zeroOA], tup2_pur zeroOA_pur pur_bool, hno hb⟩
  rw [hv] at p1
  by_cases h4 : n.kind = 4
  rotate_left
  · have hb : n2oB n = false := by unfold n2oB; simp [h4]
    have e4 : (n.kind != 4) = true := by simpa using h4
    unfold nodeA at p1 hcl ⊢
    rw [nodeL_eq n] at p1 hcl ⊢
    refine AC.of tab_ok mixed_ok Try.func38 (by rfl) (by kernel_rfl) ?_; rintro ⟨P, T, hT, hm, w0, S0, rd0, k0⟩ hP hTT; dsimp only at hP hTT; subst hP hTT; unfold initSt; rw [Try.ntmps38]
    (repeat (first | with_reducible refine AW.seq ?_ | ((first | refine arun_kn 1 rfl (fun C hC => ?_) | refine arunD_kn 1 rfl (fun C hC => ?_)); (repeat ((conv => whnf); simp [e4])); refine hC _ ?_; clear hC C; simp only [List.drop, Nat.reduceAdd]) | (refine arun_skip ?_ ?_; (focus (simp [awant, e4]; done))) | (refine arun_c0 (p1) ?_; rintro _ rfl) | (refine arunD_skip ?_ ?_; (focus (simp [awant, e4]; done))) | (refine AW.regionK [] (fun K hK => ?_)) | (refine AW.regionDK [] (pcs [] []) (by kernel_rfl) (by kernel_rfl) (fun K hK => ?_)) | (refine AW.condT ?_ ?_; (focus (simp [aev, e4]; done))) | (refine AW.condF ?_ ?_; (focus (simp [aev, e4]; done))) | with_reducible refine AW.block ?_ | ((first | ((first | refine arun_nil ?_ | refine arunD_nil ?_); refine hK _ ?_; clear hK K) | refine AW.skip ?_ | refine AW.exit ?_ | refine AW.ret ?_); simp only [wE, if_true, if_false, Nat.reduceEqDiff, reduceIte])))
    exact ⟨.tup [zeroOA, .bool false], by simp [ares, aresL, upd, rowsOf_cons, zeroOA], tup2_pur zeroOA_pur pur_bool, hno hb⟩
  have e4 : (n.kind != 4) = false := by simp [h4]
  have hg : Good n := Good.ofV hv
  have hnl : n.names.length ≤ 1000 := by have := hg.kids6; have := (hg.map h4).2; omega
  have pq := equalS_AC .loose .tight n.names opNms hnl
  have eq0 : strsE opNms = [[.str ⟨#[102, 114, 111, 109]⟩], [.str ⟨#[111, 112]⟩], [.str ⟨#[112, 97, 116, 104]⟩], [.str ⟨#[118, 97, 108, 117, 101]⟩]] := rfl
  rw [eq0] at pq
  by_cases hnm : n.names = opNms
  rotate_left
  · have hb : n2oB n = false := by rw [(n2o_same n).symm]; unfold n2oI; simp [hnm]
    rw [decide_eq_false hnm] at pq
    unfold nodeA at p1 hcl ⊢
    rw [nodeL_eq n] at p1 hcl ⊢
    refine AC.of tab_ok mixed_ok Try.func38 (by rfl) (by kernel_rfl) ?_; rintro ⟨P, T, hT, hm, w0, S0, rd0, k0⟩ hP hTT; dsimp only at hP hTT; subst hP hTT; unfold initSt; rw [Try.ntmps38]
    (repeat (first | with_reducible refine AW.seq ?_ | ((first | refine arun_kn 1 rfl (fun C hC => ?_) | refine arunD_kn 1 rfl (fun C hC => ?_)); (repeat ((conv => whnf); simp [e4])); refine hC _ ?_; clear hC C; simp only [List.drop, Nat.reduceAdd]) | (refine arun_skip ?_ ?_; (focus (simp [awant, e4]; done))) | (refine arun_c0 (p1) ?_; rintro _ rfl) | (refine arun_c0 (pq) ?_; rintro _ rfl) | (refine arunD_skip ?_ ?_; (focus (simp [awant, e4]; done))) | (refine AW.regionK [] (fun K hK => ?_)) | (refine AW.regionDK [] (pcs [] []) (by kernel_rfl) (by kernel_rfl) (fun K hK => ?_)) | (refine AW.condT ?_ ?_; (focus (simp [aev, e4]; done))) | (refine AW.condF ?_ ?_; (focus (simp [aev, e4]; done))) | with_reducible refine AW.block ?_ | ((first | ((first | refine arun_nil ?_ | refine arunD_nil ?_); refine hK _ ?_; clear hK K) | refine AW.skip ?_ | refine AW.exit ?_ | refine AW.ret ?_); simp only [wE, if_true, if_false, Nat.reduceEqDiff, reduceIte])))
    exact ⟨.tup [zeroOA, .bool false], by simp [ares, aresL, upd, rowsOf_cons, zeroOA], tup2_pur zeroOA_pur pur_bool, hno hb⟩
  rw [decide_eq_true hnm] at pq
  have hl : n.kids.length = 4 := by rw [(hg.map h4).2, hnm]; rfl
  obtain ⟨a, b, c, d, hk⟩ : ∃ a b c d, n.kids = [a, b, c, d] := ⟨_, _, _, _, four hl⟩
  have ga := hg.kid (show a ∈ n.kids by rw [hk]; simp)
  have gc := hg.kid (show c ∈ n.kids by rw [hk]; simp)
  have gd : validB d = true := validB_kid hv (by rw [hk]; simp)
  obtain ⟨A1, hA1⟩ : ∃ A1, A1 = (lstB a && pathB (txtsN a)) := ⟨_, rfl⟩
  obtain ⟨C1, hC1⟩ : ∃ C1, C1 = (lstB c && pathB (txtsN c)) := ⟨_, rfl⟩
  have hI : n2oB n = (A1 && decide (b.kind = 2) && decide (1 ≤ kdN b.text) && C1) := by
    rw [(n2o_same n).symm, hA1, hC1]; unfold n2oI; rw [hv, h4, hnm, hk]
    simp [Bool.and_assoc]
  have hpo : partO n = (((kdN b.text : Nat) : Int), txtsN c, txtsN a, d) := by unfold partO; rw [hk]; rfl
  have sd : Sml d := by
    obtain ⟨e, he⟩ := Good.ofV gd
    exact shape_sml d e he
  have pa := nodeToPath_AC a ga hA1
  have pc := nodeToPath_AC c gc hC1
  have pd := implCopy_AC d sd
  have pn := numberOf_AC b.text
  have hcf : Clo (.fn 74 []) := clo_fn (fun c hc => by cases hc)
  have ca := node_clo a
  have cc := node_clo c
  have cd := node_clo d
  have en : nodeL n = [.int .i64 4, .int .i64 n.num, .str n.text, .view .loose 1 (strsE n.names), .view .loose 5 [[.int .i64 a.kind, .int .i64 a.num, .str a.text, .view .loose 1 (strsE a.names), .view .loose 5 (a.kids.map nodeL)], [.int .i64 b.kind, .int .i64 b.num, .str b.text, .view .loose 1 (strsE b.names), .view .loose 5 (b.kids.map nodeL)], [.int .i64 c.kind, .int .i64 c.num, .str c.text, .view .loose 1 (strsE c.names), .view .loose 5 (c.kids.map nodeL)], [.int .i64 d.kind, .int .i64 d.num, .str d.text, .view .loose 1 (strsE d.names), .view .loose 5 (d.kids.map nodeL)]]] := by
    rw [nodeL_eq, hk, h4, ← nodeL_eq a, ← nodeL_eq b, ← nodeL_eq c, ← nodeL_eq d]; rfl
  unfold nodeA at p1 pa pc pd ca cc cd hcl ⊢
  rw [nodeL_eq] at pa pc pd ca cc cd
  rw [en] at p1 hcl ⊢
  generalize hkk : kdN b.text = kk at *
  refine AC.of tab_ok mixed_ok Try.func38 (by rfl) (by kernel_rfl) ?_; rintro ⟨P, T, hT, hm, w0, S0, rd0, k0⟩ hP hTT; dsimp only at hP hTT; subst hP hTT; unfold initSt; rw [Try.ntmps38]
  (repeat (first | with_reducible refine AW.seq ?_ | ((first | refine arun_kn 1 rfl (fun C hC => ?_) | refine arunD_kn 1 rfl (fun C hC => ?_)); (repeat ((conv => whnf); simp [e4])); refine hC _ ?_; clear hC C; simp only [List.drop, Nat.reduceAdd]) | (refine arun_skip ?_ ?_; (focus (simp [awant, e4]; done))) | (refine arun_c0 (p1) ?_; rintro _ rfl) | (refine arun_c0 (pq) ?_; rintro _ rfl) | (refine arun_c0 (pa) ?_; (rintro _ ⟨pf, hpf, rfl⟩)) | (refine arunD_skip ?_ ?_; (focus (simp [awant, e4]; done))) | (refine AW.regionK [] (fun K hK => ?_)) | (refine AW.regionDK [] (pcs [] []) (by kernel_rfl) (by kernel_rfl) (fun K hK => ?_)) | (refine AW.condT ?_ ?_; (focus (simp [aev, e4]; done))) | (refine AW.condF ?_ ?_; (focus (simp [aev, e4]; done))) | with_reducible refine AW.block ?_ | ((first | ((first | refine arun_nil ?_ | refine arunD_nil ?_); refine hK _ ?_; clear hK K) | refine AW.skip ?_ | refine AW.exit ?_ | refine AW.ret ?_); simp only [wE, if_true, if_false, Nat.reduceEqDiff, reduceIte])))
  cases A1
  · have hb : n2oB n = false := by rw [hI]; rfl
    (repeat (first | with_reducible refine AW.seq ?_ | ((first | refine arun_kn 1 rfl (fun C hC => ?_) | refine arunD_kn 1 rfl (fun C hC => ?_)); (repeat ((conv => whnf); simp)); refine hC _ ?_; clear hC C; simp only [List.drop, Nat.reduceAdd]) | (refine arun_skip ?_ ?_; (focus (simp [awant]; done))) | (refine arunD_skip ?_ ?_; (focus (simp [awant]; done))) | (refine AW.regionK [] (fun K hK => ?_)) | (refine AW.regionDK [] (pcs [] []) (by kernel_rfl) (by kernel_rfl) (fun K hK => ?_)) | (refine AW.condT ?_ ?_; (focus (simp [aev]; done))) | (refine AW.condF ?_ ?_; (focus (simp [aev]; done))) | with_reducible refine AW.block ?_ | ((first | ((first | refine arun_nil ?_ | refine arunD_nil ?_); refine hK _ ?_; clear hK K) | refine AW.skip ?_ | refine AW.exit ?_ | refine AW.ret ?_); simp only [wE, if_true, if_false, Nat.reduceEqDiff, reduceIte])))
    exact ⟨.tup [zeroOA, .bool false], by simp [ares, aresL, upd, rowsOf_cons, zeroOA], tup2_pur zeroOA_pur pur_bool, hno hb⟩
  by_cases hb2 : b.kind = 2
  rotate_left
  · have hb : n2oB n = false := by rw [hI]; simp [hb2]
    have e2 : (b.kind != 2) = true := by simpa using hb2
    (repeat (first | with_reducible refine AW.seq ?_ | ((first | refine arun_kn 1 rfl (fun C hC => ?_) | refine arunD_kn 1 rfl (fun C hC => ?_)); (repeat ((conv => whnf); simp [e2])); refine hC _ ?_; clear hC C; simp only [List.drop, Nat.reduceAdd]) | (refine arun_skip ?_ ?_; (focus (simp [awant, e2]; done))) | (refine arunD_skip ?_ ?_; (focus (simp [awant, e2]; done))) | (refine AW.regionK [] (fun K hK => ?_)) | (refine AW.regionDK [] (pcs [] []) (by kernel_rfl) (by kernel_rfl) (fun K hK => ?_)) | (refine AW.condT ?_ ?_; (focus (simp [aev, e2]; done))) | (refine AW.condF ?_ ?_; (focus (simp [aev, e2]; done))) | with_reducible refine AW.block ?_ | ((first | ((first | refine arun_nil ?_ | refine arunD_nil ?_); refine hK _ ?_; clear hK K) | refine AW.skip ?_ | refine AW.exit ?_ | refine AW.ret ?_); simp only [wE, if_true, if_false, Nat.reduceEqDiff, reduceIte])))
    exact ⟨.tup [zeroOA, .bool false], by simp [ares, aresL, upd, rowsOf_cons, zeroOA], tup2_pur zeroOA_pur pur_bool, hno hb⟩
  have e2 : (b.kind != 2) = false := by simp [hb2]
  (repeat (first | with_reducible refine AW.seq ?_ | ((first | refine arun_kn 1 rfl (fun C hC => ?_) | refine arunD_kn 1 rfl (fun C hC => ?_)); (repeat ((conv => whnf); simp [e2])); refine hC _ ?_; clear hC C; simp only [List.drop, Nat.reduceAdd]) | (refine arun_skip ?_ ?_; (focus (simp [awant, e2]; done))) | (refine arun_c0 (pn) ?_; rintro _ rfl) | (refine arunD_skip ?_ ?_; (focus (simp [awant, e2]; done))) | (refine AW.regionK [] (fun K hK => ?_)) | (refine AW.regionDK [] (pcs [] []) (by kernel_rfl) (by kernel_rfl) (fun K hK => ?_)) | (refine AW.condT ?_ ?_; (focus (simp [aev, e2]; done))) | (refine AW.condF ?_ ?_; (focus (simp [aev, e2]; done))) | with_reducible refine AW.block ?_ | ((first | ((first | refine arun_nil ?_ | refine arunD_nil ?_); refine hK _ ?_; clear hK K) | refine AW.skip ?_ | refine AW.exit ?_ | refine AW.ret ?_); simp only [wE, if_true, if_false, Nat.reduceEqDiff, reduceIte])))
  by_cases hkd : 1 ≤ kk
  rotate_left
  · have hb : n2oB n = false := by rw [hI]; simp [hkd]
    (repeat (first | with_reducible refine AW.seq ?_ | ((first | refine arun_kn 1 rfl (fun C hC => ?_) | refine arunD_kn 1 rfl (fun C hC => ?_)); (repeat ((conv => whnf); simp [hkd])); refine hC _ ?_; clear hC C; simp only [List.drop, Nat.reduceAdd]) | (refine arun_skip ?_ ?_; (focus (simp [awant, hkd]; done))) | (refine arunD_skip ?_ ?_; (focus (simp [awant, hkd]; done))) | (refine AW.regionK [] (fun K hK => ?_)) | (refine AW.regionDK [] (pcs [] []) (by kernel_rfl) (by kernel_rfl) (fun K hK => ?_)) | (refine AW.condT ?_ ?_; (focus (simp [aev, hkd]; done))) | (refine AW.condF ?_ ?_; (focus (simp [aev, hkd]; done))) | with_reducible refine AW.block ?_ | ((first | ((first | refine arun_nil ?_ | refine arunD_nil ?_); refine hK _ ?_; clear hK K) | refine AW.skip ?_ | refine AW.exit ?_ | refine AW.ret ?_); simp only [wE, if_true, if_false, Nat.reduceEqDiff, reduceIte])))
    exact ⟨.tup [zeroOA, .bool false], by simp [ares, aresL, upd, rowsOf_cons, zeroOA], tup2_pur zeroOA_pur pur_bool, hno hb⟩
  (repeat (first | with_reducible refine AW.seq ?_ | ((first | refine arun_kn 1 rfl (fun C hC => ?_) | refine arunD_kn 1 rfl (fun C hC => ?_)); (repeat ((conv => whnf); simp [hkd])); refine hC _ ?_; clear hC C; simp only [List.drop, Nat.reduceAdd]) | (refine arun_skip ?_ ?_; (focus (simp [awant, hkd]; done))) | (refine arun_c0 (pc) ?_; (rintro _ ⟨pp, hpp, rfl⟩)) | (refine arunD_skip ?_ ?_; (focus (simp [awant, hkd]; done))) | (refine AW.regionK [] (fun K hK => ?_)) | (refine AW.regionDK [] (pcs [] []) (by kernel_rfl) (by kernel_rfl) (fun K hK => ?_)) | (refine AW.condT ?_ ?_; (focus (simp [aev, hkd]; done))) | (refine AW.condF ?_ ?_; (focus (simp [aev, hkd]; done))) | with_reducible refine AW.block ?_ | ((first | ((first | refine arun_nil ?_ | refine arunD_nil ?_); refine hK _ ?_; clear hK K) | refine AW.skip ?_ | refine AW.exit ?_ | refine AW.ret ?_); simp only [wE, if_true, if_false, Nat.reduceEqDiff, reduceIte])))
  cases C1
  · have hb : n2oB n = false := by rw [hI]; simp
    (repeat (first | with_reducible refine AW.seq ?_ | ((first | refine arun_kn 1 rfl (fun C hC => ?_) | refine arunD_kn 1 rfl (fun C hC => ?_)); (repeat ((conv => whnf); simp)); refine hC _ ?_; clear hC C; simp only [List.drop, Nat.reduceAdd]) | (refine arun_skip ?_ ?_; (focus (simp [awant]; done))) | (refine arunD_skip ?_ ?_; (focus (simp [awant]; done))) | (refine AW.regionK [] (fun K hK => ?_)) | (refine AW.regionDK [] (pcs [] []) (by kernel_rfl) (by kernel_rfl) (fun K hK => ?_)) | (refine AW.condT ?_ ?_; (focus (simp [aev]; done))) | (refine AW.condF ?_ ?_; (focus (simp [aev]; done))) | with_reducible refine AW.block ?_ | ((first | ((first | refine arun_nil ?_ | refine arunD_nil ?_); refine hK _ ?_; clear hK K) | refine AW.skip ?_ | refine AW.exit ?_ | refine AW.ret ?_); simp only [wE, if_true, if_false, Nat.reduceEqDiff, reduceIte])))
    exact ⟨.tup [zeroOA, .bool false], by simp [ares, aresL, upd, rowsOf_cons, zeroOA], tup2_pur zeroOA_pur pur_bool, hno hb⟩
  have hb : n2oB n = true := by rw [hI]; simp [hb2, hkd]
  have la : lstB a = true := by
    have h := hA1.symm
    rw [Bool.and_eq_true] at h; exact h.1
  have lc : lstB c = true := by
    have h := hC1.symm
    rw [Bool.and_eq_true] at h; exact h.1
  obtain rfl := hpf la
  obtain rfl := hpp lc
  (repeat (first | with_reducible refine AW.seq ?_ | ((first | refine arun_kn 1 rfl (fun C hC => ?_) | refine arunD_kn 1 rfl (fun C hC => ?_)); (repeat ((conv => whnf); simp)); refine hC _ ?_; clear hC C; simp only [List.drop, Nat.reduceAdd]) | (refine arun_skip ?_ ?_; (focus (simp [awant]; done))) | (refine arun_c0 (pd) ?_; rintro _ rfl) | (refine arunD_skip ?_ ?_; (focus (simp [awant]; done))) | (refine AW.regionK [] (fun K hK => ?_)) | (refine AW.regionDK [] (pcs [] []) (by kernel_rfl) (by kernel_rfl) (fun K hK => ?_)) | (refine AW.condT ?_ ?_; (focus (simp [aev]; done))) | (refine AW.condF ?_ ?_; (focus (simp [aev]; done))) | with_reducible refine AW.block ?_ | ((first | ((first | refine arun_nil ?_ | refine arunD_nil ?_); refine hK _ ?_; clear hK K) | refine AW.skip ?_ | refine AW.exit ?_ | refine AW.ret ?_); simp only [wE, if_true, if_false, Nat.reduceEqDiff, reduceIte])))
  have eo : n2oN n = ((kk : Int), txtsN c, txtsN a, d) := by rw [n2o_yes hb, hpo]
  rw [hb, eo]
  exact ⟨.tup [oprA ((kk : Int), txtsN c, txtsN a, d), .bool true], by simp [ares, aresL, upd, rowsOf_cons, oprA], tup2_pur (oprA_pur _) pur_bool, _, Wk.refl _, rfl⟩
end Go.Proofs.Ytgfnmhfdmmnaoaa.Eng
-- EV: rows skip
namespace Go.Proofs.Ytgfnmhfdmmnaoaa.Eng
open Go Go.RowKit
attribute [local simp] big size_mk ASt.pay Option.map_map Function.comp_def awant aop acall ado aev ofVal ofVal0 ASt.put ASt.add ASt.turn ASt.kill abox aalloc astore aload aloadD astoreD idOf ASt.at cellsTo afieldAddr afield aindexAddr aindex alen abin aint acmp astr aun apick aextract anil aslice abound abuild afill abuildSlice asCells aps avCells over upd aappend asrc amax amin aconv mkSt slots rowsOf_cons rowsOf_nil usedOf_cons usedOf_nil ZK.av List.replicate ASt.back ASt.addL ASt.killL nodeA nodeT nodeTL_eq nodeL_eq strsE_get strsE_len intsE_get intsE_len strsE_at intsE_at nodeN namesRow nodeO kidsRow tab2 tab3 tab4 tab5 tab6 tab7 tab8 tab9 tab10 tab11 tab12 tab13 tab14 tab15 tab16 tab17 tab18 tab19 tab21 tab22 tab23 tab24 tab25 tab26 tab27 tab28 tab29 tab30 tab39 tab40 tab41 tab42 tab43 tab47 tab48 tab55 tab56 tab57 tab60 tab61 tab62 tab73 tab74 tab75 tab85 tab92 tab115 tab116 tab143 tab144 tab145 tab154 tab155 tab170 tab175 tab182 tab197 tab198 tab203 tab204 tab205 tab207 tab208 tab209
theorem o2nB_parts {o : Opr} (h : o2nB o = true) : o.2.1.length ≤ 1000 ∧ o.2.2.1.length ≤ 1000 ∧ Sml o.2.2.2 := by
  unfold o2nB at h
  rw [Bool.and_eq_true] at h
  obtain ⟨k, hk, k1, k6, hp, hf, hvv⟩ := oprB_parts h.1
  have l1 : o.2.1.length ≤ 5 := by unfold pathB at hp; simp at hp; exact hp.1
  have l2 : o.2.2.1.length ≤ 5 := by unfold pathB at hf; simp at hf; exact hf.1
  exact ⟨by omega, by omega, (Shp.of hvv).sml⟩
theorem oprV_clo (o : Opr) : Clo (.view .tight 8 [oprC o]) := (pur_view (by decide) (by
  unfold oprC
  simp only [List.forall_mem_cons, List.not_mem_nil, false_implies, implies_true, and_true]
  exact ⟨pur_int, strs_pur _ (by decide), strs_pur _ (by decide), pur_int, pur_int, pur_str, strs_pur _ (by decide), nodes_pur _ (by decide)⟩)).clo
set_option maxRecDepth 100000
set_option maxHeartbeats 16000000
theorem lawNodeToOp_AC0 (zs : List Int) (hb : ByteL zs) : AC0 Try.prog 11 [.view .loose 1 (bytesE zs)] (fun r => r = .bool true) := by
  refine AC0.of tab_ok mixed_ok Try.func11 (by rfl) (by kernel_rfl) ?_; rintro ⟨P, T, hT, hm, w0, S0, rd0, k0⟩ hP hTT hk0; dsimp only at hP hTT hk0; subst hP hTT hk0; unfold initSt; rw [Try.ntmps11]
  by_cases hl : zs.length ≤ 1048576
  · have hl' : ¬ ((1048576 : Int) < (zs.length : Int)) := by omega
    (repeat (first | with_reducible refine AW.seq ?_ | ((first | refine arun_kn 1 rfl (fun C hC => ?_) | refine arunD_kn 1 rfl (fun C hC => ?_)); (repeat ((conv => whnf); simp [bytesE_len, hl'])); refine hC _ ?_; clear hC C; simp only [List.drop, Nat.reduceAdd]) | (refine arun_skip ?_ ?_; (focus (simp [awant, bytesE_len, hl']; done))) | (refine arun_cZ (drawNodeToOp_AC0 zs hl hb) ?_; (rintro _ ⟨n, hn, rfl⟩)) | (refine arunD_skip ?_ ?_; (focus (simp [awant, bytesE_len, hl']; done))) | (refine AW.regionK [] (fun K hK => ?_)) | (refine AW.regionDK [] (pcs [] []) (by kernel_rfl) (by kernel_rfl) (fun K hK => ?_)) | (refine AW.condT ?_ ?_; (focus (simp [aev, bytesE_len, hl']; done))) | (refine AW.condF ?_ ?_; (focus (simp [aev, bytesE_len, hl']; done))) | with_reducible refine AW.block ?_ | ((first | ((first | refine arun_nil ?_ | refine arunD_nil ?_); refine hK _ ?_; clear hK K) | refine AW.skip ?_ | refine AW.exit ?_ | refine AW.ret ?_); simp only [wE, if_true, if_false, Nat.reduceEqDiff, reduceIte])))
    have p1 := NodeToOp_AC n
    have p2 := specNodeToOp_AC n
    have p3 := equalNode_AC n hn .loose .loose
    rw [nodeT_loose] at p3
    have hcn := node_clo n
    have hrt := fun h => o2n_n2o (n := n) h
    have hbb : ∀ b : Bool, (b != b) = false := fun b => by cases b <;> rfl
    cases hb2 : n2oB n
    · have hz : n2oN n = zeroO := by unfold n2oN; rw [hb2]; rfl
      have hcv := oprV_clo zeroO
      have p5 := equalOps1_AC zeroO (by decide) (by decide) (Shp.of (n := Nd.zero) (by decide +kernel)).sml
      have hco := oprA_clo zeroO
      rw [hb2, hz] at p1 p2
      clear hrt hz
      generalize zeroO = o at *
      unfold nodeA at p1 p2 p3 hcn
      rw [nodeL_eq n] at p1 p2 p3 hcn
      unfold oprA at p1 p2 hco
      unfold oprC at p5 hcv
      (repeat (first | with_reducible refine AW.seq ?_ | ((first | refine arun_kn 1 rfl (fun C hC => ?_) | refine arunD_kn 1 rfl (fun C hC => ?_)); (repeat ((conv => whnf); simp)); refine hC _ ?_; clear hC C; simp only [List.drop, Nat.reduceAdd]) | (refine arun_skip ?_ ?_; (focus (simp [awant]; done))) | (refine arun_c0 (p1) ?_; rintro _ rfl) | (refine arun_c0 (p2) ?_; rintro _ rfl) | (refine arun_c0 (p5) ?_; rintro _ rfl) | (refine arunD_skip ?_ ?_; (focus (simp [awant]; done))) | (refine AW.regionK [] (fun K hK => ?_)) | (refine AW.regionDK [] (pcs [] []) (by kernel_rfl) (by kernel_rfl) (fun K hK => ?_)) | (refine AW.condT ?_ ?_; (focus (simp [aev]; done))) | (refine AW.condF ?_ ?_; (focus (simp [aev]; done))) | with_reducible refine AW.block ?_ | ((first | ((first | refine arun_nil ?_ | refine arunD_nil ?_); refine hK _ ?_; clear hK K) | refine AW.skip ?_ | refine AW.exit ?_ | refine AW.ret ?_); simp only [wE, if_true, if_false, Nat.reduceEqDiff, reduceIte])))
      exact ⟨.bool true, by simp [ares, aresL], pur_bool, rfl⟩
    · obtain ⟨r1, r2⟩ := hrt hb2
      obtain ⟨l1, l2, l3⟩ := o2nB_parts r1
      have p5 := equalOps1_AC (n2oN n) l1 l2 l3
      have hcv := oprV_clo (n2oN n)
      have p4 := implOpToNode_AC (n2oN n) l3
      have hco := oprA_clo (n2oN n)
      rw [r1, r2] at p4
      rw [hb2] at p1 p2
      clear hrt r1 r2 l1 l2 l3
      generalize n2oN n = o at *
      unfold nodeA at p1 p2 p3 p4 hcn
      rw [nodeL_eq n] at p1 p2 p3 p4 hcn
      unfold oprA at p1 p2 p4 hco
      unfold oprC at p5 hcv
      (repeat (first | with_reducible refine AW.seq ?_ | ((first | refine arun_kn 1 rfl (fun C hC => ?_) | refine arunD_kn 1 rfl (fun C hC => ?_)); (repeat ((conv => whnf); simp)); refine hC _ ?_; clear hC C; simp only [List.drop, Nat.reduceAdd]) | (refine arun_skip ?_ ?_; (focus (simp [awant]; done))) | (refine arun_c0 (p1) ?_; rintro _ rfl) | (refine arun_c0 (p2) ?_; rintro _ rfl) | (refine arun_c0 (p5) ?_; rintro _ rfl) | (refine arun_c0 (p4) ?_; rintro _ rfl) | (refine arun_c0 (p3) ?_; rintro _ rfl) | (refine arunD_skip ?_ ?_; (focus (simp [awant]; done))) | (refine AW.regionK [] (fun K hK => ?_)) | (refine AW.regionDK [] (pcs [] []) (by kernel_rfl) (by kernel_rfl) (fun K hK => ?_)) | (refine AW.condT ?_ ?_; (focus (simp [aev]; done))) | (refine AW.condF ?_ ?_; (focus (simp [aev]; done))) | with_reducible refine AW.block ?_ | ((first | ((first | refine arun_nil ?_ | refine arunD_nil ?_); refine hK _ ?_; clear hK K) | refine AW.skip ?_ | refine AW.exit ?_ | refine AW.ret ?_); simp only [wE, if_true, if_false, Nat.reduceEqDiff, reduceIte])))
      exact ⟨.bool true, by simp [ares, aresL], pur_bool, rfl⟩
  · have hl' : (1048576 : Int) < (zs.length : Int) := by omega
    (repeat (first | with_reducible refine AW.seq ?_ | ((first | refine arun_kn 1 rfl (fun C hC => ?_) | refine arunD_kn 1 rfl (fun C hC => ?_)); (repeat ((conv => whnf); simp [bytesE_len, hl'])); refine hC _ ?_; clear hC C; simp only [List.drop, Nat.reduceAdd]) | (refine arun_skip ?_ ?_; (focus (simp [awant, bytesE_len, hl']; done))) | (refine arunD_skip ?_ ?_; (focus (simp [awant, bytesE_len, hl']; done))) | (refine AW.regionK [] (fun K hK => ?_)) | (refine AW.regionDK [] (pcs [] []) (by kernel_rfl) (by kernel_rfl) (fun K hK => ?_)) | (refine AW.condT ?_ ?_; (focus (simp [aev, bytesE_len, hl']; done))) | (refine AW.condF ?_ ?_; (focus (simp [aev, bytesE_len, hl']; done))) | with_reducible refine AW.block ?_ | ((first | ((first | refine arun_nil ?_ | refine arunD_nil ?_); refine hK _ ?_; clear hK K) | refine AW.skip ?_ | refine AW.exit ?_ | refine AW.ret ?_); simp only [wE, if_true, if_false, Nat.reduceEqDiff, reduceIte])))
    exact ⟨.bool true, by simp [ares, aresL], pur_bool, rfl⟩
end Go.Proofs.Ytgfnmhfdmmnaoaa.Eng
