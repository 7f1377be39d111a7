/-
  Texts of this claim, joined.
-/
import Derived.Test.YtgfnmhfdmmnaoaaNqF

set_option linter.unusedSimpArgs false
set_option linter.unusedVariables false
set_option linter.unnecessarySimpa false
set_option maxRecDepth 100000
set_option maxHeartbeats 16000000
-- EV: rows
namespace Go.Proofs.Ytgfnmhfdmmnaoaa.Eng
open Go Go.RowKit
attribute [local simp] big size_mk ASt.pay Option.map_map Function.comp_def awant aop acall ado aev ofVal ofVal0 ASt.put ASt.add ASt.turn ASt.kill abox aalloc astore aload aloadD astoreD idOf ASt.at cellsTo afieldAddr afield aindexAddr aindex alen abin aint acmp astr aun apick aextract anil aslice abound abuild afill abuildSlice asCells aps avCells over upd aappend asrc amax amin aconv mkSt slots rowsOf_cons rowsOf_nil usedOf_cons usedOf_nil ZK.av List.replicate ASt.back ASt.addL ASt.killL nodeA nodeT nodeTL_eq nodeL_eq strsE_get strsE_len intsE_get intsE_len strsE_at intsE_at nodeN namesRow nodeO kidsRow tab2 tab3 tab4 tab5 tab6 tab7 tab8 tab9 tab10 tab11 tab12 tab13 tab14 tab15 tab16 tab17 tab18 tab19 tab21 tab22 tab23 tab24 tab25 tab26 tab27 tab28 tab29 tab30 tab39 tab40 tab41 tab42 tab43 tab47 tab48 tab55 tab56 tab57 tab60 tab61 tab62 tab73 tab74 tab75 tab85 tab92 tab115 tab116 tab143 tab144 tab145 tab154 tab155 tab170 tab175 tab182 tab197 tab198 tab203 tab204 tab205 tab207 tab208 tab209
theorem nodeO_res (n : Nd) (id0 : Nat) : Res1 id0 (nodeO n) := Res1.agg [fun _ => .int .i64 n.kind, fun _ => .int .i64 n.num, fun _ => .str n.text, fun _ => .view .loose 1 (strsE n.names), fun id => .own id n.kids.length] (by
  simp only [List.forall_mem_cons, List.not_mem_nil, false_implies, implies_true, and_true]
  exact ⟨Res1.pur _ pur_int, Res1.pur _ pur_int, Res1.pur _ pur_str, Res1.pur _ (strs_pur _ (by decide)), Res1.own _ _⟩)
theorem optA_in (o : Option Nd) : NoId (optA o) := by
  unfold optA NoId
  have h := node_in (U := fun _ => false) (o.getD Nd.zero)
  unfold nodeA at h
  rw [nodeL_eq] at h
  simp [in_tup, in_bool]
  exact h
def optL (o : Option Nd) : AV := .tup [.agg [.int .i64 (o.getD Nd.zero).kind, .int .i64 (o.getD Nd.zero).num, .str (o.getD Nd.zero).text, .view .loose 1 (strsE (o.getD Nd.zero).names), .view .loose 5 ((o.getD Nd.zero).kids.map nodeL)], .bool o.isSome]
theorem optA_eq (o : Option Nd) : optA o = optL o := by unfold optA optL nodeA; rw [nodeL_eq]
theorem optL_in (o : Option Nd) : NoId (optL o) := by rw [← optA_eq]; exact optA_in o
theorem optA_pur (o : Option Nd) : Pur (optA o) := tup2_pur (node_pur _) pur_bool
theorem optN_in : NoId (.tup [.agg [.int .i64 0, .int .i64 0, .str ⟨#[]⟩, .view .loose 1 [], .view .loose 5 []], .bool false]) := by
  have h := optA_in none
  unfold optA nodeA at h
  rw [show nodeL ((none : Option Nd).getD Nd.zero) = nodeL Nd.zero from rfl, zeroA] at h
  exact h
theorem optS_in (m : Nd) : NoId (.tup [.agg [.int .i64 m.kind, .int .i64 m.num, .str m.text, .view .loose 1 (strsE m.names), .view .loose 5 (m.kids.map nodeL)], .bool true]) := by
  have h := optA_in (some m)
  unfold optA nodeA at h
  rw [show nodeL ((some m : Option Nd).getD Nd.zero) = nodeL m from rfl, nodeL_eq] at h
  exact h
theorem kids_set (n v : Nd) (k : Nat) : (setK n k v).kids.map nodeL = (n.kids.map nodeL).set k (nodeL v) := by simp [setK, List.map_set]
theorem withKid_ACR (n v : Nd) (k : Nat) (hn : Sml n) (hv : Sml v) (hk : k < n.kids.length) : ACR Try.prog 156 [nodeA n, .int .i64 k, nodeA v] 0 (fun _ => False) (fun f R => f = nodeO (setK n k v) ∧ R = kidsRow (setK n k v)) := by
  unfold nodeA
  rw [nodeL_eq n, nodeL_eq v]
  refine ACR.of tab_ok mixed_ok Try.func156 (by rfl) (by kernel_rfl) ?_; rintro ⟨P, T, hT, hm, w0, S0, rd0, k0⟩ hP hTT; dsimp only at hP hTT; subst hP hTT; unfold initSt; rw [Try.ntmps156]
  (repeat (first | with_reducible refine AW.seq ?_ | ((first | refine arun_kn 1 rfl (fun C hC => ?_) | refine arunD_kn 1 rfl (fun C hC => ?_)); (repeat ((conv => whnf); simp [hk])); refine hC _ ?_; clear hC C; simp only [List.drop, Nat.reduceAdd]) | (refine arun_skip ?_ ?_; (focus (simp [awant, hk]; done))) | (refine arun_cR (0) 30 (copyNode_ACR n hn .loose) ?_; (rintro _ _ ⟨rfl, rfl⟩; unfold nodeO kidsRow)) | (refine arun_c0 (copyNode_AC v hv .loose) ?_; rintro _ rfl) | (refine arunD_c (0) (copyNode_AC v hv .loose) ?_; rintro _ rfl; intro _) | (refine AW.regionK [] (fun K hK => ?_)) | (refine AW.regionDK [] (pcs [(4, 0, fun r => r = nodeA v)] []) (by kernel_rfl) (by kernel_rfl) (fun K hK => ?_)) | (refine AW.condT ?_ ?_; (focus (simp [aev, hk]; done))) | (refine AW.condF ?_ ?_; (focus (simp [aev, hk]; done))) | with_reducible refine AW.block ?_ | ((first | ((first | refine arun_nil ?_ | refine arunD_nil ?_); refine hK _ ?_; clear hK K) | refine AW.skip ?_ | refine AW.exit ?_ | refine AW.ret ?_); simp only [wE, if_true, if_false, Nat.reduceEqDiff, reduceIte])))
  exact ⟨nodeO (setK n k v) 30, by simp [nodeO, setK, ares, aresL, upd, rowsOf_cons], .inr ⟨nodeO (setK n k v), 30, kidsRow (setK n k v), rfl, by unfold kidsRow; rw [kids_set]; simp [upd, kidsRow, nodeL_eq], nodeO_res _ 30, nodesE_pur _, rfl, rfl⟩⟩
theorem withKid_AC (n v : Nd) (k : Nat) (hn : Sml n) (hv : Sml v) (hk : k < n.kids.length) : AC Try.prog 156 [nodeA n, .int .i64 k, nodeA v] 0 (fun r => r = nodeA (setK n k v)) := by
  refine (AC.ofR (withKid_ACR n v k hn hv hk) ?_).mono ?_
  · rintro r R ⟨rfl, rfl⟩
    rw [nodeO_sub]
    exact node_in _
  · rintro r (h | ⟨f, R, ⟨rfl, rfl⟩, rfl⟩)
    · exact h.elim
    · exact nodeO_sub _
theorem setAt_AC (t' : VC) : ∀ (p : List ByteArray) (n v : Nd) (t : VC), Shp n → Sml v → AC Try.prog 166 [nodeA n, .view t 1 (strsE p), nodeT t' v] 0 (fun r => r = optA (setS n p v))
  | [], n, v, t, hn, hv => by
    have p1 := copyNode_AC v hv t'
    refine AC.weak ?_
    unfold nodeA
    unfold nodeT at p1 ⊢
    rw [nodeTL_eq] at p1 ⊢
    rw [nodeL_eq]
    refine AC.of tab_ok mixed_ok Try.func166 (by rfl) (by kernel_rfl) ?_; rintro ⟨P, T, hT, hm, w0, S0, rd0, k0⟩ hP hTT; dsimp only at hP hTT; subst hP hTT; unfold initSt; rw [Try.ntmps166]
    (repeat (first | with_reducible refine AW.seq ?_ | ((first | refine arun_kn 1 rfl (fun C hC => ?_) | refine arunD_kn 1 rfl (fun C hC => ?_)); (repeat ((conv => whnf); simp [strsE_len])); refine hC _ ?_; clear hC C; simp only [List.drop, Nat.reduceAdd]) | (refine arun_skip ?_ ?_; (focus (simp [awant, strsE_len]; done))) | (refine arun_c0 (p1) ?_; rintro _ rfl) | (refine AW.regionK [] (fun K hK => ?_)) | (refine AW.regionDK [] (pcs [] []) (by kernel_rfl) (by kernel_rfl) (fun K hK => ?_)) | (refine AW.condT ?_ ?_; (focus (simp [aev, strsE_len]; done))) | (refine AW.condF ?_ ?_; (focus (simp [aev, strsE_len]; done))) | with_reducible refine AW.block ?_ | ((first | ((first | refine arun_nil ?_ | refine arunD_nil ?_); refine hK _ ?_; clear hK K) | refine AW.skip ?_ | refine AW.exit ?_ | refine AW.ret ?_); simp only [wE, if_true, if_false, Nat.reduceEqDiff, reduceIte])))
    exact ⟨.tup [nodeA v, .bool true], by simp [ares, aresL, upd, rowsOf_cons], tup2_pur (node_pur v) pur_bool, _, Wk.refl _, rfl⟩
  | s :: q, n, v, t, hn, hv => by
    have e1 : strsE (s :: q) = [.str s] :: strsE q := rfl
    have pk := place_ok .loose n s hn.plc
    refine AC.weak ?_
    unfold nodeT at pk
    rw [nodeTL_eq] at pk
    unfold nodeA nodeT
    rw [nodeL_eq, nodeTL_eq, e1]
    have hlz : ((q.length + 1 : Nat) : Int) ≠ 0 := by omega
    have htk : (strsE q).take q.length = strsE q := List.take_of_length_le (by rw [strsE_len]; exact Nat.le_refl _)
    have hlo1 : ¬ (q.length : Int) + 1 < 1 := by omega
    have hlo2 : 1 ≤ q.length + 1 := by omega
    have hlo3 : (1 : Int) ≤ (q.length : Int) + 1 := by omega
    have hlz' : (((q.length : Int) + 1) == 0) = false := beq_false_of_ne (by omega)
    refine AC.of tab_ok mixed_ok Try.func166 (by rfl) (by kernel_rfl) ?_; rintro ⟨P, T, hT, hm, w0, S0, rd0, k0⟩ hP hTT; dsimp only at hP hTT; subst hP hTT; unfold initSt; rw [Try.ntmps166]
    rcases placeI_cases n s with ⟨h1, _⟩ | ⟨k, h1, h2, _⟩
    · rw [h1] at pk
      rw [setS_no q h1]
      (repeat (first | with_reducible refine AW.seq ?_ | ((first | refine arun_kn 1 rfl (fun C hC => ?_) | refine arunD_kn 1 rfl (fun C hC => ?_)); (repeat ((conv => whnf); simp [strsE_len, hlz, hlz'])); refine hC _ ?_; clear hC C; simp only [List.drop, Nat.reduceAdd]) | (refine arun_skip ?_ ?_; (focus (simp [awant, strsE_len, hlz, hlz']; done))) | (refine arun_c0 (pk) ?_; rintro _ rfl) | (refine arunD_c (0) (pk) ?_; rintro _ rfl; intro _) | (refine AW.regionK [] (fun K hK => ?_)) | (refine AW.regionDK [] (pcs [(4, 0, fun r => r = .int .i64 (-1))] []) (by kernel_rfl) (by kernel_rfl) (fun K hK => ?_)) | (refine AW.condT ?_ ?_; (focus (simp [aev, strsE_len, hlz, hlz']; done))) | (refine AW.condF ?_ ?_; (focus (simp [aev, strsE_len, hlz, hlz']; done))) | with_reducible refine AW.block ?_ | ((first | ((first | refine arun_nil ?_ | refine arunD_nil ?_); refine hK _ ?_; clear hK K) | refine AW.skip ?_ | refine AW.exit ?_ | refine AW.ret ?_); simp only [wE, if_true, if_false, Nat.reduceEqDiff, reduceIte])))
      refine ⟨.tup [node0 0 0 ⟨#[]⟩, .bool false], by simp [node0, ares, aresL, upd, rowsOf_cons], none_end.1, _, none_end.2, rfl⟩
    · rw [h2] at pk
      rw [setS_yes q h1 h2]
      have hk0 : ¬ ((k : Int) < 0) := by omega
      have hkid := hn.kid (List.getElem_mem h1)
      have ih := setAt_AC t' q n.kids[k] v t.cut hkid hv
      cases hg : setS n.kids[k] q v with
      | none =>
        rw [hg] at ih
        unfold optA nodeT nodeA at ih
        have hz : nodeL ((none : Option Nd).getD Nd.zero) = nodeL Nd.zero := rfl
        rw [hz, zeroA, nodeTL_eq, nodeL_eq, Option.isSome_none] at ih
        (repeat (first | with_reducible refine AW.seq ?_ | ((first | refine arun_kn 1 rfl (fun C hC => ?_) | refine arunD_kn 1 rfl (fun C hC => ?_)); (repeat ((conv => whnf); simp [strsE_len, hlz, hlz', h1, hk0, hlo1, hlo2, hlo3, htk])); refine hC _ ?_; clear hC C; simp only [List.drop, Nat.reduceAdd]) | (refine arun_skip ?_ ?_; (focus (simp [awant, strsE_len, hlz, hlz', h1, hk0, hlo1, hlo2, hlo3, htk]; done))) | (refine arun_c0 (pk) ?_; rintro _ rfl) | (refine arun_c0 (ih) ?_; rintro _ rfl) | (refine arunD_c (0) (pk) ?_; rintro _ rfl; intro _) | (refine arunD_cE (0) (ih) (by exact ⟨_, rfl, optN_in⟩) ?_; rintro _ rfl; intro _) | (refine AW.regionK [] (fun K hK => ?_)) | (refine AW.regionDK [] (pcs [(4, 0, fun r => r = .int .i64 (k : Int)), (8, 0, fun r => r = .tup [.agg [.int .i64 0, .int .i64 0, .str ⟨#[]⟩, .view .loose 1 [], .view .loose 5 []], .bool false])] []) (by kernel_rfl) (by kernel_rfl) (fun K hK => ?_)) | (refine AW.condT ?_ ?_; (focus (simp [aev, strsE_len, hlz, hlz', h1, hk0, hlo1, hlo2, hlo3, htk]; done))) | (refine AW.condF ?_ ?_; (focus (simp [aev, strsE_len, hlz, hlz', h1, hk0, hlo1, hlo2, hlo3, htk]; done))) | with_reducible refine AW.block ?_ | ((first | ((first | refine arun_nil ?_ | refine arunD_nil ?_); refine hK _ ?_; clear hK K) | refine AW.skip ?_ | refine AW.exit ?_ | refine AW.ret ?_); simp only [wE, if_true, if_false, Nat.reduceEqDiff, reduceIte])))
        refine ⟨.tup [node0 0 0 ⟨#[]⟩, .bool false], by simp [node0, ares, aresL, upd, rowsOf_cons], none_end.1, _, none_end.2, rfl⟩
      | some m =>
        rw [hg] at ih
        have hm := setS_sml _ _ _ _ hkid hv hg
        have pw := withKid_AC n m k hn.sml hm h1
        unfold optA nodeT nodeA at ih
        unfold nodeA at pw
        have hz : nodeL ((some m : Option Nd).getD Nd.zero) = nodeL m := rfl
        rw [hz, nodeTL_eq, nodeL_eq n.kids[k], nodeL_eq m, Option.isSome_some] at ih
        rw [nodeL_eq n, nodeL_eq m] at pw
        (repeat (first | with_reducible refine AW.seq ?_ | ((first | refine arun_kn 1 rfl (fun C hC => ?_) | refine arunD_kn 1 rfl (fun C hC => ?_)); (repeat ((conv => whnf); simp [strsE_len, hlz, hlz', h1, hk0, hlo1, hlo2, hlo3, htk])); refine hC _ ?_; clear hC C; simp only [List.drop, Nat.reduceAdd]) | (refine arun_skip ?_ ?_; (focus (simp [awant, strsE_len, hlz, hlz', h1, hk0, hlo1, hlo2, hlo3, htk]; done))) | (refine arun_c0 (pk) ?_; rintro _ rfl) | (refine arun_c0 (ih) ?_; rintro _ rfl) | (refine arun_c0 (pw) ?_; rintro _ rfl) | (refine arunD_c (0) (pk) ?_; rintro _ rfl; intro _) | (refine arunD_cE (0) (ih) (by exact ⟨_, rfl, optS_in m⟩) ?_; rintro _ rfl; intro _) | (refine arunD_c (0) (pw) ?_; rintro _ rfl; intro _) | (refine AW.regionK [] (fun K hK => ?_)) | (refine AW.regionDK [] (pcs [(4, 0, fun r => r = .int .i64 (k : Int)), (8, 0, fun r => r = .tup [.agg [.int .i64 m.kind, .int .i64 m.num, .str m.text, .view .loose 1 (strsE m.names), .view .loose 5 (m.kids.map nodeL)], .bool true])] []) (by kernel_rfl) (by kernel_rfl) (fun K hK => ?_)) | (refine AW.condT ?_ ?_; (focus (simp [aev, strsE_len, hlz, hlz', h1, hk0, hlo1, hlo2, hlo3, htk]; done))) | (refine AW.condF ?_ ?_; (focus (simp [aev, strsE_len, hlz, hlz', h1, hk0, hlo1, hlo2, hlo3, htk]; done))) | with_reducible refine AW.block ?_ | ((first | ((first | refine arun_nil ?_ | refine arunD_nil ?_); refine hK _ ?_; clear hK K) | refine AW.skip ?_ | refine AW.exit ?_ | refine AW.ret ?_); simp only [wE, if_true, if_false, Nat.reduceEqDiff, reduceIte])))
        exact ⟨.tup [nodeA (setK n k m), .bool true], by simp [setK, ares, aresL, upd, rowsOf_cons], tup2_pur (node_pur _) pur_bool, _, Wk.refl _, rfl⟩
end Go.Proofs.Ytgfnmhfdmmnaoaa.Eng
-- EV: fresh
namespace Go.Proofs.Ytgfnmhfdmmnaoaa.Eng
open Go Go.RowKit
attribute [local simp] big size_mk ASt.pay Option.map_map Function.comp_def awant aop acall ado aev ofVal ofVal0 ASt.put ASt.add ASt.turn ASt.kill abox aalloc astore aload aloadD astoreD idOf ASt.at cellsTo afieldAddr afield aindexAddr aindex alen abin aint acmp astr aun apick aextract anil aslice abound abuild afill abuildSlice asCells aps avCells over upd aappend asrc amax amin aconv mkSt slots rowsOf_cons rowsOf_nil usedOf_cons usedOf_nil ZK.av List.replicate ASt.back ASt.addL ASt.killL nodeA nodeT nodeTL_eq nodeL_eq strsE_get strsE_len intsE_get intsE_len strsE_at intsE_at tab2 tab3 tab4 tab5 tab6 tab7 tab8 tab9 tab10 tab11 tab12 tab13 tab14 tab15 tab16 tab17 tab18 tab19 tab21 tab22 tab23 tab24 tab25 tab26 tab27 tab28 tab29 tab30 tab39 tab40 tab41 tab42 tab43 tab47 tab48 tab55 tab56 tab57 tab60 tab61 tab62 tab73 tab74 tab75 tab85 tab92 tab115 tab116 tab143 tab144 tab145 tab154 tab155 tab170 tab175 tab182 tab197 tab198 tab203 tab204 tab205 tab207 tab208 tab209
def ckN (m : Nd) : Option Nd := if validB m then some m else none
set_option maxRecDepth 100000
set_option maxHeartbeats 8000000
theorem specChk (m : Nd) (b : Bool) : AC Try.prog 68 [nodeA m, .bool b] 0 (fun r => r = optA (if b then ckN m else none)) := by
  refine AC.weak ?_
  have p1 := validNode_AC m .loose
  unfold nodeA
  rw [nodeL_eq]
  cases b
  · have e : (if false then ckN m else none) = none := rfl
    refine AC.of tab_ok mixed_ok Try.func68 (by rfl) (by kernel_rfl) ?_; rintro ⟨P, T, hT, hm, w0, S0, rd0, k0⟩ hP hTT; dsimp only at hP hTT; subst hP hTT; unfold initSt; rw [Try.ntmps68]
    (repeat (first | with_reducible refine AW.seq ?_ | ((first | refine arun_kn 1 rfl (fun C hC => ?_) | refine arunD_kn 1 rfl (fun C hC => ?_)); (repeat ((conv => whnf); simp)); refine hC _ ?_; clear hC C; simp only [List.drop, Nat.reduceAdd]) | (refine arun_skip ?_ ?_; (focus (simp [awant]; done))) | (refine arun_c0 (p1) ?_; rintro _ rfl) | (refine AW.regionK [] (fun K hK => ?_)) | (refine AW.regionDK [] (pcs [] []) (by kernel_rfl) (by kernel_rfl) (fun K hK => ?_)) | (refine AW.condT ?_ ?_; (focus (simp [aev]; done))) | (refine AW.condF ?_ ?_; (focus (simp [aev]; done))) | with_reducible refine AW.block ?_ | ((first | ((first | refine arun_nil ?_ | refine arunD_nil ?_); refine hK _ ?_; clear hK K) | refine AW.skip ?_ | refine AW.exit ?_ | refine AW.ret ?_); simp only [wE, if_true, if_false, Nat.reduceEqDiff, reduceIte, endF_ret, endF_normal])))
    exact ⟨.tup [node0 0 0 ⟨#[]⟩, .bool false], by simp [node0, ares, aresL, upd, rowsOf_cons], none_end.1, _, none_end.2, by rw [e]; rfl⟩
  cases h1 : validB m
  · have e : ckN m = none := by unfold ckN; rw [h1]; rfl
    rw [h1] at p1
    refine AC.of tab_ok mixed_ok Try.func68 (by rfl) (by kernel_rfl) ?_; rintro ⟨P, T, hT, hm, w0, S0, rd0, k0⟩ hP hTT; dsimp only at hP hTT; subst hP hTT; unfold initSt; rw [Try.ntmps68]
    (repeat (first | with_reducible refine AW.seq ?_ | ((first | refine arun_kn 1 rfl (fun C hC => ?_) | refine arunD_kn 1 rfl (fun C hC => ?_)); (repeat ((conv => whnf); simp)); refine hC _ ?_; clear hC C; simp only [List.drop, Nat.reduceAdd]) | (refine arun_skip ?_ ?_; (focus (simp [awant]; done))) | (refine arun_c0 (p1) ?_; rintro _ rfl) | (refine AW.regionK [] (fun K hK => ?_)) | (refine AW.regionDK [] (pcs [] []) (by kernel_rfl) (by kernel_rfl) (fun K hK => ?_)) | (refine AW.condT ?_ ?_; (focus (simp [aev]; done))) | (refine AW.condF ?_ ?_; (focus (simp [aev]; done))) | with_reducible refine AW.block ?_ | ((first | ((first | refine arun_nil ?_ | refine arunD_nil ?_); refine hK _ ?_; clear hK K) | refine AW.skip ?_ | refine AW.exit ?_ | refine AW.ret ?_); simp only [wE, if_true, if_false, Nat.reduceEqDiff, reduceIte, endF_ret, endF_normal])))
    exact ⟨.tup [node0 0 0 ⟨#[]⟩, .bool false], by simp [node0, ares, aresL, upd, rowsOf_cons], none_end.1, _, none_end.2, by rw [e]; rfl⟩
  · have e : ckN m = some m := by unfold ckN; rw [h1]; rfl
    rw [h1] at p1
    refine AC.of tab_ok mixed_ok Try.func68 (by rfl) (by kernel_rfl) ?_; rintro ⟨P, T, hT, hm, w0, S0, rd0, k0⟩ hP hTT; dsimp only at hP hTT; subst hP hTT; unfold initSt; rw [Try.ntmps68]
    (repeat (first | with_reducible refine AW.seq ?_ | ((first | refine arun_kn 1 rfl (fun C hC => ?_) | refine arunD_kn 1 rfl (fun C hC => ?_)); (repeat ((conv => whnf); simp)); refine hC _ ?_; clear hC C; simp only [List.drop, Nat.reduceAdd]) | (refine arun_skip ?_ ?_; (focus (simp [awant]; done))) | (refine arun_c0 (p1) ?_; rintro _ rfl) | (refine AW.regionK [] (fun K hK => ?_)) | (refine AW.regionDK [] (pcs [] []) (by kernel_rfl) (by kernel_rfl) (fun K hK => ?_)) | (refine AW.condT ?_ ?_; (focus (simp [aev]; done))) | (refine AW.condF ?_ ?_; (focus (simp [aev]; done))) | with_reducible refine AW.block ?_ | ((first | ((first | refine arun_nil ?_ | refine arunD_nil ?_); refine hK _ ?_; clear hK K) | refine AW.skip ?_ | refine AW.exit ?_ | refine AW.ret ?_); simp only [wE, if_true, if_false, Nat.reduceEqDiff, reduceIte, endF_ret, endF_normal])))
    exact ⟨.tup [nodeA m, .bool true], by simp [ares, aresL, upd, rowsOf_cons], tup2_pur (node_pur m) pur_bool, _, Wk.refl _, by rw [e]; rfl⟩
end Go.Proofs.Ytgfnmhfdmmnaoaa.Eng
-- EV: skip
namespace Go.Proofs.Ytgfnmhfdmmnaoaa
open Go.RowKit
def o2nB (o : Opr) : Bool := oprB o && validB (opOf o)
def o2nN (o : Opr) : Nd := if o2nB o then opOf o else Nd.zero
theorem oprB_parts {o : Opr} (h : oprB o = true) : ∃ k : Nat, o.1 = (k : Int) ∧ 1 ≤ k ∧ k ≤ 6 ∧ pathB o.2.1 = true ∧ pathB o.2.2.1 = true ∧ validB o.2.2.2 = true := by
  unfold oprB at h
  simp only [Bool.and_eq_true] at h
  obtain ⟨⟨⟨h1, h2⟩, h3⟩, h4⟩ := h
  unfold inR at h1
  simp at h1
  exact ⟨o.1.toNat, by omega, by omega, by omega, h2, h3, h4⟩
theorem o2n_n2o {n : Nd} (h : n2oB n = true) : o2nB (n2oN n) = true ∧ o2nN (n2oN n) = n := by
  have h' := h
  unfold n2oB at h'
  simp only [Bool.and_eq_true, decide_eq_true_eq, beq_iff_eq] at h'
  obtain ⟨⟨⟨⟨hv, _⟩, hl⟩, hob⟩, hc⟩ := h'
  have e0 : n2oN n = partO n := by unfold n2oN; rw [h]; rfl
  obtain ⟨k, hk, k1, k6, hp, hf, hvv⟩ := oprB_parts hob
  have eo : opOf (partO n) = opNd k (partO n).2.1 (partO n).2.2.1 (partO n).2.2.2 := by unfold opOf; rw [hk]; rfl
  have hgo : Good (opOf (partO n)) := by
    obtain ⟨d, hd⟩ := validB_good hvv
    rw [eo]
    exact ⟨(d + 2) + 1, good_op k1 k6 hp hf (by omega) (shapeB_up _ d _ (by omega) hd)⟩
  have e := cmpN_zero _ _ hgo (validB_good hv) hc
  have hB : o2nB (n2oN n) = true := by unfold o2nB; rw [e0, hob, e, hv]; rfl
  exact ⟨hB, by unfold o2nN; rw [hB, e0]; exact e⟩
end Go.Proofs.Ytgfnmhfdmmnaoaa
namespace Go.Proofs.Ytgfnmhfdmmnaoaa.Eng
open Go Go.RowKit
attribute [local simp] big size_mk ASt.pay Option.map_map Function.comp_def awant aop acall ado aev ofVal ofVal0 ASt.put ASt.add ASt.turn ASt.kill abox aalloc astore aload aloadD astoreD idOf ASt.at cellsTo afieldAddr afield aindexAddr aindex alen abin aint acmp astr aun apick aextract anil aslice abound abuild afill abuildSlice asCells aps avCells over upd aappend asrc amax amin aconv mkSt slots rowsOf_cons rowsOf_nil usedOf_cons usedOf_nil ZK.av List.replicate ASt.back ASt.addL ASt.killL nodeA nodeT nodeTL_eq nodeL_eq strsE_get strsE_len intsE_get intsE_len strsE_at intsE_at tab2 tab3 tab4 tab5 tab6 tab7 tab8 tab9 tab10 tab11 tab12 tab13 tab14 tab15 tab16 tab17 tab18 tab19 tab21 tab22 tab23 tab24 tab25 tab26 tab27 tab28 tab29 tab30 tab39 tab40 tab41 tab42 tab43 tab47 tab48 tab55 tab56 tab57 tab60 tab61 tab62 tab73 tab74 tab75 tab85 tab92 tab115 tab116 tab143 tab144 tab145 tab154 tab155 tab170 tab175 tab182 tab197 tab198 tab203 tab204 tab205 tab207 tab208 tab209
set_option maxRecDepth 100000
set_option maxHeartbeats 8000000
theorem isOp_AC (o : Opr) : AC Try.prog 71 [oprA o] 0 (fun r => r = .bool (oprB o)) := by
  have p2 := isPath_AC o.2.1 .loose
  have p3 := isPath_AC o.2.2.1 .loose
  have p4 := ValidNode_AC o.2.2.2 .loose
  have hc := node_clo o.2.2.2
  have e0 : oprB o = (inR o.1 1 6 && pathB o.2.1 && pathB o.2.2.1 && validB o.2.2.2) := rfl
  unfold oprA
  rw [nodeT_loose] at p4
  unfold nodeA at p4 hc
  rw [nodeL_eq] at p4 hc
  by_cases h0 : 1 ≤ o.1
  rotate_left
  · have h1 : inR o.1 1 6 = false := by unfold inR; simp; omega
    have g1 : (1 ≤ o.1) = False := by simp; omega
    have g2 := g1
    rw [h1] at e0
    have e : oprB o = false := by rw [e0]; rfl
    refine AC.of tab_ok mixed_ok Try.func71 (by rfl) (by kernel_rfl) ?_; rintro ⟨P, T, hT, hm, w0, S0, rd0, k0⟩ hP hTT; dsimp only at hP hTT; subst hP hTT; unfold initSt; rw [Try.ntmps71]
    (repeat (first | with_reducible refine AW.seq ?_ | ((first | refine arun_kn 1 rfl (fun C hC => ?_) | refine arunD_kn 1 rfl (fun C hC => ?_)); (repeat ((conv => whnf); simp [g1, g2])); refine hC _ ?_; clear hC C; simp only [List.drop, Nat.reduceAdd]) | (refine arun_skip ?_ ?_; (focus (simp [awant, g1, g2]; done))) | (refine arun_c0 (p2) ?_; rintro _ rfl) | (refine arun_c0 (p3) ?_; rintro _ rfl) | (refine arun_c0 (p4) ?_; rintro _ rfl) | (refine arunD_skip ?_ ?_; (focus (simp [awant, g1, g2]; done))) | (refine AW.regionK [] (fun K hK => ?_)) | (refine AW.regionDK [] (pcs [] []) (by kernel_rfl) (by kernel_rfl) (fun K hK => ?_)) | (refine AW.condT ?_ ?_; (focus (simp [aev, g1, g2]; done))) | (refine AW.condF ?_ ?_; (focus (simp [aev, g1, g2]; done))) | with_reducible refine AW.block ?_ | ((first | ((first | refine arun_nil ?_ | refine arunD_nil ?_); refine hK _ ?_; clear hK K) | refine AW.skip ?_ | refine AW.exit ?_ | refine AW.ret ?_); simp only [wE, if_true, if_false, Nat.reduceEqDiff, reduceIte])))
    exact ⟨.bool false, by simp [ares, aresL], pur_bool, by rw [e]⟩
  have g1 : (1 ≤ o.1) = True := by simp; omega
  by_cases h6 : o.1 ≤ 6
  rotate_left
  · have h1 : inR o.1 1 6 = false := by unfold inR; simp; omega
    have g2 : (o.1 ≤ 6) = False := by simp; omega
    rw [h1] at e0
    have e : oprB o = false := by rw [e0]; rfl
    refine AC.of tab_ok mixed_ok Try.func71 (by rfl) (by kernel_rfl) ?_; rintro ⟨P, T, hT, hm, w0, S0, rd0, k0⟩ hP hTT; dsimp only at hP hTT; subst hP hTT; unfold initSt; rw [Try.ntmps71]
    (repeat (first | with_reducible refine AW.seq ?_ | ((first | refine arun_kn 1 rfl (fun C hC => ?_) | refine arunD_kn 1 rfl (fun C hC => ?_)); (repeat ((conv => whnf); simp [g1, g2])); refine hC _ ?_; clear hC C; simp only [List.drop, Nat.reduceAdd]) | (refine arun_skip ?_ ?_; (focus (simp [awant, g1, g2]; done))) | (refine arun_c0 (p2) ?_; rintro _ rfl) | (refine arun_c0 (p3) ?_; rintro _ rfl) | (refine arun_c0 (p4) ?_; rintro _ rfl) | (refine arunD_skip ?_ ?_; (focus (simp [awant, g1, g2]; done))) | (refine AW.regionK [] (fun K hK => ?_)) | (refine AW.regionDK [] (pcs [] []) (by kernel_rfl) (by kernel_rfl) (fun K hK => ?_)) | (refine AW.condT ?_ ?_; (focus (simp [aev, g1, g2]; done))) | (refine AW.condF ?_ ?_; (focus (simp [aev, g1, g2]; done))) | with_reducible refine AW.block ?_ | ((first | ((first | refine arun_nil ?_ | refine arunD_nil ?_); refine hK _ ?_; clear hK K) | refine AW.skip ?_ | refine AW.exit ?_ | refine AW.ret ?_); simp only [wE, if_true, if_false, Nat.reduceEqDiff, reduceIte])))
    exact ⟨.bool false, by simp [ares, aresL], pur_bool, by rw [e]⟩
  have g2 : (o.1 ≤ 6) = True := by simp; omega
  have h1 : inR o.1 1 6 = true := by unfold inR; simp; omega
  rw [h1] at e0
  cases h2 : pathB o.2.1
  · rw [h2] at e0; rw [h2] at p2
    have e : oprB o = false := by rw [e0]; rfl
    refine AC.of tab_ok mixed_ok Try.func71 (by rfl) (by kernel_rfl) ?_; rintro ⟨P, T, hT, hm, w0, S0, rd0, k0⟩ hP hTT; dsimp only at hP hTT; subst hP hTT; unfold initSt; rw [Try.ntmps71]
    (repeat (first | with_reducible refine AW.seq ?_ | ((first | refine arun_kn 1 rfl (fun C hC => ?_) | refine arunD_kn 1 rfl (fun C hC => ?_)); (repeat ((conv => whnf); simp [g1, g2])); refine hC _ ?_; clear hC C; simp only [List.drop, Nat.reduceAdd]) | (refine arun_skip ?_ ?_; (focus (simp [awant, g1, g2]; done))) | (refine arun_c0 (p2) ?_; rintro _ rfl) | (refine arun_c0 (p3) ?_; rintro _ rfl) | (refine arun_c0 (p4) ?_; rintro _ rfl) | (refine arunD_skip ?_ ?_; (focus (simp [awant, g1, g2]; done))) | (refine AW.regionK [] (fun K hK => ?_)) | (refine AW.regionDK [] (pcs [] []) (by kernel_rfl) (by kernel_rfl) (fun K hK => ?_)) | (refine AW.condT ?_ ?_; (focus (simp [aev, g1, g2]; done))) | (refine AW.condF ?_ ?_; (focus (simp [aev, g1, g2]; done))) | with_reducible refine AW.block ?_ | ((first | ((first | refine arun_nil ?_ | refine arunD_nil ?_); refine hK _ ?_; clear hK K) | refine AW.skip ?_ | refine AW.exit ?_ | refine AW.ret ?_); simp only [wE, if_true, if_false, Nat.reduceEqDiff, reduceIte])))
    exact ⟨.bool false, by simp [ares, aresL], pur_bool, by rw [e]⟩
  cases h3 : pathB o.2.2.1
  · rw [h2, h3] at e0; rw [h2] at p2; rw [h3] at p3
    have e : oprB o = false := by rw [e0]; rfl
    refine AC.of tab_ok mixed_ok Try.func71 (by rfl) (by kernel_rfl) ?_; rintro ⟨P, T, hT, hm, w0, S0, rd0, k0⟩ hP hTT; dsimp only at hP hTT; subst hP hTT; unfold initSt; rw [Try.ntmps71]
    (repeat (first | with_reducible refine AW.seq ?_ | ((first | refine arun_kn 1 rfl (fun C hC => ?_) | refine arunD_kn 1 rfl (fun C hC => ?_)); (repeat ((conv => whnf); simp [g1, g2])); refine hC _ ?_; clear hC C; simp only [List.drop, Nat.reduceAdd]) | (refine arun_skip ?_ ?_; (focus (simp [awant, g1, g2]; done))) | (refine arun_c0 (p2) ?_; rintro _ rfl) | (refine arun_c0 (p3) ?_; rintro _ rfl) | (refine arun_c0 (p4) ?_; rintro _ rfl) | (refine arunD_skip ?_ ?_; (focus (simp [awant, g1, g2]; done))) | (refine AW.regionK [] (fun K hK => ?_)) | (refine AW.regionDK [] (pcs [] []) (by kernel_rfl) (by kernel_rfl) (fun K hK => ?_)) | (refine AW.condT ?_ ?_; (focus (simp [aev, g1, g2]; done))) | (refine AW.condF ?_ ?_; (focus (simp [aev, g1, g2]; done))) | with_reducible refine AW.block ?_ | ((first | ((first | refine arun_nil ?_ | refine arunD_nil ?_); refine hK _ ?_; clear hK K) | refine AW.skip ?_ | refine AW.exit ?_ | refine AW.ret ?_); simp only [wE, if_true, if_false, Nat.reduceEqDiff, reduceIte])))
    exact ⟨.bool false, by simp [ares, aresL], pur_bool, by rw [e]⟩
  rw [h2, h3] at e0; rw [h2] at p2; rw [h3] at p3
  have e : oprB o = validB o.2.2.2 := by rw [e0]; rfl
  generalize validB o.2.2.2 = bb at *
  refine AC.of tab_ok mixed_ok Try.func71 (by rfl) (by kernel_rfl) ?_; rintro ⟨P, T, hT, hm, w0, S0, rd0, k0⟩ hP hTT; dsimp only at hP hTT; subst hP hTT; unfold initSt; rw [Try.ntmps71]
  (repeat (first | with_reducible refine AW.seq ?_ | ((first | refine arun_kn 1 rfl (fun C hC => ?_) | refine arunD_kn 1 rfl (fun C hC => ?_)); (repeat ((conv => whnf); simp [g1, g2])); refine hC _ ?_; clear hC C; simp only [List.drop, Nat.reduceAdd]) | (refine arun_skip ?_ ?_; (focus (simp [awant, g1, g2]; done))) | (refine arun_c0 (p2) ?_; rintro _ rfl) | (refine arun_c0 (p3) ?_; rintro _ rfl) | (refine arun_c0 (p4) ?_; rintro _ rfl) | (refine arunD_skip ?_ ?_; (focus (simp [awant, g1, g2]; done))) | (refine AW.regionK [] (fun K hK => ?_)) | (refine AW.regionDK [] (pcs [] []) (by kernel_rfl) (by kernel_rfl) (fun K hK => ?_)) | (refine AW.condT ?_ ?_; (focus (simp [aev, g1, g2]; done))) | (refine AW.condF ?_ ?_; (focus (simp [aev, g1, g2]; done))) | with_reducible refine AW.block ?_ | ((first | ((first | refine arun_nil ?_ | refine arunD_nil ?_); refine hK _ ?_; clear hK K) | refine AW.skip ?_ | refine AW.exit ?_ | refine AW.ret ?_); simp only [wE, if_true, if_false, Nat.reduceEqDiff, reduceIte])))
  exact ⟨.bool bb, by simp [ares, aresL], pur_bool, by rw [e]⟩
end Go.Proofs.Ytgfnmhfdmmnaoaa.Eng
-- EV: skip
namespace Go.Proofs.Ytgfnmhfdmmnaoaa.Eng
open Go Go.RowKit
attribute [local simp] big size_mk ASt.pay Option.map_map Function.comp_def awant aop acall ado aev ofVal ofVal0 ASt.put ASt.add ASt.turn ASt.kill abox aalloc astore aload aloadD astoreD idOf ASt.at cellsTo afieldAddr afield aindexAddr aindex alen abin aint acmp astr aun apick aextract anil aslice abound abuild afill abuildSlice asCells aps avCells over upd aappend asrc amax amin aconv mkSt slots rowsOf_cons rowsOf_nil usedOf_cons usedOf_nil ZK.av List.replicate ASt.back ASt.addL ASt.killL nodeA nodeT nodeTL_eq nodeL_eq strsE_get strsE_len intsE_get intsE_len strsE_at intsE_at tab2 tab3 tab4 tab5 tab6 tab7 tab8 tab9 tab10 tab11 tab12 tab13 tab14 tab15 tab16 tab17 tab18 tab19 tab21 tab22 tab23 tab24 tab25 tab26 tab27 tab28 tab29 tab30 tab39 tab40 tab41 tab42 tab43 tab47 tab48 tab55 tab56 tab57 tab60 tab61 tab62 tab73 tab74 tab75 tab85 tab92 tab115 tab116 tab143 tab144 tab145 tab154 tab155 tab170 tab175 tab182 tab197 tab198 tab203 tab204 tab205 tab207 tab208 tab209
set_option maxRecDepth 100000
set_option maxHeartbeats 8000000
def wordT (s : ByteArray) : List AV := [.int .i64 2, .int .i64 0, .str s, .view .tight 0 [], .view .tight 0 []]
def stepsT (p : List ByteArray) : Row := ⟨false, 30, 5, p.map wordT⟩
theorem wordT_pur (p : List ByteArray) : ∀ e ∈ p.map wordT, ∀ c ∈ e, Pur c := fun e he c hc => by
  obtain ⟨s, _, rfl⟩ := List.mem_map.1 he
  have h0 := pur_view (t := .tight) (sz := 0) (es := []) (by decide) (fun e he => by cases he)
  simp only [wordT, List.mem_cons, List.not_mem_nil, or_false] at hc
  rcases hc with rfl | rfl | rfl | rfl | rfl
  · exact pur_int
  · exact pur_int
  · exact pur_str
  · exact h0
  · exact h0
theorem wordT_in {U : Nat → Bool} (p : List ByteArray) : ∀ e ∈ p.map wordT, ∀ c ∈ e, AV.In U c := fun e he c hc => by
  obtain ⟨s, _, rfl⟩ := List.mem_map.1 he
  simp only [wordT, List.mem_cons, List.not_mem_nil, or_false] at hc
  rcases hc with rfl | rfl | rfl | rfl | rfl
  · exact in_int
  · exact in_int
  · exact in_str
  · exact in_vnil
  · exact in_vnil
theorem wordT_wk : ∀ p : List ByteArray, WkE (p.map wordT) ((p.map wordN).map nodeL)
  | [] => .nil
  | s :: p => .cons (by
      show WkL (wordT s) (nodeL (wordN s))
      rw [nodeL_eq]
      exact .cons (Wk.refl _) (.cons (Wk.refl _) (.cons (Wk.refl _) (.cons (Wk.nil (fun h => by cases h)) (.cons (Wk.nil (fun h => by cases h)) .nil))))) (wordT_wk p)
theorem pathToNode_step (p : List ByteArray) (hp : p.length ≤ 6) : ACR Try.prog 73 [.view .loose 1 (strsE p)] 0 (fun _ => False) (fun f R => f = (fun id => .agg [.int .i64 3, .int .i64 0, .str ⟨#[]⟩, .view .tight 0 [], .own id p.length]) ∧ R = stepsT p) := by
  refine ACR.of tab_ok mixed_ok Try.func73 (by rfl) (by kernel_rfl) ?_; rintro ⟨P, T, hT, hm, w0, S0, rd0, k0⟩ hP hTT; dsimp only at hP hTT; subst hP hTT; unfold initSt; rw [Try.ntmps73]
  (repeat (first | with_reducible refine AW.seq ?_ | ((first | refine arun_kn 1 rfl (fun C hC => ?_) | refine arunD_kn 1 rfl (fun C hC => ?_)); (repeat ((conv => whnf); simp)); refine hC _ ?_; clear hC C; simp only [List.drop, Nat.reduceAdd]) | (refine arun_skip ?_ ?_; (focus (simp [awant]; done))) | (refine arunD_skip ?_ ?_; (focus (simp [awant]; done))) | (refine AW.regionK [] (fun K hK => ?_)) | (refine AW.regionDK [] (pcs [] []) (by kernel_rfl) (by kernel_rfl) (fun K hK => ?_)) | (refine AW.condT ?_ ?_; (focus (simp [aev]; done))) | (refine AW.condF ?_ ?_; (focus (simp [aev]; done))) | with_reducible refine AW.block ?_ | ((first | ((first | refine arun_nil ?_ | refine arunD_nil ?_); refine hK _ ?_; clear hK K) | refine AW.skip ?_ | refine AW.exit ?_ | refine AW.ret ?_); simp only [wE, if_true, if_false, Nat.reduceEqDiff, reduceIte])))
  refine AW.adoptB 3 4 50 30 5 ⟨_, tab30, rfl⟩ (by simp [upd]; rfl) rfl rfl (by simp [upd]) ?_
  simp only [ASt.adoptB]
  refine AW.loopS (fun (i : Nat) => mkSt (slots 0 22 [(2, .ptr true 5 1 2 0 0), (3, .ptr true 5 1 3 0 0), (7, .view .loose 1 (strsE p)), (8, .int .i64 p.length), (9, .int .i64 i)]) [(2, ⟨true, 30, 5, [[.int .i64 0, .int .i64 0, .str ⟨#[]⟩, .view .tight 0 [], .view .tight 0 []]]⟩), (3, ⟨true, 30, 5, [[.int .i64 3, .int .i64 0, .str ⟨#[]⟩, .view .tight 0 [], .own 50 i]]⟩), (50, ⟨false, 30, 5, (p.take i).map wordT⟩)] [2, 3, 50] (rd0.map fun _ => 0)) (fun i => p.length - i) (fun i => i ≤ p.length) 0 ?_ (Nat.zero_le _) ?_
  · exact (less_of (by simp [lessL, mkSt, slots, ASt.adoptB, ASt.add]) (by simp [upd, mkSt, rowsOf_cons, ASt.adoptB, ASt.add]) (by simp [upd, mkSt, usedOf_cons, ASt.adoptB, ASt.add]) (by first | exact rd_less (by omega) | simp [mkSt, ASt.adoptB, ASt.add]) (by simp [slots, in_any, in_int, in_bool, in_str, in_ptr, in_own, in_agg, in_vnil, in_rdr, usedOf_cons, usedOf_nil, strs_in, ints_in, nodes_in, in_tup, ASt.adoptB, ASt.add]) (by simp only [List.forall_mem_cons, List.not_mem_nil, false_implies, implies_true, and_true, true_and, ASt.adoptB, ASt.add]; (repeat (first | with_reducible exact trivial | with_reducible refine And.intro ?_ ?_ | with_reducible exact in_int | with_reducible exact in_str | with_reducible exact in_bool | with_reducible exact strs_in _ | with_reducible exact nodes_in _ | with_reducible exact items_in _ | with_reducible exact in_vnil | with_reducible exact in_any | exact hin _ | with_reducible refine take_in ?_ | with_reducible exact strsE_in _ | with_reducible exact nodesE_in _ | with_reducible exact nodeL_in _ | with_reducible exact itemsE_in _ | with_reducible exact itemL_in _ | with_reducible refine app_in ?_ ?_ | with_reducible refine sing_in ?_ | (focus (simp [in_any, in_int, in_bool, in_str, in_ptr, in_own, in_agg, in_vnil, in_rdr, usedOf_cons, usedOf_nil, strs_in, ints_in, nodes_in, ASt.adoptB, ASt.add]; done)))); done))
  intro i hi
  have hl : ((p.take i).map wordT).length = i := by simp; omega
  by_cases hlt : i < p.length
  · have hw : IntKind.i64.wrap ((i : Int) + 1) = (i : Int) + 1 := i64_nat (by omega) (by omega)
    have hlt' : (i : Int) < (p.length : Int) := by omega
    have hb1 : (i + 1) * 80 ≤ 140737488355328 := by omega
    have hb2 : i + 1 ≤ 140737488355328 := by omega
    have htk : p.take (i + 1) = p.take i ++ [p[i]] := take_snoc' _ _ hlt
    obtain ⟨Ks, hK⟩ : ∃ Ks, Ks = (p.take i).map wordT := ⟨_, rfl⟩
    rw [← hK] at hl ⊢
    (repeat (first | with_reducible refine AW.seq ?_ | ((first | refine arun_kn 1 rfl (fun C hC => ?_) | refine arunD_kn 1 rfl (fun C hC => ?_)); (repeat ((conv => whnf); simp [hlt, hlt', hw, hl, hb1, hb2, strsE_len])); refine hC _ ?_; clear hC C; simp only [List.drop, Nat.reduceAdd]) | (refine arun_skip ?_ ?_; (focus (simp [awant, hlt, hlt', hw, hl, hb1, hb2, strsE_len]; done))) | (refine arunD_skip ?_ ?_; (focus (simp [awant, hlt, hlt', hw, hl, hb1, hb2, strsE_len]; done))) | (refine AW.regionK [] (fun K hK => ?_)) | (refine AW.regionDK [] (pcs [] []) (by kernel_rfl) (by kernel_rfl) (fun K hK => ?_)) | (refine AW.condT ?_ ?_; (focus (simp [aev, hlt, hlt', hw, hl, hb1, hb2, strsE_len]; done))) | (refine AW.condF ?_ ?_; (focus (simp [aev, hlt, hlt', hw, hl, hb1, hb2, strsE_len]; done))) | with_reducible refine AW.block ?_ | ((first | ((first | refine arun_nil ?_ | refine arunD_nil ?_); refine hK _ ?_; clear hK K) | refine AW.skip ?_ | refine AW.exit ?_ | refine AW.ret ?_); simp only [wE, if_true, if_false, Nat.reduceEqDiff, reduceIte])))
    refine ⟨i + 1, by omega, by omega, ?_⟩
    have hin : ∀ U : Nat → Bool, ∀ e ∈ (p.take (i + 1)).map wordT, ∀ c ∈ e, AV.In U c := fun U => wordT_in _
    rw [htk, List.map_append, ← hK] at hin ⊢
    have e1 : List.map wordT [p[i]] = [[.int .i64 2, .int .i64 0, .str p[i], .view .tight 0 [], .view .tight 0 []]] := rfl
    rw [e1] at hin ⊢
    exact less_a
  · obtain rfl : i = p.length := by omega
    rw [List.take_length] at hl ⊢
    obtain ⟨Ks, hK⟩ : ∃ Ks, Ks = p.map wordT := ⟨_, rfl⟩
    rw [← hK] at hl ⊢
    (repeat (first | with_reducible refine AW.seq ?_ | ((first | refine arun_kn 1 rfl (fun C hC => ?_) | refine arunD_kn 1 rfl (fun C hC => ?_)); (repeat ((conv => whnf); simp [hlt, strsE_len])); refine hC _ ?_; clear hC C; simp only [List.drop, Nat.reduceAdd]) | (refine arun_skip ?_ ?_; (focus (simp [awant, hlt, strsE_len]; done))) | (refine arunD_skip ?_ ?_; (focus (simp [awant, hlt, strsE_len]; done))) | (refine AW.regionK [] (fun K hK => ?_)) | (refine AW.regionDK [] (pcs [] []) (by kernel_rfl) (by kernel_rfl) (fun K hK => ?_)) | (refine AW.condT ?_ ?_; (focus (simp [aev, hlt, strsE_len]; done))) | (refine AW.condF ?_ ?_; (focus (simp [aev, hlt, strsE_len]; done))) | with_reducible refine AW.block ?_ | ((first | ((first | refine arun_nil ?_ | refine arunD_nil ?_); refine hK _ ?_; clear hK K) | refine AW.skip ?_ | refine AW.exit ?_ | refine AW.ret ?_); simp only [wE, if_true, if_false, Nat.reduceEqDiff, reduceIte])))
    refine ⟨.agg [.int .i64 3, .int .i64 0, .str ⟨#[]⟩, .view .tight 0 [], .own 50 p.length], ?_, .inr ⟨fun id => .agg [.int .i64 3, .int .i64 0, .str ⟨#[]⟩, .view .tight 0 [], .own id p.length], 50, stepsT p, rfl, ?_, ?_, wordT_pur _, rfl, rfl⟩⟩
    · simp [ares, aresL, upd, rowsOf_cons]
    · simp only [stepsT, ← hK]; simp [upd, rowsOf_cons]
    · exact Res1.agg [fun _ => .int .i64 3, fun _ => .int .i64 0, fun _ => .str ⟨#[]⟩, fun _ => .view .tight 0 [], fun id => .own id p.length] (by
          simp only [List.forall_mem_cons, List.not_mem_nil, false_implies, implies_true, and_true]
          exact ⟨Res1.pur _ pur_int, Res1.pur _ pur_int, Res1.pur _ pur_str, Res1.pur _ (pur_view (by decide) (fun e he => by cases he)), Res1.own _ _⟩)
theorem pathToNode_AC (p : List ByteArray) (hp : p.length ≤ 6) : AC Try.prog 73 [.view .loose 1 (strsE p)] 0 (fun r => r = nodeA (stepsN p)) := by
  refine AC.weak ((AC.ofR (pathToNode_step p hp) ?_).mono ?_)
  · rintro r R ⟨rfl, rfl⟩
    simp only [AV.sub, AV.subL, stepsT, List.length_map, if_true, reduceIte]
    refine in_agg.2 ?_
    simp only [List.forall_mem_cons, List.not_mem_nil, false_implies, implies_true, and_true]
    exact ⟨in_int, in_int, in_str, in_vnil, in_view.2 (wordT_in _)⟩
  · rintro r (h | ⟨f, R, ⟨rfl, rfl⟩, rfl⟩)
    · exact h.elim
    · refine ⟨nodeA (stepsN p), ?_, rfl⟩
      simp only [AV.sub, AV.subL, stepsT, List.length_map, if_true, reduceIte]
      unfold nodeA stepsN
      rw [nodeL_eq]
      exact Wk.agg (.cons (Wk.refl _) (.cons (Wk.refl _) (.cons (Wk.refl _) (.cons (Wk.nil (fun h => by cases h)) (.cons (Wk.view (by decide) (wordT_wk p)) .nil)))))
end Go.Proofs.Ytgfnmhfdmmnaoaa.Eng
namespace Go.Proofs.Ytgfnmhfdmmnaoaa
open Go.RowKit
end Go.Proofs.Ytgfnmhfdmmnaoaa
-- EV: fresh
namespace Go.Proofs.Ytgfnmhfdmmnaoaa.Eng
open Go Go.RowKit
attribute [local simp] big size_mk ASt.pay Option.map_map Function.comp_def awant aop acall ado aev ofVal ofVal0 ASt.put ASt.add ASt.turn ASt.kill abox aalloc astore aload aloadD astoreD idOf ASt.at cellsTo afieldAddr afield aindexAddr aindex alen abin aint acmp astr aun apick aextract anil aslice abound abuild afill abuildSlice asCells aps avCells over upd aappend asrc amax amin aconv mkSt slots rowsOf_cons rowsOf_nil usedOf_cons usedOf_nil ZK.av List.replicate ASt.back ASt.addL ASt.killL nodeA nodeT nodeTL_eq nodeL_eq strsE_get strsE_len intsE_get intsE_len strsE_at intsE_at tab2 tab3 tab4 tab5 tab6 tab7 tab8 tab9 tab10 tab11 tab12 tab13 tab14 tab15 tab16 tab17 tab18 tab19 tab21 tab22 tab23 tab24 tab25 tab26 tab27 tab28 tab29 tab30 tab39 tab40 tab41 tab42 tab43 tab47 tab48 tab55 tab56 tab57 tab60 tab61 tab62 tab73 tab74 tab75 tab85 tab92 tab115 tab116 tab143 tab144 tab145 tab154 tab155 tab170 tab175 tab182 tab197 tab198 tab203 tab204 tab205 tab207 tab208 tab209
section
variable {P : Program} {T : Tab} {md : List Nat} {Av : Nat → Prop} {pc : Pc} {ops : Array Oper} {K : ASt → Prop} {o : Oper} {l : List Oper} {s : ASt}
end
end Go.Proofs.Ytgfnmhfdmmnaoaa.Eng
-- EV: fresh
namespace Go.Proofs.Ytgfnmhfdmmnaoaa.Eng
open Go Go.RowKit
attribute [local simp] big size_mk ASt.pay Option.map_map Function.comp_def awant aop acall ado aev ofVal ofVal0 ASt.put ASt.add ASt.turn ASt.kill abox aalloc astore aload aloadD astoreD idOf ASt.at cellsTo afieldAddr afield aindexAddr aindex alen abin aint acmp astr aun apick aextract anil aslice abound abuild afill abuildSlice asCells aps avCells over upd aappend asrc amax amin aconv mkSt slots rowsOf_cons rowsOf_nil usedOf_cons usedOf_nil ZK.av List.replicate ASt.back ASt.addL ASt.killL nodeA nodeT nodeTL_eq nodeL_eq strsE_get strsE_len intsE_get intsE_len strsE_at intsE_at tab2 tab3 tab4 tab5 tab6 tab7 tab8 tab9 tab10 tab11 tab12 tab13 tab14 tab15 tab16 tab17 tab18 tab19 tab21 tab22 tab23 tab24 tab25 tab26 tab27 tab28 tab29 tab30 tab39 tab40 tab41 tab42 tab43 tab47 tab48 tab55 tab56 tab57 tab60 tab61 tab62 tab73 tab74 tab75 tab85 tab92 tab115 tab116 tab143 tab144 tab145 tab154 tab155 tab170 tab175 tab182 tab197 tab198 tab203 tab204 tab205 tab207 tab208 tab209
set_option maxRecDepth 100000
set_option maxHeartbeats 8000000
theorem opWord_ACF {k : Nat} (h1 : 1 ≤ k) (h6 : k ≤ 6) : ACF Try.prog 74 [.int .i64 (k : Int)] 0 (fun r => r = .str (wd k)) := by
  have : k = 1 ∨ k = 2 ∨ k = 3 ∨ k = 4 ∨ k = 5 ∨ k = 6 := by omega
  rcases this with rfl | rfl | rfl | rfl | rfl | rfl
  ·
    refine ACF.of tab_ok mixed_ok Try.func74 (by rfl) (by kernel_rfl) ?_; rintro ⟨P, T, hT, hm, w0, S0, rd0, k0⟩ hP hTT hN; dsimp only at hP hTT hN; subst hP hTT; dsimp only; unfold initSt; rw [Try.ntmps74]
    (repeat (first | with_reducible refine AW.seq ?_ | ((first | refine arun_kn 1 rfl (fun C hC => ?_) | refine arunD_kn 1 rfl (fun C hC => ?_)); (repeat ((conv => whnf); simp)); refine hC _ ?_; clear hC C; simp only [List.drop, Nat.reduceAdd]) | (refine arun_skip ?_ ?_; (focus (simp [awant]; done))) | (refine AW.regionK [] (fun K hK => ?_)) | (refine AW.regionDK [] (pcs [] []) (by kernel_rfl) (by kernel_rfl) (fun K hK => ?_)) | (refine AW.condT ?_ ?_; (focus (simp [aev]; done))) | (refine AW.condF ?_ ?_; (focus (simp [aev]; done))) | with_reducible refine AW.block ?_ | ((first | ((first | refine arun_nil ?_ | refine arunD_nil ?_); refine hK _ ?_; clear hK K) | refine AW.skip ?_ | refine AW.exit ?_ | refine AW.ret ?_); simp only [wE, if_true, if_false, Nat.reduceEqDiff, reduceIte, endF_ret, endF_normal])))
    exact ⟨.str (wd 1), by simp [ares, aresL, wd], pur_str, fun b hb => by simp [at_str] at hb, rfl⟩
  ·
    refine ACF.of tab_ok mixed_ok Try.func74 (by rfl) (by kernel_rfl) ?_; rintro ⟨P, T, hT, hm, w0, S0, rd0, k0⟩ hP hTT hN; dsimp only at hP hTT hN; subst hP hTT; dsimp only; unfold initSt; rw [Try.ntmps74]
    (repeat (first | with_reducible refine AW.seq ?_ | ((first | refine arun_kn 1 rfl (fun C hC => ?_) | refine arunD_kn 1 rfl (fun C hC => ?_)); (repeat ((conv => whnf); simp)); refine hC _ ?_; clear hC C; simp only [List.drop, Nat.reduceAdd]) | (refine arun_skip ?_ ?_; (focus (simp [awant]; done))) | (refine AW.regionK [] (fun K hK => ?_)) | (refine AW.regionDK [] (pcs [] []) (by kernel_rfl) (by kernel_rfl) (fun K hK => ?_)) | (refine AW.condT ?_ ?_; (focus (simp [aev]; done))) | (refine AW.condF ?_ ?_; (focus (simp [aev]; done))) | with_reducible refine AW.block ?_ | ((first | ((first | refine arun_nil ?_ | refine arunD_nil ?_); refine hK _ ?_; clear hK K) | refine AW.skip ?_ | refine AW.exit ?_ | refine AW.ret ?_); simp only [wE, if_true, if_false, Nat.reduceEqDiff, reduceIte, endF_ret, endF_normal])))
    exact ⟨.str (wd 2), by simp [ares, aresL, wd], pur_str, fun b hb => by simp [at_str] at hb, rfl⟩
  ·
    refine ACF.of tab_ok mixed_ok Try.func74 (by rfl) (by kernel_rfl) ?_; rintro ⟨P, T, hT, hm, w0, S0, rd0, k0⟩ hP hTT hN; dsimp only at hP hTT hN; subst hP hTT; dsimp only; unfold initSt; rw [Try.ntmps74]
    (repeat (first | with_reducible refine AW.seq ?_ | ((first | refine arun_kn 1 rfl (fun C hC => ?_) | refine arunD_kn 1 rfl (fun C hC => ?_)); (repeat ((conv => whnf); simp)); refine hC _ ?_; clear hC C; simp only [List.drop, Nat.reduceAdd]) | (refine arun_skip ?_ ?_; (focus (simp [awant]; done))) | (refine AW.regionK [] (fun K hK => ?_)) | (refine AW.regionDK [] (pcs [] []) (by kernel_rfl) (by kernel_rfl) (fun K hK => ?_)) | (refine AW.condT ?_ ?_; (focus (simp [aev]; done))) | (refine AW.condF ?_ ?_; (focus (simp [aev]; done))) | with_reducible refine AW.block ?_ | ((first | ((first | refine arun_nil ?_ | refine arunD_nil ?_); refine hK _ ?_; clear hK K) | refine AW.skip ?_ | refine AW.exit ?_ | refine AW.ret ?_); simp only [wE, if_true, if_false, Nat.reduceEqDiff, reduceIte, endF_ret, endF_normal])))
    exact ⟨.str (wd 3), by simp [ares, aresL, wd], pur_str, fun b hb => by simp [at_str] at hb, rfl⟩
  ·
    refine ACF.of tab_ok mixed_ok Try.func74 (by rfl) (by kernel_rfl) ?_; rintro ⟨P, T, hT, hm, w0, S0, rd0, k0⟩ hP hTT hN; dsimp only at hP hTT hN; subst hP hTT; dsimp only; unfold initSt; rw [Try.ntmps74]
    (repeat (first | with_reducible refine AW.seq ?_ | ((first | refine arun_kn 1 rfl (fun C hC => ?_) | refine arunD_kn 1 rfl (fun C hC => ?_)); (repeat ((conv => whnf); simp)); refine hC _ ?_; clear hC C; simp only [List.drop, Nat.reduceAdd]) | (refine arun_skip ?_ ?_; (focus (simp [awant]; done))) | (refine AW.regionK [] (fun K hK => ?_)) | (refine AW.regionDK [] (pcs [] []) (by kernel_rfl) (by kernel_rfl) (fun K hK => ?_)) | (refine AW.condT ?_ ?_; (focus (simp [aev]; done))) | (refine AW.condF ?_ ?_; (focus (simp [aev]; done))) | with_reducible refine AW.block ?_ | ((first | ((first | refine arun_nil ?_ | refine arunD_nil ?_); refine hK _ ?_; clear hK K) | refine AW.skip ?_ | refine AW.exit ?_ | refine AW.ret ?_); simp only [wE, if_true, if_false, Nat.reduceEqDiff, reduceIte, endF_ret, endF_normal])))
    exact ⟨.str (wd 4), by simp [ares, aresL, wd], pur_str, fun b hb => by simp [at_str] at hb, rfl⟩
  ·
    refine ACF.of tab_ok mixed_ok Try.func74 (by rfl) (by kernel_rfl) ?_; rintro ⟨P, T, hT, hm, w0, S0, rd0, k0⟩ hP hTT hN; dsimp only at hP hTT hN; subst hP hTT; dsimp only; unfold initSt; rw [Try.ntmps74]
    (repeat (first | with_reducible refine AW.seq ?_ | ((first | refine arun_kn 1 rfl (fun C hC => ?_) | refine arunD_kn 1 rfl (fun C hC => ?_)); (repeat ((conv => whnf); simp)); refine hC _ ?_; clear hC C; simp only [List.drop, Nat.reduceAdd]) | (refine arun_skip ?_ ?_; (focus (simp [awant]; done))) | (refine AW.regionK [] (fun K hK => ?_)) | (refine AW.regionDK [] (pcs [] []) (by kernel_rfl) (by kernel_rfl) (fun K hK => ?_)) | (refine AW.condT ?_ ?_; (focus (simp [aev]; done))) | (refine AW.condF ?_ ?_; (focus (simp [aev]; done))) | with_reducible refine AW.block ?_ | ((first | ((first | refine arun_nil ?_ | refine arunD_nil ?_); refine hK _ ?_; clear hK K) | refine AW.skip ?_ | refine AW.exit ?_ | refine AW.ret ?_); simp only [wE, if_true, if_false, Nat.reduceEqDiff, reduceIte, endF_ret, endF_normal])))
    exact ⟨.str (wd 5), by simp [ares, aresL, wd], pur_str, fun b hb => by simp [at_str] at hb, rfl⟩
  ·
    refine ACF.of tab_ok mixed_ok Try.func74 (by rfl) (by kernel_rfl) ?_; rintro ⟨P, T, hT, hm, w0, S0, rd0, k0⟩ hP hTT hN; dsimp only at hP hTT hN; subst hP hTT; dsimp only; unfold initSt; rw [Try.ntmps74]
    (repeat (first | with_reducible refine AW.seq ?_ | ((first | refine arun_kn 1 rfl (fun C hC => ?_) | refine arunD_kn 1 rfl (fun C hC => ?_)); (repeat ((conv => whnf); simp)); refine hC _ ?_; clear hC C; simp only [List.drop, Nat.reduceAdd]) | (refine arun_skip ?_ ?_; (focus (simp [awant]; done))) | (refine AW.regionK [] (fun K hK => ?_)) | (refine AW.regionDK [] (pcs [] []) (by kernel_rfl) (by kernel_rfl) (fun K hK => ?_)) | (refine AW.condT ?_ ?_; (focus (simp [aev]; done))) | (refine AW.condF ?_ ?_; (focus (simp [aev]; done))) | with_reducible refine AW.block ?_ | ((first | ((first | refine arun_nil ?_ | refine arunD_nil ?_); refine hK _ ?_; clear hK K) | refine AW.skip ?_ | refine AW.exit ?_ | refine AW.ret ?_); simp only [wE, if_true, if_false, Nat.reduceEqDiff, reduceIte, endF_ret, endF_normal])))
    exact ⟨.str (wd 6), by simp [ares, aresL, wd], pur_str, fun b hb => by simp [at_str] at hb, rfl⟩
theorem numberOf_AC (t : ByteArray) : AC Try.prog 99 [.str t, .int .i64 1, .int .i64 6, .fn 74 []] 0 (fun r => r = .tup [.int .i64 (kdN t : Nat), .bool (decide (1 ≤ kdN t))]) := by
  refine AC.of tab_ok mixed_ok Try.func99 (by rfl) (by kernel_rfl) ?_; rintro ⟨P, T, hT, hm, w0, S0, rd0, k0⟩ hP hTT; dsimp only at hP hTT; subst hP hTT; unfold initSt; rw [Try.ntmps99]
  (repeat (first | with_reducible refine AW.seq ?_ | ((first | refine arun_kn 1 rfl (fun C hC => ?_) | refine arunD_kn 1 rfl (fun C hC => ?_)); (repeat ((conv => whnf); simp)); refine hC _ ?_; clear hC C; simp only [List.drop, Nat.reduceAdd]) | (refine arun_skip ?_ ?_; (focus (simp [awant]; done))) | (refine AW.regionK [] (fun K hK => ?_)) | (refine AW.regionDK [] (pcs [] []) (by kernel_rfl) (by kernel_rfl) (fun K hK => ?_)) | (refine AW.condT ?_ ?_; (focus (simp [aev]; done))) | (refine AW.condF ?_ ?_; (focus (simp [aev]; done))) | with_reducible refine AW.block ?_ | ((first | ((first | refine arun_nil ?_ | refine arunD_nil ?_); refine hK _ ?_; clear hK K) | refine AW.skip ?_ | refine AW.exit ?_ | refine AW.ret ?_); simp only [wE, if_true, if_false, Nat.reduceEqDiff, reduceIte, endF_ret, endF_normal])))
  refine AW.loopS (fun (i : Nat) => mkSt (slots 0 23 [(0, .str t), (2, .int .i64 6), (3, .fn 74 []), (10, .int .i64 i)]) [] [] (rd0.map fun _ => 0)) (fun i => 7 - i) (fun i => 1 ≤ i ∧ i ≤ 7 ∧ ∀ j, 1 ≤ j → j < i → t ≠ wd j) 1 ?_ ⟨Nat.le_refl _, by omega, fun j h1 h2 => by omega⟩ ?_
  · exact (less_of (by simp [lessL, mkSt, slots, in_fn]) (by simp [upd, mkSt, rowsOf_cons, in_fn]) (by simp [upd, mkSt, usedOf_cons, in_fn]) (by first | exact rd_less (by omega) | simp [mkSt, in_fn]) (by simp [slots, in_any, in_int, in_bool, in_str, in_ptr, in_own, in_agg, in_vnil, in_rdr, usedOf_cons, usedOf_nil, strs_in, ints_in, nodes_in, in_tup, in_fn]) (by simp only [List.forall_mem_cons, List.not_mem_nil, false_implies, implies_true, and_true, true_and, in_fn]; (repeat (first | with_reducible exact trivial | with_reducible refine And.intro ?_ ?_ | with_reducible exact in_int | with_reducible exact in_str | with_reducible exact in_bool | with_reducible exact strs_in _ | with_reducible exact nodes_in _ | with_reducible exact items_in _ | with_reducible exact in_vnil | with_reducible exact in_any | exact hin _ | with_reducible refine take_in ?_ | with_reducible exact strsE_in _ | with_reducible exact nodesE_in _ | with_reducible exact nodeL_in _ | with_reducible exact itemsE_in _ | with_reducible exact itemL_in _ | with_reducible refine app_in ?_ ?_ | with_reducible refine sing_in ?_ | (focus (simp [in_any, in_int, in_bool, in_str, in_ptr, in_own, in_agg, in_vnil, in_rdr, usedOf_cons, usedOf_nil, strs_in, ints_in, nodes_in, in_fn]; done)))); done))
  rintro i ⟨hi1, hi7, hno⟩
  by_cases hlt : i ≤ 6
  rotate_left
  · obtain rfl : i = 7 := by omega
    have hk : kdN t = 0 := kdT_none hno
    (repeat (first | with_reducible refine AW.seq ?_ | ((first | refine arun_kn 1 rfl (fun C hC => ?_) | refine arunD_kn 1 rfl (fun C hC => ?_)); (repeat ((conv => whnf); simp)); refine hC _ ?_; clear hC C; simp only [List.drop, Nat.reduceAdd]) | (refine arun_skip ?_ ?_; (focus (simp [awant]; done))) | (refine AW.regionK [] (fun K hK => ?_)) | (refine AW.regionDK [] (pcs [] []) (by kernel_rfl) (by kernel_rfl) (fun K hK => ?_)) | (refine AW.condT ?_ ?_; (focus (simp [aev]; done))) | (refine AW.condF ?_ ?_; (focus (simp [aev]; done))) | with_reducible refine AW.block ?_ | ((first | ((first | refine arun_nil ?_ | refine arunD_nil ?_); refine hK _ ?_; clear hK K) | refine AW.skip ?_ | refine AW.exit ?_ | refine AW.ret ?_); simp only [wE, if_true, if_false, Nat.reduceEqDiff, reduceIte, endF_ret, endF_normal])))
    exact ⟨.tup [.int .i64 0, .bool false], by simp [ares, aresL], tup2_pur pur_int pur_bool, by rw [hk]; rfl⟩
  have hlt' : ((i : Int) ≤ 6) = True := by simp; omega
  have hw : IntKind.i64.wrap ((i : Int) + 1) = (i : Int) + 1 := i64_nat (by omega) (by omega)
  (repeat (first | with_reducible refine AW.seq ?_ | ((first | refine arun_kn 1 rfl (fun C hC => ?_) | refine arunD_kn 1 rfl (fun C hC => ?_)); (repeat ((conv => whnf); simp [hlt'])); refine hC _ ?_; clear hC C; simp only [List.drop, Nat.reduceAdd]) | (refine arun_skip ?_ ?_; (focus (simp [awant, hlt']; done))) | (refine AW.regionK [] (fun K hK => ?_)) | (refine AW.regionDK [] (pcs [] []) (by kernel_rfl) (by kernel_rfl) (fun K hK => ?_)) | (refine AW.condT ?_ ?_; (focus (simp [aev, hlt']; done))) | (refine AW.condF ?_ ?_; (focus (simp [aev, hlt']; done))) | with_reducible refine AW.block ?_ | ((first | ((first | refine arun_nil ?_ | refine arunD_nil ?_); refine hK _ ?_; clear hK K) | refine AW.skip ?_ | refine AW.exit ?_ | refine AW.ret ?_); simp only [wE, if_true, if_false, Nat.reduceEqDiff, reduceIte, endF_ret, endF_normal])))
  refine arun_callFn rfl (by rfl) (by simp [awant]) (by simp [aev]) (opWord_ACF hi1 hlt) ⟨clo_int, trivial⟩ (can_of (Nat.le_refl _)) ?_
  rintro _ rfl hA
  by_cases he : t = wd i
  · have e1 : eqs (wd i) t = true := eqs_iff.2 he.symm
    have hk : kdN t = i := kdT_of hi1 hlt he (by omega) (Nat.le_refl _)
    (repeat (first | with_reducible refine AW.seq ?_ | ((first | refine arun_kn 1 rfl (fun C hC => ?_) | refine arunD_kn 1 rfl (fun C hC => ?_)); (repeat ((conv => whnf); simp [e1])); refine hC _ ?_; clear hC C; simp only [List.drop, Nat.reduceAdd]) | (refine arun_skip ?_ ?_; (focus (simp [awant, e1]; done))) | (refine AW.regionK [] (fun K hK => ?_)) | (refine AW.regionDK [] (pcs [] []) (by kernel_rfl) (by kernel_rfl) (fun K hK => ?_)) | (refine AW.condT ?_ ?_; (focus (simp [aev, e1]; done))) | (refine AW.condF ?_ ?_; (focus (simp [aev, e1]; done))) | with_reducible refine AW.block ?_ | ((first | ((first | refine arun_nil ?_ | refine arunD_nil ?_); refine hK _ ?_; clear hK K) | refine AW.skip ?_ | refine AW.exit ?_ | refine AW.ret ?_); simp only [wE, if_true, if_false, Nat.reduceEqDiff, reduceIte, endF_ret, endF_normal])))
    exact ⟨.tup [.int .i64 i, .bool true], by simp [ares, aresL], tup2_pur pur_int pur_bool, by rw [hk]; simp; omega⟩
  · have e1 : eqs (wd i) t = false := eqs_false.2 (fun h => he h.symm)
    (repeat (first | with_reducible refine AW.seq ?_ | ((first | refine arun_kn 1 rfl (fun C hC => ?_) | refine arunD_kn 1 rfl (fun C hC => ?_)); (repeat ((conv => whnf); simp [e1, hw])); refine hC _ ?_; clear hC C; simp only [List.drop, Nat.reduceAdd]) | (refine arun_skip ?_ ?_; (focus (simp [awant, e1, hw]; done))) | (refine AW.regionK [] (fun K hK => ?_)) | (refine AW.regionDK [] (pcs [] []) (by kernel_rfl) (by kernel_rfl) (fun K hK => ?_)) | (refine AW.condT ?_ ?_; (focus (simp [aev, e1, hw]; done))) | (refine AW.condF ?_ ?_; (focus (simp [aev, e1, hw]; done))) | with_reducible refine AW.block ?_ | ((first | ((first | refine arun_nil ?_ | refine arunD_nil ?_); refine hK _ ?_; clear hK K) | refine AW.skip ?_ | refine AW.exit ?_ | refine AW.ret ?_); simp only [wE, if_true, if_false, Nat.reduceEqDiff, reduceIte, endF_ret, endF_normal])))
    refine ⟨i + 1, by omega, ⟨by omega, by omega, fun j h1 h2 => ?_⟩, ?_⟩
    · rcases Nat.lt_or_ge j i with h | h
      · exact hno j h1 h
      · obtain rfl : j = i := by omega
        exact he
    · exact (less_of (by simp [lessL, mkSt, slots, in_fn]) (by simp [upd, mkSt, rowsOf_cons, in_fn]) (by simp [upd, mkSt, usedOf_cons, in_fn]) (by first | exact rd_less (by omega) | simp [mkSt, in_fn]) (by simp [slots, in_any, in_int, in_bool, in_str, in_ptr, in_own, in_agg, in_vnil, in_rdr, usedOf_cons, usedOf_nil, strs_in, ints_in, nodes_in, in_tup, in_fn]) (by simp only [List.forall_mem_cons, List.not_mem_nil, false_implies, implies_true, and_true, true_and, in_fn]; (repeat (first | with_reducible exact trivial | with_reducible refine And.intro ?_ ?_ | with_reducible exact in_int | with_reducible exact in_str | with_reducible exact in_bool | with_reducible exact strs_in _ | with_reducible exact nodes_in _ | with_reducible exact items_in _ | with_reducible exact in_vnil | with_reducible exact in_any | exact hin _ | with_reducible refine take_in ?_ | with_reducible exact strsE_in _ | with_reducible exact nodesE_in _ | with_reducible exact nodeL_in _ | with_reducible exact itemsE_in _ | with_reducible exact itemL_in _ | with_reducible refine app_in ?_ ?_ | with_reducible refine sing_in ?_ | (focus (simp [in_any, in_int, in_bool, in_str, in_ptr, in_own, in_agg, in_vnil, in_rdr, usedOf_cons, usedOf_nil, strs_in, ints_in, nodes_in, in_fn]; done)))); done))
theorem equalS_AC (t t' : VC) (xs ys : List ByteArray) (hx : xs.length ≤ 1000) : AC Try.prog 97 [.view t 1 (strsE xs), .view t' 1 (strsE ys)] 0 (fun r => r = .bool (decide (xs = ys))) := by
  refine AC.of tab_ok mixed_ok Try.func97 (by rfl) (by kernel_rfl) ?_; rintro ⟨P, T, hT, hm, w0, S0, rd0, k0⟩ hP hTT; dsimp only at hP hTT; subst hP hTT; unfold initSt; rw [Try.ntmps97]
  by_cases hl : xs.length = ys.length
  rotate_left
  · have e : (decide (xs = ys)) = false := by simp; intro h; exact hl (by rw [h])
    have e1 : ((xs.length : Int) != (ys.length : Int)) = true := by simp; omega
    (repeat (first | with_reducible refine AW.seq ?_ | ((first | refine arun_kn 1 rfl (fun C hC => ?_) | refine arunD_kn 1 rfl (fun C hC => ?_)); (repeat ((conv => whnf); simp [e1, strsE_len])); refine hC _ ?_; clear hC C; simp only [List.drop, Nat.reduceAdd]) | (refine arun_skip ?_ ?_; (focus (simp [awant, e1, strsE_len]; done))) | (refine AW.regionK [] (fun K hK => ?_)) | (refine AW.regionDK [] (pcs [] []) (by kernel_rfl) (by kernel_rfl) (fun K hK => ?_)) | (refine AW.condT ?_ ?_; (focus (simp [aev, e1, strsE_len]; done))) | (refine AW.condF ?_ ?_; (focus (simp [aev, e1, strsE_len]; done))) | with_reducible refine AW.block ?_ | ((first | ((first | refine arun_nil ?_ | refine arunD_nil ?_); refine hK _ ?_; clear hK K) | refine AW.skip ?_ | refine AW.exit ?_ | refine AW.ret ?_); simp only [wE, if_true, if_false, Nat.reduceEqDiff, reduceIte, endF_ret, endF_normal])))
    exact ⟨.bool false, by simp [ares, aresL], pur_bool, by rw [e]⟩
  have e1 : ((xs.length : Int) != (ys.length : Int)) = false := by simp; omega
  (repeat (first | with_reducible refine AW.seq ?_ | ((first | refine arun_kn 1 rfl (fun C hC => ?_) | refine arunD_kn 1 rfl (fun C hC => ?_)); (repeat ((conv => whnf); simp [e1, strsE_len])); refine hC _ ?_; clear hC C; simp only [List.drop, Nat.reduceAdd]) | (refine arun_skip ?_ ?_; (focus (simp [awant, e1, strsE_len]; done))) | (refine AW.regionK [] (fun K hK => ?_)) | (refine AW.regionDK [] (pcs [] []) (by kernel_rfl) (by kernel_rfl) (fun K hK => ?_)) | (refine AW.condT ?_ ?_; (focus (simp [aev, e1, strsE_len]; done))) | (refine AW.condF ?_ ?_; (focus (simp [aev, e1, strsE_len]; done))) | with_reducible refine AW.block ?_ | ((first | ((first | refine arun_nil ?_ | refine arunD_nil ?_); refine hK _ ?_; clear hK K) | refine AW.skip ?_ | refine AW.exit ?_ | refine AW.ret ?_); simp only [wE, if_true, if_false, Nat.reduceEqDiff, reduceIte, endF_ret, endF_normal])))
  refine AW.loopS (fun (i : Nat) => mkSt (slots 0 26 [(0, .view t 1 (strsE xs)), (1, .view t' 1 (strsE ys)), (12, .int .i64 xs.length), (13, .int .i64 i)]) [] [] (rd0.map fun _ => 0)) (fun i => xs.length - i) (fun i => i ≤ xs.length ∧ decide (xs = ys) = decide (xs.drop i = ys.drop i)) 0 ?_ ⟨Nat.zero_le _, rfl⟩ ?_
  · exact less_a
  rintro i ⟨hi, hd⟩
  by_cases hlt : i < xs.length
  · have hly : i < ys.length := by omega
    have hw : IntKind.i64.wrap ((i : Int) + 1) = (i : Int) + 1 := i64_nat (by omega) (by omega)
    rw [drop_cons _ _ hlt, drop_cons _ _ hly] at hd
    by_cases he : xs[i] = ys[i]
    · have e2 : eqs xs[i] ys[i] = true := eqs_iff.2 he
      (repeat (first | with_reducible refine AW.seq ?_ | ((first | refine arun_kn 1 rfl (fun C hC => ?_) | refine arunD_kn 1 rfl (fun C hC => ?_)); (repeat ((conv => whnf); simp [hlt, hly, e2, hw, strsE_len])); refine hC _ ?_; clear hC C; simp only [List.drop, Nat.reduceAdd]) | (refine arun_skip ?_ ?_; (focus (simp [awant, hlt, hly, e2, hw, strsE_len]; done))) | (refine AW.regionK [] (fun K hK => ?_)) | (refine AW.regionDK [] (pcs [] []) (by kernel_rfl) (by kernel_rfl) (fun K hK => ?_)) | (refine AW.condT ?_ ?_; (focus (simp [aev, hlt, hly, e2, hw, strsE_len]; done))) | (refine AW.condF ?_ ?_; (focus (simp [aev, hlt, hly, e2, hw, strsE_len]; done))) | with_reducible refine AW.block ?_ | ((first | ((first | refine arun_nil ?_ | refine arunD_nil ?_); refine hK _ ?_; clear hK K) | refine AW.skip ?_ | refine AW.exit ?_ | refine AW.ret ?_); simp only [wE, if_true, if_false, Nat.reduceEqDiff, reduceIte, endF_ret, endF_normal])))
      refine ⟨i + 1, by omega, ⟨by omega, by rw [hd, he]; exact decide_eq_decide.2 ⟨fun h => (List.cons.inj h).2, fun h => by rw [h]⟩⟩, ?_⟩
      exact less_a
    · have e2 : eqs xs[i] ys[i] = false := eqs_false.2 he
      (repeat (first | with_reducible refine AW.seq ?_ | ((first | refine arun_kn 1 rfl (fun C hC => ?_) | refine arunD_kn 1 rfl (fun C hC => ?_)); (repeat ((conv => whnf); simp [hlt, hly, e2, hw, strsE_len])); refine hC _ ?_; clear hC C; simp only [List.drop, Nat.reduceAdd]) | (refine arun_skip ?_ ?_; (focus (simp [awant, hlt, hly, e2, hw, strsE_len]; done))) | (refine AW.regionK [] (fun K hK => ?_)) | (refine AW.regionDK [] (pcs [] []) (by kernel_rfl) (by kernel_rfl) (fun K hK => ?_)) | (refine AW.condT ?_ ?_; (focus (simp [aev, hlt, hly, e2, hw, strsE_len]; done))) | (refine AW.condF ?_ ?_; (focus (simp [aev, hlt, hly, e2, hw, strsE_len]; done))) | with_reducible refine AW.block ?_ | ((first | ((first | refine arun_nil ?_ | refine arunD_nil ?_); refine hK _ ?_; clear hK K) | refine AW.skip ?_ | refine AW.exit ?_ | refine AW.ret ?_); simp only [wE, if_true, if_false, Nat.reduceEqDiff, reduceIte, endF_ret, endF_normal])))
      exact ⟨.bool false, by simp [ares, aresL], pur_bool, by rw [hd, decide_eq_false (fun h => he (List.cons.inj h).1)]⟩
  · have e : (decide (xs = ys)) = true := by rw [hd, List.drop_eq_nil_of_le (by omega), List.drop_eq_nil_of_le (by omega)]; rfl
    (repeat (first | with_reducible refine AW.seq ?_ | ((first | refine arun_kn 1 rfl (fun C hC => ?_) | refine arunD_kn 1 rfl (fun C hC => ?_)); (repeat ((conv => whnf); simp [hlt, strsE_len])); refine hC _ ?_; clear hC C; simp only [List.drop, Nat.reduceAdd]) | (refine arun_skip ?_ ?_; (focus (simp [awant, hlt, strsE_len]; done))) | (refine AW.regionK [] (fun K hK => ?_)) | (refine AW.regionDK [] (pcs [] []) (by kernel_rfl) (by kernel_rfl) (fun K hK => ?_)) | (refine AW.condT ?_ ?_; (focus (simp [aev, hlt, strsE_len]; done))) | (refine AW.condF ?_ ?_; (focus (simp [aev, hlt, strsE_len]; done))) | with_reducible refine AW.block ?_ | ((first | ((first | refine arun_nil ?_ | refine arunD_nil ?_); refine hK _ ?_; clear hK K) | refine AW.skip ?_ | refine AW.exit ?_ | refine AW.ret ?_); simp only [wE, if_true, if_false, Nat.reduceEqDiff, reduceIte, endF_ret, endF_normal])))
    exact ⟨.bool true, by simp [ares, aresL], pur_bool, by rw [e]⟩
def rStB (n : Nd) (r : AV) : Prop := ∃ (g : Nat) (p : List ByteArray), (lstB n = true → p = txtsN n) ∧ r = .tup [.view (.fr g) 1 (strsE p), .bool (lstB n && pathB (txtsN n))]
theorem rStB_no {n : Nd} (h : lstB n = false) : rStB n (.tup [.view (.fr 0) 1 [], .bool false]) := ⟨0, [], (fun e => by rw [h] at e; cases e), by rw [h]; rfl⟩
theorem nodeToPath_ACF (n : Nd) (hn : Good n) : ACF Try.prog 98 [nodeA n] 0 (rStB n) := by
  refine ACF.weak ?_
  have hk6 := hn.kids6
  unfold nodeA
  rw [nodeL_eq]
  by_cases h3 : n.kind = 3
  rotate_left
  · have hb : lstB n = false := by unfold lstB; simp [h3]
    have e3 : (n.kind != 3) = true := by simpa using h3
    refine ACF.of tab_ok mixed_ok Try.func98 (by rfl) (by kernel_rfl) ?_; rintro ⟨P, T, hT, hm, w0, S0, rd0, k0⟩ hP hTT hN; dsimp only at hP hTT hN; subst hP hTT; dsimp only; unfold initSt; rw [Try.ntmps98]
    (repeat (first | with_reducible refine AW.seq ?_ | ((first | refine arun_kn 1 rfl (fun C hC => ?_) | refine arunD_kn 1 rfl (fun C hC => ?_)); (repeat ((conv => whnf); simp [e3])); refine hC _ ?_; clear hC C; simp only [List.drop, Nat.reduceAdd]) | (refine arun_skip ?_ ?_; (focus (simp [awant, e3]; done))) | (refine AW.regionK [] (fun K hK => ?_)) | (refine AW.regionDK [] (pcs [] []) (by kernel_rfl) (by kernel_rfl) (fun K hK => ?_)) | (refine AW.condT ?_ ?_; (focus (simp [aev, e3]; done))) | (refine AW.condF ?_ ?_; (focus (simp [aev, e3]; done))) | with_reducible refine AW.block ?_ | ((first | ((first | refine arun_nil ?_ | refine arunD_nil ?_); refine hK _ ?_; clear hK K) | refine AW.skip ?_ | refine AW.exit ?_ | refine AW.ret ?_); simp only [wE, if_true, if_false, Nat.reduceEqDiff, reduceIte, endF_ret, endF_normal])))
    exact ⟨.tup [.view .tight 0 [], .bool false], by simp [ares, aresL], tup2_pur (pur_view (by decide) (fun e he => by cases he)) pur_bool, fun b hb => by simp [at_tup, atL_cons, atL_nil, at_view, atE_nil, frB_tight, at_bool] at hb, .tup [.view (.fr 0) 1 [], .bool false], Wk.tup (.cons (Wk.nil (fun h => by cases h)) (.cons (Wk.refl _) .nil)), fun b hb => by simp [at_tup, atL_cons, atL_nil, at_view, atE_nil, frB_fr, at_bool] at hb, rStB_no hb⟩
  have e3 : (n.kind != 3) = false := by simp [h3]
  refine ACF.of tab_ok mixed_ok Try.func98 (by rfl) (by kernel_rfl) ?_; rintro ⟨P, T, hT, hm, w0, S0, rd0, k0⟩ hP hTT hN; dsimp only at hP hTT hN; subst hP hTT; dsimp only; unfold initSt; rw [Try.ntmps98]
  (repeat (first | with_reducible refine AW.seq ?_ | ((first | refine arun_kn 1 rfl (fun C hC => ?_) | refine arunD_kn 1 rfl (fun C hC => ?_)); (repeat ((conv => whnf); simp [e3])); refine hC _ ?_; clear hC C; simp only [List.drop, Nat.reduceAdd]) | (refine arun_skip ?_ ?_; (focus (simp [awant, e3]; done))) | (refine AW.regionK [] (fun K hK => ?_)) | (refine AW.regionDK [] (pcs [] []) (by kernel_rfl) (by kernel_rfl) (fun K hK => ?_)) | (refine AW.condT ?_ ?_; (focus (simp [aev, e3]; done))) | (refine AW.condF ?_ ?_; (focus (simp [aev, e3]; done))) | with_reducible refine AW.block ?_ | ((first | ((first | refine arun_nil ?_ | refine arunD_nil ?_); refine hK _ ?_; clear hK K) | refine AW.skip ?_ | refine AW.exit ?_ | refine AW.ret ?_); simp only [wE, if_true, if_false, Nat.reduceEqDiff, reduceIte, endF_ret, endF_normal])))
  refine AW.adopt 4 50 9 1 ⟨_, tab9, rfl⟩ rfl rfl ?_
  simp only [ASt.adopt, ASt.add, List.set_cons_zero, List.set_cons_succ]
  refine AW.loopS (fun (i : Nat) => mkSt (slots 0 29 [(1, .ptr true 5 1 1 0 0), (4, .own 50 i), (11, .view .loose 5 (n.kids.map nodeL)), (12, .int .i64 n.kids.length), (13, .int .i64 i)]) [(1, ⟨true, 30, 5, [nodeL n]⟩), (50, ⟨false, 9, 1, strsE ((txtsN n).take i)⟩)] [1, 50] (rd0.map fun _ => 0)) (fun i => n.kids.length - i) (fun i => i ≤ n.kids.length ∧ ∀ j (h : j < n.kids.length), j < i → n.kids[j].kind = 2) 0 ?_ ⟨Nat.zero_le _, fun j _ h => by omega⟩ ?_
  · have hs0 : strsE [] = [] := rfl
    rw [nodeL_eq]
    exact (less_of (by simp [lessL, mkSt, slots, ASt.adopt, ASt.add, hs0]) (by simp [upd, mkSt, rowsOf_cons, ASt.adopt, ASt.add, hs0]) (by simp [upd, mkSt, usedOf_cons, ASt.adopt, ASt.add, hs0]) (by first | exact rd_less (by omega) | simp [mkSt, ASt.adopt, ASt.add, hs0]) (by simp [slots, in_any, in_int, in_bool, in_str, in_ptr, in_own, in_agg, in_vnil, in_rdr, usedOf_cons, usedOf_nil, strs_in, ints_in, nodes_in, in_tup, ASt.adopt, ASt.add, hs0]) (by simp only [List.forall_mem_cons, List.not_mem_nil, false_implies, implies_true, and_true, true_and, ASt.adopt, ASt.add, hs0]; (repeat (first | with_reducible exact trivial | with_reducible refine And.intro ?_ ?_ | with_reducible exact in_int | with_reducible exact in_str | with_reducible exact in_bool | with_reducible exact strs_in _ | with_reducible exact nodes_in _ | with_reducible exact items_in _ | with_reducible exact in_vnil | with_reducible exact in_any | exact hin _ | with_reducible refine take_in ?_ | with_reducible exact strsE_in _ | with_reducible exact nodesE_in _ | with_reducible exact nodeL_in _ | with_reducible exact itemsE_in _ | with_reducible exact itemL_in _ | with_reducible refine app_in ?_ ?_ | with_reducible refine sing_in ?_ | (focus (simp [in_any, in_int, in_bool, in_str, in_ptr, in_own, in_agg, in_vnil, in_rdr, usedOf_cons, usedOf_nil, strs_in, ints_in, nodes_in, ASt.adopt, ASt.add, hs0]; done)))); done))
  rintro i ⟨hi, hall⟩
  rw [nodeL_eq]
  have hl : (strsE ((txtsN n).take i)).length = i := by rw [strsE_len, List.length_take, txtsN_len]; omega
  by_cases hlt : i < n.kids.length
  · have hw : IntKind.i64.wrap ((i : Int) + 1) = (i : Int) + 1 := i64_nat (by omega) (by omega)
    have hlt' : (i : Int) < (n.kids.length : Int) := by omega
    have hb1 : (i + 1) * 16 ≤ 140737488355328 := by omega
    have hb2 : i + 1 ≤ 140737488355328 := by omega
    have x1 : (n.kids.map nodeL)[i]? = some [.int .i64 n.kids[i].kind, .int .i64 n.kids[i].num, .str n.kids[i].text, .view .loose 1 (strsE n.kids[i].names), .view .loose 5 (n.kids[i].kids.map nodeL)] := by rw [List.getElem?_map, List.getElem?_eq_getElem hlt, ← nodeL_eq]; rfl
    have htk : strsE ((txtsN n).take (i + 1)) = strsE ((txtsN n).take i) ++ [[.str n.kids[i].text]] := by
      rw [take_snoc' _ _ (by rw [txtsN_len]; exact hlt)]
      unfold strsE txtsN
      rw [List.map_append, List.getElem_map]; rfl
    have hin := fun (U : Nat → Bool) => strsE_in (U := U) ((txtsN n).take (i + 1))
    rw [htk] at hin
    by_cases h2 : n.kids[i].kind = 2
    · have e2 : (n.kids[i].kind != 2) = false := by simp [h2]
      generalize strsE ((txtsN n).take i) = Ks at *
      (repeat (first | with_reducible refine AW.seq ?_ | ((first | refine arun_kn 1 rfl (fun C hC => ?_) | refine arunD_kn 1 rfl (fun C hC => ?_)); (repeat ((conv => whnf); simp [hlt, hlt', x1, e2, hw, hl, hb1, hb2])); refine hC _ ?_; clear hC C; simp only [List.drop, Nat.reduceAdd]) | (refine arun_skip ?_ ?_; (focus (simp [awant, hlt, hlt', x1, e2, hw, hl, hb1, hb2]; done))) | (refine AW.regionK [] (fun K hK => ?_)) | (refine AW.regionDK [] (pcs [] []) (by kernel_rfl) (by kernel_rfl) (fun K hK => ?_)) | (refine AW.condT ?_ ?_; (focus (simp [aev, hlt, hlt', x1, e2, hw, hl, hb1, hb2]; done))) | (refine AW.condF ?_ ?_; (focus (simp [aev, hlt, hlt', x1, e2, hw, hl, hb1, hb2]; done))) | with_reducible refine AW.block ?_ | ((first | ((first | refine arun_nil ?_ | refine arunD_nil ?_); refine hK _ ?_; clear hK K) | refine AW.skip ?_ | refine AW.exit ?_ | refine AW.ret ?_); simp only [wE, if_true, if_false, Nat.reduceEqDiff, reduceIte, endF_ret, endF_normal])))
      refine ⟨i + 1, by omega, ⟨by omega, fun j h hj => ?_⟩, ?_⟩
      · rcases Nat.lt_or_ge j i with h' | h'
        · exact hall j h h'
        · obtain rfl : j = i := by omega
          exact h2
      · rw [htk]
        exact less_a
    · have hb : lstB n = false := by
        unfold lstB
        have : n.kids.all (fun k => decide (k.kind = 2)) = false := by
          rw [List.all_eq_false]
          exact ⟨n.kids[i], List.getElem_mem hlt, by simp [h2]⟩
        rw [this, Bool.and_false]
      have e2 : (n.kids[i].kind != 2) = true := by simpa using h2
      (repeat (first | with_reducible refine AW.seq ?_ | ((first | refine arun_kn 1 rfl (fun C hC => ?_) | refine arunD_kn 1 rfl (fun C hC => ?_)); (repeat ((conv => whnf); simp [hlt, hlt', x1, e2, hl])); refine hC _ ?_; clear hC C; simp only [List.drop, Nat.reduceAdd]) | (refine arun_skip ?_ ?_; (focus (simp [awant, hlt, hlt', x1, e2, hl]; done))) | (refine AW.regionK [] (fun K hK => ?_)) | (refine AW.regionDK [] (pcs [] []) (by kernel_rfl) (by kernel_rfl) (fun K hK => ?_)) | (refine AW.condT ?_ ?_; (focus (simp [aev, hlt, hlt', x1, e2, hl]; done))) | (refine AW.condF ?_ ?_; (focus (simp [aev, hlt, hlt', x1, e2, hl]; done))) | with_reducible refine AW.block ?_ | ((first | ((first | refine arun_nil ?_ | refine arunD_nil ?_); refine hK _ ?_; clear hK K) | refine AW.skip ?_ | refine AW.exit ?_ | refine AW.ret ?_); simp only [wE, if_true, if_false, Nat.reduceEqDiff, reduceIte, endF_ret, endF_normal])))
      exact ⟨.tup [.view .tight 0 [], .bool false], by simp [ares, aresL], tup2_pur (pur_view (by decide) (fun e he => by cases he)) pur_bool, fun b hb => by simp [at_tup, atL_cons, atL_nil, at_view, atE_nil, frB_tight, at_bool] at hb, .tup [.view (.fr 0) 1 [], .bool false], Wk.tup (.cons (Wk.nil (fun h => by cases h)) (.cons (Wk.refl _) .nil)), fun b hb => by simp [at_tup, atL_cons, atL_nil, at_view, atE_nil, frB_fr, at_bool] at hb, rStB_no hb⟩
  obtain rfl : i = n.kids.length := by omega
  have hb : lstB n = true := by
    unfold lstB
    rw [Bool.and_eq_true, decide_eq_true_eq, List.all_eq_true]
    refine ⟨h3, fun k hk => ?_⟩
    obtain ⟨j, hj, rfl⟩ := List.getElem_of_mem hk
    simpa using hall j hj hj
  have htk2 : (txtsN n).take n.kids.length = txtsN n := List.take_of_length_le (by rw [txtsN_len]; exact Nat.le_refl _)
  rw [htk2] at hl ⊢
  refine AW.holdF 50 hN (fun g hg ht hr => ?_)
  clear ht hr
  have pp := isPath_AC (txtsN n) (.fr g)
  (repeat (first | with_reducible refine AW.seq ?_ | ((first | refine arun_kn 1 rfl (fun C hC => ?_) | refine arunD_kn 1 rfl (fun C hC => ?_)); (repeat ((conv => whnf); simp [hlt, txtsN_len, ASt.holdF, AV.subL, AV.sub, Row.sub, rowsOf_cons, upd, strsE_len, strsE_sub])); refine hC _ ?_; clear hC C; simp only [List.drop, Nat.reduceAdd]) | (refine arun_skip ?_ ?_; (focus (simp [awant, hlt, txtsN_len, ASt.holdF, AV.subL, AV.sub, Row.sub, rowsOf_cons, upd, strsE_len, strsE_sub]; done))) | (refine arun_c0 (pp) ?_; rintro _ rfl) | (refine AW.regionK [] (fun K hK => ?_)) | (refine AW.regionDK [] (pcs [] []) (by kernel_rfl) (by kernel_rfl) (fun K hK => ?_)) | (refine AW.condT ?_ ?_; (focus (simp [aev, hlt, txtsN_len, ASt.holdF, AV.subL, AV.sub, Row.sub, rowsOf_cons, upd, strsE_len, strsE_sub]; done))) | (refine AW.condF ?_ ?_; (focus (simp [aev, hlt, txtsN_len, ASt.holdF, AV.subL, AV.sub, Row.sub, rowsOf_cons, upd, strsE_len, strsE_sub]; done))) | with_reducible refine AW.block ?_ | ((first | ((first | refine arun_nil ?_ | refine arunD_nil ?_); refine hK _ ?_; clear hK K) | refine AW.skip ?_ | refine AW.exit ?_ | refine AW.ret ?_); simp only [wE, if_true, if_false, Nat.reduceEqDiff, reduceIte, endF_ret, endF_normal])))
  refine ⟨.tup [.view (.fr g) 1 (strsE (txtsN n)), .bool (pathB (txtsN n))], by simp [ares, aresL, upd, rowsOf_cons, strsE_sub], tup2_pur (pur_view (by simp) (strsE_pur _)) pur_bool, fun b hb' => ?_, _, Wk.refl _, fun _ h => h, g, txtsN n, fun _ => rfl, by rw [hb]; rfl⟩
  rw [at_tup, atL_cons, atL_cons, atL_nil, at_bool, at_view, at_strsE, frB_fr] at hb'
  simp only [List.append_nil] at hb'
  split at hb' <;> simp at hb'
  rw [hb']; exact hg
end Go.Proofs.Ytgfnmhfdmmnaoaa.Eng
-- EV: skip
namespace Go.Proofs.Ytgfnmhfdmmnaoaa.Eng
open Go Go.RowKit
attribute [local simp] big size_mk ASt.pay Option.map_map Function.comp_def awant aop acall ado aev ofVal ofVal0 ASt.put ASt.add ASt.turn ASt.kill abox aalloc astore aload aloadD astoreD idOf ASt.at cellsTo afieldAddr afield aindexAddr aindex alen abin aint acmp astr aun apick aextract anil aslice abound abuild afill abuildSlice asCells aps avCells over upd aappend asrc amax amin aconv mkSt slots rowsOf_cons rowsOf_nil usedOf_cons usedOf_nil ZK.av List.replicate ASt.back ASt.addL ASt.killL nodeA nodeT nodeTL_eq nodeL_eq strsE_get strsE_len intsE_get intsE_len strsE_at intsE_at tab2 tab3 tab4 tab5 tab6 tab7 tab8 tab9 tab10 tab11 tab12 tab13 tab14 tab15 tab16 tab17 tab18 tab19 tab21 tab22 tab23 tab24 tab25 tab26 tab27 tab28 tab29 tab30 tab39 tab40 tab41 tab42 tab43 tab47 tab48 tab55 tab56 tab57 tab60 tab61 tab62 tab73 tab74 tab75 tab85 tab92 tab115 tab116 tab143 tab144 tab145 tab154 tab155 tab170 tab175 tab182 tab197 tab198 tab203 tab204 tab205 tab207 tab208 tab209
set_option maxRecDepth 100000
set_option maxHeartbeats 16000000
theorem tupn_in (m : Nd) (b : Bool) : NoId (.tup [nodeA m, .bool b]) := by
  refine in_tup.2 ?_
  simp only [List.forall_mem_cons, List.not_mem_nil, false_implies, implies_true, and_true]
  exact ⟨node_in _, in_bool⟩
theorem o2n_no {o : Opr} (h : o2nB o = false) : o2nN o = Nd.zero := by unfold o2nN; rw [h]; rfl
theorem o2n_yes {o : Opr} (h : o2nB o = true) : o2nN o = opOf o := by unfold o2nN; rw [h]; rfl
theorem specOpToNode_AC (o : Opr) (hv : Sml o.2.2.2) : AC Try.prog 20 [oprA o] 0 (fun r => r = .tup [nodeA (o2nN o), .bool (o2nB o)]) := by
  refine AC.weak ?_
  have pv := validOp_AC o
  have co := oprA_clo o
  cases hvo : oprB o
  · have hb : o2nB o = false := by unfold o2nB; rw [hvo]; rfl
    rw [hvo] at pv
    unfold oprA at pv co ⊢
    refine AC.of tab_ok mixed_ok Try.func20 (by rfl) (by kernel_rfl) ?_; rintro ⟨P, T, hT, hm, w0, S0, rd0, k0⟩ hP hTT; dsimp only at hP hTT; subst hP hTT; unfold initSt; rw [Try.ntmps20]
    (repeat (first | with_reducible refine AW.seq ?_ | ((first | refine arun_kn 1 rfl (fun C hC => ?_) | refine arunD_kn 1 rfl (fun C hC => ?_)); (repeat ((conv => whnf); simp)); refine hC _ ?_; clear hC C; simp only [List.drop, Nat.reduceAdd]) | (refine arun_skip ?_ ?_; (focus (simp [awant]; done))) | (refine arun_c0 (pv) ?_; rintro _ rfl) | (refine arunD_skip ?_ ?_; (focus (simp [awant]; done))) | (refine AW.regionK [] (fun K hK => ?_)) | (refine AW.regionDK [] (pcs [] []) (by kernel_rfl) (by kernel_rfl) (fun K hK => ?_)) | (refine AW.condT ?_ ?_; (focus (simp [aev]; done))) | (refine AW.condF ?_ ?_; (focus (simp [aev]; done))) | with_reducible refine AW.block ?_ | ((first | ((first | refine arun_nil ?_ | refine arunD_nil ?_); refine hK _ ?_; clear hK K) | refine AW.skip ?_ | refine AW.exit ?_ | refine AW.ret ?_); simp only [wE, if_true, if_false, Nat.reduceEqDiff, reduceIte])))
    exact ⟨.tup [node0 0 0 ⟨#[]⟩, .bool false], by simp [node0, ares, aresL, upd, rowsOf_cons], none_end.1, .tup [nodeA Nd.zero, .bool false], none_end.2, by rw [hb, o2n_no hb]⟩
  rw [hvo] at pv
  obtain ⟨k, hk, k1, k6, hp, hf, hvv⟩ := oprB_parts hvo
  have l1 : o.2.1.length ≤ 5 := by unfold pathB at hp; simp at hp; exact hp.1
  have l2 : o.2.2.1.length ≤ 5 := by unfold pathB at hf; simp at hf; exact hf.1
  have po := opNode_AC o k hk k1 k6 l1 l2 hv
  have pc := specChk (opOf o) true
  have hcM := node_clo (opOf o)
  have hB : o2nB o = validB (opOf o) := by unfold o2nB; rw [hvo]; rfl
  unfold ckN at pc
  cases hvv2 : validB (opOf o)
  · have hb : o2nB o = false := by rw [hB, hvv2]
    rw [hvv2] at pc
    simp only [if_true, Bool.false_eq_true, if_false, reduceIte, optA, Option.getD_none, Option.isSome_none] at pc
    unfold nodeA at po pc hcM
    rw [nodeL_eq] at po pc hcM
    unfold oprA at pv co po ⊢
    generalize opOf o = M at *
    have ez : nodeL Nd.zero = [.int .i64 0, .int .i64 0, .str ⟨#[]⟩, .view .loose 1 [], .view .loose 5 []] := by rw [nodeL_eq]; rfl
    rw [ez] at pc
    refine AC.of tab_ok mixed_ok Try.func20 (by rfl) (by kernel_rfl) ?_; rintro ⟨P, T, hT, hm, w0, S0, rd0, k0⟩ hP hTT; dsimp only at hP hTT; subst hP hTT; unfold initSt; rw [Try.ntmps20]
    (repeat (first | with_reducible refine AW.seq ?_ | ((first | refine arun_kn 1 rfl (fun C hC => ?_) | refine arunD_kn 1 rfl (fun C hC => ?_)); (repeat ((conv => whnf); simp)); refine hC _ ?_; clear hC C; simp only [List.drop, Nat.reduceAdd]) | (refine arun_skip ?_ ?_; (focus (simp [awant]; done))) | (refine arun_c0 (pv) ?_; rintro _ rfl) | (refine arun_c0 (po) ?_; rintro _ rfl) | (refine arun_c0 (pc) ?_; rintro _ rfl) | (refine arunD_skip ?_ ?_; (focus (simp [awant]; done))) | (refine AW.regionK [] (fun K hK => ?_)) | (refine AW.regionDK [] (pcs [] []) (by kernel_rfl) (by kernel_rfl) (fun K hK => ?_)) | (refine AW.condT ?_ ?_; (focus (simp [aev]; done))) | (refine AW.condF ?_ ?_; (focus (simp [aev]; done))) | with_reducible refine AW.block ?_ | ((first | ((first | refine arun_nil ?_ | refine arunD_nil ?_); refine hK _ ?_; clear hK K) | refine AW.skip ?_ | refine AW.exit ?_ | refine AW.ret ?_); simp only [wE, if_true, if_false, Nat.reduceEqDiff, reduceIte])))
    exact ⟨.tup [.agg [.int .i64 0, .int .i64 0, .str ⟨#[]⟩, .view .loose 1 [], .view .loose 5 []], .bool false], by simp [ares, aresL, upd, rowsOf_cons], tup2_pur (by rw [← ez]; exact node_pur Nd.zero) pur_bool, _, Wk.refl _, by rw [hb, o2n_no hb]; unfold nodeA; rw [ez]⟩
  · have hb : o2nB o = true := by rw [hB, hvv2]
    have he := o2n_yes hb
    rw [hvv2] at pc
    simp only [if_true, reduceIte, optA, Option.getD_some, Option.isSome_some] at pc
    unfold nodeA at po pc hcM
    rw [nodeL_eq] at po pc hcM
    unfold oprA at pv co po ⊢
    generalize opOf o = M at *
    refine AC.of tab_ok mixed_ok Try.func20 (by rfl) (by kernel_rfl) ?_; rintro ⟨P, T, hT, hm, w0, S0, rd0, k0⟩ hP hTT; dsimp only at hP hTT; subst hP hTT; unfold initSt; rw [Try.ntmps20]
    (repeat (first | with_reducible refine AW.seq ?_ | ((first | refine arun_kn 1 rfl (fun C hC => ?_) | refine arunD_kn 1 rfl (fun C hC => ?_)); (repeat ((conv => whnf); simp)); refine hC _ ?_; clear hC C; simp only [List.drop, Nat.reduceAdd]) | (refine arun_skip ?_ ?_; (focus (simp [awant]; done))) | (refine arun_c0 (pv) ?_; rintro _ rfl) | (refine arun_c0 (po) ?_; rintro _ rfl) | (refine arun_c0 (pc) ?_; rintro _ rfl) | (refine arunD_skip ?_ ?_; (focus (simp [awant]; done))) | (refine AW.regionK [] (fun K hK => ?_)) | (refine AW.regionDK [] (pcs [] []) (by kernel_rfl) (by kernel_rfl) (fun K hK => ?_)) | (refine AW.condT ?_ ?_; (focus (simp [aev]; done))) | (refine AW.condF ?_ ?_; (focus (simp [aev]; done))) | with_reducible refine AW.block ?_ | ((first | ((first | refine arun_nil ?_ | refine arunD_nil ?_); refine hK _ ?_; clear hK K) | refine AW.skip ?_ | refine AW.exit ?_ | refine AW.ret ?_); simp only [wE, if_true, if_false, Nat.reduceEqDiff, reduceIte])))
    refine ⟨.tup [nodeA M, .bool true], by unfold nodeA; rw [nodeL_eq]; simp [ares, aresL, upd, rowsOf_cons], tup2_pur (node_pur M) pur_bool, _, Wk.refl _, by rw [hb, he]⟩
theorem implChk (m : Nd) : AC Try.prog 72 [nodeA m, .bool true] 0 (fun r => r = optA (ckN m)) := by
  refine AC.weak ?_
  have p1 := ValidNode_AC m .loose
  rw [nodeT_loose] at p1
  have hc := node_clo m
  unfold nodeA at p1 hc ⊢
  rw [nodeL_eq] at p1 hc ⊢
  cases hv : validB m
  · rw [hv] at p1
    have e : ckN m = none := by unfold ckN; rw [hv]; rfl
    refine AC.of tab_ok mixed_ok Try.func72 (by rfl) (by kernel_rfl) ?_; rintro ⟨P, T, hT, hm, w0, S0, rd0, k0⟩ hP hTT; dsimp only at hP hTT; subst hP hTT; unfold initSt; rw [Try.ntmps72]
    (repeat (first | with_reducible refine AW.seq ?_ | ((first | refine arun_kn 1 rfl (fun C hC => ?_) | refine arunD_kn 1 rfl (fun C hC => ?_)); (repeat ((conv => whnf); simp)); refine hC _ ?_; clear hC C; simp only [List.drop, Nat.reduceAdd]) | (refine arun_skip ?_ ?_; (focus (simp [awant]; done))) | (refine arun_c0 (p1) ?_; rintro _ rfl) | (refine arunD_skip ?_ ?_; (focus (simp [awant]; done))) | (refine AW.regionK [] (fun K hK => ?_)) | (refine AW.regionDK [] (pcs [] []) (by kernel_rfl) (by kernel_rfl) (fun K hK => ?_)) | (refine AW.condT ?_ ?_; (focus (simp [aev]; done))) | (refine AW.condF ?_ ?_; (focus (simp [aev]; done))) | with_reducible refine AW.block ?_ | ((first | ((first | refine arun_nil ?_ | refine arunD_nil ?_); refine hK _ ?_; clear hK K) | refine AW.skip ?_ | refine AW.exit ?_ | refine AW.ret ?_); simp only [wE, if_true, if_false, Nat.reduceEqDiff, reduceIte])))
    exact ⟨.tup [node0 0 0 ⟨#[]⟩, .bool false], by simp [node0, ares, aresL, upd, rowsOf_cons], none_end.1, .tup [nodeA Nd.zero, .bool false], none_end.2, by rw [e]; rfl⟩
  · rw [hv] at p1
    have e : ckN m = some m := by unfold ckN; rw [hv]; rfl
    refine AC.of tab_ok mixed_ok Try.func72 (by rfl) (by kernel_rfl) ?_; rintro ⟨P, T, hT, hm, w0, S0, rd0, k0⟩ hP hTT; dsimp only at hP hTT; subst hP hTT; unfold initSt; rw [Try.ntmps72]
    (repeat (first | with_reducible refine AW.seq ?_ | ((first | refine arun_kn 1 rfl (fun C hC => ?_) | refine arunD_kn 1 rfl (fun C hC => ?_)); (repeat ((conv => whnf); simp)); refine hC _ ?_; clear hC C; simp only [List.drop, Nat.reduceAdd]) | (refine arun_skip ?_ ?_; (focus (simp [awant]; done))) | (refine arun_c0 (p1) ?_; rintro _ rfl) | (refine arunD_skip ?_ ?_; (focus (simp [awant]; done))) | (refine AW.regionK [] (fun K hK => ?_)) | (refine AW.regionDK [] (pcs [] []) (by kernel_rfl) (by kernel_rfl) (fun K hK => ?_)) | (refine AW.condT ?_ ?_; (focus (simp [aev]; done))) | (refine AW.condF ?_ ?_; (focus (simp [aev]; done))) | with_reducible refine AW.block ?_ | ((first | ((first | refine arun_nil ?_ | refine arunD_nil ?_); refine hK _ ?_; clear hK K) | refine AW.skip ?_ | refine AW.exit ?_ | refine AW.ret ?_); simp only [wE, if_true, if_false, Nat.reduceEqDiff, reduceIte])))
    exact ⟨.tup [nodeA m, .bool true], by unfold nodeA; rw [nodeL_eq]; simp [ares, aresL, upd, rowsOf_cons], tup2_pur (node_pur m) pur_bool, _, Wk.refl _, by rw [e]; rfl⟩
theorem implOpToNode_AC (o : Opr) (hv : Sml o.2.2.2) : AC Try.prog 22 [oprA o] 0 (fun r => r = .tup [nodeA (o2nN o), .bool (o2nB o)]) := by
  refine AC.weak ?_
  have pv := isOp_AC o
  have co := oprA_clo o
  cases hvo : oprB o
  · have hb : o2nB o = false := by unfold o2nB; rw [hvo]; rfl
    rw [hvo] at pv
    unfold oprA at pv co ⊢
    refine AC.of tab_ok mixed_ok Try.func22 (by rfl) (by kernel_rfl) ?_; rintro ⟨P, T, hT, hm, w0, S0, rd0, k0⟩ hP hTT; dsimp only at hP hTT; subst hP hTT; unfold initSt; rw [Try.ntmps22]
    (repeat (first | with_reducible refine AW.seq ?_ | ((first | refine arun_kn 1 rfl (fun C hC => ?_) | refine arunD_kn 1 rfl (fun C hC => ?_)); (repeat ((conv => whnf); simp)); refine hC _ ?_; clear hC C; simp only [List.drop, Nat.reduceAdd]) | (refine arun_skip ?_ ?_; (focus (simp [awant]; done))) | (refine arun_c0 (pv) ?_; rintro _ rfl) | (refine arunD_skip ?_ ?_; (focus (simp [awant]; done))) | (refine AW.regionK [] (fun K hK => ?_)) | (refine AW.regionDK [] (pcs [] []) (by kernel_rfl) (by kernel_rfl) (fun K hK => ?_)) | (refine AW.condT ?_ ?_; (focus (simp [aev]; done))) | (refine AW.condF ?_ ?_; (focus (simp [aev]; done))) | with_reducible refine AW.block ?_ | ((first | ((first | refine arun_nil ?_ | refine arunD_nil ?_); refine hK _ ?_; clear hK K) | refine AW.skip ?_ | refine AW.exit ?_ | refine AW.ret ?_); simp only [wE, if_true, if_false, Nat.reduceEqDiff, reduceIte])))
    exact ⟨.tup [node0 0 0 ⟨#[]⟩, .bool false], by simp [node0, ares, aresL, upd, rowsOf_cons], none_end.1, .tup [nodeA Nd.zero, .bool false], none_end.2, by rw [hb, o2n_no hb]⟩
  rw [hvo] at pv
  obtain ⟨k, hk, k1, k6, hp, hf, hvv⟩ := oprB_parts hvo
  have l1 : o.2.1.length ≤ 5 := by unfold pathB at hp; simp at hp; exact hp.1
  have l2 : o.2.2.1.length ≤ 5 := by unfold pathB at hf; simp at hf; exact hf.1
  have pp := pathToNode_AC o.2.1 (by omega)
  have pf := pathToNode_AC o.2.2.1 (by omega)
  have pw := (opWord_ACF k1 k6).toAC
  have pd := implCopy_AC o.2.2.2 hv
  have hcd := node_clo o.2.2.2
  have id := node_in (U := fun _ => false) o.2.2.2
  have i1 := node_in (U := fun _ => false) (stepsN o.2.1)
  have i2 := node_in (U := fun _ => false) (stepsN o.2.2.1)
  have hB : o2nB o = validB (opOf o) := by unfold o2nB; rw [hvo]; rfl
  have eo : opOf o = opNd k o.2.1 o.2.2.1 o.2.2.2 := by unfold opOf; rw [hk]; rfl
  obtain ⟨S1, hS1⟩ : ∃ S1, S1 = stepsN o.2.1 := ⟨_, rfl⟩
  obtain ⟨S2, hS2⟩ : ∃ S2, S2 = stepsN o.2.2.1 := ⟨_, rfl⟩
  rw [← hS1] at pp i1
  rw [← hS2] at pf i2
  obtain ⟨T, hT0⟩ : ∃ T : AV, T = .agg [.int .i64 4, .int .i64 0, .str ⟨#[]⟩, .view .tight 1 [[.str ⟨#[102, 114, 111, 109]⟩], [.str ⟨#[111, 112]⟩], [.str ⟨#[112, 97, 116, 104]⟩], [.str ⟨#[118, 97, 108, 117, 101]⟩]], .view .tight 5 [nodeL S2, [.int .i64 2, .int .i64 0, .str (wd k), .view .tight 0 [], .view .tight 0 []], nodeL S1, nodeL o.2.2.2]] := ⟨_, rfl⟩
  have hwT : Wk T (nodeA (opOf o)) := by
    rw [eo, hT0, hS1, hS2]
    unfold nodeA opNd
    rw [nodeL_eq ⟨4, 0, ⟨#[]⟩, opNms, [stepsN o.2.2.1, wordN (wd k), stepsN o.2.1, o.2.2.2]⟩]
    refine Wk.agg (.cons (Wk.refl _) (.cons (Wk.refl _) (.cons (Wk.refl _) (.cons (Wk.loose (by decide)) (.cons (Wk.view (by decide) ?_) .nil)))))
    refine .cons (WkL.refl _) (.cons ?_ (.cons (WkL.refl _) (.cons (WkL.refl _) .nil)))
    show WkL _ (nodeL (wordN (wd k)))
    rw [nodeL_eq]
    exact .cons (Wk.refl _) (.cons (Wk.refl _) (.cons (Wk.refl _) (.cons (Wk.nil (fun h => by cases h)) (.cons (Wk.nil (fun h => by cases h)) .nil))))
  have pc := AC.arg (bs := [T, .bool true]) (implChk (opOf o)) (.cons hwT (.cons (Wk.refl _) .nil))
  have hcT : Clo T := by
    rw [hT0]
    refine (pur_agg ?_).clo
    have h0 := pur_view (t := .tight) (sz := 0) (es := []) (by decide) (fun e he => by cases he)
    simp only [List.forall_mem_cons, List.not_mem_nil, false_implies, implies_true, and_true]
    refine ⟨pur_int, pur_int, pur_str, pur_view (by decide) (strsE_pur opNms), pur_view (by decide) ?_⟩
    simp only [List.forall_mem_cons, List.not_mem_nil, false_implies, implies_true, and_true]
    exact ⟨nodeL_pur S2, ⟨pur_int, pur_int, pur_str, h0, h0⟩, nodeL_pur S1, nodeL_pur o.2.2.2⟩
  rw [hT0] at pc hcT
  clear hT0 hwT
  unfold ckN at pc
  unfold nodeA at pp pf pd hcd id i1 i2
  rw [nodeL_eq] at pp pf pd hcd id i1 i2
  rw [nodeL_eq S1, nodeL_eq S2, nodeL_eq o.2.2.2] at pc hcT
  unfold oprA at pv co ⊢
  rw [hk] at pv co ⊢
  generalize hM : opOf o = M at *
  cases hvv2 : validB M
  · have hb : o2nB o = false := by rw [hB, hvv2]
    rw [hvv2] at pc
    simp only [Bool.false_eq_true, if_false, reduceIte, optA, Option.getD_none, Option.isSome_none] at pc
    unfold nodeA at pc
    have ez : nodeL Nd.zero = [.int .i64 0, .int .i64 0, .str ⟨#[]⟩, .view .loose 1 [], .view .loose 5 []] := by rw [nodeL_eq]; rfl
    have iz : NoId (.tup [.agg [.int .i64 0, .int .i64 0, .str ⟨#[]⟩, .view .loose 1 [], .view .loose 5 []], .bool false]) := by rw [← ez]; exact tupn_in Nd.zero false
    rw [ez] at pc
    refine AC.of tab_ok mixed_ok Try.func22 (by rfl) (by kernel_rfl) ?_; rintro ⟨P, T, hT, hm, w0, S0, rd0, k0⟩ hP hTT; dsimp only at hP hTT; subst hP hTT; unfold initSt; rw [Try.ntmps22]
    (repeat (first | with_reducible refine AW.seq ?_ | ((first | refine arun_kn 1 rfl (fun C hC => ?_) | refine arunD_kn 1 rfl (fun C hC => ?_)); (repeat ((conv => whnf); simp)); refine hC _ ?_; clear hC C; simp only [List.drop, Nat.reduceAdd]) | (refine arun_skip ?_ ?_; (focus (simp [awant]; done))) | (refine arun_c0 (pv) ?_; rintro _ rfl) | (refine arunD_skip ?_ ?_; (focus (simp [awant]; done))) | (refine AW.regionK [] (fun K hK => ?_)) | (refine AW.condT ?_ ?_; (focus (simp [aev]; done))) | (refine AW.condF ?_ ?_; (focus (simp [aev]; done))) | with_reducible refine AW.block ?_ | ((first | ((first | refine arun_nil ?_ | refine arunD_nil ?_); refine hK _ ?_; clear hK K) | refine AW.skip ?_ | refine AW.exit ?_ | refine AW.ret ?_); simp only [wE, if_true, if_false, Nat.reduceEqDiff, reduceIte])))
    refine AW.regionDK [] (pcs [(3, 0, fun r => r = .agg [.int .i64 S2.kind, .int .i64 S2.num, .str S2.text, .view .loose 1 (strsE S2.names), .view .loose 5 (S2.kids.map nodeL)]), (6, 0, fun r => r = .str (wd k)), (10, 0, fun r => r = .agg [.int .i64 S1.kind, .int .i64 S1.num, .str S1.text, .view .loose 1 (strsE S1.names), .view .loose 5 (S1.kids.map nodeL)]), (13, 0, fun r => r = .agg [.int .i64 o.2.2.2.kind, .int .i64 o.2.2.2.num, .str o.2.2.2.text, .view .loose 1 (strsE o.2.2.2.names), .view .loose 5 (o.2.2.2.kids.map nodeL)]), (16, 0, fun r => r = .tup [.agg [.int .i64 0, .int .i64 0, .str ⟨#[]⟩, .view .loose 1 [], .view .loose 5 []], .bool false])] []) (by kernel_rfl) (by kernel_rfl) (fun K hK => ?_)
    (repeat (first | with_reducible refine AW.seq ?_ | ((first | refine arun_kn 1 rfl (fun C hC => ?_) | refine arunD_kn 1 rfl (fun C hC => ?_)); (repeat ((conv => whnf); simp)); refine hC _ ?_; clear hC C; simp only [List.drop, Nat.reduceAdd]) | (refine arun_skip ?_ ?_; (focus (simp [awant]; done))) | (refine arun_c0 (pf) ?_; rintro _ rfl) | (refine arun_c0 (pw) ?_; rintro _ rfl) | (refine arun_c0 (pp) ?_; rintro _ rfl) | (refine arun_c0 (pd) ?_; rintro _ rfl) | (refine arun_c0 (pc) ?_; rintro _ rfl) | (refine arunD_skip ?_ ?_; (focus (simp [awant]; done))) | (refine arunD_cE (0) (pf) (by exact ⟨_, rfl, i2⟩) ?_; rintro _ rfl; intro _) | (refine arunD_cE (0) (pw) (by exact ⟨_, rfl, in_str⟩) ?_; rintro _ rfl; intro _) | (refine arunD_cE (0) (pp) (by exact ⟨_, rfl, i1⟩) ?_; rintro _ rfl; intro _) | (refine arunD_cE (0) (pd) (by exact ⟨_, rfl, id⟩) ?_; rintro _ rfl; intro _) | (refine arunD_cE (0) (pc) (by exact ⟨_, rfl, iz⟩) ?_; rintro _ rfl; intro _) | (refine AW.regionK [] (fun K hK => ?_)) | (refine AW.regionDK [] (pcs [] []) (by kernel_rfl) (by kernel_rfl) (fun K hK => ?_)) | (refine AW.condT ?_ ?_; (focus (simp [aev]; done))) | (refine AW.condF ?_ ?_; (focus (simp [aev]; done))) | with_reducible refine AW.block ?_ | ((first | ((first | refine arun_nil ?_ | refine arunD_nil ?_); refine hK _ ?_; clear hK K) | refine AW.skip ?_ | refine AW.exit ?_ | refine AW.ret ?_); simp only [wE, if_true, if_false, Nat.reduceEqDiff, reduceIte])))
    exact ⟨.tup [.agg [.int .i64 0, .int .i64 0, .str ⟨#[]⟩, .view .loose 1 [], .view .loose 5 []], .bool false], by simp [ares, aresL, upd, rowsOf_cons], tup2_pur (by rw [← ez]; exact node_pur Nd.zero) pur_bool, _, Wk.refl _, by rw [hb, o2n_no hb]; unfold nodeA; rw [ez]⟩
  · have hb : o2nB o = true := by rw [hB, hvv2]
    have he := o2n_yes hb
    rw [hM] at he
    rw [hvv2] at pc
    simp only [if_true, reduceIte, optA, Option.getD_some, Option.isSome_some] at pc
    unfold nodeA at pc
    have iz : NoId (.tup [.agg (nodeL M), .bool true]) := tupn_in M true
    rw [nodeL_eq M] at pc iz
    refine AC.of tab_ok mixed_ok Try.func22 (by rfl) (by kernel_rfl) ?_; rintro ⟨P, T, hT, hm, w0, S0, rd0, k0⟩ hP hTT; dsimp only at hP hTT; subst hP hTT; unfold initSt; rw [Try.ntmps22]
    (repeat (first | with_reducible refine AW.seq ?_ | ((first | refine arun_kn 1 rfl (fun C hC => ?_) | refine arunD_kn 1 rfl (fun C hC => ?_)); (repeat ((conv => whnf); simp)); refine hC _ ?_; clear hC C; simp only [List.drop, Nat.reduceAdd]) | (refine arun_skip ?_ ?_; (focus (simp [awant]; done))) | (refine arun_c0 (pv) ?_; rintro _ rfl) | (refine arunD_skip ?_ ?_; (focus (simp [awant]; done))) | (refine AW.regionK [] (fun K hK => ?_)) | (refine AW.condT ?_ ?_; (focus (simp [aev]; done))) | (refine AW.condF ?_ ?_; (focus (simp [aev]; done))) | with_reducible refine AW.block ?_ | ((first | ((first | refine arun_nil ?_ | refine arunD_nil ?_); refine hK _ ?_; clear hK K) | refine AW.skip ?_ | refine AW.exit ?_ | refine AW.ret ?_); simp only [wE, if_true, if_false, Nat.reduceEqDiff, reduceIte])))
    refine AW.regionDK [] (pcs [(3, 0, fun r => r = .agg [.int .i64 S2.kind, .int .i64 S2.num, .str S2.text, .view .loose 1 (strsE S2.names), .view .loose 5 (S2.kids.map nodeL)]), (6, 0, fun r => r = .str (wd k)), (10, 0, fun r => r = .agg [.int .i64 S1.kind, .int .i64 S1.num, .str S1.text, .view .loose 1 (strsE S1.names), .view .loose 5 (S1.kids.map nodeL)]), (13, 0, fun r => r = .agg [.int .i64 o.2.2.2.kind, .int .i64 o.2.2.2.num, .str o.2.2.2.text, .view .loose 1 (strsE o.2.2.2.names), .view .loose 5 (o.2.2.2.kids.map nodeL)]), (16, 0, fun r => r = .tup [.agg [.int .i64 M.kind, .int .i64 M.num, .str M.text, .view .loose 1 (strsE M.names), .view .loose 5 (M.kids.map nodeL)], .bool true])] []) (by kernel_rfl) (by kernel_rfl) (fun K hK => ?_)
    (repeat (first | with_reducible refine AW.seq ?_ | ((first | refine arun_kn 1 rfl (fun C hC => ?_) | refine arunD_kn 1 rfl (fun C hC => ?_)); (repeat ((conv => whnf); simp)); refine hC _ ?_; clear hC C; simp only [List.drop, Nat.reduceAdd]) | (refine arun_skip ?_ ?_; (focus (simp [awant]; done))) | (refine arun_c0 (pf) ?_; rintro _ rfl) | (refine arun_c0 (pw) ?_; rintro _ rfl) | (refine arun_c0 (pp) ?_; rintro _ rfl) | (refine arun_c0 (pd) ?_; rintro _ rfl) | (refine arun_c0 (pc) ?_; rintro _ rfl) | (refine arunD_skip ?_ ?_; (focus (simp [awant]; done))) | (refine arunD_cE (0) (pf) (by exact ⟨_, rfl, i2⟩) ?_; rintro _ rfl; intro _) | (refine arunD_cE (0) (pw) (by exact ⟨_, rfl, in_str⟩) ?_; rintro _ rfl; intro _) | (refine arunD_cE (0) (pp) (by exact ⟨_, rfl, i1⟩) ?_; rintro _ rfl; intro _) | (refine arunD_cE (0) (pd) (by exact ⟨_, rfl, id⟩) ?_; rintro _ rfl; intro _) | (refine arunD_cE (0) (pc) (by exact ⟨_, rfl, iz⟩) ?_; rintro _ rfl; intro _) | (refine AW.regionK [] (fun K hK => ?_)) | (refine AW.regionDK [] (pcs [] []) (by kernel_rfl) (by kernel_rfl) (fun K hK => ?_)) | (refine AW.condT ?_ ?_; (focus (simp [aev]; done))) | (refine AW.condF ?_ ?_; (focus (simp [aev]; done))) | with_reducible refine AW.block ?_ | ((first | ((first | refine arun_nil ?_ | refine arunD_nil ?_); refine hK _ ?_; clear hK K) | refine AW.skip ?_ | refine AW.exit ?_ | refine AW.ret ?_); simp only [wE, if_true, if_false, Nat.reduceEqDiff, reduceIte])))
    exact ⟨.tup [nodeA M, .bool true], by unfold nodeA; rw [nodeL_eq]; simp [ares, aresL, upd, rowsOf_cons], tup2_pur (node_pur M) pur_bool, _, Wk.refl _, by rw [hb, he]⟩
def strsRow (p : List ByteArray) : Row := ⟨false, 9, 1, strsE p⟩
def rPath (r : AV) : Prop := ∃ p : List ByteArray, p.length ≤ 1000 ∧ r = .view .loose 1 (strsE p)
theorem rPath_ex : ∃ r, rPath r ∧ NoId r := ⟨_, ⟨[], by simp, rfl⟩, strs_in []⟩
theorem anyPath_ACR : ACR Try.prog 149 [.rdr] 10 (fun _ => False) (fun f R => ∃ p : List ByteArray, p.length ≤ 6 ∧ f = (fun id => .own id p.length) ∧ R = strsRow p) := by
  refine ACR.of tab_ok mixed_ok Try.func149 (by rfl) (by kernel_rfl) ?_; rintro ⟨P, T, hT, hm, w0, S0, rd0, k0⟩ hP hTT; dsimp only at hP hTT; subst hP hTT; unfold initSt; rw [Try.ntmps149]
  (repeat (first | with_reducible refine AW.seq ?_ | ((first | refine arun_kn 1 rfl (fun C hC => ?_) | refine arunD_kn 1 rfl (fun C hC => ?_)); (repeat ((conv => whnf); simp)); refine hC _ ?_; clear hC C; simp only [List.drop, Nat.reduceAdd]) | (refine arun_skip ?_ ?_; (focus (simp [awant]; done))) | (refine arun_cU (1) rfl (one_ACU _ _ (by rfl) (by simp) (by simp)) ?_; (rintro _ ⟨y, hy, rfl⟩)) | (refine AW.regionK [] (fun K hK => ?_)) | (refine AW.regionDK [] (pcs [] []) (by kernel_rfl) (by kernel_rfl) (fun K hK => ?_)) | (refine AW.condT ?_ ?_; (focus (simp [aev]; done))) | (refine AW.condF ?_ ?_; (focus (simp [aev]; done))) | with_reducible refine AW.block ?_ | ((first | ((first | refine arun_nil ?_ | refine arunD_nil ?_); refine hK _ ?_; clear hK K) | refine AW.skip ?_ | refine AW.exit ?_ | refine AW.ret ?_); simp only [wE, if_true, if_false, Nat.reduceEqDiff, reduceIte])))
  have hy' : 0 ≤ y ∧ y ≤ 6 := by
    simp [intOf] at hy
    omega
  clear hy
  obtain ⟨c0, rfl⟩ := Int.eq_ofNat_of_zero_le hy'.1
  refine AW.adopt 3 3 9 1 ⟨_, tab9, rfl⟩ rfl (by simp [upd]) ?_
  simp only [ASt.adopt, ASt.add]
  refine AW.loopS (fun (x : List ByteArray × Nat × Nat) => mkSt (slots 0 33 [(0, .rdr), (3, .own 3 x.1.length), (4, .int .i64 x.2.1)]) [(3, strsRow x.1)] [3] (rd0.map fun _ => x.2.2)) (fun x => x.2.1) (fun x => x.1.length + x.2.1 ≤ 6 ∧ x.2.1 + 2 ≤ x.2.2) ([], c0, 9) ?_ ⟨by simp; omega, by dsimp only; omega⟩ ?_
  · dsimp only [List.length_nil]
    exact (less_of (by simp [lessL, mkSt, slots, strsRow, strsE]) (by simp [upd, mkSt, rowsOf_cons, strsRow, strsE]) (by simp [upd, mkSt, usedOf_cons, strsRow, strsE]) (by first | exact rd_less (by omega) | simp [mkSt, strsRow, strsE]) (by simp [slots, in_any, in_int, in_bool, in_str, in_ptr, in_own, in_agg, in_vnil, in_rdr, usedOf_cons, usedOf_nil, strs_in, ints_in, nodes_in, in_tup, strsRow, strsE]) (by simp only [List.forall_mem_cons, List.not_mem_nil, false_implies, implies_true, and_true, true_and, strsRow, strsE]; (repeat (first | with_reducible exact trivial | with_reducible refine And.intro ?_ ?_ | with_reducible exact in_int | with_reducible exact in_str | with_reducible exact in_bool | with_reducible exact strs_in _ | with_reducible exact nodes_in _ | with_reducible exact items_in _ | with_reducible exact in_vnil | with_reducible exact in_any | exact hin _ | with_reducible refine take_in ?_ | with_reducible exact strsE_in _ | with_reducible exact nodesE_in _ | with_reducible exact nodeL_in _ | with_reducible exact itemsE_in _ | with_reducible exact itemL_in _ | with_reducible refine app_in ?_ ?_ | with_reducible refine sing_in ?_ | (focus (simp [in_any, in_int, in_bool, in_str, in_ptr, in_own, in_agg, in_vnil, in_rdr, usedOf_cons, usedOf_nil, strs_in, ints_in, nodes_in, strsRow, strsE]; done)))); done))
  · rintro ⟨p, c, b⟩ ⟨h1, h2⟩
    dsimp only at h1 h2 ⊢
    by_cases hlt : 0 < c
    · have hlt' : (0 : Int) < (c : Int) := by omega
      have hw : IntKind.i64.wrap ((c : Int) - 1) = ((c - 1 : Nat) : Int) := by
        rw [i64_nat (by omega) (by omega)]; omega
      have hb1 : (p.length + 1) * 16 ≤ 140737488355328 := by omega
      have hb2 : p.length + 1 ≤ 140737488355328 := by omega
      (repeat (first | with_reducible refine AW.seq ?_ | ((first | refine arun_kn 1 rfl (fun C hC => ?_) | refine arunD_kn 1 rfl (fun C hC => ?_)); (repeat ((conv => whnf); simp [hlt', hlt, hw, hb1, hb2, strsRow, strsE_len])); refine hC _ ?_; clear hC C; simp only [List.drop, Nat.reduceAdd]) | (refine arun_skip ?_ ?_; (focus (simp [awant, hlt', hlt, hw, hb1, hb2, strsRow, strsE_len]; done))) | (refine arun_cU (1) rfl (of_ACU _ _ (by rfl) (by simp) (by simp)) ?_; (rintro _ ⟨x, -, rfl⟩)) | (refine AW.regionK [] (fun K hK => ?_)) | (refine AW.regionDK [] (pcs [] []) (by kernel_rfl) (by kernel_rfl) (fun K hK => ?_)) | (refine AW.condT ?_ ?_; (focus (simp [aev, hlt', hlt, hw, hb1, hb2, strsRow, strsE_len]; done))) | (refine AW.condF ?_ ?_; (focus (simp [aev, hlt', hlt, hw, hb1, hb2, strsRow, strsE_len]; done))) | with_reducible refine AW.block ?_ | ((first | ((first | refine arun_nil ?_ | refine arunD_nil ?_); refine hK _ ?_; clear hK K) | refine AW.skip ?_ | refine AW.exit ?_ | refine AW.ret ?_); simp only [wE, if_true, if_false, Nat.reduceEqDiff, reduceIte])))
      refine ⟨(p ++ [x], c - 1, b - 1), by dsimp only; omega, ⟨by simp only [List.length_append, List.length_cons, List.length_nil]; omega, by dsimp only; omega⟩, ?_⟩
      have e1 : strsE (p ++ [x]) = strsE p ++ [[.str x]] := by simp [strsE]
      have hl : (p ++ [x]).length = p.length + 1 := by simp
      dsimp only
      rw [hl]
      exact (less_of (by simp [lessL, mkSt, slots, strsRow, e1, strsE_len]) (by simp [upd, mkSt, rowsOf_cons, strsRow, e1, strsE_len]) (by simp [upd, mkSt, usedOf_cons, strsRow, e1, strsE_len]) (by first | exact rd_less (by omega) | simp [mkSt, strsRow, e1, strsE_len]) (by simp [slots, in_any, in_int, in_bool, in_str, in_ptr, in_own, in_agg, in_vnil, in_rdr, usedOf_cons, usedOf_nil, strs_in, ints_in, nodes_in, in_tup, strsRow, e1, strsE_len]) (by simp only [List.forall_mem_cons, List.not_mem_nil, false_implies, implies_true, and_true, true_and, strsRow, e1, strsE_len]; (repeat (first | with_reducible exact trivial | with_reducible refine And.intro ?_ ?_ | with_reducible exact in_int | with_reducible exact in_str | with_reducible exact in_bool | with_reducible exact strs_in _ | with_reducible exact nodes_in _ | with_reducible exact items_in _ | with_reducible exact in_vnil | with_reducible exact in_any | exact hin _ | with_reducible refine take_in ?_ | with_reducible exact strsE_in _ | with_reducible exact nodesE_in _ | with_reducible exact nodeL_in _ | with_reducible exact itemsE_in _ | with_reducible exact itemL_in _ | with_reducible refine app_in ?_ ?_ | with_reducible refine sing_in ?_ | (focus (simp [in_any, in_int, in_bool, in_str, in_ptr, in_own, in_agg, in_vnil, in_rdr, usedOf_cons, usedOf_nil, strs_in, ints_in, nodes_in, strsRow, e1, strsE_len]; done)))); done))
    · have hlt' : ¬ (0 : Int) < (c : Int) := by omega
      cases p with
      | nil =>
        (repeat (first | with_reducible refine AW.seq ?_ | ((first | refine arun_kn 1 rfl (fun C hC => ?_) | refine arunD_kn 1 rfl (fun C hC => ?_)); (repeat ((conv => whnf); simp [hlt', hlt, strsRow, strsE_len])); refine hC _ ?_; clear hC C; simp only [List.drop, Nat.reduceAdd]) | (refine arun_skip ?_ ?_; (focus (simp [awant, hlt', hlt, strsRow, strsE_len]; done))) | (refine AW.regionK [] (fun K hK => ?_)) | (refine AW.regionDK [] (pcs [] []) (by kernel_rfl) (by kernel_rfl) (fun K hK => ?_)) | (refine AW.condT ?_ ?_; (focus (simp [aev, hlt', hlt, strsRow, strsE_len]; done))) | (refine AW.condF ?_ ?_; (focus (simp [aev, hlt', hlt, strsRow, strsE_len]; done))) | with_reducible refine AW.block ?_ | ((first | ((first | refine arun_nil ?_ | refine arunD_nil ?_); refine hK _ ?_; clear hK K) | refine AW.skip ?_ | refine AW.exit ?_ | refine AW.ret ?_); simp only [wE, if_true, if_false, Nat.reduceEqDiff, reduceIte])))
        exact ⟨.own 3 0, by simp [ares, aresL], .inr ⟨fun id => .own id 0, 3, strsRow [], rfl, by simp [upd, rowsOf_cons, strsRow], Res1.own _ _, strsE_pur _, [], by simp, rfl, rfl⟩⟩
      | cons q p =>
        have hl : 0 < p.length + 1 := by omega
        have hl' : (0 : Int) < (p.length : Int) + 1 := by omega
        have e1 : strsE (q :: p) = [.str q] :: strsE p := rfl
        simp only [List.length_cons] at h1
        (repeat (first | with_reducible refine AW.seq ?_ | ((first | refine arun_kn 1 rfl (fun C hC => ?_) | refine arunD_kn 1 rfl (fun C hC => ?_)); (repeat ((conv => whnf); simp [hlt', hlt, hl, hl', strsRow, strsE_len, e1])); refine hC _ ?_; clear hC C; simp only [List.drop, Nat.reduceAdd]) | (refine arun_skip ?_ ?_; (focus (simp [awant, hlt', hlt, hl, hl', strsRow, strsE_len, e1]; done))) | (refine arun_c (1) (pick_AC 20 (by omega) (by omega)) ?_; (rintro _ ⟨v, rfl, -⟩)) | (refine AW.regionK [] (fun K hK => ?_)) | (refine AW.regionDK [] (pcs [] []) (by kernel_rfl) (by kernel_rfl) (fun K hK => ?_)) | (refine AW.condT ?_ ?_; (focus (simp [aev, hlt', hlt, hl, hl', strsRow, strsE_len, e1]; done))) | (refine AW.condF ?_ ?_; (focus (simp [aev, hlt', hlt, hl, hl', strsRow, strsE_len, e1]; done))) | with_reducible refine AW.block ?_ | ((first | ((first | refine arun_nil ?_ | refine arunD_nil ?_); refine hK _ ?_; clear hK K) | refine AW.skip ?_ | refine AW.exit ?_ | refine AW.ret ?_); simp only [wE, if_true, if_false, Nat.reduceEqDiff, reduceIte])))
        by_cases hv : v = 0
        · subst hv
          (repeat (first | with_reducible refine AW.seq ?_ | ((first | refine arun_kn 1 rfl (fun C hC => ?_) | refine arunD_kn 1 rfl (fun C hC => ?_)); (repeat ((conv => whnf); simp [hl, hl', strsE_len, e1])); refine hC _ ?_; clear hC C; simp only [List.drop, Nat.reduceAdd]) | (refine arun_skip ?_ ?_; (focus (simp [awant, hl, hl', strsE_len, e1]; done))) | (refine arun_cU (1) rfl (of_ACU _ _ (by rfl) (by simp) (by simp)) ?_; (rintro _ ⟨x, -, rfl⟩)) | (refine AW.regionK [] (fun K hK => ?_)) | (refine AW.regionDK [] (pcs [] []) (by kernel_rfl) (by kernel_rfl) (fun K hK => ?_)) | (refine AW.condT ?_ ?_; (focus (simp [aev, hl, hl', strsE_len, e1]; done))) | (refine AW.condF ?_ ?_; (focus (simp [aev, hl, hl', strsE_len, e1]; done))) | with_reducible refine AW.block ?_ | ((first | ((first | refine arun_nil ?_ | refine arunD_nil ?_); refine hK _ ?_; clear hK K) | refine AW.skip ?_ | refine AW.exit ?_ | refine AW.ret ?_); simp only [wE, if_true, if_false, Nat.reduceEqDiff, reduceIte])))
          exact ⟨.own 3 (p.length + 1), by simp [ares, aresL], .inr ⟨fun id => .own id (p.length + 1), 3, strsRow (x :: p), rfl, by simp [upd, rowsOf_cons, strsRow, strsE], Res1.own _ _, strsE_pur _, x :: p, by simp; omega, rfl, rfl⟩⟩
        · have hv' : (v == 0) = false := by simpa using hv
          (repeat (first | with_reducible refine AW.seq ?_ | ((first | refine arun_kn 1 rfl (fun C hC => ?_) | refine arunD_kn 1 rfl (fun C hC => ?_)); (repeat ((conv => whnf); simp [hl, hl', hv', strsE_len, e1])); refine hC _ ?_; clear hC C; simp only [List.drop, Nat.reduceAdd]) | (refine arun_skip ?_ ?_; (focus (simp [awant, hl, hl', hv', strsE_len, e1]; done))) | (refine AW.regionK [] (fun K hK => ?_)) | (refine AW.regionDK [] (pcs [] []) (by kernel_rfl) (by kernel_rfl) (fun K hK => ?_)) | (refine AW.condT ?_ ?_; (focus (simp [aev, hl, hl', hv', strsE_len, e1]; done))) | (refine AW.condF ?_ ?_; (focus (simp [aev, hl, hl', hv', strsE_len, e1]; done))) | with_reducible refine AW.block ?_ | ((first | ((first | refine arun_nil ?_ | refine arunD_nil ?_); refine hK _ ?_; clear hK K) | refine AW.skip ?_ | refine AW.exit ?_ | refine AW.ret ?_); simp only [wE, if_true, if_false, Nat.reduceEqDiff, reduceIte])))
          exact ⟨.own 3 (p.length + 1), by simp [ares, aresL], .inr ⟨fun id => .own id (p.length + 1), 3, strsRow (q :: p), rfl, by simp [upd, rowsOf_cons, strsRow, strsE], Res1.own _ _, strsE_pur _, q :: p, by simp; omega, rfl, rfl⟩⟩
theorem strs_sub (p : List ByteArray) : AV.sub 0 (strsRow p).es.length (.view .loose (strsRow p).sz (strsRow p).es) (.own 0 p.length) = .view .loose 1 (strsE p) := by
  simp [AV.sub, strsRow, strsE_len]
theorem anyPath_AC : AC Try.prog 149 [.rdr] 10 rPath := by
  refine (AC.ofR anyPath_ACR ?_).mono ?_
  · rintro r R ⟨p, _, rfl, rfl⟩
    rw [strs_sub]; exact strs_in _
  · rintro r (h | ⟨f, R, ⟨p, hp, rfl, rfl⟩, rfl⟩)
    · exact h.elim
    · exact ⟨p, by omega, strs_sub p⟩
theorem pathIn_AC (n : Nd) : AC Try.prog 161 [.rdr, nodeA n] 12 rPath := by
  have p1 := specAllPaths_AC n
  have p2 := anyPath_AC
  unfold nodeA at p1 ⊢
  rw [nodeL_eq] at p1 ⊢
  refine AC.of tab_ok mixed_ok Try.func161 (by rfl) (by kernel_rfl) ?_; rintro ⟨P, T, hT, hm, w0, S0, rd0, k0⟩ hP hTT; dsimp only at hP hTT; subst hP hTT; unfold initSt; rw [Try.ntmps161]
  cases hv : validB n
  · have e : wayS n = [] := by unfold wayS; rw [hv]; rfl
    rw [e] at p1
    have hclo : Clo (.view .loose 1 (pathsE [])) := paths_clo []
    (repeat (first | with_reducible refine AW.seq ?_ | ((first | refine arun_kn 1 rfl (fun C hC => ?_) | refine arunD_kn 1 rfl (fun C hC => ?_)); (repeat ((conv => whnf); simp [pathsE_len])); refine hC _ ?_; clear hC C; simp only [List.drop, Nat.reduceAdd]) | (refine arun_skip ?_ ?_; (focus (simp [awant, pathsE_len]; done))) | (refine arun_c0 (p1) ?_; rintro _ rfl) | (refine arun_c (10) (p2) ?_; (rintro _ ⟨p, hp, rfl⟩)) | (refine AW.regionK [] (fun K hK => ?_)) | (refine AW.regionDK [] (pcs [] []) (by kernel_rfl) (by kernel_rfl) (fun K hK => ?_)) | (refine AW.condT ?_ ?_; (focus (simp [aev, pathsE_len]; done))) | (refine AW.condF ?_ ?_; (focus (simp [aev, pathsE_len]; done))) | with_reducible refine AW.block ?_ | ((first | ((first | refine arun_nil ?_ | refine arunD_nil ?_); refine hK _ ?_; clear hK K) | refine AW.skip ?_ | refine AW.exit ?_ | refine AW.ret ?_); simp only [wE, if_true, if_false, Nat.reduceEqDiff, reduceIte])))
    exact ⟨.view .loose 1 (strsE p), by simp [ares, aresL], strs_pur p (by decide), p, hp, rfl⟩
  · have e : wayS n = allS n := by unfold wayS; rw [hv]; rfl
    rw [e] at p1
    obtain ⟨hw, hd, hc⟩ := valid_way hv
    have hlen := allS_len n
    have hpos : 0 < (allS n).length := by rw [hlen, Nd.count_eq]; omega
    have hsh := allS_short n
    have hclo : Clo (.view .loose 1 (pathsE (allS n))) := paths_clo (allS n)
    generalize allS n = P at *
    have hpos' : (0 : Int) < (P.length : Int) := by omega
    (repeat (first | with_reducible refine AW.seq ?_ | ((first | refine arun_kn 1 rfl (fun C hC => ?_) | refine arunD_kn 1 rfl (fun C hC => ?_)); (repeat ((conv => whnf); simp [pathsE_len, hpos, hpos'])); refine hC _ ?_; clear hC C; simp only [List.drop, Nat.reduceAdd]) | (refine arun_skip ?_ ?_; (focus (simp [awant, pathsE_len, hpos, hpos']; done))) | (refine arun_c0 (p1) ?_; rintro _ rfl) | (refine arun_c (1) (pick_AC 4 (by omega) (by omega)) ?_; (rintro _ ⟨v, rfl, -⟩)) | (refine AW.regionK [] (fun K hK => ?_)) | (refine AW.regionDK [] (pcs [] []) (by kernel_rfl) (by kernel_rfl) (fun K hK => ?_)) | (refine AW.condT ?_ ?_; (focus (simp [aev, pathsE_len, hpos, hpos']; done))) | (refine AW.condF ?_ ?_; (focus (simp [aev, pathsE_len, hpos, hpos']; done))) | with_reducible refine AW.block ?_ | ((first | ((first | refine arun_nil ?_ | refine arunD_nil ?_); refine hK _ ?_; clear hK K) | refine AW.skip ?_ | refine AW.exit ?_ | refine AW.ret ?_); simp only [wE, if_true, if_false, Nat.reduceEqDiff, reduceIte])))
    rcases Int.lt_or_le 0 v with h0 | h0
    · (repeat (first | with_reducible refine AW.seq ?_ | ((first | refine arun_kn 1 rfl (fun C hC => ?_) | refine arunD_kn 1 rfl (fun C hC => ?_)); (repeat ((conv => whnf); simp [pathsE_len, h0])); refine hC _ ?_; clear hC C; simp only [List.drop, Nat.reduceAdd]) | (refine arun_skip ?_ ?_; (focus (simp [awant, pathsE_len, h0]; done))) | (refine arun_c (1) (pick_AC P.length (by omega) (by omega)) ?_; (rintro _ ⟨u, rfl, hu⟩; obtain ⟨u0, u1⟩ := hu.1 (by omega); obtain ⟨k, rfl⟩ := Int.eq_ofNat_of_zero_le u0)) | (refine AW.regionK [] (fun K hK => ?_)) | (refine AW.regionDK [] (pcs [] []) (by kernel_rfl) (by kernel_rfl) (fun K hK => ?_)) | (refine AW.condT ?_ ?_; (focus (simp [aev, pathsE_len, h0]; done))) | (refine AW.condF ?_ ?_; (focus (simp [aev, pathsE_len, h0]; done))) | with_reducible refine AW.block ?_ | ((first | ((first | refine arun_nil ?_ | refine arunD_nil ?_); refine hK _ ?_; clear hK K) | refine AW.skip ?_ | refine AW.exit ?_ | refine AW.ret ?_); simp only [wE, if_true, if_false, Nat.reduceEqDiff, reduceIte])))
      have hk : k < P.length := by omega
      have hpl := hsh _ (List.getElem_mem hk)
      (repeat (first | with_reducible refine AW.seq ?_ | ((first | refine arun_kn 1 rfl (fun C hC => ?_) | refine arunD_kn 1 rfl (fun C hC => ?_)); (repeat ((conv => whnf); simp [pathsE_len, hk, pathsE_get, pathsE_at])); refine hC _ ?_; clear hC C; simp only [List.drop, Nat.reduceAdd]) | (refine arun_skip ?_ ?_; (focus (simp [awant, pathsE_len, hk, pathsE_get, pathsE_at]; done))) | (refine AW.regionK [] (fun K hK => ?_)) | (refine AW.regionDK [] (pcs [] []) (by kernel_rfl) (by kernel_rfl) (fun K hK => ?_)) | (refine AW.condT ?_ ?_; (focus (simp [aev, pathsE_len, hk, pathsE_get, pathsE_at]; done))) | (refine AW.condF ?_ ?_; (focus (simp [aev, pathsE_len, hk, pathsE_get, pathsE_at]; done))) | with_reducible refine AW.block ?_ | ((first | ((first | refine arun_nil ?_ | refine arunD_nil ?_); refine hK _ ?_; clear hK K) | refine AW.skip ?_ | refine AW.exit ?_ | refine AW.ret ?_); simp only [wE, if_true, if_false, Nat.reduceEqDiff, reduceIte])))
      exact ⟨.view .loose 1 (strsE P[k]), by simp [ares, aresL], strs_pur _ (by decide), _, by omega, rfl⟩
    · have h0' : ¬ 0 < v := by omega
      (repeat (first | with_reducible refine AW.seq ?_ | ((first | refine arun_kn 1 rfl (fun C hC => ?_) | refine arunD_kn 1 rfl (fun C hC => ?_)); (repeat ((conv => whnf); simp [pathsE_len, h0'])); refine hC _ ?_; clear hC C; simp only [List.drop, Nat.reduceAdd]) | (refine arun_skip ?_ ?_; (focus (simp [awant, pathsE_len, h0']; done))) | (refine arun_c (10) (p2) ?_; (rintro _ ⟨p, hp, rfl⟩)) | (refine AW.regionK [] (fun K hK => ?_)) | (refine AW.regionDK [] (pcs [] []) (by kernel_rfl) (by kernel_rfl) (fun K hK => ?_)) | (refine AW.condT ?_ ?_; (focus (simp [aev, pathsE_len, h0']; done))) | (refine AW.condF ?_ ?_; (focus (simp [aev, pathsE_len, h0']; done))) | with_reducible refine AW.block ?_ | ((first | ((first | refine arun_nil ?_ | refine arunD_nil ?_); refine hK _ ?_; clear hK K) | refine AW.skip ?_ | refine AW.exit ?_ | refine AW.ret ?_); simp only [wE, if_true, if_false, Nat.reduceEqDiff, reduceIte])))
      exact ⟨.view .loose 1 (strsE p), by simp [ares, aresL], strs_pur p (by decide), p, hp, rfl⟩
end Go.Proofs.Ytgfnmhfdmmnaoaa.Eng
-- EV: rows
namespace Go.Proofs.Ytgfnmhfdmmnaoaa.Eng
open Go Go.RowKit
attribute [local simp] big size_mk ASt.pay Option.map_map Function.comp_def awant aop acall ado aev ofVal ofVal0 ASt.put ASt.add ASt.turn ASt.kill abox aalloc astore aload aloadD astoreD idOf ASt.at cellsTo afieldAddr afield aindexAddr aindex alen abin aint acmp astr aun apick aextract anil aslice abound abuild afill abuildSlice asCells aps avCells over upd aappend asrc amax amin aconv mkSt slots rowsOf_cons rowsOf_nil usedOf_cons usedOf_nil ZK.av List.replicate ASt.back ASt.addL ASt.killL nodeA nodeT nodeTL_eq nodeL_eq strsE_get strsE_len intsE_get intsE_len strsE_at intsE_at nodeN namesRow nodeO kidsRow tab2 tab3 tab4 tab5 tab6 tab7 tab8 tab9 tab10 tab11 tab12 tab13 tab14 tab15 tab16 tab17 tab18 tab19 tab21 tab22 tab23 tab24 tab25 tab26 tab27 tab28 tab29 tab30 tab39 tab40 tab41 tab42 tab43 tab47 tab48 tab55 tab56 tab57 tab60 tab61 tab62 tab73 tab74 tab75 tab85 tab92 tab115 tab116 tab143 tab144 tab145 tab154 tab155 tab170 tab175 tab182 tab197 tab198 tab203 tab204 tab205 tab207 tab208 tab209
theorem strs_snoc (q : List ByteArray) (s : ByteArray) : strsE (q ++ [s]) = strsE q ++ [[.str s]] := by simp [strsE]
theorem snoc_cases (p : List ByteArray) : p = [] ∨ ∃ q s, p = q ++ [s] := by
  rcases List.eq_nil_or_concat p with h | ⟨q, s, h⟩
  · exact .inl h
  · exact .inr ⟨q, s, by rw [h]; simp⟩
theorem remS_snoc (n : Nd) (q : List ByteArray) (s : ByteArray) : remS n (q ++ [s]) = (getS n q).bind (fun m => if 0 ≤ placeI m s then setS n q (delK m (placeI m s).toNat) else none) := by
  unfold remS
  simp
theorem removeAt_gen (n : Nd) (q : List ByteArray) (s : ByteArray) (t : VC) (hlen : q.length ≤ 999) (pa : AC Try.prog 162 [nodeA n, .view t.cut 1 (strsE q)] 0 (fun r => r = optA (getS n q))) (hmS : ∀ m, getS n q = some m → Slt m)
    (pset : ∀ (t' : VC) (m x : Nd), getS n q = some m → Sml x → AC Try.prog 166 [nodeA n, .view t.cut 1 (strsE q), nodeT t' x] 0 (fun r => r = optA (setS n q x))) : AC Try.prog 155 [nodeA n, .view t 1 (strsE (q ++ [s]))] 0 (fun r => r = optA (remS n (q ++ [s]))) := by
  rw [remS_snoc]
  refine AC.weak ?_
  have hw : IntKind.i64.wrap (q.length : Int) = (q.length : Int) := i64_nat (by omega) (by omega)
  have htk : (strsE q ++ [[AV.str s]]).take q.length = strsE q := by rw [List.take_append_of_le_length (by rw [strsE_len]; exact Nat.le_refl _), List.take_of_length_le (by rw [strsE_len]; exact Nat.le_refl _)]
  have hget : (strsE q ++ [[AV.str s]])[q.length]? = some [AV.str s] := by rw [List.getElem?_append_right (by rw [strsE_len]; exact Nat.le_refl _), strsE_len]; simp
  have hget' : ∀ h, (strsE q ++ [[AV.str s]])[q.length]'h = [AV.str s] := fun h => by rw [List.getElem?_eq_getElem h] at hget; exact Option.some.inj hget
  have hlt : q.length < q.length + 1 := by omega
  have hle : q.length ≤ q.length + 1 := by omega
  have hle' : (q.length : Int) ≤ (q.length : Int) + 1 := by omega
  have hlt' : (q.length : Int) < (q.length : Int) + 1 := by omega
  have hn0 : ¬ (q.length : Int) < 0 := by omega
  unfold nodeA at pa ⊢
  rw [nodeL_eq] at pa ⊢
  rw [strs_snoc]
  refine AC.of tab_ok mixed_ok Try.func155 (by rfl) (by kernel_rfl) ?_; rintro ⟨P, T, hT, hm, w0, S0, rd0, k0⟩ hP hTT; dsimp only at hP hTT; subst hP hTT; unfold initSt; rw [Try.ntmps155]
  cases hg : getS n q with
  | none =>
    rw [hg] at pa
    unfold optA nodeA at pa
    rw [show nodeL ((none : Option Nd).getD Nd.zero) = nodeL Nd.zero from rfl, zeroA, Option.isSome_none] at pa
    (repeat (first | with_reducible refine AW.seq ?_ | ((first | refine arun_kn 1 rfl (fun C hC => ?_) | refine arunD_kn 1 rfl (fun C hC => ?_)); (repeat ((conv => whnf); simp [strsE_len, hw, htk, hlt, hle, hle', hlt', hn0])); refine hC _ ?_; clear hC C; simp only [List.drop, Nat.reduceAdd]) | (refine arun_skip ?_ ?_; (focus (simp [awant, strsE_len, hw, htk, hlt, hle, hle', hlt', hn0]; done))) | (refine arun_c0 (pa) ?_; rintro _ rfl) | (refine arunD_cE (0) (pa) (by exact ⟨_, rfl, optN_in⟩) ?_; rintro _ rfl; intro _) | (refine AW.regionK [] (fun K hK => ?_)) | (refine AW.regionDK [] (pcs [(4, 0, fun r => r = .tup [.agg [.int .i64 0, .int .i64 0, .str ⟨#[]⟩, .view .loose 1 [], .view .loose 5 []], .bool false])] []) (by kernel_rfl) (by kernel_rfl) (fun K hK => ?_)) | (refine AW.condT ?_ ?_; (focus (simp [aev, strsE_len, hw, htk, hlt, hle, hle', hlt', hn0]; done))) | (refine AW.condF ?_ ?_; (focus (simp [aev, strsE_len, hw, htk, hlt, hle, hle', hlt', hn0]; done))) | with_reducible refine AW.block ?_ | ((first | ((first | refine arun_nil ?_ | refine arunD_nil ?_); refine hK _ ?_; clear hK K) | refine AW.skip ?_ | refine AW.exit ?_ | refine AW.ret ?_); simp only [wE, if_true, if_false, Nat.reduceEqDiff, reduceIte])))
    exact ⟨.tup [node0 0 0 ⟨#[]⟩, .bool false], by simp [node0, ares, aresL, upd, rowsOf_cons], none_end.1, _, none_end.2, rfl⟩
  | some m =>
    have hm := hmS m hg
    have pk := place_ok .loose m s hm.plc
    rw [hg] at pa
    unfold optA nodeA at pa
    rw [show nodeL ((some m : Option Nd).getD Nd.zero) = nodeL m from rfl, nodeL_eq m, Option.isSome_some] at pa
    unfold nodeT at pk
    rw [nodeTL_eq] at pk
    rw [Option.bind_some]
    rcases placeI_cases m s with ⟨h1, _⟩ | ⟨k, h1, h2, _⟩
    · rw [h1] at pk ⊢
      rw [if_neg (by omega)]
      (repeat (first | with_reducible refine AW.seq ?_ | ((first | refine arun_kn 1 rfl (fun C hC => ?_) | refine arunD_kn 1 rfl (fun C hC => ?_)); (repeat ((conv => whnf); simp [strsE_len, hw, htk, hget, hget', hlt, hle, hle', hlt', hn0])); refine hC _ ?_; clear hC C; simp only [List.drop, Nat.reduceAdd]) | (refine arun_skip ?_ ?_; (focus (simp [awant, strsE_len, hw, htk, hget, hget', hlt, hle, hle', hlt', hn0]; done))) | (refine arun_c0 (pa) ?_; rintro _ rfl) | (refine arun_c0 (pk) ?_; rintro _ rfl) | (refine arunD_cE (0) (pa) (by exact ⟨_, rfl, optS_in m⟩) ?_; rintro _ rfl; intro _) | (refine arunD_c (0) (pk) ?_; rintro _ rfl; intro _) | (refine AW.regionK [] (fun K hK => ?_)) | (refine AW.regionDK [] (pcs [(4, 0, fun r => r = .tup [.agg [.int .i64 m.kind, .int .i64 m.num, .str m.text, .view .loose 1 (strsE m.names), .view .loose 5 (m.kids.map nodeL)], .bool true]), (5, 0, fun r => r = .int .i64 (-1))] []) (by kernel_rfl) (by kernel_rfl) (fun K hK => ?_)) | (refine AW.condT ?_ ?_; (focus (simp [aev, strsE_len, hw, htk, hget, hget', hlt, hle, hle', hlt', hn0]; done))) | (refine AW.condF ?_ ?_; (focus (simp [aev, strsE_len, hw, htk, hget, hget', hlt, hle, hle', hlt', hn0]; done))) | with_reducible refine AW.block ?_ | ((first | ((first | refine arun_nil ?_ | refine arunD_nil ?_); refine hK _ ?_; clear hK K) | refine AW.skip ?_ | refine AW.exit ?_ | refine AW.ret ?_); simp only [wE, if_true, if_false, Nat.reduceEqDiff, reduceIte])))
      exact ⟨.tup [node0 0 0 ⟨#[]⟩, .bool false], by simp [node0, ares, aresL, upd, rowsOf_cons], none_end.1, _, none_end.2, rfl⟩
    · rw [h2] at pk ⊢
      rw [if_pos (by omega), Int.toNat_natCast]
      have hk0 : ¬ ((k : Int) < 0) := by omega
      have h6 := hm.sml.kids
      have hwk : IntKind.i64.wrap ((k : Int) + 1) = (k : Int) + 1 := i64_nat (by omega) (by omega)
      have hb0 : k ≤ m.kids.length := by omega
      have hb1 : k + 1 ≤ m.kids.length := by omega
      have hb1' : (k : Int) + 1 ≤ (m.kids.length : Int) := by omega
      have hl1 : ((m.kids.map nodeL).take k).length = k := by rw [List.length_take, List.length_map]; omega
      have hl2 : ((m.kids.map nodeL).drop (k + 1)).length = m.kids.length - (k + 1) := by rw [List.length_drop, List.length_map]
      have htm : (m.kids.map nodeL).take m.kids.length = m.kids.map nodeL := List.take_of_length_le (by rw [List.length_map]; exact Nat.le_refl _)
      have hs1 : k * 80 ≤ 140737488355328 := by omega
      have hs2 : k ≤ 140737488355328 := by omega
      have hs3 : (k + (m.kids.length - (k + 1))) * 80 ≤ 140737488355328 := by omega
      have hs4 : k + (m.kids.length - (k + 1)) ≤ 140737488355328 := by omega
      (repeat (first | with_reducible refine AW.seq ?_ | ((first | refine arun_kn 1 rfl (fun C hC => ?_) | refine arunD_kn 1 rfl (fun C hC => ?_)); (repeat ((conv => whnf); simp [strsE_len, hw, htk, hget, hget', hlt, hle, hle', hlt', hn0, hk0, hwk, hb0, hb1, hb1', hl1, hl2, htm, hs1, hs2, hs3, hs4])); refine hC _ ?_; clear hC C; simp only [List.drop, Nat.reduceAdd]) | (refine arun_skip ?_ ?_; (focus (simp [awant, strsE_len, hw, htk, hget, hget', hlt, hle, hle', hlt', hn0, hk0, hwk, hb0, hb1, hb1', hl1, hl2, htm, hs1, hs2, hs3, hs4]; done))) | (refine arun_c0 (pa) ?_; rintro _ rfl) | (refine arun_c0 (pk) ?_; rintro _ rfl) | (refine arunD_cE (0) (pa) (by exact ⟨_, rfl, optS_in m⟩) ?_; rintro _ rfl; intro _) | (refine arunD_c (0) (pk) ?_; rintro _ rfl; intro _) | (refine AW.regionK [] (fun K hK => ?_)) | (refine AW.regionDK [] (pcs [(4, 0, fun r => r = .tup [.agg [.int .i64 m.kind, .int .i64 m.num, .str m.text, .view .loose 1 (strsE m.names), .view .loose 5 (m.kids.map nodeL)], .bool true]), (5, 0, fun r => r = .int .i64 (k : Int))] []) (by kernel_rfl) (by kernel_rfl) (fun K hK => ?_)) | (refine AW.condT ?_ ?_; (focus (simp [aev, strsE_len, hw, htk, hget, hget', hlt, hle, hle', hlt', hn0, hk0, hwk, hb0, hb1, hb1', hl1, hl2, htm, hs1, hs2, hs3, hs4]; done))) | (refine AW.condF ?_ ?_; (focus (simp [aev, strsE_len, hw, htk, hget, hget', hlt, hle, hle', hlt', hn0, hk0, hwk, hb0, hb1, hb1', hl1, hl2, htm, hs1, hs2, hs3, hs4]; done))) | with_reducible refine AW.block ?_ | ((first | ((first | refine arun_nil ?_ | refine arunD_nil ?_); refine hK _ ?_; clear hK K) | refine AW.skip ?_ | refine AW.exit ?_ | refine AW.ret ?_); simp only [wE, if_true, if_false, Nat.reduceEqDiff, reduceIte])))
      have hkl : (m.kids.map nodeL).take k ++ (m.kids.map nodeL).drop (k + 1) = (delK m k).kids.map nodeL := by simp [delK, List.map_take, List.map_drop]
      have hkn : k + (m.kids.length - (k + 1)) = (delK m k).kids.length := by simp [delK]; omega
      have hmin : min k m.kids.length = k := Nat.min_eq_left hb0
      have hdk : (delK m k).kind = m.kind := rfl
      have hdn : (delK m k).num = 0 := rfl
      have hdt : (delK m k).text = ⟨#[]⟩ := rfl
      have hsml := delK_sml (k := k) hm.sml
      refine AW.hold 43 ?_
      by_cases h4 : m.kind = 4
      · have hnl := hm.map h4
        have hn1 : k ≤ m.names.length := by omega
        have hn2 : k + 1 ≤ m.names.length := by omega
        have hn2' : (k : Int) + 1 ≤ (m.names.length : Int) := by omega
        have hl3 : ((strsE m.names).take k).length = k := by rw [List.length_take, strsE_len]; omega
        have hl4 : ((strsE m.names).drop (k + 1)).length = m.names.length - (k + 1) := by rw [List.length_drop, strsE_len]
        have htn : (strsE m.names).take m.names.length = strsE m.names := List.take_of_length_le (by rw [strsE_len]; exact Nat.le_refl _)
        have hs5 : k * 16 ≤ 140737488355328 := by omega
        have hs6 : (k + (m.names.length - (k + 1))) * 16 ≤ 140737488355328 := by omega
        have hs7 : k + (m.names.length - (k + 1)) ≤ 140737488355328 := by omega
        have hnn : (strsE m.names).take k ++ (strsE m.names).drop (k + 1) = strsE (delK m k).names := by simp [delK, h4, strsE, List.map_take, List.map_drop]
        have hnk : k + (m.names.length - (k + 1)) = (delK m k).names.length := by simp [delK, h4]; omega
        have hminn : min k m.names.length = k := Nat.min_eq_left hn1
        have ps := pset .loose m (delK m k) hg hsml
        refine AW.condT (by simp [aev, ASt.hold, AV.subL, AV.sub, h4]) ?_
        have hclo := nodeT_clo .loose (delK m k)
        unfold nodeA nodeT at ps
        unfold nodeT at hclo
        rw [nodeTL_eq, hdk, hdn, hdt] at hclo
        rw [nodeTL_eq, nodeL_eq, hdk, hdn, hdt, optA_eq] at ps
        (refine AW.regionDK [] (pcs [] []) (by kernel_rfl) (by kernel_rfl) (fun K hK => ?_); (repeat (refine arunD_ks 4 rfl (fun C hC => ?_); (repeat ((conv => whnf); simp [ASt.hold, upd, hmin, AV.subL, AV.sub, rowsOf_cons, Row.sub, strsE_len, hwk, hn1, hn2, hn2', hl3, hl4, htn, hs5, hs2, hs6, hs7])); refine hC _ ?_; clear hC C; simp only [List.drop_succ_cons, List.drop_zero, List.drop_nil, Nat.reduceAdd])); refine arunD_nil ?_; refine hK _ ?_; clear hK K; simp only [thenA_normal, inBlockA_normal, endQ_normal, endR_normal])
        refine AW.hold 59 ?_
        (repeat (first | with_reducible refine AW.seq ?_ | ((first | refine arun_kn 1 rfl (fun C hC => ?_) | refine arunD_kn 1 rfl (fun C hC => ?_)); (repeat ((conv => whnf); simp [ASt.hold, upd, AV.subL, AV.sub, rowsOf_cons, Row.sub, hmin, hminn, hkl, hnn, hkn, hnk, htk, hle, hle', optL])); refine hC _ ?_; clear hC C; simp only [List.drop, Nat.reduceAdd]) | (refine arun_skip ?_ ?_; (focus (simp [awant, ASt.hold, upd, AV.subL, AV.sub, rowsOf_cons, Row.sub, hmin, hminn, hkl, hnn, hkn, hnk, htk, hle, hle', optL]; done))) | (refine arun_c0 (ps) ?_; rintro _ rfl) | (refine arunD_cE (0) (ps) (by exact ⟨_, rfl, optL_in _⟩) ?_; rintro _ rfl; intro _) | (refine AW.regionK [] (fun K hK => ?_)) | (refine AW.regionDK [] (pcs [(9, 0, fun r => r = optL (setS n q (delK m k)))] []) (by kernel_rfl) (by kernel_rfl) (fun K hK => ?_)) | (refine AW.condT ?_ ?_; (focus (simp [aev, ASt.hold, upd, AV.subL, AV.sub, rowsOf_cons, Row.sub, hmin, hminn, hkl, hnn, hkn, hnk, htk, hle, hle', optL]; done))) | (refine AW.condF ?_ ?_; (focus (simp [aev, ASt.hold, upd, AV.subL, AV.sub, rowsOf_cons, Row.sub, hmin, hminn, hkl, hnn, hkn, hnk, htk, hle, hle', optL]; done))) | with_reducible refine AW.block ?_ | ((first | ((first | refine arun_nil ?_ | refine arunD_nil ?_); refine hK _ ?_; clear hK K) | refine AW.skip ?_ | refine AW.exit ?_ | refine AW.ret ?_); simp only [wE, if_true, if_false, Nat.reduceEqDiff, reduceIte])))
        exact ⟨optA (setS n q (delK m k)), by rw [optA_eq]; simp [optL, ares, aresL, upd, rowsOf_cons, AV.subL, AV.sub, Row.sub], optA_pur _, _, Wk.refl _, rfl⟩
      · have hnn : strsE (delK m k).names = [] := by simp [delK, h4, strsE]
        have ps := pset .tight m (delK m k) hg hsml
        have hclo := nodeT_clo .tight (delK m k)
        unfold nodeA nodeT at ps
        unfold nodeT at hclo
        rw [nodeTL_eq, hnn, hdk, hdn, hdt] at hclo
        rw [nodeTL_eq, nodeL_eq, hnn, hdk, hdn, hdt, optA_eq] at ps
        (repeat (first | with_reducible refine AW.seq ?_ | ((first | refine arun_kn 1 rfl (fun C hC => ?_) | refine arunD_kn 1 rfl (fun C hC => ?_)); (repeat ((conv => whnf); simp [h4, ASt.hold, upd, AV.subL, AV.sub, rowsOf_cons, Row.sub, hmin, hkl, hkn, htk, hle, hle', optL])); refine hC _ ?_; clear hC C; simp only [List.drop, Nat.reduceAdd]) | (refine arun_skip ?_ ?_; (focus (simp [awant, h4, ASt.hold, upd, AV.subL, AV.sub, rowsOf_cons, Row.sub, hmin, hkl, hkn, htk, hle, hle', optL]; done))) | (refine arun_c0 (ps) ?_; rintro _ rfl) | (refine arunD_cE (0) (ps) (by exact ⟨_, rfl, optL_in _⟩) ?_; rintro _ rfl; intro _) | (refine AW.regionK [] (fun K hK => ?_)) | (refine AW.regionDK [] (pcs [(9, 0, fun r => r = optL (setS n q (delK m k)))] []) (by kernel_rfl) (by kernel_rfl) (fun K hK => ?_)) | (refine AW.condT ?_ ?_; (focus (simp [aev, h4, ASt.hold, upd, AV.subL, AV.sub, rowsOf_cons, Row.sub, hmin, hkl, hkn, htk, hle, hle', optL]; done))) | (refine AW.condF ?_ ?_; (focus (simp [aev, h4, ASt.hold, upd, AV.subL, AV.sub, rowsOf_cons, Row.sub, hmin, hkl, hkn, htk, hle, hle', optL]; done))) | with_reducible refine AW.block ?_ | ((first | ((first | refine arun_nil ?_ | refine arunD_nil ?_); refine hK _ ?_; clear hK K) | refine AW.skip ?_ | refine AW.exit ?_ | refine AW.ret ?_); simp only [wE, if_true, if_false, Nat.reduceEqDiff, reduceIte])))
        exact ⟨optA (setS n q (delK m k)), by rw [optA_eq]; simp [optL, ares, aresL, upd, rowsOf_cons, AV.subL, AV.sub, Row.sub], optA_pur _, _, Wk.refl _, rfl⟩
theorem removeAt_AC (n : Nd) (p : List ByteArray) (t : VC) (hn : Shp n) (hp : p.length ≤ 1000) : AC Try.prog 155 [nodeA n, .view t 1 (strsE p)] 0 (fun r => r = optA (remS n p)) := by
  rcases snoc_cases p with rfl | ⟨q, s, rfl⟩
  · refine AC.weak ?_
    unfold nodeA
    rw [nodeL_eq]
    refine AC.of tab_ok mixed_ok Try.func155 (by rfl) (by kernel_rfl) ?_; rintro ⟨P, T, hT, hm, w0, S0, rd0, k0⟩ hP hTT; dsimp only at hP hTT; subst hP hTT; unfold initSt; rw [Try.ntmps155]
    have hw : IntKind.i64.wrap (-1) = -1 := by decide
    (repeat (first | with_reducible refine AW.seq ?_ | ((first | refine arun_kn 1 rfl (fun C hC => ?_) | refine arunD_kn 1 rfl (fun C hC => ?_)); (repeat ((conv => whnf); simp [strsE_len, hw])); refine hC _ ?_; clear hC C; simp only [List.drop, Nat.reduceAdd]) | (refine arun_skip ?_ ?_; (focus (simp [awant, strsE_len, hw]; done))) | (refine AW.regionK [] (fun K hK => ?_)) | (refine AW.regionDK [] (pcs [] []) (by kernel_rfl) (by kernel_rfl) (fun K hK => ?_)) | (refine AW.condT ?_ ?_; (focus (simp [aev, strsE_len, hw]; done))) | (refine AW.condF ?_ ?_; (focus (simp [aev, strsE_len, hw]; done))) | with_reducible refine AW.block ?_ | ((first | ((first | refine arun_nil ?_ | refine arunD_nil ?_); refine hK _ ?_; clear hK K) | refine AW.skip ?_ | refine AW.exit ?_ | refine AW.ret ?_); simp only [wE, if_true, if_false, Nat.reduceEqDiff, reduceIte])))
    exact ⟨.tup [node0 0 0 ⟨#[]⟩, .bool false], by simp [node0, ares, aresL, upd, rowsOf_cons], none_end.1, _, none_end.2, rfl⟩
  · have hlen : q.length ≤ 999 := by simp at hp; omega
    exact removeAt_gen n q s t hlen (at_AC t.cut n q hn (by omega)) (fun m hg => (getS_shp q n m hn hg).slt) (fun t' m x _ hx => setAt_AC t' q n x t.cut hn hx)
end Go.Proofs.Ytgfnmhfdmmnaoaa.Eng
-- EV: rows skip
namespace Go.Proofs.Ytgfnmhfdmmnaoaa.Eng
open Go Go.RowKit
attribute [local simp] big size_mk ASt.pay Option.map_map Function.comp_def awant aop acall ado aev ofVal ofVal0 ASt.put ASt.add ASt.turn ASt.kill abox aalloc astore aload aloadD astoreD idOf ASt.at cellsTo afieldAddr afield aindexAddr aindex alen abin aint acmp astr aun apick aextract anil aslice abound abuild afill abuildSlice asCells aps avCells over upd aappend asrc amax amin aconv mkSt slots rowsOf_cons rowsOf_nil usedOf_cons usedOf_nil ZK.av List.replicate ASt.back ASt.addL ASt.killL nodeA nodeT nodeTL_eq nodeL_eq strsE_get strsE_len intsE_get intsE_len strsE_at intsE_at nodeN namesRow nodeO kidsRow tab2 tab3 tab4 tab5 tab6 tab7 tab8 tab9 tab10 tab11 tab12 tab13 tab14 tab15 tab16 tab17 tab18 tab19 tab21 tab22 tab23 tab24 tab25 tab26 tab27 tab28 tab29 tab30 tab39 tab40 tab41 tab42 tab43 tab47 tab48 tab55 tab56 tab57 tab60 tab61 tab62 tab73 tab74 tab75 tab85 tab92 tab115 tab116 tab143 tab144 tab145 tab154 tab155 tab170 tab175 tab182 tab197 tab198 tab203 tab204 tab205 tab207 tab208 tab209
def slotA (o : Option (Nat × Bool)) : AV := match o with
  | none => .tup [.int .i64 (-1), .bool false]
  | some x => .tup [.int .i64 (x.1 : Nat), .bool x.2]
theorem slotG_AC (n : Nd) (st : ByteArray) (hn : Slt n) : AC Try.prog 181 [nodeA n, .str st] 0 (fun r => r = slotA (slotS n st)) := by
  have h6 := hn.sml.kids
  have pk := place_ok .loose n st hn.plc
  unfold nodeT at pk
  rw [nodeTL_eq] at pk
  unfold nodeA
  rw [nodeL_eq]
  refine AC.of tab_ok mixed_ok Try.func181 (by rfl) (by kernel_rfl) ?_; rintro ⟨P, T, hT, hm, w0, S0, rd0, k0⟩ hP hTT; dsimp only at hP hTT; subst hP hTT; unfold initSt; rw [Try.ntmps181]
  rcases placeI_cases n st with ⟨h1, _⟩ | ⟨k, h1, h2, _⟩
  · rw [h1] at pk
    by_cases h3 : n.kind = 3
    · have h4 : (n.kind == 4) = false := by rw [h3]; rfl
      have pd := decimal_AC n.kids.length (by have := hn.lst h3; omega)
      cases e1 : eqs st ⟨#[45]⟩
      · cases e2 : eqs st (txt (dig1 n.kids.length))
        · have e : slotS n st = none := by unfold slotS dash; rw [h1, if_neg (by omega), if_neg (by rw [e1, e2]; simp), if_neg (by omega)]
          generalize txt (dig1 n.kids.length) = dd at *
          (repeat (first | with_reducible refine AW.seq ?_ | ((first | refine arun_kn 1 rfl (fun C hC => ?_) | refine arunD_kn 1 rfl (fun C hC => ?_)); (repeat ((conv => whnf); simp [h3, e1, e2])); refine hC _ ?_; clear hC C; simp only [List.drop, Nat.reduceAdd]) | (refine arun_skip ?_ ?_; (focus (simp [awant, h3, e1, e2]; done))) | (refine arun_c0 (hx := by (simp [h3, e1, e2] <;> fail)) (pk) ?_; rintro _ rfl) | (refine arun_c0 (pd) ?_; rintro _ rfl) | (refine arunD_skip ?_ ?_; (focus (simp [awant, h3, e1, e2]; done))) | (refine AW.regionK [] (fun K hK => ?_)) | (refine AW.regionDK [] (pcs [] []) (by kernel_rfl) (by kernel_rfl) (fun K hK => ?_)) | (refine AW.condT ?_ ?_; (focus (simp [aev, h3, e1, e2]; done))) | (refine AW.condF ?_ ?_; (focus (simp [aev, h3, e1, e2]; done))) | with_reducible refine AW.block ?_ | ((first | ((first | refine arun_nil ?_ | refine arunD_nil ?_); refine hK _ ?_; clear hK K) | refine AW.skip ?_ | refine AW.exit ?_ | refine AW.ret ?_); simp only [wE, if_true, if_false, Nat.reduceEqDiff, reduceIte])))
          refine AW.loopS (fun (i : Nat) => mkSt (slots 0 62 [(1, .str st), (2, .ptr true 5 1 2 0 0), (7, .int .i64 i)]) [(2, ⟨true, 30, 5, [nodeL n]⟩)] [2] (rd0.map fun _ => 0)) (fun i => 0) (fun i => i = 0) 0 ?_ rfl ?_
          · rw [nodeL_eq]
            exact (less_of (by simp [lessL, mkSt, slots, h3, nodeN, namesRow, nodeO, kidsRow]) (by simp [upd, mkSt, rowsOf_cons, h3, nodeN, namesRow, nodeO, kidsRow]) (by simp [upd, mkSt, usedOf_cons, h3, nodeN, namesRow, nodeO, kidsRow]) (by first | exact rd_less (by omega) | simp [mkSt, h3, nodeN, namesRow, nodeO, kidsRow]) (by simp [slots, in_any, in_int, in_bool, in_str, in_ptr, in_own, in_agg, in_vnil, in_rdr, usedOf_cons, usedOf_nil, strs_in, ints_in, nodes_in, in_tup, h3, nodeN, namesRow, nodeO, kidsRow]) (by simp only [List.forall_mem_cons, List.not_mem_nil, false_implies, implies_true, and_true, true_and, h3, nodeN, namesRow, nodeO, kidsRow]; (repeat (first | with_reducible exact trivial | with_reducible refine And.intro ?_ ?_ | with_reducible exact in_int | with_reducible exact in_str | with_reducible exact in_bool | with_reducible exact strs_in _ | with_reducible exact nodes_in _ | with_reducible exact items_in _ | with_reducible exact in_vnil | with_reducible exact in_any | exact hin _ | with_reducible refine take_in ?_ | with_reducible exact strsE_in _ | with_reducible exact nodesE_in _ | with_reducible exact nodeL_in _ | with_reducible exact itemsE_in _ | with_reducible exact itemL_in _ | with_reducible refine app_in ?_ ?_ | with_reducible refine sing_in ?_ | (focus (simp [in_any, in_int, in_bool, in_str, in_ptr, in_own, in_agg, in_vnil, in_rdr, usedOf_cons, usedOf_nil, strs_in, ints_in, nodes_in, h3, nodeN, namesRow, nodeO, kidsRow]; done)))); done))
          · rintro i rfl
            rw [nodeL_eq]
            (repeat (first | with_reducible refine AW.seq ?_ | ((first | refine arun_kn 1 rfl (fun C hC => ?_) | refine arunD_kn 1 rfl (fun C hC => ?_)); (repeat ((conv => whnf); simp [h3])); refine hC _ ?_; clear hC C; simp only [List.drop, Nat.reduceAdd]) | (refine arun_skip ?_ ?_; (focus (simp [awant, h3]; done))) | (refine arunD_skip ?_ ?_; (focus (simp [awant, h3]; done))) | (refine AW.regionK [] (fun K hK => ?_)) | (refine AW.regionDK [] (pcs [] []) (by kernel_rfl) (by kernel_rfl) (fun K hK => ?_)) | (refine AW.condT ?_ ?_; (focus (simp [aev, h3]; done))) | (refine AW.condF ?_ ?_; (focus (simp [aev, h3]; done))) | with_reducible refine AW.block ?_ | ((first | ((first | refine arun_nil ?_ | refine arunD_nil ?_); refine hK _ ?_; clear hK K) | refine AW.skip ?_ | refine AW.exit ?_ | refine AW.ret ?_); simp only [wE, if_true, if_false, Nat.reduceEqDiff, reduceIte])))
            exact ⟨.tup [.int .i64 (-1), .bool false], by simp [ares, aresL], tup2_pur pur_int pur_bool, by rw [e]; rfl⟩
        · have e : slotS n st = some (n.kids.length, false) := by unfold slotS dash; rw [h1, if_neg (by omega), if_pos ⟨h3, by rw [e2]; simp⟩]
          generalize txt (dig1 n.kids.length) = dd at *
          (repeat (first | with_reducible refine AW.seq ?_ | ((first | refine arun_kn 1 rfl (fun C hC => ?_) | refine arunD_kn 1 rfl (fun C hC => ?_)); (repeat ((conv => whnf); simp [h3, e1, e2])); refine hC _ ?_; clear hC C; simp only [List.drop, Nat.reduceAdd]) | (refine arun_skip ?_ ?_; (focus (simp [awant, h3, e1, e2]; done))) | (refine arun_c0 (hx := by (simp [h3, e1, e2] <;> fail)) (pk) ?_; rintro _ rfl) | (refine arun_c0 (pd) ?_; rintro _ rfl) | (refine arunD_skip ?_ ?_; (focus (simp [awant, h3, e1, e2]; done))) | (refine AW.regionK [] (fun K hK => ?_)) | (refine AW.regionDK [] (pcs [] []) (by kernel_rfl) (by kernel_rfl) (fun K hK => ?_)) | (refine AW.condT ?_ ?_; (focus (simp [aev, h3, e1, e2]; done))) | (refine AW.condF ?_ ?_; (focus (simp [aev, h3, e1, e2]; done))) | with_reducible refine AW.block ?_ | ((first | ((first | refine arun_nil ?_ | refine arunD_nil ?_); refine hK _ ?_; clear hK K) | refine AW.skip ?_ | refine AW.exit ?_ | refine AW.ret ?_); simp only [wE, if_true, if_false, Nat.reduceEqDiff, reduceIte])))
          exact ⟨.tup [.int .i64 n.kids.length, .bool false], by simp [ares, aresL], tup2_pur pur_int pur_bool, by rw [e]; rfl⟩
      · have e : slotS n st = some (n.kids.length, false) := by unfold slotS dash; rw [h1, if_neg (by omega), if_pos ⟨h3, by rw [e1]; simp⟩]
        (repeat (first | with_reducible refine AW.seq ?_ | ((first | refine arun_kn 1 rfl (fun C hC => ?_) | refine arunD_kn 1 rfl (fun C hC => ?_)); (repeat ((conv => whnf); simp [h3, e1])); refine hC _ ?_; clear hC C; simp only [List.drop, Nat.reduceAdd]) | (refine arun_skip ?_ ?_; (focus (simp [awant, h3, e1]; done))) | (refine arun_c0 (hx := by (simp [h3, e1] <;> fail)) (pk) ?_; rintro _ rfl) | (refine arun_c0 (pd) ?_; rintro _ rfl) | (refine arunD_skip ?_ ?_; (focus (simp [awant, h3, e1]; done))) | (refine AW.regionK [] (fun K hK => ?_)) | (refine AW.regionDK [] (pcs [] []) (by kernel_rfl) (by kernel_rfl) (fun K hK => ?_)) | (refine AW.condT ?_ ?_; (focus (simp [aev, h3, e1]; done))) | (refine AW.condF ?_ ?_; (focus (simp [aev, h3, e1]; done))) | with_reducible refine AW.block ?_ | ((first | ((first | refine arun_nil ?_ | refine arunD_nil ?_); refine hK _ ?_; clear hK K) | refine AW.skip ?_ | refine AW.exit ?_ | refine AW.ret ?_); simp only [wE, if_true, if_false, Nat.reduceEqDiff, reduceIte])))
        exact ⟨.tup [.int .i64 n.kids.length, .bool false], by simp [ares, aresL], tup2_pur pur_int pur_bool, by rw [e]; rfl⟩
    · have h3' : (n.kind == 3) = false := by simpa using h3
      by_cases h4 : n.kind = 4
      · have hnl := hn.map h4
        have e : slotS n st = some (nmI st n.names, false) := by unfold slotS; rw [h1, if_neg (by omega), if_neg (by simp [h3]), if_pos h4]
        (repeat (first | with_reducible refine AW.seq ?_ | ((first | refine arun_kn 1 rfl (fun C hC => ?_) | refine arunD_kn 1 rfl (fun C hC => ?_)); (repeat ((conv => whnf); simp [h4, h3, h3'])); refine hC _ ?_; clear hC C; simp only [List.drop, Nat.reduceAdd]) | (refine arun_skip ?_ ?_; (focus (simp [awant, h4, h3, h3']; done))) | (refine arun_c0 (hx := by (simp [h4, h3, h3'] <;> fail)) (pk) ?_; rintro _ rfl) | (refine arunD_skip ?_ ?_; (focus (simp [awant, h4, h3, h3']; done))) | (refine AW.regionK [] (fun K hK => ?_)) | (refine AW.regionDK [] (pcs [] []) (by kernel_rfl) (by kernel_rfl) (fun K hK => ?_)) | (refine AW.condT ?_ ?_; (focus (simp [aev, h4, h3, h3']; done))) | (refine AW.condF ?_ ?_; (focus (simp [aev, h4, h3, h3']; done))) | with_reducible refine AW.block ?_ | ((first | ((first | refine arun_nil ?_ | refine arunD_nil ?_); refine hK _ ?_; clear hK K) | refine AW.skip ?_ | refine AW.exit ?_ | refine AW.ret ?_); simp only [wE, if_true, if_false, Nat.reduceEqDiff, reduceIte])))
        refine AW.loopS (fun (i : Nat) => mkSt (slots 0 62 [(1, .str st), (2, .ptr true 5 1 2 0 0), (7, .int .i64 i)]) [(2, ⟨true, 30, 5, [nodeL n]⟩)] [2] (rd0.map fun _ => 0)) (fun i => n.kids.length - i) (fun i => i ≤ n.kids.length ∧ nmI st n.names = nmI st (n.names.drop i) + i) 0 ?_ ⟨Nat.zero_le _, rfl⟩ ?_
        · rw [nodeL_eq]
          exact (less_of (by simp [lessL, mkSt, slots, h4, nodeN, namesRow, nodeO, kidsRow]) (by simp [upd, mkSt, rowsOf_cons, h4, nodeN, namesRow, nodeO, kidsRow]) (by simp [upd, mkSt, usedOf_cons, h4, nodeN, namesRow, nodeO, kidsRow]) (by first | exact rd_less (by omega) | simp [mkSt, h4, nodeN, namesRow, nodeO, kidsRow]) (by simp [slots, in_any, in_int, in_bool, in_str, in_ptr, in_own, in_agg, in_vnil, in_rdr, usedOf_cons, usedOf_nil, strs_in, ints_in, nodes_in, in_tup, h4, nodeN, namesRow, nodeO, kidsRow]) (by simp only [List.forall_mem_cons, List.not_mem_nil, false_implies, implies_true, and_true, true_and, h4, nodeN, namesRow, nodeO, kidsRow]; (repeat (first | with_reducible exact trivial | with_reducible refine And.intro ?_ ?_ | with_reducible exact in_int | with_reducible exact in_str | with_reducible exact in_bool | with_reducible exact strs_in _ | with_reducible exact nodes_in _ | with_reducible exact items_in _ | with_reducible exact in_vnil | with_reducible exact in_any | exact hin _ | with_reducible refine take_in ?_ | with_reducible exact strsE_in _ | with_reducible exact nodesE_in _ | with_reducible exact nodeL_in _ | with_reducible exact itemsE_in _ | with_reducible exact itemL_in _ | with_reducible refine app_in ?_ ?_ | with_reducible refine sing_in ?_ | (focus (simp [in_any, in_int, in_bool, in_str, in_ptr, in_own, in_agg, in_vnil, in_rdr, usedOf_cons, usedOf_nil, strs_in, ints_in, nodes_in, h4, nodeN, namesRow, nodeO, kidsRow]; done)))); done))
        · rintro i ⟨hi, hf⟩
          rw [nodeL_eq]
          have hi' : (i : Int) ≤ (n.kids.length : Int) := by omega
          by_cases hlt : i < n.kids.length
          · have hni : i < n.names.length := by omega
            have hw : IntKind.i64.wrap ((i : Int) + 1) = (i : Int) + 1 := i64_nat (by omega) (by omega)
            have hne : ¬ i = n.kids.length := by omega
            have hbi : ((i : Int) == (n.kids.length : Int)) = false := beq_false_of_ne (by omega)
            cases hb : lts st n.names[i]
            · rw [nmI_drop hni hb] at hf
              (repeat (first | with_reducible refine AW.seq ?_ | ((first | refine arun_kn 1 rfl (fun C hC => ?_) | refine arunD_kn 1 rfl (fun C hC => ?_)); (repeat ((conv => whnf); simp [h4, hi', hi, hne, hbi, hni, hb, hw])); refine hC _ ?_; clear hC C; simp only [List.drop, Nat.reduceAdd]) | (refine arun_skip ?_ ?_; (focus (simp [awant, h4, hi', hi, hne, hbi, hni, hb, hw]; done))) | (refine arunD_skip ?_ ?_; (focus (simp [awant, h4, hi', hi, hne, hbi, hni, hb, hw]; done))) | (refine AW.regionK [] (fun K hK => ?_)) | (refine AW.regionDK [] (pcs [] []) (by kernel_rfl) (by kernel_rfl) (fun K hK => ?_)) | (refine AW.condT ?_ ?_; (focus (simp [aev, h4, hi', hi, hne, hbi, hni, hb, hw]; done))) | (refine AW.condF ?_ ?_; (focus (simp [aev, h4, hi', hi, hne, hbi, hni, hb, hw]; done))) | with_reducible refine AW.block ?_ | ((first | ((first | refine arun_nil ?_ | refine arunD_nil ?_); refine hK _ ?_; clear hK K) | refine AW.skip ?_ | refine AW.exit ?_ | refine AW.ret ?_); simp only [wE, if_true, if_false, Nat.reduceEqDiff, reduceIte])))
              exact ⟨i + 1, by omega, ⟨by omega, hf⟩, (less_of (by simp [lessL, mkSt, slots, h4, nodeN, namesRow, nodeO, kidsRow]) (by simp [upd, mkSt, rowsOf_cons, h4, nodeN, namesRow, nodeO, kidsRow]) (by simp [upd, mkSt, usedOf_cons, h4, nodeN, namesRow, nodeO, kidsRow]) (by first | exact rd_less (by omega) | simp [mkSt, h4, nodeN, namesRow, nodeO, kidsRow]) (by simp [slots, in_any, in_int, in_bool, in_str, in_ptr, in_own, in_agg, in_vnil, in_rdr, usedOf_cons, usedOf_nil, strs_in, ints_in, nodes_in, in_tup, h4, nodeN, namesRow, nodeO, kidsRow]) (by simp only [List.forall_mem_cons, List.not_mem_nil, false_implies, implies_true, and_true, true_and, h4, nodeN, namesRow, nodeO, kidsRow]; (repeat (first | with_reducible exact trivial | with_reducible refine And.intro ?_ ?_ | with_reducible exact in_int | with_reducible exact in_str | with_reducible exact in_bool | with_reducible exact strs_in _ | with_reducible exact nodes_in _ | with_reducible exact items_in _ | with_reducible exact in_vnil | with_reducible exact in_any | exact hin _ | with_reducible refine take_in ?_ | with_reducible exact strsE_in _ | with_reducible exact nodesE_in _ | with_reducible exact nodeL_in _ | with_reducible exact itemsE_in _ | with_reducible exact itemL_in _ | with_reducible refine app_in ?_ ?_ | with_reducible refine sing_in ?_ | (focus (simp [in_any, in_int, in_bool, in_str, in_ptr, in_own, in_agg, in_vnil, in_rdr, usedOf_cons, usedOf_nil, strs_in, ints_in, nodes_in, h4, nodeN, namesRow, nodeO, kidsRow]; done)))); done))⟩
            · rw [nmI_at hni hb] at hf
              (repeat (first | with_reducible refine AW.seq ?_ | ((first | refine arun_kn 1 rfl (fun C hC => ?_) | refine arunD_kn 1 rfl (fun C hC => ?_)); (repeat ((conv => whnf); simp [h4, hi', hi, hne, hbi, hni, hb, hw])); refine hC _ ?_; clear hC C; simp only [List.drop, Nat.reduceAdd]) | (refine arun_skip ?_ ?_; (focus (simp [awant, h4, hi', hi, hne, hbi, hni, hb, hw]; done))) | (refine arunD_skip ?_ ?_; (focus (simp [awant, h4, hi', hi, hne, hbi, hni, hb, hw]; done))) | (refine AW.regionK [] (fun K hK => ?_)) | (refine AW.regionDK [] (pcs [] []) (by kernel_rfl) (by kernel_rfl) (fun K hK => ?_)) | (refine AW.condT ?_ ?_; (focus (simp [aev, h4, hi', hi, hne, hbi, hni, hb, hw]; done))) | (refine AW.condF ?_ ?_; (focus (simp [aev, h4, hi', hi, hne, hbi, hni, hb, hw]; done))) | with_reducible refine AW.block ?_ | ((first | ((first | refine arun_nil ?_ | refine arunD_nil ?_); refine hK _ ?_; clear hK K) | refine AW.skip ?_ | refine AW.exit ?_ | refine AW.ret ?_); simp only [wE, if_true, if_false, Nat.reduceEqDiff, reduceIte])))
              exact ⟨.tup [.int .i64 i, .bool false], by simp [ares, aresL], tup2_pur pur_int pur_bool, by rw [e, hf, Nat.zero_add]; rfl⟩
          · obtain rfl : i = n.kids.length := by omega
            rw [List.drop_eq_nil_of_le (by omega), nmI, Nat.zero_add] at hf
            (repeat (first | with_reducible refine AW.seq ?_ | ((first | refine arun_kn 1 rfl (fun C hC => ?_) | refine arunD_kn 1 rfl (fun C hC => ?_)); (repeat ((conv => whnf); simp [h4])); refine hC _ ?_; clear hC C; simp only [List.drop, Nat.reduceAdd]) | (refine arun_skip ?_ ?_; (focus (simp [awant, h4]; done))) | (refine arunD_skip ?_ ?_; (focus (simp [awant, h4]; done))) | (refine AW.regionK [] (fun K hK => ?_)) | (refine AW.regionDK [] (pcs [] []) (by kernel_rfl) (by kernel_rfl) (fun K hK => ?_)) | (refine AW.condT ?_ ?_; (focus (simp [aev, h4]; done))) | (refine AW.condF ?_ ?_; (focus (simp [aev, h4]; done))) | with_reducible refine AW.block ?_ | ((first | ((first | refine arun_nil ?_ | refine arunD_nil ?_); refine hK _ ?_; clear hK K) | refine AW.skip ?_ | refine AW.exit ?_ | refine AW.ret ?_); simp only [wE, if_true, if_false, Nat.reduceEqDiff, reduceIte])))
            exact ⟨.tup [.int .i64 n.kids.length, .bool false], by simp [ares, aresL], tup2_pur pur_int pur_bool, by rw [e, hf]; rfl⟩
      · have h4' : (n.kind == 4) = false := by simpa using h4
        have e : slotS n st = none := by unfold slotS; rw [h1, if_neg (by omega), if_neg (by simp [h3]), if_neg h4]
        (repeat (first | with_reducible refine AW.seq ?_ | ((first | refine arun_kn 1 rfl (fun C hC => ?_) | refine arunD_kn 1 rfl (fun C hC => ?_)); (repeat ((conv => whnf); simp [h4', h3'])); refine hC _ ?_; clear hC C; simp only [List.drop, Nat.reduceAdd]) | (refine arun_skip ?_ ?_; (focus (simp [awant, h4', h3']; done))) | (refine arun_c0 (hx := by (simp [h4', h3'] <;> fail)) (pk) ?_; rintro _ rfl) | (refine arunD_skip ?_ ?_; (focus (simp [awant, h4', h3']; done))) | (refine AW.regionK [] (fun K hK => ?_)) | (refine AW.regionDK [] (pcs [] []) (by kernel_rfl) (by kernel_rfl) (fun K hK => ?_)) | (refine AW.condT ?_ ?_; (focus (simp [aev, h4', h3']; done))) | (refine AW.condF ?_ ?_; (focus (simp [aev, h4', h3']; done))) | with_reducible refine AW.block ?_ | ((first | ((first | refine arun_nil ?_ | refine arunD_nil ?_); refine hK _ ?_; clear hK K) | refine AW.skip ?_ | refine AW.exit ?_ | refine AW.ret ?_); simp only [wE, if_true, if_false, Nat.reduceEqDiff, reduceIte])))
        refine AW.loopS (fun (i : Nat) => mkSt (slots 0 62 [(1, .str st), (2, .ptr true 5 1 2 0 0), (7, .int .i64 i)]) [(2, ⟨true, 30, 5, [nodeL n]⟩)] [2] (rd0.map fun _ => 0)) (fun i => 0) (fun i => i = 0) 0 ?_ rfl ?_
        · rw [nodeL_eq]
          exact less_a
        · rintro i rfl
          rw [nodeL_eq]
          (repeat (first | with_reducible refine AW.seq ?_ | ((first | refine arun_kn 1 rfl (fun C hC => ?_) | refine arunD_kn 1 rfl (fun C hC => ?_)); (repeat ((conv => whnf); simp [h4'])); refine hC _ ?_; clear hC C; simp only [List.drop, Nat.reduceAdd]) | (refine arun_skip ?_ ?_; (focus (simp [awant, h4']; done))) | (refine arunD_skip ?_ ?_; (focus (simp [awant, h4']; done))) | (refine AW.regionK [] (fun K hK => ?_)) | (refine AW.regionDK [] (pcs [] []) (by kernel_rfl) (by kernel_rfl) (fun K hK => ?_)) | (refine AW.condT ?_ ?_; (focus (simp [aev, h4']; done))) | (refine AW.condF ?_ ?_; (focus (simp [aev, h4']; done))) | with_reducible refine AW.block ?_ | ((first | ((first | refine arun_nil ?_ | refine arunD_nil ?_); refine hK _ ?_; clear hK K) | refine AW.skip ?_ | refine AW.exit ?_ | refine AW.ret ?_); simp only [wE, if_true, if_false, Nat.reduceEqDiff, reduceIte])))
          exact ⟨.tup [.int .i64 (-1), .bool false], by simp [ares, aresL], tup2_pur pur_int pur_bool, by rw [e]; rfl⟩
  · rw [h2] at pk
    have hk0 : (0 : Int) ≤ (k : Int) := by omega
    by_cases h4 : n.kind = 4
    · have e : slotS n st = some (k, true) := by unfold slotS; rw [h2, if_pos hk0, Int.toNat_natCast, decide_eq_true h4]
      (repeat (first | with_reducible refine AW.seq ?_ | ((first | refine arun_kn 1 rfl (fun C hC => ?_) | refine arunD_kn 1 rfl (fun C hC => ?_)); (repeat ((conv => whnf); simp [h4, hk0])); refine hC _ ?_; clear hC C; simp only [List.drop, Nat.reduceAdd]) | (refine arun_skip ?_ ?_; (focus (simp [awant, h4, hk0]; done))) | (refine arun_c0 (hx := by (simp [h4, hk0] <;> fail)) (pk) ?_; rintro _ rfl) | (refine arunD_skip ?_ ?_; (focus (simp [awant, h4, hk0]; done))) | (refine AW.regionK [] (fun K hK => ?_)) | (refine AW.regionDK [] (pcs [] []) (by kernel_rfl) (by kernel_rfl) (fun K hK => ?_)) | (refine AW.condT ?_ ?_; (focus (simp [aev, h4, hk0]; done))) | (refine AW.condF ?_ ?_; (focus (simp [aev, h4, hk0]; done))) | with_reducible refine AW.block ?_ | ((first | ((first | refine arun_nil ?_ | refine arunD_nil ?_); refine hK _ ?_; clear hK K) | refine AW.skip ?_ | refine AW.exit ?_ | refine AW.ret ?_); simp only [wE, if_true, if_false, Nat.reduceEqDiff, reduceIte])))
      exact ⟨.tup [.int .i64 k, .bool true], by simp [ares, aresL], tup2_pur pur_int pur_bool, by rw [e]; rfl⟩
    · have h4' : (n.kind == 4) = false := by simpa using h4
      have e : slotS n st = some (k, false) := by unfold slotS; rw [h2, if_pos hk0, Int.toNat_natCast, decide_eq_false h4]
      (repeat (first | with_reducible refine AW.seq ?_ | ((first | refine arun_kn 1 rfl (fun C hC => ?_) | refine arunD_kn 1 rfl (fun C hC => ?_)); (repeat ((conv => whnf); simp [h4, h4', hk0])); refine hC _ ?_; clear hC C; simp only [List.drop, Nat.reduceAdd]) | (refine arun_skip ?_ ?_; (focus (simp [awant, h4, h4', hk0]; done))) | (refine arun_c0 (hx := by (simp [h4, h4', hk0] <;> fail)) (pk) ?_; rintro _ rfl) | (refine arunD_skip ?_ ?_; (focus (simp [awant, h4, h4', hk0]; done))) | (refine AW.regionK [] (fun K hK => ?_)) | (refine AW.regionDK [] (pcs [] []) (by kernel_rfl) (by kernel_rfl) (fun K hK => ?_)) | (refine AW.condT ?_ ?_; (focus (simp [aev, h4, h4', hk0]; done))) | (refine AW.condF ?_ ?_; (focus (simp [aev, h4, h4', hk0]; done))) | with_reducible refine AW.block ?_ | ((first | ((first | refine arun_nil ?_ | refine arunD_nil ?_); refine hK _ ?_; clear hK K) | refine AW.skip ?_ | refine AW.exit ?_ | refine AW.ret ?_); simp only [wE, if_true, if_false, Nat.reduceEqDiff, reduceIte])))
      exact ⟨.tup [.int .i64 k, .bool false], by simp [ares, aresL], tup2_pur pur_int pur_bool, by rw [e]; rfl⟩
theorem insKid_kids (n v : Nd) (i : Nat) (st : ByteArray) : (insKid n i st v).kids.map nodeL = (n.kids.map nodeL).take i ++ nodeL v :: (n.kids.map nodeL).drop i := by
  simp [insKid, insL, List.map_take, List.map_drop]
theorem insKid_names (n v : Nd) (i : Nat) (st : ByteArray) (h4 : n.kind = 4) : strsE (insKid n i st v).names = (strsE n.names).take i ++ [.str st] :: (strsE n.names).drop i := by
  simp [insKid, insL, h4, strsE, List.map_take, List.map_drop]
theorem insKid_klen {n v : Nd} {i : Nat} {st : ByteArray} (h : i ≤ n.kids.length) : (insKid n i st v).kids.length = i + (n.kids.length - i + 1) := by
  simp [insKid, insL]; omega
theorem ins3_pur (n : Nd) (ks : List Nd) : Pur (.tup [.agg [.int .i64 n.kind, .int .i64 0, .str ⟨#[]⟩, .view .tight 1 [], .view .loose 5 (ks.map nodeL)], .bool true]) := tup2_pur (pur_agg (by
  simp only [List.forall_mem_cons, List.not_mem_nil, false_implies, implies_true, and_true]
  exact ⟨pur_int, pur_int, pur_str, pur_view (by decide) (fun e he => by cases he), nodes_pur _ (by decide)⟩)) pur_bool
theorem ins3_wk {n v : Nd} {i : Nat} {st : ByteArray} (h : (insKid n i st v).names = []) : Wk (.tup [.agg [.int .i64 n.kind, .int .i64 0, .str ⟨#[]⟩, .view .tight 1 [], .view .loose 5 ((insKid n i st v).kids.map nodeL)], .bool true]) (optA (some (insKid n i st v))) := by
  rw [optA_eq]
  unfold optL
  dsimp only [Option.getD_some, Option.isSome_some]
  rw [h]
  exact tup2_wk' (Wk.agg (.cons (Wk.refl _) (.cons (Wk.refl _) (.cons (Wk.refl _) (.cons (Wk.nil (fun h => by cases h)) (.cons (Wk.refl _) .nil)))))) (Wk.refl _)
theorem addHereG_AC (n v : Nd) (st : ByteArray) (hn : Slt n) (hv : Sml v) : AC Try.prog 157 [nodeA n, .str st, nodeA v] 0 (fun r => r = optA (addK n st v)) := by
  have hs1 := hn.sml.names
  have hs2 := hn.sml.kids
  have psl := slotG_AC n st hn
  refine AC.weak ?_
  cases hs : slotS n st with
  | none =>
    have e : addK n st v = none := by unfold addK; rw [hs]; rfl
    rw [hs] at psl
    dsimp only [slotA] at psl
    unfold nodeA at psl ⊢
    rw [nodeL_eq] at psl
    rw [nodeL_eq n, nodeL_eq v]
    refine AC.of tab_ok mixed_ok Try.func157 (by rfl) (by kernel_rfl) ?_; rintro ⟨P, T, hT, hm, w0, S0, rd0, k0⟩ hP hTT; dsimp only at hP hTT; subst hP hTT; unfold initSt; rw [Try.ntmps157]
    (repeat (first | with_reducible refine AW.seq ?_ | ((first | refine arun_kn 1 rfl (fun C hC => ?_) | refine arunD_kn 1 rfl (fun C hC => ?_)); (repeat ((conv => whnf); simp)); refine hC _ ?_; clear hC C; simp only [List.drop, Nat.reduceAdd]) | (refine arun_skip ?_ ?_; (focus (simp [awant]; done))) | (refine arun_c0 (psl) ?_; rintro _ rfl) | (refine arunD_skip ?_ ?_; (focus (simp [awant]; done))) | (refine AW.regionK [] (fun K hK => ?_)) | (refine AW.regionDK [] (pcs [] []) (by kernel_rfl) (by kernel_rfl) (fun K hK => ?_)) | (refine AW.condT ?_ ?_; (focus (simp [aev]; done))) | (refine AW.condF ?_ ?_; (focus (simp [aev]; done))) | with_reducible refine AW.block ?_ | ((first | ((first | refine arun_nil ?_ | refine arunD_nil ?_); refine hK _ ?_; clear hK K) | refine AW.skip ?_ | refine AW.exit ?_ | refine AW.ret ?_); simp only [wE, if_true, if_false, Nat.reduceEqDiff, reduceIte])))
    exact ⟨.tup [node0 0 0 ⟨#[]⟩, .bool false], by simp [node0, ares, aresL, upd, rowsOf_cons], none_end.1, _, none_end.2, by rw [e]; rfl⟩
  | some x =>
    obtain ⟨i, b⟩ := x
    have hlt := slotS_lt hn hs
    rw [hs] at psl
    dsimp only [slotA] at psl
    have hi0 : ¬ ((i : Int) < 0) := by omega
    cases b
    · obtain ⟨hk, hi⟩ := hlt.2 rfl
      have e : addK n st v = some (insKid n i st v) := by unfold addK; rw [hs]; rfl
      have pc := copyNode_AC n hn.sml .loose
      have pv := copyNode_AC v hv .loose
      unfold nodeT at pc pv
      rw [nodeTL_eq] at pc pv
      unfold nodeA at psl pc pv ⊢
      rw [nodeL_eq] at psl pc pv
      rw [nodeL_eq n, nodeL_eq v]
      have hl1 : ((n.kids.map nodeL).take i).length = i := by rw [List.length_take, List.length_map]; omega
      have hl2 : ((n.kids.map nodeL).drop i).length = n.kids.length - i := by rw [List.length_drop, List.length_map]
      have hb1 : i * 80 ≤ 140737488355328 := by omega
      have hb2 : i ≤ 140737488355328 := by omega
      have hb3 : (i + 1) * 80 ≤ 140737488355328 := by omega
      have hb4 : i + 1 ≤ 140737488355328 := by omega
      have hb5 : (i + 1 + (n.kids.length - i)) * 80 ≤ 140737488355328 := by omega
      have hb6 : i + 1 + (n.kids.length - i) ≤ 140737488355328 := by omega
      have htk1 : (n.kids.map nodeL).take n.kids.length = n.kids.map nodeL := List.take_of_length_le (by rw [List.length_map]; exact Nat.le_refl _)
      have hkl := insKid_kids n v i st
      rw [nodeL_eq v] at hkl
      have hkn := insKid_klen (v := v) (st := st) hi
      have q1 : (insKid n i st v).kind = n.kind := rfl
      have q2 : (insKid n i st v).num = 0 := rfl
      have q3 : (insKid n i st v).text = ⟨#[]⟩ := rfl
      refine AC.of tab_ok mixed_ok Try.func157 (by rfl) (by kernel_rfl) ?_; rintro ⟨P, T, hT, hm, w0, S0, rd0, k0⟩ hP hTT; dsimp only at hP hTT; subst hP hTT; unfold initSt; rw [Try.ntmps157]
      (repeat (first | with_reducible refine AW.seq ?_ | ((first | refine arun_kn 1 rfl (fun C hC => ?_) | refine arunD_kn 1 rfl (fun C hC => ?_)); (repeat ((conv => whnf); simp [hi0, hi, hl1, hl2, hb1, hb2, hb3, hb4, hb5, hb6, htk1])); refine hC _ ?_; clear hC C; simp only [List.drop, Nat.reduceAdd]) | (refine arun_skip ?_ ?_; (focus (simp [awant, hi0, hi, hl1, hl2, hb1, hb2, hb3, hb4, hb5, hb6, htk1]; done))) | (refine arun_c0 (psl) ?_; rintro _ rfl) | (refine arun_c0 (pc) ?_; rintro _ rfl) | (refine arun_c0 (pv) ?_; rintro _ rfl) | (refine arunD_skip ?_ ?_; (focus (simp [awant, hi0, hi, hl1, hl2, hb1, hb2, hb3, hb4, hb5, hb6, htk1]; done))) | (refine arunD_c (0) (psl) ?_; rintro _ rfl; intro _) | (refine arunD_c (0) (pc) ?_; rintro _ rfl; intro _) | (refine arunD_c (0) (pv) ?_; rintro _ rfl; intro _) | (refine AW.regionK [] (fun K hK => ?_)) | (refine AW.regionDK [] (pcs [(7, 0, fun r => r = .agg [.int .i64 v.kind, .int .i64 v.num, .str v.text, .view .loose 1 (strsE v.names), .view .loose 5 (v.kids.map nodeL)])] []) (by kernel_rfl) (by kernel_rfl) (fun K hK => ?_)) | (refine AW.condT ?_ ?_; (focus (simp [aev, hi0, hi, hl1, hl2, hb1, hb2, hb3, hb4, hb5, hb6, htk1]; done))) | (refine AW.condF ?_ ?_; (focus (simp [aev, hi0, hi, hl1, hl2, hb1, hb2, hb3, hb4, hb5, hb6, htk1]; done))) | with_reducible refine AW.block ?_ | ((first | ((first | refine arun_nil ?_ | refine arunD_nil ?_); refine hK _ ?_; clear hK K) | refine AW.skip ?_ | refine AW.exit ?_ | refine AW.ret ?_); simp only [wE, if_true, if_false, Nat.reduceEqDiff, reduceIte])))
      refine AW.hold 34 ?_
      rcases hk with h3 | h4
      · have q4 : (insKid n i st v).names = [] := by simp [insKid, h3]
        (repeat (first | with_reducible refine AW.seq ?_ | ((first | refine arun_kn 1 rfl (fun C hC => ?_) | refine arunD_kn 1 rfl (fun C hC => ?_)); (repeat ((conv => whnf); simp [h3, ASt.hold, upd, AV.subL, AV.sub, rowsOf_cons, Row.sub, hl1, hl2])); refine hC _ ?_; clear hC C; simp only [List.drop, Nat.reduceAdd]) | (refine arun_skip ?_ ?_; (focus (simp [awant, h3, ASt.hold, upd, AV.subL, AV.sub, rowsOf_cons, Row.sub, hl1, hl2]; done))) | (refine arunD_skip ?_ ?_; (focus (simp [awant, h3, ASt.hold, upd, AV.subL, AV.sub, rowsOf_cons, Row.sub, hl1, hl2]; done))) | (refine AW.regionK [] (fun K hK => ?_)) | (refine AW.regionDK [] (pcs [] []) (by kernel_rfl) (by kernel_rfl) (fun K hK => ?_)) | (refine AW.condT ?_ ?_; (focus (simp [aev, h3, ASt.hold, upd, AV.subL, AV.sub, rowsOf_cons, Row.sub, hl1, hl2]; done))) | (refine AW.condF ?_ ?_; (focus (simp [aev, h3, ASt.hold, upd, AV.subL, AV.sub, rowsOf_cons, Row.sub, hl1, hl2]; done))) | with_reducible refine AW.block ?_ | ((first | ((first | refine arun_nil ?_ | refine arunD_nil ?_); refine hK _ ?_; clear hK K) | refine AW.skip ?_ | refine AW.exit ?_ | refine AW.ret ?_); simp only [wE, if_true, if_false, Nat.reduceEqDiff, reduceIte])))
        exact ⟨.tup [.agg [.int .i64 n.kind, .int .i64 0, .str ⟨#[]⟩, .view .tight 1 [], .view .loose 5 ((insKid n i st v).kids.map nodeL)], .bool true], by rw [hkl]; simp [ares, aresL, h3], ins3_pur n _, _, ins3_wk q4, by rw [e]⟩
      · have hl3 : ((strsE n.names).take i).length = i := by rw [List.length_take, strsE_len]; have := hn.map h4; omega
        have hl4 : ((strsE n.names).drop i).length = n.kids.length - i := by rw [List.length_drop, strsE_len]; have := hn.map h4; omega
        have hin : i ≤ n.names.length := by have := hn.map h4; omega
        have hb7 : i * 16 ≤ 140737488355328 := by omega
        have hb8 : (i + 1) * 16 ≤ 140737488355328 := by omega
        have hb9 : (i + 1 + (n.kids.length - i)) * 16 ≤ 140737488355328 := by omega
        have htk2 : (strsE n.names).take n.names.length = strsE n.names := List.take_of_length_le (by rw [strsE_len]; exact Nat.le_refl _)
        have hnn := insKid_names n v i st h4
        have hmin : min i n.kids.length = i := Nat.min_eq_left hi
        refine AW.condF (by simp [aev, ASt.hold, upd, AV.subL, AV.sub, h4]) ?_
        refine AW.skip ?_
        simp only [thenA_normal]
        repeat refine AW.seq ?_
        (refine AW.regionK [] (fun K hK => ?_); (repeat (refine arun_ks 4 rfl (fun C hC => ?_); (repeat ((conv => whnf); simp [hmin, ASt.hold, upd, AV.subL, AV.sub, rowsOf_cons, Row.sub, hin, hl3, strsE_len, hb7, hb8, hb2, hb4])); refine hC _ ?_; clear hC C; simp only [List.drop_succ_cons, List.drop_zero, List.drop_nil])); refine arun_nil ?_; refine hK _ ?_; clear hK K; simp only [thenA_normal, inBlockA_normal, endQ_normal, endR_normal])
        repeat refine AW.seq ?_
        (refine AW.regionK [] (fun K hK => ?_); (repeat (refine arun_ks 4 rfl (fun C hC => ?_); (repeat ((conv => whnf); simp [hmin, ASt.hold, upd, AV.subL, AV.sub, rowsOf_cons, Row.sub, hin, hl3, hl4, strsE_len, hb9, hb6, htk2])); refine hC _ ?_; clear hC C; simp only [List.drop_succ_cons, List.drop_zero, List.drop_nil])); refine arun_nil ?_; refine hK _ ?_; clear hK K; simp only [thenA_normal, inBlockA_normal, endQ_normal, endR_normal])
        refine AW.hold 58 ?_
        (repeat (first | with_reducible refine AW.seq ?_ | ((first | refine arun_kn 1 rfl (fun C hC => ?_) | refine arunD_kn 1 rfl (fun C hC => ?_)); (repeat ((conv => whnf); simp [h4, hmin, ASt.hold, upd, AV.subL, AV.sub, rowsOf_cons, Row.sub, hl1, hl2, hl3, hl4, strsE_len])); refine hC _ ?_; clear hC C; simp only [List.drop, Nat.reduceAdd]) | (refine arun_skip ?_ ?_; (focus (simp [awant, h4, hmin, ASt.hold, upd, AV.subL, AV.sub, rowsOf_cons, Row.sub, hl1, hl2, hl3, hl4, strsE_len]; done))) | (refine arunD_skip ?_ ?_; (focus (simp [awant, h4, hmin, ASt.hold, upd, AV.subL, AV.sub, rowsOf_cons, Row.sub, hl1, hl2, hl3, hl4, strsE_len]; done))) | (refine AW.regionK [] (fun K hK => ?_)) | (refine AW.regionDK [] (pcs [] []) (by kernel_rfl) (by kernel_rfl) (fun K hK => ?_)) | (refine AW.condT ?_ ?_; (focus (simp [aev, h4, hmin, ASt.hold, upd, AV.subL, AV.sub, rowsOf_cons, Row.sub, hl1, hl2, hl3, hl4, strsE_len]; done))) | (refine AW.condF ?_ ?_; (focus (simp [aev, h4, hmin, ASt.hold, upd, AV.subL, AV.sub, rowsOf_cons, Row.sub, hl1, hl2, hl3, hl4, strsE_len]; done))) | with_reducible refine AW.block ?_ | ((first | ((first | refine arun_nil ?_ | refine arunD_nil ?_); refine hK _ ?_; clear hK K) | refine AW.skip ?_ | refine AW.exit ?_ | refine AW.ret ?_); simp only [wE, if_true, if_false, Nat.reduceEqDiff, reduceIte])))
        exact ⟨optA (some (insKid n i st v)), by rw [optA_eq]; simp [optL, ares, aresL, q1, q2, q3, hkl, hnn, h4], optA_pur _, _, Wk.refl _, by rw [e]⟩
    · obtain ⟨h4, hi⟩ := hlt.1 rfl
      have e : addK n st v = some (setK n i v) := by unfold addK; rw [hs]; rfl
      have pw := withKid_AC n v i hn.sml hv hi
      unfold nodeA at psl pw ⊢
      rw [nodeL_eq] at psl
      rw [nodeL_eq n, nodeL_eq v] at pw
      rw [nodeL_eq n, nodeL_eq v]
      refine AC.of tab_ok mixed_ok Try.func157 (by rfl) (by kernel_rfl) ?_; rintro ⟨P, T, hT, hm, w0, S0, rd0, k0⟩ hP hTT; dsimp only at hP hTT; subst hP hTT; unfold initSt; rw [Try.ntmps157]
      (repeat (first | with_reducible refine AW.seq ?_ | ((first | refine arun_kn 1 rfl (fun C hC => ?_) | refine arunD_kn 1 rfl (fun C hC => ?_)); (repeat ((conv => whnf); simp [hi0])); refine hC _ ?_; clear hC C; simp only [List.drop, Nat.reduceAdd]) | (refine arun_skip ?_ ?_; (focus (simp [awant, hi0]; done))) | (refine arun_c0 (psl) ?_; rintro _ rfl) | (refine arun_c0 (pw) ?_; rintro _ rfl) | (refine arunD_skip ?_ ?_; (focus (simp [awant, hi0]; done))) | (refine AW.regionK [] (fun K hK => ?_)) | (refine AW.regionDK [] (pcs [] []) (by kernel_rfl) (by kernel_rfl) (fun K hK => ?_)) | (refine AW.condT ?_ ?_; (focus (simp [aev, hi0]; done))) | (refine AW.condF ?_ ?_; (focus (simp [aev, hi0]; done))) | with_reducible refine AW.block ?_ | ((first | ((first | refine arun_nil ?_ | refine arunD_nil ?_); refine hK _ ?_; clear hK K) | refine AW.skip ?_ | refine AW.exit ?_ | refine AW.ret ?_); simp only [wE, if_true, if_false, Nat.reduceEqDiff, reduceIte])))
      exact ⟨.tup [nodeA (setK n i v), .bool true], by simp [setK, ares, aresL, upd, rowsOf_cons], tup2_pur (node_pur _) pur_bool, _, Wk.refl _, by rw [e]; rfl⟩
end Go.Proofs.Ytgfnmhfdmmnaoaa.Eng
-- EV: rows
namespace Go.Proofs.Ytgfnmhfdmmnaoaa.Eng
open Go Go.RowKit
attribute [local simp] big size_mk ASt.pay Option.map_map Function.comp_def awant aop acall ado aev ofVal ofVal0 ASt.put ASt.add ASt.turn ASt.kill abox aalloc astore aload aloadD astoreD idOf ASt.at cellsTo afieldAddr afield aindexAddr aindex alen abin aint acmp astr aun apick aextract anil aslice abound abuild afill abuildSlice asCells aps avCells over upd aappend asrc amax amin aconv mkSt slots rowsOf_cons rowsOf_nil usedOf_cons usedOf_nil ZK.av List.replicate ASt.back ASt.addL ASt.killL nodeA nodeT nodeTL_eq nodeL_eq strsE_get strsE_len intsE_get intsE_len strsE_at intsE_at nodeN namesRow nodeO kidsRow tab2 tab3 tab4 tab5 tab6 tab7 tab8 tab9 tab10 tab11 tab12 tab13 tab14 tab15 tab16 tab17 tab18 tab19 tab21 tab22 tab23 tab24 tab25 tab26 tab27 tab28 tab29 tab30 tab39 tab40 tab41 tab42 tab43 tab47 tab48 tab55 tab56 tab57 tab60 tab61 tab62 tab73 tab74 tab75 tab85 tab92 tab115 tab116 tab143 tab144 tab145 tab154 tab155 tab170 tab175 tab182 tab197 tab198 tab203 tab204 tab205 tab207 tab208 tab209
theorem addS_snoc (n : Nd) (q : List ByteArray) (s : ByteArray) (v : Nd) : addS n (q ++ [s]) v = (getS n q).bind (fun m => (addK m s v).bind (fun x => setS n q x)) := by
  unfold addS
  simp
theorem opt_none : optL none = .tup [.agg [.int .i64 0, .int .i64 0, .str ⟨#[]⟩, .view .loose 1 [], .view .loose 5 []], .bool false] := rfl
theorem opt_some (m : Nd) : optL (some m) = .tup [.agg [.int .i64 m.kind, .int .i64 m.num, .str m.text, .view .loose 1 (strsE m.names), .view .loose 5 (m.kids.map nodeL)], .bool true] := rfl
theorem addAt_AC (n v : Nd) (p : List ByteArray) (t : VC) (hn : Shp n) (hv : Sml v) (hp : p.length ≤ 1000) : AC Try.prog 165 [nodeA n, .view t 1 (strsE p), nodeA v] 0 (fun r => r = optA (addS n p v)) := by
  rcases snoc_cases p with rfl | ⟨q, s, rfl⟩
  · have p1 := copyNode_AC v hv .loose
    refine AC.weak ?_
    unfold nodeT at p1
    rw [nodeTL_eq] at p1
    unfold nodeA at p1 ⊢
    rw [nodeL_eq] at p1
    rw [nodeL_eq, nodeL_eq]
    refine AC.of tab_ok mixed_ok Try.func165 (by rfl) (by kernel_rfl) ?_; rintro ⟨P, T, hT, hm, w0, S0, rd0, k0⟩ hP hTT; dsimp only at hP hTT; subst hP hTT; unfold initSt; rw [Try.ntmps165]
    (repeat (first | with_reducible refine AW.seq ?_ | ((first | refine arun_kn 1 rfl (fun C hC => ?_) | refine arunD_kn 1 rfl (fun C hC => ?_)); (repeat ((conv => whnf); simp [strsE_len])); refine hC _ ?_; clear hC C; simp only [List.drop, Nat.reduceAdd]) | (refine arun_skip ?_ ?_; (focus (simp [awant, strsE_len]; done))) | (refine arun_c0 (p1) ?_; rintro _ rfl) | (refine AW.regionK [] (fun K hK => ?_)) | (refine AW.regionDK [] (pcs [] []) (by kernel_rfl) (by kernel_rfl) (fun K hK => ?_)) | (refine AW.condT ?_ ?_; (focus (simp [aev, strsE_len]; done))) | (refine AW.condF ?_ ?_; (focus (simp [aev, strsE_len]; done))) | with_reducible refine AW.block ?_ | ((first | ((first | refine arun_nil ?_ | refine arunD_nil ?_); refine hK _ ?_; clear hK K) | refine AW.skip ?_ | refine AW.exit ?_ | refine AW.ret ?_); simp only [wE, if_true, if_false, Nat.reduceEqDiff, reduceIte])))
    exact ⟨.tup [nodeA v, .bool true], by simp [ares, aresL, upd, rowsOf_cons], tup2_pur (node_pur v) pur_bool, _, Wk.refl _, rfl⟩
  · rw [addS_snoc]
    refine AC.weak ?_
    have hlen : q.length ≤ 999 := by simp at hp; omega
    have hw : IntKind.i64.wrap (q.length : Int) = (q.length : Int) := i64_nat (by omega) (by omega)
    have htk : (strsE q ++ [[AV.str s]]).take q.length = strsE q := by rw [List.take_append_of_le_length (by rw [strsE_len]; exact Nat.le_refl _), List.take_of_length_le (by rw [strsE_len]; exact Nat.le_refl _)]
    have hget : (strsE q ++ [[AV.str s]])[q.length]? = some [AV.str s] := by rw [List.getElem?_append_right (by rw [strsE_len]; exact Nat.le_refl _), strsE_len]; simp
    have hget' : ∀ h, (strsE q ++ [[AV.str s]])[q.length]'h = [AV.str s] := fun h => by rw [List.getElem?_eq_getElem h] at hget; exact Option.some.inj hget
    have hlt : q.length < q.length + 1 := by omega
    have hle : q.length ≤ q.length + 1 := by omega
    have hle' : (q.length : Int) ≤ (q.length : Int) + 1 := by omega
    have hlt' : (q.length : Int) < (q.length : Int) + 1 := by omega
    have hn0 : ¬ (q.length : Int) < 0 := by omega
    have hz0 : ((q.length : Int) + 1 == 0) = false := by simp; omega
    have hz1 : ¬ (q.length : Int) + 1 = 0 := by omega
    have pa := at_AC t.cut n q hn (by omega)
    unfold nodeA at pa ⊢
    rw [nodeL_eq, optA_eq] at pa
    rw [nodeL_eq n, nodeL_eq v]
    rw [strs_snoc]
    refine AC.of tab_ok mixed_ok Try.func165 (by rfl) (by kernel_rfl) ?_; rintro ⟨P, T, hT, hm, w0, S0, rd0, k0⟩ hP hTT; dsimp only at hP hTT; subst hP hTT; unfold initSt; rw [Try.ntmps165]
    cases hg : getS n q with
    | none =>
      rw [hg] at pa
      (repeat (first | with_reducible refine AW.seq ?_ | ((first | refine arun_kn 1 rfl (fun C hC => ?_) | refine arunD_kn 1 rfl (fun C hC => ?_)); (repeat ((conv => whnf); simp [strsE_len, hw, htk, hlt, hle, hle', hlt', hn0, hz0, hz1, opt_none, opt_some])); refine hC _ ?_; clear hC C; simp only [List.drop, Nat.reduceAdd]) | (refine arun_skip ?_ ?_; (focus (simp [awant, strsE_len, hw, htk, hlt, hle, hle', hlt', hn0, hz0, hz1, opt_none, opt_some]; done))) | (refine arun_c0 (pa) ?_; rintro _ rfl) | (refine arunD_cE (0) (pa) (by exact ⟨_, rfl, optL_in _⟩) ?_; rintro _ rfl; intro _) | (refine AW.regionK [] (fun K hK => ?_)) | (refine AW.regionDK [] (pcs [(4, 0, fun r => r = optL none)] []) (by kernel_rfl) (by kernel_rfl) (fun K hK => ?_)) | (refine AW.condT ?_ ?_; (focus (simp [aev, strsE_len, hw, htk, hlt, hle, hle', hlt', hn0, hz0, hz1, opt_none, opt_some]; done))) | (refine AW.condF ?_ ?_; (focus (simp [aev, strsE_len, hw, htk, hlt, hle, hle', hlt', hn0, hz0, hz1, opt_none, opt_some]; done))) | with_reducible refine AW.block ?_ | ((first | ((first | refine arun_nil ?_ | refine arunD_nil ?_); refine hK _ ?_; clear hK K) | refine AW.skip ?_ | refine AW.exit ?_ | refine AW.ret ?_); simp only [wE, if_true, if_false, Nat.reduceEqDiff, reduceIte])))
      exact ⟨.tup [node0 0 0 ⟨#[]⟩, .bool false], by simp [node0, ares, aresL, upd, rowsOf_cons], none_end.1, _, none_end.2, rfl⟩
    | some m =>
      have hm := getS_shp q n m hn hg
      have ph := addHereG_AC m v s hm.slt hv
      rw [hg] at pa
      rw [Option.bind_some]
      unfold nodeA at ph
      rw [nodeL_eq m, nodeL_eq v, optA_eq] at ph
      cases ha : addK m s v with
      | none =>
        rw [ha] at ph
        (repeat (first | with_reducible refine AW.seq ?_ | ((first | refine arun_kn 1 rfl (fun C hC => ?_) | refine arunD_kn 1 rfl (fun C hC => ?_)); (repeat ((conv => whnf); simp [strsE_len, hw, htk, hget, hget', hlt, hle, hle', hlt', hn0, hz0, hz1, opt_none, opt_some])); refine hC _ ?_; clear hC C; simp only [List.drop, Nat.reduceAdd]) | (refine arun_skip ?_ ?_; (focus (simp [awant, strsE_len, hw, htk, hget, hget', hlt, hle, hle', hlt', hn0, hz0, hz1, opt_none, opt_some]; done))) | (refine arun_c0 (pa) ?_; rintro _ rfl) | (refine arun_c0 (ph) ?_; rintro _ rfl) | (refine arunD_cE (0) (pa) (by exact ⟨_, rfl, optL_in _⟩) ?_; rintro _ rfl; intro _) | (refine arunD_cE (0) (ph) (by exact ⟨_, rfl, optL_in _⟩) ?_; rintro _ rfl; intro _) | (refine AW.regionK [] (fun K hK => ?_)) | (refine AW.regionDK [] (pcs [(4, 0, fun r => r = optL (some m)), (6, 0, fun r => r = optL none)] []) (by kernel_rfl) (by kernel_rfl) (fun K hK => ?_)) | (refine AW.condT ?_ ?_; (focus (simp [aev, strsE_len, hw, htk, hget, hget', hlt, hle, hle', hlt', hn0, hz0, hz1, opt_none, opt_some]; done))) | (refine AW.condF ?_ ?_; (focus (simp [aev, strsE_len, hw, htk, hget, hget', hlt, hle, hle', hlt', hn0, hz0, hz1, opt_none, opt_some]; done))) | with_reducible refine AW.block ?_ | ((first | ((first | refine arun_nil ?_ | refine arunD_nil ?_); refine hK _ ?_; clear hK K) | refine AW.skip ?_ | refine AW.exit ?_ | refine AW.ret ?_); simp only [wE, if_true, if_false, Nat.reduceEqDiff, reduceIte])))
        exact ⟨.tup [node0 0 0 ⟨#[]⟩, .bool false], by simp [node0, ares, aresL, upd, rowsOf_cons], none_end.1, _, none_end.2, rfl⟩
      | some x =>
        have hx := addK_sml hm hv ha
        have ps := setAt_AC .loose q n x t.cut hn hx
        unfold nodeA nodeT at ps
        rw [nodeTL_eq, nodeL_eq n, optA_eq] at ps
        rw [ha] at ph
        rw [Option.bind_some]
        (repeat (first | with_reducible refine AW.seq ?_ | ((first | refine arun_kn 1 rfl (fun C hC => ?_) | refine arunD_kn 1 rfl (fun C hC => ?_)); (repeat ((conv => whnf); simp [strsE_len, hw, htk, hget, hget', hlt, hle, hle', hlt', hn0, hz0, hz1, opt_none, opt_some])); refine hC _ ?_; clear hC C; simp only [List.drop, Nat.reduceAdd]) | (refine arun_skip ?_ ?_; (focus (simp [awant, strsE_len, hw, htk, hget, hget', hlt, hle, hle', hlt', hn0, hz0, hz1, opt_none, opt_some]; done))) | (refine arun_c0 (pa) ?_; rintro _ rfl) | (refine arun_c0 (ph) ?_; rintro _ rfl) | (refine arun_c0 (ps) ?_; rintro _ rfl) | (refine arunD_cE (0) (pa) (by exact ⟨_, rfl, optL_in _⟩) ?_; rintro _ rfl; intro _) | (refine arunD_cE (0) (ph) (by exact ⟨_, rfl, optL_in _⟩) ?_; rintro _ rfl; intro _) | (refine arunD_cE (0) (ps) (by exact ⟨_, rfl, optL_in _⟩) ?_; rintro _ rfl; intro _) | (refine AW.regionK [] (fun K hK => ?_)) | (refine AW.regionDK [] (pcs [(4, 0, fun r => r = optL (some m)), (6, 0, fun r => r = optL (some x)), (5, 0, fun r => r = optL (setS n q x))] []) (by kernel_rfl) (by kernel_rfl) (fun K hK => ?_)) | (refine AW.condT ?_ ?_; (focus (simp [aev, strsE_len, hw, htk, hget, hget', hlt, hle, hle', hlt', hn0, hz0, hz1, opt_none, opt_some]; done))) | (refine AW.condF ?_ ?_; (focus (simp [aev, strsE_len, hw, htk, hget, hget', hlt, hle, hle', hlt', hn0, hz0, hz1, opt_none, opt_some]; done))) | with_reducible refine AW.block ?_ | ((first | ((first | refine arun_nil ?_ | refine arunD_nil ?_); refine hK _ ?_; clear hK K) | refine AW.skip ?_ | refine AW.exit ?_ | refine AW.ret ?_); simp only [wE, if_true, if_false, Nat.reduceEqDiff, reduceIte])))
        exact ⟨optA (setS n q x), by rw [optA_eq]; simp [optL, ares, aresL, upd, rowsOf_cons], optA_pur _, _, Wk.refl _, rfl⟩
end Go.Proofs.Ytgfnmhfdmmnaoaa.Eng
