/-
  Texts of this claim, joined.
-/
import Derived.Laws.CopyRow
import Derived.Laws.CopyOwn
import Derived.Laws.IdiomCopy
import Derived.Laws.AppendOwn
import Derived.Lib.AppendZerosOnto
import Derived.Lib.Overlaps
import Derived.Deep.RegionLaw
import Derived.Shelf.RegionOpenPlain
import Derived.Lib.Bytealg
import Derived.Test.YtfjaobfaepjfnaaDoorReF

set_option linter.unusedSimpArgs false
set_option linter.unusedVariables false
set_option linter.unnecessarySimpa false
set_option maxRecDepth 100000
set_option maxHeartbeats 16000000
-- EV: rows
namespace Go.Proofs.YtfjaobfaepjfnaaDoor.Eng
open Go Go.RowKit
attribute [local simp] big size_mk ASt.pay Option.map_map Function.comp_def awant aop acall ado aev ofVal ofVal0 ASt.put ASt.add ASt.turn ASt.kill abox aalloc astore aload aloadD astoreD idOf ASt.at cellsTo afieldAddr afield aindexAddr aindex alen abin aint acmp astr aun apick aextract anil aslice abound abuild afill abuildSlice asCells aps avCells over upd aappend asrc amax amin aconv mkSt slots rowsOf_cons rowsOf_nil usedOf_cons usedOf_nil ZK.av List.replicate ASt.back ASt.addL ASt.killL nodeA nodeT nodeTL_eq nodeL_eq strsE_get strsE_len intsE_get intsE_len strsE_at intsE_at nodeN namesRow nodeO kidsRow tab2 tab3 tab4 tab5 tab6 tab7 tab8 tab9 tab10 tab11 tab12 tab13 tab14 tab15 tab16 tab17 tab18 tab19 tab21 tab22 tab23 tab24 tab25 tab26 tab28 tab29 tab30 tab31 tab42 tab43 tab44 tab46 tab63 tab64 tab67 tab68 tab75 tab98 tab100 tab101 tab105 tab106 tab107 tab122 tab123 tab125 tab128 tab138 tab144 tab151 tab152 tab157 tab158 tab160 tab161 tab162
theorem nodeO_res (n : Nd) (id0 : Nat) : Res1 id0 (nodeO n) := Res1.agg [fun _ => .int .i64 n.kind, fun _ => .int .i64 n.num, fun _ => .str n.text, fun _ => .view .loose 1 (strsE n.names), fun id => .own id n.kids.length] (by
  simp only [List.forall_mem_cons, List.not_mem_nil, false_implies, implies_true, and_true]
  exact ⟨Res1.pur _ pur_int, Res1.pur _ pur_int, Res1.pur _ pur_str, Res1.pur _ (strs_pur _ (by decide)), Res1.own _ _⟩)
theorem optA_in (o : Option Nd) : NoId (optA o) := by
  unfold optA NoId
  have h := node_in (U := fun _ => false) (o.getD Nd.zero)
  unfold nodeA at h
  rw [nodeL_eq] at h
  simp [in_tup, in_bool]
  exact h
def optL (o : Option Nd) : AV := .tup [.agg [.int .i64 (o.getD Nd.zero).kind, .int .i64 (o.getD Nd.zero).num, .str (o.getD Nd.zero).text, .view .loose 1 (strsE (o.getD Nd.zero).names), .view .loose 5 ((o.getD Nd.zero).kids.map nodeL)], .bool o.isSome]
theorem optA_eq (o : Option Nd) : optA o = optL o := by unfold optA optL nodeA; rw [nodeL_eq]
theorem optL_in (o : Option Nd) : NoId (optL o) := by rw [← optA_eq]; exact optA_in o
theorem optA_pur (o : Option Nd) : Pur (optA o) := tup2_pur (node_pur _) pur_bool
theorem optN_in : NoId (.tup [.agg [.int .i64 0, .int .i64 0, .str ⟨#[]⟩, .view .loose 1 [], .view .loose 5 []], .bool false]) := by
  have h := optA_in none
  unfold optA nodeA at h
  rw [show nodeL ((none : Option Nd).getD Nd.zero) = nodeL Nd.zero from rfl, zeroA] at h
  exact h
theorem optS_in (m : Nd) : NoId (.tup [.agg [.int .i64 m.kind, .int .i64 m.num, .str m.text, .view .loose 1 (strsE m.names), .view .loose 5 (m.kids.map nodeL)], .bool true]) := by
  have h := optA_in (some m)
  unfold optA nodeA at h
  rw [show nodeL ((some m : Option Nd).getD Nd.zero) = nodeL m from rfl, nodeL_eq] at h
  exact h
theorem kids_set (n v : Nd) (k : Nat) : (setK n k v).kids.map nodeL = (n.kids.map nodeL).set k (nodeL v) := by simp [setK, List.map_set]
theorem withKid_ACR (n v : Nd) (k : Nat) (hn : Sml n) (hv : Sml v) (hk : k < n.kids.length) : ACR Tryd.prog 108 [nodeA n, .int .i64 k, nodeA v] 0 (fun _ => False) (fun f R => f = nodeO (setK n k v) ∧ R = kidsRow (setK n k v)) := by
  unfold nodeA
  rw [nodeL_eq n, nodeL_eq v]
  refine ACR.of tab_ok mixed_ok Tryd.func108 (by rfl) (by kernel_rfl) ?_; rintro ⟨P, T, hT, hm, w0, S0, rd0, k0⟩ hP hTT; dsimp only at hP hTT; subst hP hTT; unfold initSt; rw [Tryd.ntmps108]
  (repeat (first | with_reducible refine AW.seq ?_ | ((first | refine arun_kn 4 rfl (fun C hC => ?_) | refine arunD_kn 4 rfl (fun C hC => ?_)); (repeat ((conv => whnf); simp [hk])); refine hC _ ?_; clear hC C; simp only [List.drop, Nat.reduceAdd]) | ((first | refine arun_kn 1 rfl (fun C hC => ?_) | refine arunD_kn 1 rfl (fun C hC => ?_)); (repeat ((conv => whnf); simp [hk])); refine hC _ ?_; clear hC C; simp only [List.drop, Nat.reduceAdd]) | (refine arun_skip ?_ ?_; (focus (simp [awant, hk]; done))) | (refine arun_cR (0) 30 (copyNode_ACR n hn .loose) ?_; (rintro _ _ ⟨rfl, rfl⟩; unfold nodeO kidsRow)) | (refine arun_c0 (copyNode_AC v hv .loose) ?_; rintro _ rfl) | (refine arunD_c (0) (copyNode_AC v hv .loose) ?_; rintro _ rfl; intro _) | (refine AW.regionK [] (fun K hK => ?_)) | (refine AW.regionDK [] (pcs [(4, 0, fun r => r = nodeA v)] []) (by kernel_rfl) (by kernel_rfl) (fun K hK => ?_)) | (refine AW.condT ?_ ?_; (focus (simp [aev, hk]; done))) | (refine AW.condF ?_ ?_; (focus (simp [aev, hk]; done))) | with_reducible refine AW.block ?_ | ((first | ((first | refine arun_nil ?_ | refine arunD_nil ?_); refine hK _ ?_; clear hK K) | refine AW.skip ?_ | refine AW.exit ?_ | refine AW.ret ?_); simp only [thenA_exit, inBlockA_exit, if_true, if_false, Nat.reduceEqDiff, thenA_normal, inBlockA_normal, reduceIte, thenA_ret, inBlockA_ret, endQ_ret, endR_ret, endG_ret, endQ_normal, endR_normal, endG_normal])))
  exact ⟨nodeO (setK n k v) 30, by simp [nodeO, setK, ares, aresL, upd, rowsOf_cons], .inr ⟨nodeO (setK n k v), 30, kidsRow (setK n k v), rfl, by unfold kidsRow; rw [kids_set]; simp [upd, kidsRow, nodeL_eq], nodeO_res _ 30, nodesE_pur _, rfl, rfl⟩⟩
theorem withKid_AC (n v : Nd) (k : Nat) (hn : Sml n) (hv : Sml v) (hk : k < n.kids.length) : AC Tryd.prog 108 [nodeA n, .int .i64 k, nodeA v] 0 (fun r => r = nodeA (setK n k v)) := by
  refine (AC.ofR (withKid_ACR n v k hn hv hk) ?_).mono ?_
  · rintro r R ⟨rfl, rfl⟩
    rw [nodeO_sub]
    exact node_in _
  · rintro r (h | ⟨f, R, ⟨rfl, rfl⟩, rfl⟩)
    · exact h.elim
    · exact nodeO_sub _
theorem setAt_AC (t' : VC) : ∀ (p : List ByteArray) (n v : Nd) (t : VC), Shp n → Sml v → AC Tryd.prog 78 [nodeA n, .view t 1 (strsE p), nodeT t' v] 0 (fun r => r = optA (setS n p v))
  | [], n, v, t, hn, hv => by
    have p1 := copyNode_AC v hv t'
    refine AC.weak ?_
    unfold nodeA
    unfold nodeT at p1 ⊢
    rw [nodeTL_eq] at p1 ⊢
    rw [nodeL_eq]
    refine AC.of tab_ok mixed_ok Tryd.func78 (by rfl) (by kernel_rfl) ?_; rintro ⟨P, T, hT, hm, w0, S0, rd0, k0⟩ hP hTT; dsimp only at hP hTT; subst hP hTT; unfold initSt; rw [Tryd.ntmps78]
    (repeat (first | with_reducible refine AW.seq ?_ | ((first | refine arun_kn 4 rfl (fun C hC => ?_) | refine arunD_kn 4 rfl (fun C hC => ?_)); (repeat ((conv => whnf); simp [strsE_len])); refine hC _ ?_; clear hC C; simp only [List.drop, Nat.reduceAdd]) | ((first | refine arun_kn 1 rfl (fun C hC => ?_) | refine arunD_kn 1 rfl (fun C hC => ?_)); (repeat ((conv => whnf); simp [strsE_len])); refine hC _ ?_; clear hC C; simp only [List.drop, Nat.reduceAdd]) | (refine arun_skip ?_ ?_; (focus (simp [awant, strsE_len]; done))) | (refine arun_c0 (p1) ?_; rintro _ rfl) | (refine AW.regionK [] (fun K hK => ?_)) | (refine AW.regionDK [] (pcs [] []) (by kernel_rfl) (by kernel_rfl) (fun K hK => ?_)) | (refine AW.condT ?_ ?_; (focus (simp [aev, strsE_len]; done))) | (refine AW.condF ?_ ?_; (focus (simp [aev, strsE_len]; done))) | with_reducible refine AW.block ?_ | ((first | ((first | refine arun_nil ?_ | refine arunD_nil ?_); refine hK _ ?_; clear hK K) | refine AW.skip ?_ | refine AW.exit ?_ | refine AW.ret ?_); simp only [thenA_exit, inBlockA_exit, if_true, if_false, Nat.reduceEqDiff, thenA_normal, inBlockA_normal, reduceIte, thenA_ret, inBlockA_ret, endQ_ret, endR_ret, endG_ret, endQ_normal, endR_normal, endG_normal])))
    exact ⟨.tup [nodeA v, .bool true], by simp [ares, aresL, upd, rowsOf_cons], tup2_pur (node_pur v) pur_bool, _, Wk.refl _, rfl⟩
  | s :: q, n, v, t, hn, hv => by
    have e1 : strsE (s :: q) = [.str s] :: strsE q := rfl
    have pk := place_ok .loose n s hn.plc
    refine AC.weak ?_
    unfold nodeT at pk
    rw [nodeTL_eq] at pk
    unfold nodeA nodeT
    rw [nodeL_eq, nodeTL_eq, e1]
    have hlz : ((q.length + 1 : Nat) : Int) ≠ 0 := by omega
    have htk : (strsE q).take q.length = strsE q := List.take_of_length_le (by rw [strsE_len]; exact Nat.le_refl _)
    have hlo1 : ¬ (q.length : Int) + 1 < 1 := by omega
    have hlo2 : 1 ≤ q.length + 1 := by omega
    have hlo3 : (1 : Int) ≤ (q.length : Int) + 1 := by omega
    have hlz' : (((q.length : Int) + 1) == 0) = false := beq_false_of_ne (by omega)
    refine AC.of tab_ok mixed_ok Tryd.func78 (by rfl) (by kernel_rfl) ?_; rintro ⟨P, T, hT, hm, w0, S0, rd0, k0⟩ hP hTT; dsimp only at hP hTT; subst hP hTT; unfold initSt; rw [Tryd.ntmps78]
    rcases placeI_cases n s with ⟨h1, _⟩ | ⟨k, h1, h2, _⟩
    · rw [h1] at pk
      rw [setS_no q h1]
      (repeat (first | with_reducible refine AW.seq ?_ | ((first | refine arun_kn 4 rfl (fun C hC => ?_) | refine arunD_kn 4 rfl (fun C hC => ?_)); (repeat ((conv => whnf); simp [strsE_len, hlz, hlz'])); refine hC _ ?_; clear hC C; simp only [List.drop, Nat.reduceAdd]) | ((first | refine arun_kn 1 rfl (fun C hC => ?_) | refine arunD_kn 1 rfl (fun C hC => ?_)); (repeat ((conv => whnf); simp [strsE_len, hlz, hlz'])); refine hC _ ?_; clear hC C; simp only [List.drop, Nat.reduceAdd]) | (refine arun_skip ?_ ?_; (focus (simp [awant, strsE_len, hlz, hlz']; done))) | (refine arun_c0 (pk) ?_; rintro _ rfl) | (refine arunD_c (0) (pk) ?_; rintro _ rfl; intro _) | (refine AW.regionK [] (fun K hK => ?_)) | (refine AW.regionDK [] (pcs [(4, 0, fun r => r = .int .i64 (-1))] []) (by kernel_rfl) (by kernel_rfl) (fun K hK => ?_)) | (refine AW.condT ?_ ?_; (focus (simp [aev, strsE_len, hlz, hlz']; done))) | (refine AW.condF ?_ ?_; (focus (simp [aev, strsE_len, hlz, hlz']; done))) | with_reducible refine AW.block ?_ | ((first | ((first | refine arun_nil ?_ | refine arunD_nil ?_); refine hK _ ?_; clear hK K) | refine AW.skip ?_ | refine AW.exit ?_ | refine AW.ret ?_); simp only [thenA_exit, inBlockA_exit, if_true, if_false, Nat.reduceEqDiff, thenA_normal, inBlockA_normal, reduceIte, thenA_ret, inBlockA_ret, endQ_ret, endR_ret, endG_ret, endQ_normal, endR_normal, endG_normal])))
      refine ⟨.tup [node0 0 0 ⟨#[]⟩, .bool false], by simp [node0, ares, aresL, upd, rowsOf_cons], none_end.1, _, none_end.2, rfl⟩
    · rw [h2] at pk
      rw [setS_yes q h1 h2]
      have hk0 : ¬ ((k : Int) < 0) := by omega
      have hkid := hn.kid (List.getElem_mem h1)
      have ih := setAt_AC t' q n.kids[k] v t.cut hkid hv
      cases hg : setS n.kids[k] q v with
      | none =>
        rw [hg] at ih
        unfold optA nodeT nodeA at ih
        have hz : nodeL ((none : Option Nd).getD Nd.zero) = nodeL Nd.zero := rfl
        rw [hz, zeroA, nodeTL_eq, nodeL_eq, Option.isSome_none] at ih
        (repeat (first | with_reducible refine AW.seq ?_ | ((first | refine arun_kn 4 rfl (fun C hC => ?_) | refine arunD_kn 4 rfl (fun C hC => ?_)); (repeat ((conv => whnf); simp [strsE_len, hlz, hlz', h1, hk0, hlo1, hlo2, hlo3, htk])); refine hC _ ?_; clear hC C; simp only [List.drop, Nat.reduceAdd]) | ((first | refine arun_kn 1 rfl (fun C hC => ?_) | refine arunD_kn 1 rfl (fun C hC => ?_)); (repeat ((conv => whnf); simp [strsE_len, hlz, hlz', h1, hk0, hlo1, hlo2, hlo3, htk])); refine hC _ ?_; clear hC C; simp only [List.drop, Nat.reduceAdd]) | (refine arun_skip ?_ ?_; (focus (simp [awant, strsE_len, hlz, hlz', h1, hk0, hlo1, hlo2, hlo3, htk]; done))) | (refine arun_c0 (pk) ?_; rintro _ rfl) | (refine arun_c0 (ih) ?_; rintro _ rfl) | (refine arunD_c (0) (pk) ?_; rintro _ rfl; intro _) | (refine arunD_cE (0) (ih) (by exact ⟨_, rfl, optN_in⟩) ?_; rintro _ rfl; intro _) | (refine AW.regionK [] (fun K hK => ?_)) | (refine AW.regionDK [] (pcs [(4, 0, fun r => r = .int .i64 (k : Int)), (8, 0, fun r => r = .tup [.agg [.int .i64 0, .int .i64 0, .str ⟨#[]⟩, .view .loose 1 [], .view .loose 5 []], .bool false])] []) (by kernel_rfl) (by kernel_rfl) (fun K hK => ?_)) | (refine AW.condT ?_ ?_; (focus (simp [aev, strsE_len, hlz, hlz', h1, hk0, hlo1, hlo2, hlo3, htk]; done))) | (refine AW.condF ?_ ?_; (focus (simp [aev, strsE_len, hlz, hlz', h1, hk0, hlo1, hlo2, hlo3, htk]; done))) | with_reducible refine AW.block ?_ | ((first | ((first | refine arun_nil ?_ | refine arunD_nil ?_); refine hK _ ?_; clear hK K) | refine AW.skip ?_ | refine AW.exit ?_ | refine AW.ret ?_); simp only [thenA_exit, inBlockA_exit, if_true, if_false, Nat.reduceEqDiff, thenA_normal, inBlockA_normal, reduceIte, thenA_ret, inBlockA_ret, endQ_ret, endR_ret, endG_ret, endQ_normal, endR_normal, endG_normal])))
        refine ⟨.tup [node0 0 0 ⟨#[]⟩, .bool false], by simp [node0, ares, aresL, upd, rowsOf_cons], none_end.1, _, none_end.2, rfl⟩
      | some m =>
        rw [hg] at ih
        have hm := setS_sml _ _ _ _ hkid hv hg
        have pw := withKid_AC n m k hn.sml hm h1
        unfold optA nodeT nodeA at ih
        unfold nodeA at pw
        have hz : nodeL ((some m : Option Nd).getD Nd.zero) = nodeL m := rfl
        rw [hz, nodeTL_eq, nodeL_eq n.kids[k], nodeL_eq m, Option.isSome_some] at ih
        rw [nodeL_eq n, nodeL_eq m] at pw
        (repeat (first | with_reducible refine AW.seq ?_ | ((first | refine arun_kn 4 rfl (fun C hC => ?_) | refine arunD_kn 4 rfl (fun C hC => ?_)); (repeat ((conv => whnf); simp [strsE_len, hlz, hlz', h1, hk0, hlo1, hlo2, hlo3, htk])); refine hC _ ?_; clear hC C; simp only [List.drop, Nat.reduceAdd]) | ((first | refine arun_kn 1 rfl (fun C hC => ?_) | refine arunD_kn 1 rfl (fun C hC => ?_)); (repeat ((conv => whnf); simp [strsE_len, hlz, hlz', h1, hk0, hlo1, hlo2, hlo3, htk])); refine hC _ ?_; clear hC C; simp only [List.drop, Nat.reduceAdd]) | (refine arun_skip ?_ ?_; (focus (simp [awant, strsE_len, hlz, hlz', h1, hk0, hlo1, hlo2, hlo3, htk]; done))) | (refine arun_c0 (pk) ?_; rintro _ rfl) | (refine arun_c0 (ih) ?_; rintro _ rfl) | (refine arun_c0 (pw) ?_; rintro _ rfl) | (refine arunD_c (0) (pk) ?_; rintro _ rfl; intro _) | (refine arunD_cE (0) (ih) (by exact ⟨_, rfl, optS_in m⟩) ?_; rintro _ rfl; intro _) | (refine arunD_c (0) (pw) ?_; rintro _ rfl; intro _) | (refine AW.regionK [] (fun K hK => ?_)) | (refine AW.regionDK [] (pcs [(4, 0, fun r => r = .int .i64 (k : Int)), (8, 0, fun r => r = .tup [.agg [.int .i64 m.kind, .int .i64 m.num, .str m.text, .view .loose 1 (strsE m.names), .view .loose 5 (m.kids.map nodeL)], .bool true])] []) (by kernel_rfl) (by kernel_rfl) (fun K hK => ?_)) | (refine AW.condT ?_ ?_; (focus (simp [aev, strsE_len, hlz, hlz', h1, hk0, hlo1, hlo2, hlo3, htk]; done))) | (refine AW.condF ?_ ?_; (focus (simp [aev, strsE_len, hlz, hlz', h1, hk0, hlo1, hlo2, hlo3, htk]; done))) | with_reducible refine AW.block ?_ | ((first | ((first | refine arun_nil ?_ | refine arunD_nil ?_); refine hK _ ?_; clear hK K) | refine AW.skip ?_ | refine AW.exit ?_ | refine AW.ret ?_); simp only [thenA_exit, inBlockA_exit, if_true, if_false, Nat.reduceEqDiff, thenA_normal, inBlockA_normal, reduceIte, thenA_ret, inBlockA_ret, endQ_ret, endR_ret, endG_ret, endQ_normal, endR_normal, endG_normal])))
        exact ⟨.tup [nodeA (setK n k m), .bool true], by simp [setK, ares, aresL, upd, rowsOf_cons], tup2_pur (node_pur _) pur_bool, _, Wk.refl _, rfl⟩
end Go.Proofs.YtfjaobfaepjfnaaDoor.Eng
-- EV: rows
namespace Go.Proofs.YtfjaobfaepjfnaaDoor.Eng
open Go Go.RowKit
attribute [local simp] big size_mk ASt.pay Option.map_map Function.comp_def awant aop acall ado aev ofVal ofVal0 ASt.put ASt.add ASt.turn ASt.kill abox aalloc astore aload aloadD astoreD idOf ASt.at cellsTo afieldAddr afield aindexAddr aindex alen abin aint acmp astr aun apick aextract anil aslice abound abuild afill abuildSlice asCells aps avCells over upd aappend asrc amax amin aconv mkSt slots rowsOf_cons rowsOf_nil usedOf_cons usedOf_nil ZK.av List.replicate ASt.back ASt.addL ASt.killL nodeA nodeT nodeTL_eq nodeL_eq strsE_get strsE_len intsE_get intsE_len strsE_at intsE_at nodeN namesRow nodeO kidsRow tab2 tab3 tab4 tab5 tab6 tab7 tab8 tab9 tab10 tab11 tab12 tab13 tab14 tab15 tab16 tab17 tab18 tab19 tab21 tab22 tab23 tab24 tab25 tab26 tab28 tab29 tab30 tab31 tab42 tab43 tab44 tab46 tab63 tab64 tab67 tab68 tab75 tab98 tab100 tab101 tab105 tab106 tab107 tab122 tab123 tab125 tab128 tab138 tab144 tab151 tab152 tab157 tab158 tab160 tab161 tab162
theorem strs_snoc (q : List ByteArray) (s : ByteArray) : strsE (q ++ [s]) = strsE q ++ [[.str s]] := by simp [strsE]
theorem snoc_cases (p : List ByteArray) : p = [] ∨ ∃ q s, p = q ++ [s] := by
  rcases List.eq_nil_or_concat p with h | ⟨q, s, h⟩
  · exact .inl h
  · exact .inr ⟨q, s, by rw [h]; simp⟩
theorem remS_snoc (n : Nd) (q : List ByteArray) (s : ByteArray) : remS n (q ++ [s]) = (getS n q).bind (fun m => if 0 ≤ placeI m s then setS n q (delK m (placeI m s).toNat) else none) := by
  unfold remS
  simp
theorem removeAt_gen (n : Nd) (q : List ByteArray) (s : ByteArray) (t : VC) (hlen : q.length ≤ 999) (pa : AC Tryd.prog 73 [nodeA n, .view t.cut 1 (strsE q)] 0 (fun r => r = optA (getS n q))) (hmS : ∀ m, getS n q = some m → Slt m)
    (pset : ∀ (t' : VC) (m x : Nd), getS n q = some m → Sml x → AC Tryd.prog 78 [nodeA n, .view t.cut 1 (strsE q), nodeT t' x] 0 (fun r => r = optA (setS n q x))) : AC Tryd.prog 90 [nodeA n, .view t 1 (strsE (q ++ [s]))] 0 (fun r => r = optA (remS n (q ++ [s]))) := by
  rw [remS_snoc]
  refine AC.weak ?_
  have hw : IntKind.i64.wrap (q.length : Int) = (q.length : Int) := i64_nat (by omega) (by omega)
  have htk : (strsE q ++ [[AV.str s]]).take q.length = strsE q := by rw [List.take_append_of_le_length (by rw [strsE_len]; exact Nat.le_refl _), List.take_of_length_le (by rw [strsE_len]; exact Nat.le_refl _)]
  have hget : (strsE q ++ [[AV.str s]])[q.length]? = some [AV.str s] := by rw [List.getElem?_append_right (by rw [strsE_len]; exact Nat.le_refl _), strsE_len]; simp
  have hget' : ∀ h, (strsE q ++ [[AV.str s]])[q.length]'h = [AV.str s] := fun h => by rw [List.getElem?_eq_getElem h] at hget; exact Option.some.inj hget
  have hlt : q.length < q.length + 1 := by omega
  have hle : q.length ≤ q.length + 1 := by omega
  have hle' : (q.length : Int) ≤ (q.length : Int) + 1 := by omega
  have hlt' : (q.length : Int) < (q.length : Int) + 1 := by omega
  have hn0 : ¬ (q.length : Int) < 0 := by omega
  unfold nodeA at pa ⊢
  rw [nodeL_eq] at pa ⊢
  rw [strs_snoc]
  refine AC.of tab_ok mixed_ok Tryd.func90 (by rfl) (by kernel_rfl) ?_; rintro ⟨P, T, hT, hm, w0, S0, rd0, k0⟩ hP hTT; dsimp only at hP hTT; subst hP hTT; unfold initSt; rw [Tryd.ntmps90]
  cases hg : getS n q with
  | none =>
    rw [hg] at pa
    unfold optA nodeA at pa
    rw [show nodeL ((none : Option Nd).getD Nd.zero) = nodeL Nd.zero from rfl, zeroA, Option.isSome_none] at pa
    (repeat (first | with_reducible refine AW.seq ?_ | ((first | refine arun_kn 4 rfl (fun C hC => ?_) | refine arunD_kn 4 rfl (fun C hC => ?_)); (repeat ((conv => whnf); simp [strsE_len, hw, htk, hlt, hle, hle', hlt', hn0])); refine hC _ ?_; clear hC C; simp only [List.drop, Nat.reduceAdd]) | ((first | refine arun_kn 1 rfl (fun C hC => ?_) | refine arunD_kn 1 rfl (fun C hC => ?_)); (repeat ((conv => whnf); simp [strsE_len, hw, htk, hlt, hle, hle', hlt', hn0])); refine hC _ ?_; clear hC C; simp only [List.drop, Nat.reduceAdd]) | (refine arun_skip ?_ ?_; (focus (simp [awant, strsE_len, hw, htk, hlt, hle, hle', hlt', hn0]; done))) | (refine arun_c0 (pa) ?_; rintro _ rfl) | (refine arunD_cE (0) (pa) (by exact ⟨_, rfl, optN_in⟩) ?_; rintro _ rfl; intro _) | (refine AW.regionK [] (fun K hK => ?_)) | (refine AW.regionDK [] (pcs [(4, 0, fun r => r = .tup [.agg [.int .i64 0, .int .i64 0, .str ⟨#[]⟩, .view .loose 1 [], .view .loose 5 []], .bool false])] []) (by kernel_rfl) (by kernel_rfl) (fun K hK => ?_)) | (refine AW.condT ?_ ?_; (focus (simp [aev, strsE_len, hw, htk, hlt, hle, hle', hlt', hn0]; done))) | (refine AW.condF ?_ ?_; (focus (simp [aev, strsE_len, hw, htk, hlt, hle, hle', hlt', hn0]; done))) | with_reducible refine AW.block ?_ | ((first | ((first | refine arun_nil ?_ | refine arunD_nil ?_); refine hK _ ?_; clear hK K) | refine AW.skip ?_ | refine AW.exit ?_ | refine AW.ret ?_); simp only [thenA_exit, inBlockA_exit, if_true, if_false, Nat.reduceEqDiff, thenA_normal, inBlockA_normal, reduceIte, thenA_ret, inBlockA_ret, endQ_ret, endR_ret, endG_ret, endQ_normal, endR_normal, endG_normal])))
    exact ⟨.tup [node0 0 0 ⟨#[]⟩, .bool false], by simp [node0, ares, aresL, upd, rowsOf_cons], none_end.1, _, none_end.2, rfl⟩
  | some m =>
    have hm := hmS m hg
    have pk := place_ok .loose m s hm.plc
    rw [hg] at pa
    unfold optA nodeA at pa
    rw [show nodeL ((some m : Option Nd).getD Nd.zero) = nodeL m from rfl, nodeL_eq m, Option.isSome_some] at pa
    unfold nodeT at pk
    rw [nodeTL_eq] at pk
    rw [Option.bind_some]
    rcases placeI_cases m s with ⟨h1, _⟩ | ⟨k, h1, h2, _⟩
    · rw [h1] at pk ⊢
      rw [if_neg (by omega)]
      (repeat (first | with_reducible refine AW.seq ?_ | ((first | refine arun_kn 4 rfl (fun C hC => ?_) | refine arunD_kn 4 rfl (fun C hC => ?_)); (repeat ((conv => whnf); simp [strsE_len, hw, htk, hget, hget', hlt, hle, hle', hlt', hn0])); refine hC _ ?_; clear hC C; simp only [List.drop, Nat.reduceAdd]) | ((first | refine arun_kn 1 rfl (fun C hC => ?_) | refine arunD_kn 1 rfl (fun C hC => ?_)); (repeat ((conv => whnf); simp [strsE_len, hw, htk, hget, hget', hlt, hle, hle', hlt', hn0])); refine hC _ ?_; clear hC C; simp only [List.drop, Nat.reduceAdd]) | (refine arun_skip ?_ ?_; (focus (simp [awant, strsE_len, hw, htk, hget, hget', hlt, hle, hle', hlt', hn0]; done))) | (refine arun_c0 (pa) ?_; rintro _ rfl) | (refine arun_c0 (pk) ?_; rintro _ rfl) | (refine arunD_cE (0) (pa) (by exact ⟨_, rfl, optS_in m⟩) ?_; rintro _ rfl; intro _) | (refine arunD_c (0) (pk) ?_; rintro _ rfl; intro _) | (refine AW.regionK [] (fun K hK => ?_)) | (refine AW.regionDK [] (pcs [(4, 0, fun r => r = .tup [.agg [.int .i64 m.kind, .int .i64 m.num, .str m.text, .view .loose 1 (strsE m.names), .view .loose 5 (m.kids.map nodeL)], .bool true]), (5, 0, fun r => r = .int .i64 (-1))] []) (by kernel_rfl) (by kernel_rfl) (fun K hK => ?_)) | (refine AW.condT ?_ ?_; (focus (simp [aev, strsE_len, hw, htk, hget, hget', hlt, hle, hle', hlt', hn0]; done))) | (refine AW.condF ?_ ?_; (focus (simp [aev, strsE_len, hw, htk, hget, hget', hlt, hle, hle', hlt', hn0]; done))) | with_reducible refine AW.block ?_ | ((first | ((first | refine arun_nil ?_ | refine arunD_nil ?_); refine hK _ ?_; clear hK K) | refine AW.skip ?_ | refine AW.exit ?_ | refine AW.ret ?_); simp only [thenA_exit, inBlockA_exit, if_true, if_false, Nat.reduceEqDiff, thenA_normal, inBlockA_normal, reduceIte, thenA_ret, inBlockA_ret, endQ_ret, endR_ret, endG_ret, endQ_normal, endR_normal, endG_normal])))
      exact ⟨.tup [node0 0 0 ⟨#[]⟩, .bool false], by simp [node0, ares, aresL, upd, rowsOf_cons], none_end.1, _, none_end.2, rfl⟩
    · rw [h2] at pk ⊢
      rw [if_pos (by omega), Int.toNat_natCast]
      have hk0 : ¬ ((k : Int) < 0) := by omega
      have h6 := hm.sml.kids
      have hwk : IntKind.i64.wrap ((k : Int) + 1) = (k : Int) + 1 := i64_nat (by omega) (by omega)
      have hb0 : k ≤ m.kids.length := by omega
      have hb1 : k + 1 ≤ m.kids.length := by omega
      have hb1' : (k : Int) + 1 ≤ (m.kids.length : Int) := by omega
      have hl1 : ((m.kids.map nodeL).take k).length = k := by rw [List.length_take, List.length_map]; omega
      have hl2 : ((m.kids.map nodeL).drop (k + 1)).length = m.kids.length - (k + 1) := by rw [List.length_drop, List.length_map]
      have htm : (m.kids.map nodeL).take m.kids.length = m.kids.map nodeL := List.take_of_length_le (by rw [List.length_map]; exact Nat.le_refl _)
      have hs1 : k * 80 ≤ 140737488355328 := by omega
      have hs2 : k ≤ 140737488355328 := by omega
      have hs3 : (k + (m.kids.length - (k + 1))) * 80 ≤ 140737488355328 := by omega
      have hs4 : k + (m.kids.length - (k + 1)) ≤ 140737488355328 := by omega
      (repeat (first | with_reducible refine AW.seq ?_ | ((first | refine arun_kn 4 rfl (fun C hC => ?_) | refine arunD_kn 4 rfl (fun C hC => ?_)); (repeat ((conv => whnf); simp [strsE_len, hw, htk, hget, hget', hlt, hle, hle', hlt', hn0, hk0, hwk, hb0, hb1, hb1', hl1, hl2, htm, hs1, hs2, hs3, hs4])); refine hC _ ?_; clear hC C; simp only [List.drop, Nat.reduceAdd]) | ((first | refine arun_kn 1 rfl (fun C hC => ?_) | refine arunD_kn 1 rfl (fun C hC => ?_)); (repeat ((conv => whnf); simp [strsE_len, hw, htk, hget, hget', hlt, hle, hle', hlt', hn0, hk0, hwk, hb0, hb1, hb1', hl1, hl2, htm, hs1, hs2, hs3, hs4])); refine hC _ ?_; clear hC C; simp only [List.drop, Nat.reduceAdd]) | (refine arun_skip ?_ ?_; (focus (simp [awant, strsE_len, hw, htk, hget, hget', hlt, hle, hle', hlt', hn0, hk0, hwk, hb0, hb1, hb1', hl1, hl2, htm, hs1, hs2, hs3, hs4]; done))) | (refine arun_c0 (pa) ?_; rintro _ rfl) | (refine arun_c0 (pk) ?_; rintro _ rfl) | (refine arunD_cE (0) (pa) (by exact ⟨_, rfl, optS_in m⟩) ?_; rintro _ rfl; intro _) | (refine arunD_c (0) (pk) ?_; rintro _ rfl; intro _) | (refine AW.regionK [] (fun K hK => ?_)) | (refine AW.regionDK [] (pcs [(4, 0, fun r => r = .tup [.agg [.int .i64 m.kind, .int .i64 m.num, .str m.text, .view .loose 1 (strsE m.names), .view .loose 5 (m.kids.map nodeL)], .bool true]), (5, 0, fun r => r = .int .i64 (k : Int))] []) (by kernel_rfl) (by kernel_rfl) (fun K hK => ?_)) | (refine AW.condT ?_ ?_; (focus (simp [aev, strsE_len, hw, htk, hget, hget', hlt, hle, hle', hlt', hn0, hk0, hwk, hb0, hb1, hb1', hl1, hl2, htm, hs1, hs2, hs3, hs4]; done))) | (refine AW.condF ?_ ?_; (focus (simp [aev, strsE_len, hw, htk, hget, hget', hlt, hle, hle', hlt', hn0, hk0, hwk, hb0, hb1, hb1', hl1, hl2, htm, hs1, hs2, hs3, hs4]; done))) | with_reducible refine AW.block ?_ | ((first | ((first | refine arun_nil ?_ | refine arunD_nil ?_); refine hK _ ?_; clear hK K) | refine AW.skip ?_ | refine AW.exit ?_ | refine AW.ret ?_); simp only [thenA_exit, inBlockA_exit, if_true, if_false, Nat.reduceEqDiff, thenA_normal, inBlockA_normal, reduceIte, thenA_ret, inBlockA_ret, endQ_ret, endR_ret, endG_ret, endQ_normal, endR_normal, endG_normal])))
      have hkl : (m.kids.map nodeL).take k ++ (m.kids.map nodeL).drop (k + 1) = (delK m k).kids.map nodeL := by simp [delK, List.map_take, List.map_drop]
      have hkn : k + (m.kids.length - (k + 1)) = (delK m k).kids.length := by simp [delK]; omega
      have hmin : min k m.kids.length = k := Nat.min_eq_left hb0
      have hdk : (delK m k).kind = m.kind := rfl
      have hdn : (delK m k).num = 0 := rfl
      have hdt : (delK m k).text = ⟨#[]⟩ := rfl
      have hsml := delK_sml (k := k) hm.sml
      refine AW.hold 43 ?_
      by_cases h4 : m.kind = 4
      · have hnl := hm.map h4
        have hn1 : k ≤ m.names.length := by omega
        have hn2 : k + 1 ≤ m.names.length := by omega
        have hn2' : (k : Int) + 1 ≤ (m.names.length : Int) := by omega
        have hl3 : ((strsE m.names).take k).length = k := by rw [List.length_take, strsE_len]; omega
        have hl4 : ((strsE m.names).drop (k + 1)).length = m.names.length - (k + 1) := by rw [List.length_drop, strsE_len]
        have htn : (strsE m.names).take m.names.length = strsE m.names := List.take_of_length_le (by rw [strsE_len]; exact Nat.le_refl _)
        have hs5 : k * 16 ≤ 140737488355328 := by omega
        have hs6 : (k + (m.names.length - (k + 1))) * 16 ≤ 140737488355328 := by omega
        have hs7 : k + (m.names.length - (k + 1)) ≤ 140737488355328 := by omega
        have hnn : (strsE m.names).take k ++ (strsE m.names).drop (k + 1) = strsE (delK m k).names := by simp [delK, h4, strsE, List.map_take, List.map_drop]
        have hnk : k + (m.names.length - (k + 1)) = (delK m k).names.length := by simp [delK, h4]; omega
        have hminn : min k m.names.length = k := Nat.min_eq_left hn1
        have ps := pset .loose m (delK m k) hg hsml
        refine AW.condT (by simp [aev, ASt.hold, AV.subL, AV.sub, h4]) ?_
        have hclo := nodeT_clo .loose (delK m k)
        unfold nodeA nodeT at ps
        unfold nodeT at hclo
        rw [nodeTL_eq, hdk, hdn, hdt] at hclo
        rw [nodeTL_eq, nodeL_eq, hdk, hdn, hdt, optA_eq] at ps
        (refine AW.regionDK [] (pcs [] []) (by kernel_rfl) (by kernel_rfl) (fun K hK => ?_); (repeat (refine arunD_ks 4 rfl (fun C hC => ?_); (repeat ((conv => whnf); simp [ASt.hold, upd, hmin, AV.subL, AV.sub, rowsOf_cons, Row.sub, strsE_len, hwk, hn1, hn2, hn2', hl3, hl4, htn, hs5, hs2, hs6, hs7])); refine hC _ ?_; clear hC C; simp only [List.drop_succ_cons, List.drop_zero, List.drop_nil, Nat.reduceAdd])); refine arunD_nil ?_; refine hK _ ?_; clear hK K; simp only [thenA_normal, inBlockA_normal, endQ_normal, endR_normal])
        refine AW.hold 59 ?_
        (repeat (first | with_reducible refine AW.seq ?_ | ((first | refine arun_kn 4 rfl (fun C hC => ?_) | refine arunD_kn 4 rfl (fun C hC => ?_)); (repeat ((conv => whnf); simp [ASt.hold, upd, AV.subL, AV.sub, rowsOf_cons, Row.sub, hmin, hminn, hkl, hnn, hkn, hnk, htk, hle, hle', optL])); refine hC _ ?_; clear hC C; simp only [List.drop, Nat.reduceAdd]) | ((first | refine arun_kn 1 rfl (fun C hC => ?_) | refine arunD_kn 1 rfl (fun C hC => ?_)); (repeat ((conv => whnf); simp [ASt.hold, upd, AV.subL, AV.sub, rowsOf_cons, Row.sub, hmin, hminn, hkl, hnn, hkn, hnk, htk, hle, hle', optL])); refine hC _ ?_; clear hC C; simp only [List.drop, Nat.reduceAdd]) | (refine arun_skip ?_ ?_; (focus (simp [awant, ASt.hold, upd, AV.subL, AV.sub, rowsOf_cons, Row.sub, hmin, hminn, hkl, hnn, hkn, hnk, htk, hle, hle', optL]; done))) | (refine arun_c0 (ps) ?_; rintro _ rfl) | (refine arunD_cE (0) (ps) (by exact ⟨_, rfl, optL_in _⟩) ?_; rintro _ rfl; intro _) | (refine AW.regionK [] (fun K hK => ?_)) | (refine AW.regionDK [] (pcs [(9, 0, fun r => r = optL (setS n q (delK m k)))] []) (by kernel_rfl) (by kernel_rfl) (fun K hK => ?_)) | (refine AW.condT ?_ ?_; (focus (simp [aev, ASt.hold, upd, AV.subL, AV.sub, rowsOf_cons, Row.sub, hmin, hminn, hkl, hnn, hkn, hnk, htk, hle, hle', optL]; done))) | (refine AW.condF ?_ ?_; (focus (simp [aev, ASt.hold, upd, AV.subL, AV.sub, rowsOf_cons, Row.sub, hmin, hminn, hkl, hnn, hkn, hnk, htk, hle, hle', optL]; done))) | with_reducible refine AW.block ?_ | ((first | ((first | refine arun_nil ?_ | refine arunD_nil ?_); refine hK _ ?_; clear hK K) | refine AW.skip ?_ | refine AW.exit ?_ | refine AW.ret ?_); simp only [thenA_exit, inBlockA_exit, if_true, if_false, Nat.reduceEqDiff, thenA_normal, inBlockA_normal, reduceIte, thenA_ret, inBlockA_ret, endQ_ret, endR_ret, endG_ret, endQ_normal, endR_normal, endG_normal])))
        exact ⟨optA (setS n q (delK m k)), by rw [optA_eq]; simp [optL, ares, aresL, upd, rowsOf_cons, AV.subL, AV.sub, Row.sub], optA_pur _, _, Wk.refl _, rfl⟩
      · have hnn : strsE (delK m k).names = [] := by simp [delK, h4, strsE]
        have ps := pset .tight m (delK m k) hg hsml
        have hclo := nodeT_clo .tight (delK m k)
        unfold nodeA nodeT at ps
        unfold nodeT at hclo
        rw [nodeTL_eq, hnn, hdk, hdn, hdt] at hclo
        rw [nodeTL_eq, nodeL_eq, hnn, hdk, hdn, hdt, optA_eq] at ps
        (repeat (first | with_reducible refine AW.seq ?_ | ((first | refine arun_kn 4 rfl (fun C hC => ?_) | refine arunD_kn 4 rfl (fun C hC => ?_)); (repeat ((conv => whnf); simp [h4, ASt.hold, upd, AV.subL, AV.sub, rowsOf_cons, Row.sub, hmin, hkl, hkn, htk, hle, hle', optL])); refine hC _ ?_; clear hC C; simp only [List.drop, Nat.reduceAdd]) | ((first | refine arun_kn 1 rfl (fun C hC => ?_) | refine arunD_kn 1 rfl (fun C hC => ?_)); (repeat ((conv => whnf); simp [h4, ASt.hold, upd, AV.subL, AV.sub, rowsOf_cons, Row.sub, hmin, hkl, hkn, htk, hle, hle', optL])); refine hC _ ?_; clear hC C; simp only [List.drop, Nat.reduceAdd]) | (refine arun_skip ?_ ?_; (focus (simp [awant, h4, ASt.hold, upd, AV.subL, AV.sub, rowsOf_cons, Row.sub, hmin, hkl, hkn, htk, hle, hle', optL]; done))) | (refine arun_c0 (ps) ?_; rintro _ rfl) | (refine arunD_cE (0) (ps) (by exact ⟨_, rfl, optL_in _⟩) ?_; rintro _ rfl; intro _) | (refine AW.regionK [] (fun K hK => ?_)) | (refine AW.regionDK [] (pcs [(9, 0, fun r => r = optL (setS n q (delK m k)))] []) (by kernel_rfl) (by kernel_rfl) (fun K hK => ?_)) | (refine AW.condT ?_ ?_; (focus (simp [aev, h4, ASt.hold, upd, AV.subL, AV.sub, rowsOf_cons, Row.sub, hmin, hkl, hkn, htk, hle, hle', optL]; done))) | (refine AW.condF ?_ ?_; (focus (simp [aev, h4, ASt.hold, upd, AV.subL, AV.sub, rowsOf_cons, Row.sub, hmin, hkl, hkn, htk, hle, hle', optL]; done))) | with_reducible refine AW.block ?_ | ((first | ((first | refine arun_nil ?_ | refine arunD_nil ?_); refine hK _ ?_; clear hK K) | refine AW.skip ?_ | refine AW.exit ?_ | refine AW.ret ?_); simp only [thenA_exit, inBlockA_exit, if_true, if_false, Nat.reduceEqDiff, thenA_normal, inBlockA_normal, reduceIte, thenA_ret, inBlockA_ret, endQ_ret, endR_ret, endG_ret, endQ_normal, endR_normal, endG_normal])))
        exact ⟨optA (setS n q (delK m k)), by rw [optA_eq]; simp [optL, ares, aresL, upd, rowsOf_cons, AV.subL, AV.sub, Row.sub], optA_pur _, _, Wk.refl _, rfl⟩
theorem removeAt_AC (n : Nd) (p : List ByteArray) (t : VC) (hn : Shp n) (hp : p.length ≤ 1000) : AC Tryd.prog 90 [nodeA n, .view t 1 (strsE p)] 0 (fun r => r = optA (remS n p)) := by
  rcases snoc_cases p with rfl | ⟨q, s, rfl⟩
  · refine AC.weak ?_
    unfold nodeA
    rw [nodeL_eq]
    refine AC.of tab_ok mixed_ok Tryd.func90 (by rfl) (by kernel_rfl) ?_; rintro ⟨P, T, hT, hm, w0, S0, rd0, k0⟩ hP hTT; dsimp only at hP hTT; subst hP hTT; unfold initSt; rw [Tryd.ntmps90]
    have hw : IntKind.i64.wrap (-1) = -1 := by decide
    (repeat (first | with_reducible refine AW.seq ?_ | ((first | refine arun_kn 4 rfl (fun C hC => ?_) | refine arunD_kn 4 rfl (fun C hC => ?_)); (repeat ((conv => whnf); simp [strsE_len, hw])); refine hC _ ?_; clear hC C; simp only [List.drop, Nat.reduceAdd]) | ((first | refine arun_kn 1 rfl (fun C hC => ?_) | refine arunD_kn 1 rfl (fun C hC => ?_)); (repeat ((conv => whnf); simp [strsE_len, hw])); refine hC _ ?_; clear hC C; simp only [List.drop, Nat.reduceAdd]) | (refine arun_skip ?_ ?_; (focus (simp [awant, strsE_len, hw]; done))) | (refine AW.regionK [] (fun K hK => ?_)) | (refine AW.regionDK [] (pcs [] []) (by kernel_rfl) (by kernel_rfl) (fun K hK => ?_)) | (refine AW.condT ?_ ?_; (focus (simp [aev, strsE_len, hw]; done))) | (refine AW.condF ?_ ?_; (focus (simp [aev, strsE_len, hw]; done))) | with_reducible refine AW.block ?_ | ((first | ((first | refine arun_nil ?_ | refine arunD_nil ?_); refine hK _ ?_; clear hK K) | refine AW.skip ?_ | refine AW.exit ?_ | refine AW.ret ?_); simp only [thenA_exit, inBlockA_exit, if_true, if_false, Nat.reduceEqDiff, thenA_normal, inBlockA_normal, reduceIte, thenA_ret, inBlockA_ret, endQ_ret, endR_ret, endG_ret, endQ_normal, endR_normal, endG_normal])))
    exact ⟨.tup [node0 0 0 ⟨#[]⟩, .bool false], by simp [node0, ares, aresL, upd, rowsOf_cons], none_end.1, _, none_end.2, rfl⟩
  · have hlen : q.length ≤ 999 := by simp at hp; omega
    exact removeAt_gen n q s t hlen (at_AC t.cut n q hn (by omega)) (fun m hg => (getS_shp q n m hn hg).slt) (fun t' m x _ hx => setAt_AC t' q n x t.cut hn hx)
end Go.Proofs.YtfjaobfaepjfnaaDoor.Eng
namespace Go.Proofs.YtfjaobfaepjfnaaDoor
open Go Go.RowKit
def Row0 (w : World) (g : Nat) (L : List Value) (e : TypeId) : Prop := Hid (w.heap[g]? = some (.cells L.toArray e (0, 0)))
theorem Row0.out {w : World} {g : Nat} {L : List Value} {e : TypeId} (h : Row0 w g L e) : w.heap[g]? = some (.cells L.toArray e (0, 0)) := h
theorem Row0.lt {w : World} {g : Nat} {L : List Value} {e : TypeId} (h : Row0 w g L e) : g < w.heap.size := (Array.getElem?_eq_some_iff.1 h.out).1
theorem Row0.ext {X : Nat → Prop} {w w' : World} {g : Nat} {L : List Value} {e : TypeId} (h : Row0 w g L e) (hx : Ext X w w') (hg : ¬ X g) : Row0 w' g L e := by
  show w'.heap[g]? = _
  rw [hx.block g h.lt hg]; exact h
theorem Row0.cell {w : World} {g : Nat} {L : List Value} {e : TypeId} (h : Row0 w g L e) {j : Nat} {v : Value} (hj : L[j]? = some v) : w.cell? ⟨g, j, none⟩ = some v := by
  unfold World.cell?
  rw [h.out]
  simpa using hj
theorem addr_plus (b o j : Nat) : (⟨b, o, Option.none⟩ : Addr).add j = ⟨b, o + j, Option.none⟩ := by unfold Addr.add; split <;> simp_all
variable {P : Program}
theorem Row0.set {w : World} {g : Nat} {L L' : List Value} {e : TypeId} (h : Row0 w g L e) : Row0 (w.setRow g L'.toArray) g L' e := setRow_heap w g _ _ e _ h.out
theorem setRow_ext (w : World) (g : Nat) (cs : Array Value) : Ext (fun k => k = g) w (w.setRow g cs) := ⟨rfl, rfl, rfl, by simp [World.setRow], fun k _ hk => setRow_other w g k cs hk⟩
theorem step_appendN {ops : Array Oper} {o : Oper} {a : Act} {w : World} {K : Act → World → Prop} {Q : Exit → Act → World → Prop} {E : Prop} (hgd : o.guard = none) (d s : Operand) (t e : TypeId)
    (ho : o.op = .call { callee := .builtin .append, args := #[d, s], argTypes := #[t, t] }) (i : TypeInfo) (ht : P.underlying t = some (.slice e)) (hi : P.info? e = some i)
    (g n cap b off m c : Nat) (hd : a.eval d = .slice (some ⟨g, 0, none⟩) n cap) (hv : a.eval s = .slice (some ⟨b, off, none⟩) m c) (L M : List Value) (e' : TypeId) (hg : Row0 w g L e) (hb : Row0 w b M e') (news : List Value)
    (hn : news.length = m * i.size) (hsrc : news = (M.drop off).take news.length) (hroom : n + m ≤ cap) (hfit : n * i.size + news.length ≤ L.length) (h1 : ∀ v ∈ news, v.oneCell' = true)
    (h : ∀ w', Row0 w' g (splice L (n * i.size) news) e → Ext (fun k => k = g) w w' → K (a.put o.dst (.slice (some ⟨g, 0, none⟩) (n + m) cap)) w') :
    if Region.wanted o (yielded ops a.tmps) = true then Oper.wp P o a w K Q else E := by
  have hw : Region.wanted o (yielded ops a.tmps) = true := by simp [Region.wanted, hgd]
  rw [if_pos hw]
  have hcell : ∀ j v, news[j]? = some v → w.cell? ((⟨b, off, none⟩ : Addr).add j) = some v := fun j v hj => by
    rw [addr_plus]
    refine hb.cell ?_
    rw [hsrc] at hj
    have hjl : j < news.length := by
      have := (List.getElem?_eq_some_iff.1 hj).1
      rw [List.length_take] at this; omega
    rw [List.getElem?_take_of_lt hjl, List.getElem?_drop] at hj
    exact hj
  have hrun := run_append_room (P := P) w t o.type e i ht hi g n cap L.toArray hg.out ⟨b, off, none⟩ m c news hn hcell h1 hroom (by simpa using hfit)
  unfold Oper.wp
  simp only [execOp, ho, resolve, invoke, builtin, Sem.run_bind, Sem.run_pure, Result.andThen_ok, List.map_toArray, List.map_cons, List.map_nil, hd, hv, hrun]
  refine h _ ?_ (setRow_ext w g _)
  have := hg.set (L' := splice L (n * i.size) news)
  simpa [splice] using this
theorem wpList_clearN {w : World} {ops : Array Oper} {rest : List Oper} {o : Oper} {a : Act} {Q : Exit → Act → World → Prop} (hgd : o.guard = none) (x : Operand) (t e : TypeId)
    (ho : o.op = .call { callee := .builtin .clear, args := #[x], argTypes := #[t] }) (i : TypeInfo) (z : Value) (ht : P.underlying t = some (.slice e)) (hi : P.info? e = some i) (hz : i.zero = some z) (hzs : z.cells.size = i.size) (hz1 : ∀ u ∈ z.cells.toList, u.oneCell' = true)
    (g off n c : Nat) (hx : a.eval x = .slice (some ⟨g, off, none⟩) n c) (hn : 0 < n) (L : List Value) (hg : Row0 w g L e) (hfit : off + n * i.size ≤ L.length)
    (h : ∀ v w' Z, Row0 w' g (splice L off Z) e → Z.length = n * i.size → (∀ u ∈ Z, u.oneCell' = true) → Ext (fun k => k = g) w w' → wpList P ops Q rest (a.put o.dst v) w') : wpList P ops Q (o :: rest) a w := by
  refine wpList_plain hgd fun K hK => ?_
  have hZl : (Builtin.zeroCells z.cells n).toList.length = n * i.size := by simp [size_zeroCells, hzs]
  have hZ1 : ∀ u ∈ (Builtin.zeroCells z.cells n).toList, u.oneCell' = true := fun u hu => by
    unfold Builtin.zeroCells at hu
    simp only [Array.toList_map, List.mem_map] at hu
    obtain ⟨k, hk, rfl⟩ := hu
    have hk' : k < n * z.cells.size := by simpa using hk
    have hp : 0 < z.cells.size := by rcases Nat.eq_zero_or_pos z.cells.size with h0 | h0; rw [h0] at hk'; simp at hk'; exact h0
    have hm := Nat.mod_lt k hp
    rw [getElem!_pos z.cells _ hm]
    exact hz1 _ (by simp)
  have hst := run_storeCells_at P g off e (Builtin.zeroCells z.cells n).toList 0 L.toArray w hg.out (by rw [hZl]; simpa using hfit) hZ1
  simp only [Nat.add_zero] at hst
  obtain ⟨m, rfl⟩ : ∃ m, n = m + 1 := ⟨n - 1, by omega⟩
  have hrun : (Builtin.clear_ #[t] o.type #[.slice (some ⟨g, off, none⟩) (m + 1) c]).run P w = .ok (.tuple #[]) (w.setRow g (splice L off (Builtin.zeroCells z.cells (m + 1)).toList).toArray) := by
    simp [Builtin.clear_, run_underlying ht, zeroValue, typeInfo, hi, hz, hst, splice]
  unfold Oper.wp
  simp only [execOp, ho, resolve, invoke, builtin, Sem.run_bind, Sem.run_pure, Result.andThen_ok, List.map_toArray, List.map_cons, List.map_nil, hx, hrun]
  exact hK _ _ (h _ _ _ hg.set hZl hZ1 (setRow_ext w g _))
end Go.Proofs.YtfjaobfaepjfnaaDoor
namespace Go.Proofs.YtfjaobfaepjfnaaDoor
open Go Go.RowKit Go.Proofs.YtfjaobfaepjfnaaDoor.Eng
theorem delN_last (w : World) (b i : Nat) (L : List Value) (hb : Row0 w b L 26) (hL : L.length = (i + 1) * 5) (hc : i + 1 ≤ maxLen) :
    Calls Tryd.prog 62 #[.slice (some ⟨b, 0, none⟩) (i + 1) (i + 1), .int .i64 i, .int .i64 ((i : Int) + 1)] w fun e w' =>
      ∃ L', e = .returned (.slice (some ⟨b, 0, none⟩) i (i + 1)) ∧ Ext (fun k => k = b) w w' ∧ Row0 w' b L' 26 ∧ L'.length = (i + 1) * 5 ∧ L'.take (i * 5) = L.take (i * 5) := by
  obtain ⟨d, j, hs⟩ := TI.says (tab_ok _ _ tab26)
  obtain ⟨j', zv, zs, k1, k2, k3, k3', k3'', k4, k5, k6⟩ := zero_ok (w := w) (ρ := pureC nil nil none) (tab_ok _ _ tab26) (by decide)
  rw [hs.inf] at k1; cases k1
  have hjs := hs.sz
  have hinf := hs.inf
  dsimp only at hjs k6
  have hzs : zv.cells.size = j.size := by rw [k3, hjs]; simpa using k6
  have hz1c : ∀ u ∈ zv.cells.toList, u.oneCell' = true := by rw [k3]; simpa using k5
  have hc63 : i + 1 ≤ 9223372036854775807 := by unfold maxLen at hc; exact hc
  have mixed := mixed_ok
  have hz1 : ¬ ((i : Int) = (i : Int) + 1) := by omega
  have hb1 : (0 : Int) ≤ (i : Int) + 1 := by omega
  have hb2 : (0 : Int) ≤ (i : Int) := by omega
  have hb3 : (i : Int) ≤ (i : Int) + 1 := by omega
  have htn : ((i : Int) + 1).toNat = i + 1 := by omega
  have hni : ¬ (i + 1 = i) := by omega
  have hll : i + 1 - i = 1 := by omega
  have hX1 : ∀ v ∈ ([] : List Value), v.oneCell' = true := fun v hv => by cases hv
  have HB := Lib.hid hb
  clear hb
  go_enter Tryd.func62, Tryd.ntmps62
  go_wp2_with fail
  go_region_law_o (refine step_appendN rfl (.tmp 22) (.tmp 25) 24 26 rfl j Tryd.underlying24 hinf b i (i + 1) b 0 0 0 (by simp [Act.eval, Act.put]) (by simp [Act.eval, Act.put]) L L 26 HB.out HB.out [] (by simp) (by simp) (by omega) (by rw [hjs, hL]; simp only [List.length_nil]; omega) hX1 ?_; intro w2 R2 E2)
  have hsp : splice L (i * j.size) [] = L := by unfold splice; simp
  rw [hsp] at R2
  go_wp2_with (refine wpList_clearN rfl (.tmp 31) 24 26 rfl j zv Tryd.underlying24 hinf k2 hzs hz1c b _ _ _ rfl (by omega) _ R2 (by rw [hjs, hL]; omega) ?_; intro v3 w3 Z R3 Zl Z1 E3)
  go_ret
  refine ⟨_, by simp, Ext.trans (Ext.trans (Ext.drew (Ext.refl _ w)) E2) E3, R3, by rw [length_splice _ _ _ (by rw [hL, Zl, hjs]; omega), hL], ?_⟩
  unfold splice
  rw [List.take_append_of_le_length (by rw [List.length_take, hL]; omega), List.take_take]
  simp
theorem delN_mid (w : World) (b n c i : Nat) (L : List Value) (hb : Row0 w b L 26) (hL : L.length = c * 5) (hi : i < n) (hnc : n ≤ c) (hc : c ≤ maxLen) (hci : ¬ c = i + 1) (h1 : ∀ u ∈ L.take (n * 5), u.oneCell' = true) :
    Calls Tryd.prog 62 #[.slice (some ⟨b, 0, none⟩) n c, .int .i64 i, .int .i64 ((i : Int) + 1)] w fun e w' =>
      ∃ L', e = .returned (.slice (some ⟨b, 0, none⟩) (n - 1 : Nat) c) ∧ Ext (fun k => k = b) w w' ∧ Row0 w' b L' 26 ∧ L'.length = c * 5 ∧ L'.take ((n - 1) * 5) = L.take (i * 5) ++ (L.take (n * 5)).drop ((i + 1) * 5) := by
  obtain ⟨d, j, hs⟩ := TI.says (tab_ok _ _ tab26)
  obtain ⟨j', zv, zs, k1, k2, k3, k3', k3'', k4, k5, k6⟩ := zero_ok (w := w) (ρ := pureC nil nil none) (tab_ok _ _ tab26) (by decide)
  rw [hs.inf] at k1; cases k1
  have hjs := hs.sz
  have hinf := hs.inf
  dsimp only at hjs k6
  have hzs : zv.cells.size = j.size := by rw [k3, hjs]; simpa using k6
  have hz1c : ∀ u ∈ zv.cells.toList, u.oneCell' = true := by rw [k3]; simpa using k5
  have hc63 : c ≤ 9223372036854775807 := by unfold maxLen at hc; exact hc
  have mixed := mixed_ok
  have hz1 : ¬ ((i : Int) = (i : Int) + 1) := by omega
  have hb1 : (0 : Int) ≤ (i : Int) + 1 := by omega
  have hb2 : (0 : Int) ≤ (i : Int) := by omega
  have hb3 : (i : Int) ≤ (i : Int) + 1 := by omega
  have hb4 : (i : Int) + 1 ≤ (n : Int) := by omega
  have hb5 : (n : Int) ≤ (c : Int) := by omega
  have hb6 : (i : Int) ≤ (n : Int) := by omega
  have hb7 : (i : Int) ≤ (c : Int) := by omega
  have htn : ((i : Int) + 1).toNat = i + 1 := by omega
  have hni : ¬ (c = i) := by omega
  have hni3 : ¬ (n = i) := by omega
  obtain ⟨X, hX⟩ : ∃ X, X = (L.take (n * 5)).drop ((i + 1) * 5) := ⟨_, rfl⟩
  have hXl : X.length = (n - (i + 1)) * 5 := by rw [hX, List.length_drop, List.length_take, Nat.sub_mul, hL]; omega
  have hX1 : ∀ v ∈ X, v.oneCell' = true := fun v hv => h1 v (by rw [hX] at hv; exact List.mem_of_mem_drop hv)
  have hm : i + (n - (i + 1)) = n - 1 := by omega
  have hlast : n - (i + (n - (i + 1))) = 1 := by omega
  have hlc : (((n - 1 : Nat) : Int)) ≤ (n : Int) := by omega
  have hl0 : (0 : Int) ≤ ((n - 1 : Nat) : Int) := by omega
  have hnl : ¬ (c = n - 1) := by omega
  have hln : (splice L (i * j.size) X).length = c * 5 := by rw [length_splice _ _ _ (by rw [hXl, hjs, hL]; omega), hL]
  have HB := Lib.hid hb
  clear hb
  go_enter Tryd.func62, Tryd.ntmps62
  go_wp2_with fail
  go_region_law_o (refine step_appendN rfl (.tmp 22) (.tmp 25) 24 26 rfl j Tryd.underlying24 hinf b i c b ((i + 1) * 5) (n - (i + 1)) (c - (i + 1)) (by simp [Act.eval, Act.put]) (by simp [Act.eval, Act.put]) L L 26 HB.out HB.out X (by rw [hXl, hjs]) (by rw [hXl, hX]; rw [List.drop_take, Nat.sub_mul]) (by omega) (by rw [hjs, hXl, hL]; omega) hX1 ?_; intro w2 R2 E2)
  go_wp2_with (refine wpList_clearN rfl (.tmp 31) 24 26 rfl j zv Tryd.underlying24 hinf k2 hzs hz1c b _ _ _ rfl (by omega) _ R2 (by rw [hln, hjs]; omega) ?_; intro v3 w3 Z R3 Zl Z1 E3)
  go_ret
  refine ⟨_, by simp, Ext.trans (Ext.trans (Ext.drew (Ext.refl _ w)) E2) E3, R3, by rw [length_splice _ _ _ (by rw [hln, Zl, hjs]; omega), hln], ?_⟩
  rw [← hX]
  have e1 : splice L (i * j.size) X = L.take (i * 5) ++ X ++ L.drop ((n - 1) * 5) := by
    unfold splice
    rw [hXl, hjs, show i * 5 + (n - (i + 1)) * 5 = (n - 1) * 5 by omega, List.append_assoc]
  have e2 : (L.take (i * 5) ++ X).length = (n - 1) * 5 := by rw [List.length_append, List.length_take, hXl, hL]; omega
  unfold splice at e1 hln ⊢
  rw [List.take_append_of_le_length (by rw [List.length_take, hln]; omega), List.take_take, Nat.min_eq_left (by omega), e1, List.take_append_of_le_length (by omega), List.take_of_length_le (by omega)]
theorem insN_inv3 {w : World} {ρ : Cx} {a b c : AV} {vs : List Value} (h : RepL w ρ [a, b, c] vs) : ∃ x y z, vs = [x, y, z] ∧ Eng.Rep w ρ a x ∧ Eng.Rep w ρ b y ∧ Eng.Rep w ρ c z := by
  unfold RepL at h
  obtain ⟨x, _, rfl, h1, h⟩ := h
  unfold RepL at h
  obtain ⟨y, _, rfl, h2, h⟩ := h
  unfold RepL at h
  obtain ⟨z, _, rfl, h3, h⟩ := h
  unfold RepL at h
  subst h
  exact ⟨x, y, z, rfl, h1, h2, h3⟩
theorem delN_ACG (es : List (List AV)) (i : Nat) (hi : i < es.length) (hes : ∀ e ∈ es, ∀ c ∈ e, Pur c) :
    ACG Tryd.prog 62 [.own 1000 es.length, .int .i64 i, .int .i64 ((i : Int) + 1)] [(1000, ⟨false, 26, 5, es⟩)] 0 (fun r l => r = .own 1 (es.length - 1) ∧ l = [(1, ⟨false, 26, 5, es.take i ++ es.drop (i + 1)⟩)]) := by
  refine ⟨Go.Proofs.YtfjaobfaepjfnaaDoor.Eng.enters_of Tryd.func62 (by kernel_rfl) (by kernel_rfl), by simp, fun w ρ k vs hL hS hrd hU hR hargs => ?_⟩
  obtain ⟨v0, v1, v2, rfl, a0, a1, a2⟩ := insN_inv3 hargs
  obtain ⟨u0, p1, p2, ⟨p3, _⟩, p4, p5, xs0, p6, p7, p8⟩ := hR.rw 1000 _ rfl
  dsimp only at p2 p4 p6 p7
  obtain ⟨_, _, _, hv0⟩ := rep_own.1 a0
  have := hv0 u0 p1 p2.symm
  subst this
  rw [rep_int] at a1 a2
  subst a1 a2
  rcases p6 with ⟨h0, _⟩ | ⟨g, cap, cur, rfl, hp, _, hg, hnc, hcm, hcs, htk, hol⟩
  · omega
  have hG : Row0 w g cur.toList 26 := by show _ = _; rw [hg]
  have hbl : blk (.slice (some ⟨g, 0, none⟩) es.length cap) = some g := blk_slice _ _ _ hp
  have hcl : cur.toList.length = cap * 5 := by rw [Array.length_toList, hcs]
  have hl2 : (es.take i ++ es.drop (i + 1)).length = es.length - 1 := by simp; omega
  have hsp : es.flatten = (es.take i).flatten ++ (es.drop i).flatten := by rw [← List.flatten_append, List.take_append_drop]
  have hlt : (es.take i).flatten.length = i * 5 := by rw [flat_len (fun e he => p4 e (List.mem_of_mem_take he)), List.length_take, Nat.min_eq_left (by omega)]
  have hlt2 : (es.take (i + 1)).flatten.length = (i + 1) * 5 := by rw [flat_len (fun e he => p4 e (List.mem_of_mem_take he)), List.length_take, Nat.min_eq_left (by omega)]
  have hsp2 : es.flatten = (es.take (i + 1)).flatten ++ (es.drop (i + 1)).flatten := by rw [← List.flatten_append, List.take_append_drop]
  have key : Calls Tryd.prog 62 #[.slice (some ⟨g, 0, none⟩) es.length cap, .int .i64 i, .int .i64 ((i : Int) + 1)] w fun e w' =>
      ∃ L', e = .returned (.slice (some ⟨g, 0, none⟩) (es.length - 1 : Nat) cap) ∧ Ext (fun k => k = g) w w' ∧ Row0 w' g L' 26 ∧ L'.length = cap * 5 ∧ L'.take ((es.length - 1) * 5) = xs0.take (i * 5) ++ xs0.drop ((i + 1) * 5) := by
    have hcut : cur.toList.take (i * 5) = xs0.take (i * 5) := by rw [← htk, List.take_take, Nat.min_eq_left (by omega)]
    by_cases hci : cap = i + 1
    · subst hci
      have : es.length = i + 1 := by omega
      rw [this]
      refine (delN_last w g i cur.toList hG hcl hcm).mono ?_
      rintro e w' ⟨L', rfl, m1, m2, m3, m4⟩
      refine ⟨L', by simp, m1, m2, m3, ?_⟩
      rw [Nat.add_sub_cancel, m4, hcut, List.drop_of_length_le (by rw [hol, this]; exact Nat.le_refl _), List.append_nil]
    · refine (delN_mid w g es.length cap i cur.toList hG hcl hi hnc hcm hci (by rw [htk]; exact p8)).mono ?_
      rintro e w' ⟨L', rfl, m1, m2, m3, m4⟩
      exact ⟨L', rfl, m1, m2, m3, by rw [m4, hcut, htk]⟩
  refine key.mono ?_
  rintro e w' ⟨L', rfl, m1, m2, m3, m4⟩
  have hat : Eng.RowAt w' 0 26 5 (.slice (some ⟨g, 0, none⟩) (es.length - 1) cap) (es.length - 1) (xs0.take (i * 5) ++ xs0.drop ((i + 1) * 5)) :=
    .inr ⟨g, cap, _, rfl, hp, Nat.zero_le _, m2.out, by omega, hcm, by rw [List.size_toArray, m3], by rw [← m4], by simp only [List.length_append, List.length_take, List.length_drop, hol, Nat.sub_mul, Nat.add_mul]; omega⟩
  obtain ⟨ρ', r1, r2, r3, r4, r5, r6, r7, r8, r9⟩ := acg_one (k := k) (c := 0) hL hS hrd hR (m1.mono (fun b hb => ⟨1000, _, p1, by rw [hbl, hb]⟩)) ⟨false, 26, 5, es.take i ++ es.drop (i + 1)⟩ _ _ rfl p3 (fun y hy => by
    rcases List.mem_append.1 hy with hy | hy
    · exact p4 y (List.mem_of_mem_take hy)
    · exact p4 y (List.mem_of_mem_drop hy)) (by dsimp only; rw [hl2]; exact hat) (fun g' hg' => .inl ⟨1000, _, p1, by rw [hbl]; rw [blk_slice _ _ _ hp] at hg'; exact hg'⟩) (by
      dsimp only
      rw [List.flatten_append]
      have t1 := p7
      have t2 := p7
      rw [hsp] at t1
      rw [hsp2] at t2
      have t1 := t1.take (i * 5)
      have t2 := t2.drop ((i + 1) * 5)
      rw [← hlt, List.take_left] at t1
      rw [← hlt2, List.drop_left] at t2
      rw [hlt] at t1
      rw [hlt2] at t2
      exact t1.append t2) (fun e he c hc => by
      rcases List.mem_append.1 he with he | he
      · exact hes e (List.mem_of_mem_take he) c hc
      · exact hes e (List.mem_of_mem_drop he) c hc) (fun u hu => by
      rcases List.mem_append.1 hu with hu | hu
      · exact p8 u (List.mem_of_mem_take hu)
      · exact p8 u (List.mem_of_mem_drop hu))
  exact ⟨_, _, _, ρ', rfl, r1, r2, r3, r4, r5, r6, r7, (fun id r h1 h2 u h3 => by rw [r8 id (by have := rowsOf_key h1; simp at this; omega)] at h3; cases h3), by rw [hl2] at r9; exact r9, rfl, rfl⟩
end Go.Proofs.YtfjaobfaepjfnaaDoor
namespace Go.Proofs.YtfjaobfaepjfnaaDoor
open Go Go.RowKit Go.Proofs.YtfjaobfaepjfnaaDoor.Eng
theorem delS_last (w : World) (b i : Nat) (L : List Value) (hb : Row0 w b L 9) (hL : L.length = (i + 1) * 1) (hc : i + 1 ≤ maxLen) :
    Calls Tryd.prog 61 #[.slice (some ⟨b, 0, none⟩) (i + 1) (i + 1), .int .i64 i, .int .i64 ((i : Int) + 1)] w fun e w' =>
      ∃ L', e = .returned (.slice (some ⟨b, 0, none⟩) i (i + 1)) ∧ Ext (fun k => k = b) w w' ∧ Row0 w' b L' 9 ∧ L'.length = (i + 1) * 1 ∧ L'.take (i * 1) = L.take (i * 1) := by
  obtain ⟨d, j, hs⟩ := TI.says (tab_ok _ _ tab9)
  obtain ⟨j', zv, zs, k1, k2, k3, k3', k3'', k4, k5, k6⟩ := zero_ok (w := w) (ρ := pureC nil nil none) (tab_ok _ _ tab9) (by decide)
  rw [hs.inf] at k1; cases k1
  have hjs := hs.sz
  have hinf := hs.inf
  dsimp only at hjs k6
  have hzs : zv.cells.size = j.size := by rw [k3, hjs]; simpa using k6
  have hz1c : ∀ u ∈ zv.cells.toList, u.oneCell' = true := by rw [k3]; simpa using k5
  have hc63 : i + 1 ≤ 9223372036854775807 := by unfold maxLen at hc; exact hc
  have mixed := mixed_ok
  have hz1 : ¬ ((i : Int) = (i : Int) + 1) := by omega
  have hb1 : (0 : Int) ≤ (i : Int) + 1 := by omega
  have hb2 : (0 : Int) ≤ (i : Int) := by omega
  have hb3 : (i : Int) ≤ (i : Int) + 1 := by omega
  have htn : ((i : Int) + 1).toNat = i + 1 := by omega
  have hni : ¬ (i + 1 = i) := by omega
  have hll : i + 1 - i = 1 := by omega
  have hX1 : ∀ v ∈ ([] : List Value), v.oneCell' = true := fun v hv => by cases hv
  have HB := Lib.hid hb
  clear hb
  go_enter Tryd.func61, Tryd.ntmps61
  go_wp2_with fail
  go_region_law_o (refine step_appendN rfl (.tmp 22) (.tmp 25) 23 9 rfl j Tryd.underlying23 hinf b i (i + 1) b 0 0 0 (by simp [Act.eval, Act.put]) (by simp [Act.eval, Act.put]) L L 9 HB.out HB.out [] (by simp) (by simp) (by omega) (by rw [hjs, hL]; simp only [List.length_nil]; omega) hX1 ?_; intro w2 R2 E2)
  have hsp : splice L (i * j.size) [] = L := by unfold splice; simp
  rw [hsp] at R2
  go_wp2_with (refine wpList_clearN rfl (.tmp 31) 23 9 rfl j zv Tryd.underlying23 hinf k2 hzs hz1c b _ _ _ rfl (by omega) _ R2 (by rw [hjs, hL]; omega) ?_; intro v3 w3 Z R3 Zl Z1 E3)
  go_ret
  refine ⟨_, by simp, Ext.trans (Ext.trans (Ext.drew (Ext.refl _ w)) E2) E3, R3, by rw [length_splice _ _ _ (by rw [hL, Zl, hjs]; omega), hL], ?_⟩
  unfold splice
  rw [List.take_append_of_le_length (by rw [List.length_take, hL]; omega), List.take_take]
  simp
theorem delS_mid (w : World) (b n c i : Nat) (L : List Value) (hb : Row0 w b L 9) (hL : L.length = c * 1) (hi : i < n) (hnc : n ≤ c) (hc : c ≤ maxLen) (hci : ¬ c = i + 1) (h1 : ∀ u ∈ L.take (n * 1), u.oneCell' = true) :
    Calls Tryd.prog 61 #[.slice (some ⟨b, 0, none⟩) n c, .int .i64 i, .int .i64 ((i : Int) + 1)] w fun e w' =>
      ∃ L', e = .returned (.slice (some ⟨b, 0, none⟩) (n - 1 : Nat) c) ∧ Ext (fun k => k = b) w w' ∧ Row0 w' b L' 9 ∧ L'.length = c * 1 ∧ L'.take ((n - 1) * 1) = L.take (i * 1) ++ (L.take (n * 1)).drop ((i + 1) * 1) := by
  obtain ⟨d, j, hs⟩ := TI.says (tab_ok _ _ tab9)
  obtain ⟨j', zv, zs, k1, k2, k3, k3', k3'', k4, k5, k6⟩ := zero_ok (w := w) (ρ := pureC nil nil none) (tab_ok _ _ tab9) (by decide)
  rw [hs.inf] at k1; cases k1
  have hjs := hs.sz
  have hinf := hs.inf
  dsimp only at hjs k6
  have hzs : zv.cells.size = j.size := by rw [k3, hjs]; simpa using k6
  have hz1c : ∀ u ∈ zv.cells.toList, u.oneCell' = true := by rw [k3]; simpa using k5
  have hc63 : c ≤ 9223372036854775807 := by unfold maxLen at hc; exact hc
  have mixed := mixed_ok
  have hz1 : ¬ ((i : Int) = (i : Int) + 1) := by omega
  have hb1 : (0 : Int) ≤ (i : Int) + 1 := by omega
  have hb2 : (0 : Int) ≤ (i : Int) := by omega
  have hb3 : (i : Int) ≤ (i : Int) + 1 := by omega
  have hb4 : (i : Int) + 1 ≤ (n : Int) := by omega
  have hb5 : (n : Int) ≤ (c : Int) := by omega
  have hb6 : (i : Int) ≤ (n : Int) := by omega
  have hb7 : (i : Int) ≤ (c : Int) := by omega
  have htn : ((i : Int) + 1).toNat = i + 1 := by omega
  have hni : ¬ (c = i) := by omega
  have hni3 : ¬ (n = i) := by omega
  obtain ⟨X, hX⟩ : ∃ X, X = (L.take (n * 1)).drop ((i + 1) * 1) := ⟨_, rfl⟩
  have hXl : X.length = (n - (i + 1)) * 1 := by rw [hX, List.length_drop, List.length_take, Nat.sub_mul, hL]; omega
  have hX1 : ∀ v ∈ X, v.oneCell' = true := fun v hv => h1 v (by rw [hX] at hv; exact List.mem_of_mem_drop hv)
  have hm : i + (n - (i + 1)) = n - 1 := by omega
  have hlast : n - (i + (n - (i + 1))) = 1 := by omega
  have hlc : (((n - 1 : Nat) : Int)) ≤ (n : Int) := by omega
  have hl0 : (0 : Int) ≤ ((n - 1 : Nat) : Int) := by omega
  have hnl : ¬ (c = n - 1) := by omega
  have hln : (splice L (i * j.size) X).length = c * 1 := by rw [length_splice _ _ _ (by rw [hXl, hjs, hL]; omega), hL]
  have HB := Lib.hid hb
  clear hb
  go_enter Tryd.func61, Tryd.ntmps61
  go_wp2_with fail
  go_region_law_o (refine step_appendN rfl (.tmp 22) (.tmp 25) 23 9 rfl j Tryd.underlying23 hinf b i c b ((i + 1) * 1) (n - (i + 1)) (c - (i + 1)) (by simp [Act.eval, Act.put]) (by simp [Act.eval, Act.put]) L L 9 HB.out HB.out X (by rw [hXl, hjs]) (by rw [hXl, hX]; rw [List.drop_take, Nat.sub_mul]) (by omega) (by rw [hjs, hXl, hL]; omega) hX1 ?_; intro w2 R2 E2)
  go_wp2_with (refine wpList_clearN rfl (.tmp 31) 23 9 rfl j zv Tryd.underlying23 hinf k2 hzs hz1c b _ _ _ rfl (by omega) _ R2 (by rw [hln, hjs]; omega) ?_; intro v3 w3 Z R3 Zl Z1 E3)
  go_ret
  refine ⟨_, by simp, Ext.trans (Ext.trans (Ext.drew (Ext.refl _ w)) E2) E3, R3, by rw [length_splice _ _ _ (by rw [hln, Zl, hjs]; omega), hln], ?_⟩
  rw [← hX]
  have e1 : splice L (i * j.size) X = L.take (i * 1) ++ X ++ L.drop ((n - 1) * 1) := by
    unfold splice
    rw [hXl, hjs, show i * 1 + (n - (i + 1)) * 1 = (n - 1) * 1 by omega, List.append_assoc]
  have e2 : (L.take (i * 1) ++ X).length = (n - 1) * 1 := by rw [List.length_append, List.length_take, hXl, hL]; omega
  unfold splice at e1 hln ⊢
  rw [List.take_append_of_le_length (by rw [List.length_take, hln]; omega), List.take_take, Nat.min_eq_left (by omega), e1, List.take_append_of_le_length (by omega), List.take_of_length_le (by omega)]
theorem insS_inv3 {w : World} {ρ : Cx} {a b c : AV} {vs : List Value} (h : RepL w ρ [a, b, c] vs) : ∃ x y z, vs = [x, y, z] ∧ Eng.Rep w ρ a x ∧ Eng.Rep w ρ b y ∧ Eng.Rep w ρ c z := by
  unfold RepL at h
  obtain ⟨x, _, rfl, h1, h⟩ := h
  unfold RepL at h
  obtain ⟨y, _, rfl, h2, h⟩ := h
  unfold RepL at h
  obtain ⟨z, _, rfl, h3, h⟩ := h
  unfold RepL at h
  subst h
  exact ⟨x, y, z, rfl, h1, h2, h3⟩
theorem delS_ACG (es : List (List AV)) (i : Nat) (hi : i < es.length) (hes : ∀ e ∈ es, ∀ c ∈ e, Pur c) :
    ACG Tryd.prog 61 [.own 1000 es.length, .int .i64 i, .int .i64 ((i : Int) + 1)] [(1000, ⟨false, 9, 1, es⟩)] 0 (fun r l => r = .own 1 (es.length - 1) ∧ l = [(1, ⟨false, 9, 1, es.take i ++ es.drop (i + 1)⟩)]) := by
  refine ⟨Go.Proofs.YtfjaobfaepjfnaaDoor.Eng.enters_of Tryd.func61 (by kernel_rfl) (by kernel_rfl), by simp, fun w ρ k vs hL hS hrd hU hR hargs => ?_⟩
  obtain ⟨v0, v1, v2, rfl, a0, a1, a2⟩ := insS_inv3 hargs
  obtain ⟨u0, p1, p2, ⟨p3, _⟩, p4, p5, xs0, p6, p7, p8⟩ := hR.rw 1000 _ rfl
  dsimp only at p2 p4 p6 p7
  obtain ⟨_, _, _, hv0⟩ := rep_own.1 a0
  have := hv0 u0 p1 p2.symm
  subst this
  rw [rep_int] at a1 a2
  subst a1 a2
  rcases p6 with ⟨h0, _⟩ | ⟨g, cap, cur, rfl, hp, _, hg, hnc, hcm, hcs, htk, hol⟩
  · omega
  have hG : Row0 w g cur.toList 9 := by show _ = _; rw [hg]
  have hbl : blk (.slice (some ⟨g, 0, none⟩) es.length cap) = some g := blk_slice _ _ _ hp
  have hcl : cur.toList.length = cap * 1 := by rw [Array.length_toList, hcs]
  have hl2 : (es.take i ++ es.drop (i + 1)).length = es.length - 1 := by simp; omega
  have hsp : es.flatten = (es.take i).flatten ++ (es.drop i).flatten := by rw [← List.flatten_append, List.take_append_drop]
  have hlt : (es.take i).flatten.length = i * 1 := by rw [flat_len (fun e he => p4 e (List.mem_of_mem_take he)), List.length_take, Nat.min_eq_left (by omega)]
  have hlt2 : (es.take (i + 1)).flatten.length = (i + 1) * 1 := by rw [flat_len (fun e he => p4 e (List.mem_of_mem_take he)), List.length_take, Nat.min_eq_left (by omega)]
  have hsp2 : es.flatten = (es.take (i + 1)).flatten ++ (es.drop (i + 1)).flatten := by rw [← List.flatten_append, List.take_append_drop]
  have key : Calls Tryd.prog 61 #[.slice (some ⟨g, 0, none⟩) es.length cap, .int .i64 i, .int .i64 ((i : Int) + 1)] w fun e w' =>
      ∃ L', e = .returned (.slice (some ⟨g, 0, none⟩) (es.length - 1 : Nat) cap) ∧ Ext (fun k => k = g) w w' ∧ Row0 w' g L' 9 ∧ L'.length = cap * 1 ∧ L'.take ((es.length - 1) * 1) = xs0.take (i * 1) ++ xs0.drop ((i + 1) * 1) := by
    have hcut : cur.toList.take (i * 1) = xs0.take (i * 1) := by rw [← htk, List.take_take, Nat.min_eq_left (by omega)]
    by_cases hci : cap = i + 1
    · subst hci
      have : es.length = i + 1 := by omega
      rw [this]
      refine (delS_last w g i cur.toList hG hcl hcm).mono ?_
      rintro e w' ⟨L', rfl, m1, m2, m3, m4⟩
      refine ⟨L', by simp, m1, m2, m3, ?_⟩
      rw [Nat.add_sub_cancel, m4, hcut, List.drop_of_length_le (by rw [hol, this]; exact Nat.le_refl _), List.append_nil]
    · refine (delS_mid w g es.length cap i cur.toList hG hcl hi hnc hcm hci (by rw [htk]; exact p8)).mono ?_
      rintro e w' ⟨L', rfl, m1, m2, m3, m4⟩
      exact ⟨L', rfl, m1, m2, m3, by rw [m4, hcut, htk]⟩
  refine key.mono ?_
  rintro e w' ⟨L', rfl, m1, m2, m3, m4⟩
  have hat : Eng.RowAt w' 0 9 1 (.slice (some ⟨g, 0, none⟩) (es.length - 1) cap) (es.length - 1) (xs0.take (i * 1) ++ xs0.drop ((i + 1) * 1)) :=
    .inr ⟨g, cap, _, rfl, hp, Nat.zero_le _, m2.out, by omega, hcm, by rw [List.size_toArray, m3], by rw [← m4], by simp only [List.length_append, List.length_take, List.length_drop, hol, Nat.sub_mul, Nat.add_mul]; omega⟩
  obtain ⟨ρ', r1, r2, r3, r4, r5, r6, r7, r8, r9⟩ := acg_one (k := k) (c := 0) hL hS hrd hR (m1.mono (fun b hb => ⟨1000, _, p1, by rw [hbl, hb]⟩)) ⟨false, 9, 1, es.take i ++ es.drop (i + 1)⟩ _ _ rfl p3 (fun y hy => by
    rcases List.mem_append.1 hy with hy | hy
    · exact p4 y (List.mem_of_mem_take hy)
    · exact p4 y (List.mem_of_mem_drop hy)) (by dsimp only; rw [hl2]; exact hat) (fun g' hg' => .inl ⟨1000, _, p1, by rw [hbl]; rw [blk_slice _ _ _ hp] at hg'; exact hg'⟩) (by
      dsimp only
      rw [List.flatten_append]
      have t1 := p7
      have t2 := p7
      rw [hsp] at t1
      rw [hsp2] at t2
      have t1 := t1.take (i * 1)
      have t2 := t2.drop ((i + 1) * 1)
      rw [← hlt, List.take_left] at t1
      rw [← hlt2, List.drop_left] at t2
      rw [hlt] at t1
      rw [hlt2] at t2
      exact t1.append t2) (fun e he c hc => by
      rcases List.mem_append.1 he with he | he
      · exact hes e (List.mem_of_mem_take he) c hc
      · exact hes e (List.mem_of_mem_drop he) c hc) (fun u hu => by
      rcases List.mem_append.1 hu with hu | hu
      · exact p8 u (List.mem_of_mem_take hu)
      · exact p8 u (List.mem_of_mem_drop hu))
  exact ⟨_, _, _, ρ', rfl, r1, r2, r3, r4, r5, r6, r7, (fun id r h1 h2 u h3 => by rw [r8 id (by have := rowsOf_key h1; simp at this; omega)] at h3; cases h3), by rw [hl2] at r9; exact r9, rfl, rfl⟩
end Go.Proofs.YtfjaobfaepjfnaaDoor
namespace Go.Proofs.YtfjaobfaepjfnaaDoor.Eng
open Go Go.RowKit
attribute [local simp] big size_mk ASt.pay Option.map_map Function.comp_def awant aop acall ado aev ofVal ofVal0 ASt.put ASt.add ASt.turn ASt.kill abox aalloc astore aload aloadD astoreD idOf ASt.at cellsTo afieldAddr afield aindexAddr aindex alen abin aint acmp astr aun apick aextract anil aslice abound abuild afill abuildSlice asCells aps avCells over upd aappend asrc amax amin aconv mkSt slots rowsOf_cons rowsOf_nil usedOf_cons usedOf_nil ZK.av List.replicate ASt.back ASt.addL ASt.killL nodeA nodeT nodeTL_eq nodeL_eq strsE_get strsE_len intsE_get intsE_len strsE_at intsE_at tab2 tab3 tab4 tab5 tab6 tab7 tab8 tab9 tab10 tab11 tab12 tab13 tab14 tab15 tab16 tab17 tab18 tab19 tab21 tab22 tab23 tab24 tab25 tab26 tab28 tab29 tab30 tab31 tab42 tab43 tab44 tab46 tab63 tab64 tab67 tab68 tab75 tab98 tab100 tab101 tab105 tab106 tab107 tab122 tab123 tab125 tab128 tab138 tab144 tab151 tab152 tab157 tab158 tab160 tab161 tab162
def putK (n : Nd) (nm : ByteArray) (v : Nd) : Nd :=
  if mem n.names nm then ⟨n.kind, n.num, n.text, n.names, n.kids.set (lbound n.names nm) v⟩
  else ⟨n.kind, n.num, n.text, n.names.take (lbound n.names nm) ++ (nm :: n.names.drop (lbound n.names nm)), n.kids.take (lbound n.names nm) ++ (v :: n.kids.drop (lbound n.names nm))⟩
def dropK (n : Nd) (nm : ByteArray) : Nd :=
  if mem n.names nm then ⟨n.kind, n.num, n.text, n.names.take (lbound n.names nm) ++ n.names.drop (lbound n.names nm + 1), n.kids.take (lbound n.names nm) ++ n.kids.drop (lbound n.names nm + 1)⟩ else n
theorem lbn_le (xs : List ByteArray) (nm : ByteArray) : lbound xs nm ≤ xs.length := List.countP_le_length
theorem putK_yes {n v : Nd} {nm : ByteArray} (h : mem n.names nm = true) : putK n nm v = ⟨n.kind, n.num, n.text, n.names, n.kids.set (lbound n.names nm) v⟩ := by unfold putK; rw [if_pos h]
theorem putK_no {n v : Nd} {nm : ByteArray} (h : mem n.names nm = false) : putK n nm v = ⟨n.kind, n.num, n.text, n.names.take (lbound n.names nm) ++ (nm :: n.names.drop (lbound n.names nm)), n.kids.take (lbound n.names nm) ++ (v :: n.kids.drop (lbound n.names nm))⟩ := by unfold putK; rw [h]; rfl
theorem dropK_yes {n : Nd} {nm : ByteArray} (h : mem n.names nm = true) : dropK n nm = ⟨n.kind, n.num, n.text, n.names.take (lbound n.names nm) ++ n.names.drop (lbound n.names nm + 1), n.kids.take (lbound n.names nm) ++ n.kids.drop (lbound n.names nm + 1)⟩ := by unfold dropK; rw [if_pos h]
theorem dropK_no {n : Nd} {nm : ByteArray} (h : mem n.names nm = false) : dropK n nm = n := by unfold dropK; rw [h]; rfl
end Go.Proofs.YtfjaobfaepjfnaaDoor.Eng
namespace Go.Proofs.YtfjaobfaepjfnaaDoor.Eng
open Go Go.RowKit
section
variable {P : Program} {T : Tab} {k0 : Nat} {md : List Nat} {Av : Nat → Prop} {pc : Pc} {ops : Array Oper} {K : ASt → Prop} {o : Oper} {l : List Oper} {s : ASt} {f : FuncId} {xs : List Operand} {args : List AV}
end
end Go.Proofs.YtfjaobfaepjfnaaDoor.Eng
namespace Go.Proofs.YtfjaobfaepjfnaaDoor.Eng
open Go Go.RowKit
theorem asc_pw {xs : List ByteArray} : Asc xs ↔ xs.Pairwise (fun a b => lt a b = true) := by
  rw [List.pairwise_iff_getElem]
  exact ⟨fun h i j hi hj hij => h i j hi hj hij, fun h i j hi hj hij => h i j hi hj hij⟩
theorem lt_tot {a b : ByteArray} (h : lt a b = false) (hn : a ≠ b) : lt b a = true := by
  rcases bl_cases a b with ⟨h1, h2, _, _, h3⟩ | ⟨h1, h2, _, _, h3⟩ | h'
  · exact absurd (show lt a b = true from h1) (by rw [h]; simp)
  · exact h2
  · exact absurd h' hn
theorem lb_split : ∀ {xs : List ByteArray} {s : ByteArray}, xs.Pairwise (fun a b => lt a b = true) → (∀ a ∈ xs.take (lbound xs s), lt a s = true) ∧ (∀ b ∈ xs.drop (lbound xs s), lt b s = false)
  | [], s, _ => ⟨fun a h => by simp at h, fun a h => by simp at h⟩
  | x :: t, s, h => by
    rw [List.pairwise_cons] at h
    have hlb : lbound (x :: t) s = lbound t s + if lt x s then 1 else 0 := by unfold lbound; rw [List.countP_cons]
    obtain ⟨i1, i2⟩ := lb_split (s := s) h.2
    cases hx : lt x s
    · have h0 : lbound t s = 0 := by
        unfold lbound
        rw [List.countP_eq_zero]
        intro y hy hys
        have := bl_trans _ _ _ (h.1 y hy) hys
        exact absurd (show lt x s = true from this) (by rw [hx]; simp)
      rw [hlb, hx, h0]
      rw [h0] at i2
      refine ⟨fun a ha => by simp at ha, fun b hb => ?_⟩
      simp at hb
      rcases hb with rfl | hb
      · exact hx
      · exact i2 b (by simpa using hb)
    · rw [hlb, hx]
      simp only [if_true, List.take_succ_cons, List.drop_succ_cons, List.mem_cons, forall_eq_or_imp]
      exact ⟨⟨hx, i1⟩, i2⟩
structure MapW (r : Nd) : Prop where
  kd : r.kind = 4
  nz : r.num = 0
  tz : r.text = ⟨#[]⟩
  asc : Asc r.names
  len : r.names.length = r.kids.length
def zK (r : Nd) : List (ByteArray × Nd) := r.names.zip r.kids
theorem zK_len {r : Nd} (h : MapW r) : (zK r).length = r.kids.length := by unfold zK; rw [List.length_zip, h.len, Nat.min_self]
theorem zK_in {r : Nd} (h : MapW r) {x : ByteArray} {v : Nd} (hm : (x, v) ∈ zK r) : mem r.names x = true ∧ kidOf r x = v := by
  obtain ⟨i, he⟩ := List.getElem?_of_mem hm
  unfold zK at he
  rw [List.getElem?_zip_eq_some] at he
  obtain ⟨e3, e4⟩ := he
  obtain ⟨h1, e1⟩ := List.getElem?_eq_some_iff.1 e3
  obtain ⟨h2, e2⟩ := List.getElem?_eq_some_iff.1 e4
  clear e3 e4
  dsimp only at e1 e2
  subst e1 e2
  have hlb := lb_at h.asc h1
  have hmm : mem r.names r.names[i] = true := mem_iff.2 (List.getElem_mem h1)
  refine ⟨hmm, ?_⟩
  rw [kidOf_yes hmm (by rw [hlb]; exact h2)]
  simp only [hlb]
theorem zK_of {r : Nd} (h : MapW r) {x : ByteArray} (hm : mem r.names x = true) : (x, kidOf r x) ∈ zK r := by
  obtain ⟨h1, h2⟩ := Go.Proofs.YtfjaobfaepjfnaaDoor.lb_lt h.asc hm
  have h3 : lbound r.names x < r.kids.length := by rw [← h.len]; exact h1
  rw [kidOf_yes hm h3]
  have : (zK r)[lbound r.names x]? = some (x, r.kids[lbound r.names x]) := by
    unfold zK
    rw [List.getElem?_zip_eq_some]
    exact ⟨by rw [List.getElem?_eq_getElem h1, h2], List.getElem?_eq_getElem h3⟩
  exact List.mem_of_getElem? this
theorem putK_w {r : Nd} (h : MapW r) (nm : ByteArray) (v : Nd) : MapW (putK r nm v) ∧ (nm, v) ∈ zK (putK r nm v) ∧ (∀ x w, x ≠ nm → (x, w) ∈ zK r → (x, w) ∈ zK (putK r nm v)) ∧ (∀ x, mem (putK r nm v).names x = true → x = nm ∨ mem r.names x = true) := by
  cases hm : mem r.names nm
  · rw [putK_no hm]
    have hle := lbn_le r.names nm
    have hl := h.len
    obtain ⟨s1, s2⟩ := lb_split (s := nm) (asc_pw.1 h.asc)
    have hz : zK ⟨r.kind, r.num, r.text, r.names.take (lbound r.names nm) ++ (nm :: r.names.drop (lbound r.names nm)), r.kids.take (lbound r.names nm) ++ (v :: r.kids.drop (lbound r.names nm))⟩ = (zK r).take (lbound r.names nm) ++ ((nm, v) :: (zK r).drop (lbound r.names nm)) := by
      unfold zK
      dsimp only
      rw [List.zip_append (by rw [List.length_take, List.length_take]; omega), List.zip_cons_cons]
      congr 1
      · exact (List.take_zipWith ..).symm
      · congr 1; exact (List.drop_zipWith ..).symm
    refine ⟨⟨h.kd, h.nz, h.tz, ?_, by dsimp only; simp only [List.length_append, List.length_cons, List.length_take, List.length_drop]; omega⟩, ?_, fun x w hx hxw => ?_, fun x hx => ?_⟩
    · rw [asc_pw]
      dsimp only
      have hp := asc_pw.1 h.asc
      rw [← List.take_append_drop (lbound r.names nm) r.names, List.pairwise_append] at hp
      rw [List.pairwise_append, List.pairwise_cons]
      have hb : ∀ b ∈ r.names.drop (lbound r.names nm), lt nm b = true := fun b hb => lt_tot (s2 b hb) (fun e => by
        subst e
        have := mem_iff.2 (List.mem_of_mem_drop hb)
        rw [hm] at this; cases this)
      refine ⟨hp.1, ⟨hb, hp.2.1⟩, fun a ha b hb' => ?_⟩
      rcases List.mem_cons.1 hb' with rfl | hb'
      · exact s1 a ha
      · exact hp.2.2 a ha b hb'
    · rw [hz]; simp
    · rw [hz]
      rw [← List.take_append_drop (lbound r.names nm) (zK r)] at hxw
      rcases List.mem_append.1 hxw with h | h
      · exact List.mem_append.2 (.inl h)
      · exact List.mem_append.2 (.inr (List.mem_cons.2 (.inr h)))
    · rw [mem_iff] at hx
      dsimp only at hx
      rw [List.mem_append, List.mem_cons] at hx
      rcases hx with hx | rfl | hx
      · exact .inr (mem_iff.2 (List.mem_of_mem_take hx))
      · exact .inl rfl
      · exact .inr (mem_iff.2 (List.mem_of_mem_drop hx))
  · rw [putK_yes hm]
    obtain ⟨h1, h2⟩ := Go.Proofs.YtfjaobfaepjfnaaDoor.lb_lt h.asc hm
    have h3 : lbound r.names nm < r.kids.length := by rw [← h.len]; exact h1
    have hW : MapW ⟨r.kind, r.num, r.text, r.names, r.kids.set (lbound r.names nm) v⟩ := ⟨h.kd, h.nz, h.tz, h.asc, by dsimp only; rw [List.length_set]; exact h.len⟩
    refine ⟨hW, ?_, fun x w hx hxw => ?_, fun x hx => .inr hx⟩
    · have : (zK ⟨r.kind, r.num, r.text, r.names, r.kids.set (lbound r.names nm) v⟩)[lbound r.names nm]? = some (nm, v) := by
        unfold zK
        rw [List.getElem?_zip_eq_some]
        exact ⟨by dsimp only; rw [List.getElem?_eq_getElem h1, h2], by dsimp only; rw [List.getElem?_set_self h3]⟩
      exact List.mem_of_getElem? this
    · obtain ⟨i, hi⟩ := List.getElem?_of_mem hxw
      unfold zK at hi
      rw [List.getElem?_zip_eq_some] at hi
      have hne : lbound r.names nm ≠ i := fun e => by
        subst e
        have := hi.1
        dsimp only at this
        rw [List.getElem?_eq_getElem h1, h2] at this
        exact hx (Option.some.inj this).symm
      have : (zK ⟨r.kind, r.num, r.text, r.names, r.kids.set (lbound r.names nm) v⟩)[i]? = some (x, w) := by
        unfold zK
        rw [List.getElem?_zip_eq_some]
        exact ⟨hi.1, by dsimp only; rw [List.getElem?_set_ne hne]; exact hi.2⟩
      exact List.mem_of_getElem? this
theorem dropK_w {r : Nd} (h : MapW r) (nm : ByteArray) : MapW (dropK r nm) ∧ mem (dropK r nm).names nm = false ∧ (∀ x w, x ≠ nm → (x, w) ∈ zK r → (x, w) ∈ zK (dropK r nm)) ∧ (∀ x, mem (dropK r nm).names x = true → x ≠ nm ∧ mem r.names x = true) := by
  cases hm : mem r.names nm
  · rw [dropK_no hm]
    exact ⟨h, hm, fun x w _ hx => hx, fun x hx => ⟨(fun e => by subst e; rw [hm] at hx; cases hx), hx⟩⟩
  · rw [dropK_yes hm]
    obtain ⟨h1, h2⟩ := Go.Proofs.YtfjaobfaepjfnaaDoor.lb_lt h.asc hm
    have h3 : lbound r.names nm < r.kids.length := by rw [← h.len]; exact h1
    have hl := h.len
    have hp := asc_pw.1 h.asc
    have hsp : r.names = r.names.take (lbound r.names nm) ++ (nm :: r.names.drop (lbound r.names nm + 1)) := by
      conv => lhs; rw [← List.take_append_drop (lbound r.names nm) r.names, List.drop_eq_getElem_cons h1, h2]
    have hp2 := hp
    rw [hsp, List.pairwise_append, List.pairwise_cons] at hp2
    obtain ⟨p1, ⟨p2, p3⟩, p4⟩ := hp2
    have hin : ∀ x, x ∈ r.names.take (lbound r.names nm) ++ r.names.drop (lbound r.names nm + 1) → x ≠ nm ∧ x ∈ r.names := fun x hx => by
      rcases List.mem_append.1 hx with hx | hx
      · refine ⟨fun e => ?_, List.mem_of_mem_take hx⟩
        subst e
        have := p4 x hx x (by simp)
        rw [lt_irr] at this; cases this
      · refine ⟨fun e => ?_, List.mem_of_mem_drop hx⟩
        subst e
        have := p2 x hx
        rw [lt_irr] at this; cases this
    refine ⟨⟨h.kd, h.nz, h.tz, ?_, by dsimp only; simp only [List.length_append, List.length_take, List.length_drop]; omega⟩, ?_, fun x w hx hxw => ?_, fun x hx => ?_⟩
    · rw [asc_pw]
      dsimp only
      rw [List.pairwise_append]
      exact ⟨p1, p3, fun a ha b hb => p4 a ha b (by simp [hb])⟩
    · exact mem_no (fun hx => (hin nm hx).1 rfl)
    · have hz : zK ⟨r.kind, r.num, r.text, r.names.take (lbound r.names nm) ++ r.names.drop (lbound r.names nm + 1), r.kids.take (lbound r.names nm) ++ r.kids.drop (lbound r.names nm + 1)⟩ = (zK r).take (lbound r.names nm) ++ (zK r).drop (lbound r.names nm + 1) := by
        unfold zK
        dsimp only
        rw [List.zip_append (by rw [List.length_take, List.length_take]; omega)]
        congr 1
        · exact (List.take_zipWith ..).symm
        · exact (List.drop_zipWith ..).symm
      rw [hz]
      have hzl : lbound r.names nm < (zK r).length := by rw [zK_len h]; exact h3
      have hzg : (zK r)[lbound r.names nm] = (nm, r.kids[lbound r.names nm]) := by
        have : (zK r)[lbound r.names nm]? = some (nm, r.kids[lbound r.names nm]) := by
          unfold zK
          rw [List.getElem?_zip_eq_some]
          exact ⟨by rw [List.getElem?_eq_getElem h1, h2], List.getElem?_eq_getElem h3⟩
        rw [List.getElem?_eq_getElem hzl] at this
        exact Option.some.inj this
      rw [← List.take_append_drop (lbound r.names nm) (zK r), List.drop_eq_getElem_cons hzl, hzg] at hxw
      rcases List.mem_append.1 hxw with hq | hq
      · exact List.mem_append.2 (.inl hq)
      · rcases List.mem_cons.1 hq with hq | hq
        · exact absurd (congrArg Prod.fst hq) hx
        · exact List.mem_append.2 (.inr hq)
    · have := hin x (mem_iff.1 hx)
      exact ⟨this.1, mem_iff.2 this.2⟩
theorem kidOf_put {r : Nd} (h : MapW r) (nm : ByteArray) (v : Nd) (x : ByteArray) : kidOf (putK r nm v) x = if x = nm then v else kidOf r x := by
  obtain ⟨h1, h2, h3, h4⟩ := putK_w h nm v
  by_cases e : x = nm
  · subst e; rw [if_pos rfl]; exact (zK_in h1 h2).2
  · rw [if_neg e]
    cases hm : mem r.names x
    · have : mem (putK r nm v).names x = false := by
        cases hq : mem (putK r nm v).names x
        · rfl
        · rcases h4 x hq with h | h
          · exact absurd h e
          · rw [hm] at h; cases h
      rw [kidOf_no this, kidOf_no hm]
    · exact (zK_in h1 (h3 x _ e (zK_of h hm))).2
theorem kidOf_drop {r : Nd} (h : MapW r) (nm : ByteArray) (x : ByteArray) : kidOf (dropK r nm) x = if x = nm then Nd.zero else kidOf r x := by
  obtain ⟨h1, h2, h3, h4⟩ := dropK_w h nm
  by_cases e : x = nm
  · subst e; rw [if_pos rfl]; exact kidOf_no h2
  · rw [if_neg e]
    cases hm : mem r.names x
    · have : mem (dropK r nm).names x = false := by
        cases hq : mem (dropK r nm).names x
        · rfl
        · rw [(h4 x hq).2] at hm; cases hm
      rw [kidOf_no this, kidOf_no hm]
    · exact (zK_in h1 (h3 x _ e (zK_of h hm))).2
theorem putK_kids {r v k : Nd} {nm : ByteArray} (h : k ∈ (putK r nm v).kids) : k = v ∨ k ∈ r.kids := by
  cases hm : mem r.names nm
  · rw [putK_no hm] at h
    rcases List.mem_append.1 h with h | h
    · exact .inr (List.mem_of_mem_take h)
    · rcases List.mem_cons.1 h with h | h
      · exact .inl h
      · exact .inr (List.mem_of_mem_drop h)
  · rw [putK_yes hm] at h
    exact (List.mem_or_eq_of_mem_set h).symm
theorem dropK_kids {r k : Nd} {nm : ByteArray} (h : k ∈ (dropK r nm).kids) : k ∈ r.kids := by
  cases hm : mem r.names nm
  · rw [dropK_no hm] at h; exact h
  · rw [dropK_yes hm] at h
    rcases List.mem_append.1 h with h | h
    · exact List.mem_of_mem_take h
    · exact List.mem_of_mem_drop h
theorem putK_klen {r v : Nd} {nm : ByteArray} : (putK r nm v).kids.length ≤ r.kids.length + 1 := by
  cases hm : mem r.names nm
  · rw [putK_no hm]; simp; omega
  · rw [putK_yes hm]; simp
theorem dropK_klen {r : Nd} {nm : ByteArray} : (dropK r nm).kids.length ≤ r.kids.length := by
  cases hm : mem r.names nm
  · rw [dropK_no hm]; exact Nat.le_refl _
  · rw [dropK_yes hm]; simp; omega
def baseM (n : Nd) : Nd := if n.kind = 4 then n else ⟨4, 0, ⟨#[]⟩, [], []⟩
mutual
def mrg : Nd → Nd → Nd
  | ⟨kind, num, text, names, kids⟩, n => if kind = 4 then mrgL names kids (baseM n) else ⟨kind, num, text, names, kids⟩
def mrgL : List ByteArray → List Nd → Nd → Nd
  | _, [], r => r
  | ns, k :: ks, r => mrgL ns.tail ks (if k.kind = 0 then dropK r (ns.headD ⟨#[]⟩) else putK r (ns.headD ⟨#[]⟩) (mrg k (kidOf r (ns.headD ⟨#[]⟩))))
end
def stepN (r : Nd) (nm : ByteArray) (k : Nd) : Nd := if k.kind = 0 then dropK r nm else putK r nm (mrg k (kidOf r nm))
theorem mrg_map {p : Nd} (h : p.kind = 4) (n : Nd) : mrg p n = mrgL p.names p.kids (baseM n) := by cases p; rw [mrg, if_pos h]
theorem mrg_no {p : Nd} (h : p.kind ≠ 4) (n : Nd) : mrg p n = p := by cases p; rw [mrg, if_neg h]
theorem mrgL_step {ns : List ByteArray} {ks : List Nd} {i : Nat} (h1 : i < ns.length) (h2 : i < ks.length) (r : Nd) : mrgL (ns.drop i) (ks.drop i) r = mrgL (ns.drop (i + 1)) (ks.drop (i + 1)) (stepN r ns[i] ks[i]) := by
  rw [List.drop_eq_getElem_cons h1, List.drop_eq_getElem_cons h2, mrgL]
  rfl
theorem shp_zero : Shp Nd.zero := ⟨1, by simp [shapeB_eq, partsB, Nd.zero, shapeL]⟩
theorem base_w {n : Nd} (h : Shp n) : MapW (baseM n) := by
  unfold baseM
  split
  · rename_i h4
    have hp := h.parts
    unfold partsB at hp
    simp only [Bool.and_eq_true, Bool.or_eq_true, decide_eq_true_eq] at hp
    obtain ⟨⟨⟨h1, h2⟩, h3⟩, _⟩ := hp
    refine ⟨h4, by rcases h1 with h | h <;> omega, ?_, h.asc h4, ((h.map h4).2).symm⟩
    rcases h2 with h | h
    · omega
    · have ht : n.text.toList = [] := by simpa using h
      exact of_decide_eq_true (by rw [← beq_toList, ht]; decide +kernel)
  · exact ⟨rfl, rfl, rfl, fun i j hi => by simp at hi, rfl⟩
theorem base_kids {n : Nd} (h : Shp n) : (baseM n).kids.length ≤ 6 ∧ ∀ k ∈ (baseM n).kids, Shp k := by
  unfold baseM
  split
  · exact ⟨h.kids, fun k hk => h.kid hk⟩
  · exact ⟨by simp, fun k hk => by cases hk⟩
theorem base_old {n : Nd} (h : Shp n) (x : ByteArray) : Shp (kidOf (baseM n) x) := by
  have hw := base_w h
  cases hm : mem (baseM n).names x
  · rw [kidOf_no hm]; exact shp_zero
  · exact (base_kids h).2 _ (kidOf_mem hw.asc (by rw [hw.len]; exact Nat.le_refl _) hm)
structure Mid (n p : Nd) (i : Nat) (r : Nd) : Prop where
  w : MapW r
  wide : r.kids.length ≤ 6 + i
  sml : ∀ k ∈ r.kids, Sml k
  old : ∀ x, x ∉ p.names.take i → kidOf r x = kidOf (baseM n) x
theorem Mid.start {n : Nd} (h : Shp n) (p : Nd) : Mid n p 0 (baseM n) := ⟨base_w h, (base_kids h).1, fun k hk => ((base_kids h).2 k hk).sml, fun _ _ => rfl⟩
theorem fresh_name {p : Nd} (hp : Shp p) (h4 : p.kind = 4) {i : Nat} (hi : i < p.names.length) : p.names[i] ∉ p.names.take i := fun hm => by
  obtain ⟨j, hj, he⟩ := List.getElem_of_mem hm
  rw [List.length_take] at hj
  rw [List.getElem_take] at he
  have := hp.asc h4 j i (by omega) hi (by omega)
  rw [he, lt_irr] at this; cases this
theorem Mid.kid {n p r : Nd} {i : Nat} (h : Mid n p i r) (hp : Shp p) (h4 : p.kind = 4) (hn : Shp n) (hi : i < p.names.length) : kidOf r p.names[i] = kidOf (baseM n) p.names[i] := h.old _ (fresh_name hp h4 hi)
theorem Mid.step {n p r : Nd} {i : Nat} (h : Mid n p i r) (hi : i < p.names.length) (hk : i < p.kids.length) (hs : p.kids[i].kind ≠ 0 → Sml (mrg p.kids[i] (kidOf r p.names[i]))) : Mid n p (i + 1) (stepN r p.names[i] p.kids[i]) := by
  have hx : ∀ x, x ∉ p.names.take (i + 1) → x ≠ p.names[i] ∧ x ∉ p.names.take i := fun x hx => by
    rw [List.take_add_one, List.getElem?_eq_getElem hi, Option.toList_some, List.mem_append, List.mem_singleton] at hx
    exact ⟨fun e => hx (.inr e), fun e => hx (.inl e)⟩
  unfold stepN
  split
  · exact ⟨(dropK_w h.w _).1, by have := h.wide; have := dropK_klen (r := r) (nm := p.names[i]); omega, fun k hk => h.sml k (dropK_kids hk), fun x hxn => by
      rw [kidOf_drop h.w, if_neg (hx x hxn).1]; exact h.old x (hx x hxn).2⟩
  · rename_i h0
    exact ⟨(putK_w h.w _ _).1, by have := h.wide; have := putK_klen (r := r) (nm := p.names[i]) (v := mrg p.kids[i] (kidOf r p.names[i])); omega, fun k hk => by
      rcases putK_kids hk with rfl | hk
      · exact hs h0
      · exact h.sml k hk, fun x hxn => by
      rw [kidOf_put h.w, if_neg (hx x hxn).1]; exact h.old x (hx x hxn).2⟩
theorem Mid.smlR {n p r : Nd} {i : Nat} (h : Mid n p i r) (hi : i ≤ 6) : Sml r := .mk _ (by rw [h.w.len]; have := h.wide; omega) (by have := h.wide; omega) h.sml
theorem mrg_loop {n p : Nd} (hp : Shp p) (h4 : p.kind = 4) (I : Nat → Nd → Prop) (h0 : I 0 (baseM n)) (hs : ∀ i (hi : i < p.names.length) (hk : i < p.kids.length) r, I i r → I (i + 1) (stepN r p.names[i] p.kids[i])) : I p.kids.length (mrg p n) := by
  have hl := (hp.map h4).2
  have key : ∀ j, j ≤ p.kids.length → ∃ r, I j r ∧ mrgL (p.names.drop j) (p.kids.drop j) r = mrg p n := fun j => by
    induction j with
    | zero => exact fun _ => ⟨_, h0, by rw [mrg_map h4]; rfl⟩
    | succ j ih =>
      intro hj
      obtain ⟨r, h1, h2⟩ := ih (by omega)
      rw [mrgL_step (by omega) (by omega)] at h2
      exact ⟨_, hs j (by omega) (by omega) r h1, h2⟩
  obtain ⟨r, h1, h2⟩ := key _ (Nat.le_refl _)
  rw [List.drop_of_length_le (Nat.le_refl _), List.drop_of_length_le (by omega), mrgL] at h2
  rw [← h2]; exact h1
theorem mrg_sml : ∀ p, Shp p → ∀ n, Shp n → Sml (mrg p n) := Nd.ind' _ (fun p ih hp n hn => by
  by_cases h4 : p.kind = 4
  · have h6 := hp.kids
    refine Mid.smlR (n := n) (p := p) (mrg_loop hp h4 (Mid n p) (Mid.start hn p) (fun i hi hk r h => h.step hi hk (fun _ => ?_))) h6
    rw [h.kid hp h4 hn hi]
    exact ih _ (List.getElem_mem hk) (hp.kid (List.getElem_mem hk)) _ (base_old hn _)
  · rw [mrg_no h4]; exact hp.sml)
theorem Mid.next {n p r : Nd} {i : Nat} (h : Mid n p i r) (hp : Shp p) (h4 : p.kind = 4) (hn : Shp n) (hi : i < p.names.length) (hk : i < p.kids.length) : Mid n p (i + 1) (stepN r p.names[i] p.kids[i]) := h.step hi hk (fun _ => by
  rw [h.kid hp h4 hn hi]
  exact mrg_sml _ (hp.kid (List.getElem_mem hk)) _ (base_old hn _))
end Go.Proofs.YtfjaobfaepjfnaaDoor.Eng
-- EV: rows
namespace Go.Proofs.YtfjaobfaepjfnaaDoor.Eng
open Go Go.RowKit
attribute [local simp] big size_mk ASt.pay Option.map_map Function.comp_def awant aop acall ado aev ofVal ofVal0 ASt.put ASt.add ASt.turn ASt.kill abox aalloc astore aload aloadD astoreD idOf ASt.at cellsTo afieldAddr afield aindexAddr aindex alen abin aint acmp astr aun apick aextract anil aslice abound abuild afill abuildSlice asCells aps avCells over upd aappend asrc amax amin aconv mkSt slots rowsOf_cons rowsOf_nil usedOf_cons usedOf_nil ZK.av List.replicate ASt.back ASt.addL ASt.killL nodeA nodeT nodeTL_eq nodeL_eq strsE_get strsE_len intsE_get intsE_len strsE_at intsE_at nodeN namesRow nodeO kidsRow tab2 tab3 tab4 tab5 tab6 tab7 tab8 tab9 tab10 tab11 tab12 tab13 tab14 tab15 tab16 tab17 tab18 tab19 tab21 tab22 tab23 tab24 tab25 tab26 tab28 tab29 tab30 tab31 tab42 tab43 tab44 tab46 tab63 tab64 tab67 tab68 tab75 tab98 tab100 tab101 tab105 tab106 tab107 tab122 tab123 tab125 tab128 tab138 tab144 tab151 tab152 tab157 tab158 tab160 tab161 tab162
end Go.Proofs.YtfjaobfaepjfnaaDoor.Eng
-- EV: rows skip
namespace Go.Proofs.YtfjaobfaepjfnaaDoor.Eng
open Go Go.RowKit
attribute [local simp] big size_mk ASt.pay Option.map_map Function.comp_def awant aop acall ado aev ofVal ofVal0 ASt.put ASt.add ASt.turn ASt.kill abox aalloc astore aload aloadD astoreD idOf ASt.at cellsTo afieldAddr afield aindexAddr aindex alen abin aint acmp astr aun apick aextract anil aslice abound abuild afill abuildSlice asCells aps avCells over upd aappend asrc amax amin aconv mkSt slots rowsOf_cons rowsOf_nil usedOf_cons usedOf_nil ZK.av List.replicate ASt.back ASt.addL ASt.killL nodeA nodeT nodeTL_eq nodeL_eq strsE_get strsE_len intsE_get intsE_len strsE_at intsE_at nodeN namesRow nodeO kidsRow tab2 tab3 tab4 tab5 tab6 tab7 tab8 tab9 tab10 tab11 tab12 tab13 tab14 tab15 tab16 tab17 tab18 tab19 tab21 tab22 tab23 tab24 tab25 tab26 tab28 tab29 tab30 tab31 tab42 tab43 tab44 tab46 tab63 tab64 tab67 tab68 tab75 tab98 tab100 tab101 tab105 tab106 tab107 tab122 tab123 tab125 tab128 tab138 tab144 tab151 tab152 tab157 tab158 tab160 tab161 tab162
end Go.Proofs.YtfjaobfaepjfnaaDoor.Eng
-- EV: rows
namespace Go.Proofs.YtfjaobfaepjfnaaDoor.Eng
open Go Go.RowKit
attribute [local simp] big size_mk ASt.pay Option.map_map Function.comp_def awant aop acall ado aev ofVal ofVal0 ASt.put ASt.add ASt.turn ASt.kill abox aalloc astore aload aloadD astoreD idOf ASt.at cellsTo afieldAddr afield aindexAddr aindex alen abin aint acmp astr aun apick aextract anil aslice abound abuild afill abuildSlice asCells aps avCells over upd aappend asrc amax amin aconv mkSt slots rowsOf_cons rowsOf_nil usedOf_cons usedOf_nil ZK.av List.replicate ASt.back ASt.addL ASt.killL nodeA nodeT nodeTL_eq nodeL_eq strsE_get strsE_len intsE_get intsE_len strsE_at intsE_at nodeN namesRow nodeO kidsRow tab2 tab3 tab4 tab5 tab6 tab7 tab8 tab9 tab10 tab11 tab12 tab13 tab14 tab15 tab16 tab17 tab18 tab19 tab21 tab22 tab23 tab24 tab25 tab26 tab28 tab29 tab30 tab31 tab42 tab43 tab44 tab46 tab63 tab64 tab67 tab68 tab75 tab98 tab100 tab101 tab105 tab106 tab107 tab122 tab123 tab125 tab128 tab138 tab144 tab151 tab152 tab157 tab158 tab160 tab161 tab162
end Go.Proofs.YtfjaobfaepjfnaaDoor.Eng
-- EV: rows skip
namespace Go.Proofs.YtfjaobfaepjfnaaDoor.Eng
open Go Go.RowKit
attribute [local simp] big size_mk ASt.pay Option.map_map Function.comp_def awant aop acall ado aev ofVal ofVal0 ASt.put ASt.add ASt.turn ASt.kill abox aalloc astore aload aloadD astoreD idOf ASt.at cellsTo afieldAddr afield aindexAddr aindex alen abin aint acmp astr aun apick aextract anil aslice abound abuild afill abuildSlice asCells aps avCells over upd aappend asrc amax amin aconv mkSt slots rowsOf_cons rowsOf_nil usedOf_cons usedOf_nil ZK.av List.replicate ASt.back ASt.addL ASt.killL nodeA nodeT nodeTL_eq nodeL_eq strsE_get strsE_len intsE_get intsE_len strsE_at intsE_at nodeN namesRow nodeO kidsRow tab2 tab3 tab4 tab5 tab6 tab7 tab8 tab9 tab10 tab11 tab12 tab13 tab14 tab15 tab16 tab17 tab18 tab19 tab21 tab22 tab23 tab24 tab25 tab26 tab28 tab29 tab30 tab31 tab42 tab43 tab44 tab46 tab63 tab64 tab67 tab68 tab75 tab98 tab100 tab101 tab105 tab106 tab107 tab122 tab123 tab125 tab128 tab138 tab144 tab151 tab152 tab157 tab158 tab160 tab161 tab162
theorem MapW.slt {r : Nd} (h : MapW r) (hs : Sml r) : Slt r := ⟨fun _ => h.len, (fun h3 => by rw [h.kd] at h3; cases h3), hs⟩
end Go.Proofs.YtfjaobfaepjfnaaDoor.Eng
namespace Go.Proofs.YtfjaobfaepjfnaaDoor.Eng
open Go Go.RowKit
attribute [local simp] big size_mk ASt.pay Option.map_map Function.comp_def awant aop acall ado aev ofVal ofVal0 ASt.put ASt.add ASt.turn ASt.kill abox aalloc astore aload aloadD astoreD idOf ASt.at cellsTo afieldAddr afield aindexAddr aindex alen abin aint acmp astr aun apick aextract anil aslice abound abuild afill abuildSlice asCells aps avCells over upd aappend asrc amax amin aconv mkSt slots rowsOf_cons rowsOf_nil usedOf_cons usedOf_nil ZK.av List.replicate ASt.back ASt.addL ASt.killL nodeA nodeT nodeTL_eq nodeL_eq strsE_get strsE_len intsE_get intsE_len strsE_at intsE_at tab2 tab3 tab4 tab5 tab6 tab7 tab8 tab9 tab10 tab11 tab12 tab13 tab14 tab15 tab16 tab17 tab18 tab19 tab21 tab22 tab23 tab24 tab25 tab26 tab28 tab29 tab30 tab31 tab42 tab43 tab44 tab46 tab63 tab64 tab67 tab68 tab75 tab98 tab100 tab101 tab105 tab106 tab107 tab122 tab123 tab125 tab128 tab138 tab144 tab151 tab152 tab157 tab158 tab160 tab161 tab162
end Go.Proofs.YtfjaobfaepjfnaaDoor.Eng
-- EV: rows skip
namespace Go.Proofs.YtfjaobfaepjfnaaDoor.Eng
open Go Go.RowKit
attribute [local simp] big size_mk ASt.pay Option.map_map Function.comp_def awant aop acall ado aev ofVal ofVal0 ASt.put ASt.add ASt.turn ASt.kill abox aalloc astore aload aloadD astoreD idOf ASt.at cellsTo afieldAddr afield aindexAddr aindex alen abin aint acmp astr aun apick aextract anil aslice abound abuild afill abuildSlice asCells aps avCells over upd aappend asrc amax amin aconv mkSt slots rowsOf_cons rowsOf_nil usedOf_cons usedOf_nil ZK.av List.replicate ASt.back ASt.addL ASt.killL nodeA nodeT nodeTL_eq nodeL_eq strsE_get strsE_len intsE_get intsE_len strsE_at intsE_at nodeN namesRow nodeO kidsRow tab2 tab3 tab4 tab5 tab6 tab7 tab8 tab9 tab10 tab11 tab12 tab13 tab14 tab15 tab16 tab17 tab18 tab19 tab21 tab22 tab23 tab24 tab25 tab26 tab28 tab29 tab30 tab31 tab42 tab43 tab44 tab46 tab63 tab64 tab67 tab68 tab75 tab98 tab100 tab101 tab105 tab106 tab107 tab122 tab123 tab125 tab128 tab138 tab144 tab151 tab152 tab157 tab158 tab160 tab161 tab162
end Go.Proofs.YtfjaobfaepjfnaaDoor.Eng
namespace Go.Proofs.YtfjaobfaepjfnaaDoor.Eng
open Go Go.RowKit
theorem countL_take {l : List Nd} {i : Nat} (h : i < l.length) : countL (l.take (i + 1)) = countL (l.take i) + l[i].count := by
  rw [List.take_add_one, List.getElem?_eq_getElem h, Option.toList_some, countL_snoc]
theorem namesFrom_of : ∀ (xs : List ByteArray) (p : Option ByteArray), (∀ x ∈ xs, plainT x = true) → xs.Pairwise (fun a b => lt a b = true) → (∀ y, p = some y → ∀ x ∈ xs, lt y x = true) → namesFrom p xs = true
  | [], p, _, _, _ => by simp [namesFrom]
  | x :: xs, p, h1, h2, h3 => by
    rw [List.pairwise_cons] at h2
    have ih := namesFrom_of xs (some x) (fun y hy => h1 y (by simp [hy])) h2.2 (fun y hy z hz => by cases hy; exact h2.1 z hz)
    have hx := h1 x (by simp)
    cases p with
    | none => simp [namesFrom, hx, ih]
    | some y => simp [namesFrom, hx, ih, h3 y rfl x (by simp)]
theorem namesFrom_plain : ∀ (xs : List ByteArray) (p : Option ByteArray), namesFrom p xs = true → ∀ x ∈ xs, plainT x = true
  | [], _, _ => by simp
  | x :: xs, p, h => by
    simp only [namesFrom, Bool.and_eq_true] at h
    intro y hy
    rcases List.mem_cons.1 hy with rfl | hy
    · exact h.1.1
    · exact namesFrom_plain xs _ h.2 y hy
end Go.Proofs.YtfjaobfaepjfnaaDoor.Eng
namespace Go.Proofs.YtfjaobfaepjfnaaDoor.Eng
open Go Go.RowKit
theorem tdSub {α : Type} (l : List α) (k : Nat) : (l.take k ++ l.drop (k + 1)).Sublist l := by
  rw [← List.eraseIdx_eq_take_drop_succ]; exact List.eraseIdx_sublist l k
theorem namesTd {xs ys : List ByteArray} (h : xs.Sublist ys) (k : areNamesB ys = true) : areNamesB xs = true := by
  unfold areNamesB at k ⊢
  rw [Bool.and_eq_true, decide_eq_true_eq] at k ⊢
  refine ⟨Nat.le_trans h.length_le k.1, ?_⟩
  have hp : ∀ x ∈ ys, plainT x = true := namesFrom_plain _ _ k.2
  have ha := asc_pw.1 (namesB_asc k.2)
  exact namesFrom_of _ _ (fun x hx => hp x (h.subset hx)) (ha.sublist h) (fun y hy => by cases hy)
theorem Shp.bare {m : Nd} (h : Shp m) (hk : m.kind = 4 ∨ m.kind = 3) : m.num = 0 ∧ m.text = ⟨#[]⟩ ∧ (m.kind = 3 → m.names = []) := by
  have hp := h.parts
  unfold partsB at hp
  simp only [Bool.and_eq_true, Bool.or_eq_true, decide_eq_true_eq] at hp
  obtain ⟨⟨⟨h1, h2⟩, h3⟩, _⟩ := hp
  refine ⟨by rcases h1 with h | h <;> omega, ?_, fun h => ?_⟩
  · rcases h2 with h | h
    · omega
    · have ht : m.text.toList = [] := by simpa using h
      exact of_decide_eq_true (by rw [← beq_toList, ht]; decide +kernel)
  · rcases h3 with h3 | h3
    · omega
    · exact List.length_eq_zero_iff.1 h3
theorem Shp.kd {m : Nd} (h : Shp m) {k : Nat} (hk : k < m.kids.length) : m.kind = 4 ∨ m.kind = 3 := by
  by_cases h4 : m.kind = 4
  · exact .inl h4
  · by_cases h3 : m.kind = 3
    · exact .inr h3
    · have := h.leaf h4 h3; omega
theorem countL_sub {l m : List Nd} (h : l.Sublist m) : countL l ≤ countL m := by
  induction h with
  | slnil => exact Nat.le_refl _
  | cons a _ ih => simp only [countL]; omega
  | cons_cons a _ ih => simp only [countL]; omega
theorem countL_set : ∀ (l : List Nd) (k : Nat) (y : Nd) (hk : k < l.length), y.count ≤ l[k].count → countL (l.set k y) ≤ countL l
  | [], _, _, hk, _ => by cases hk
  | a :: l, 0, y, _, h => by rw [List.set_cons_zero]; simp only [countL]; simp at h; omega
  | a :: l, k + 1, y, hk, h => by
    rw [List.set_cons_succ]
    simp only [countL]
    have := countL_set l k y (by simpa using hk) (by simpa using h)
    omega
theorem del_shape {m : Nd} {d k : Nat} (hm : shapeB m d = true) (hk : k < m.kids.length) : shapeB (delK m k) d = true ∧ (delK m k).count ≤ m.count := by
  have hs : Shp m := ⟨d, hm⟩
  constructor
  · have hl := hs.kd hk
    cases d with
    | zero => rw [shapeB_eq] at hm; simp at hm
    | succ d =>
      have hall : shapeL m.kids d = true → shapeL (delK m k).kids d = true := fun h => by
        rw [shapeL_all, List.all_eq_true] at h ⊢
        exact fun x hx => h x ((tdSub m.kids k).subset hx)
      have e : (ByteArray.mk #[]).toList.isEmpty = true := by decide +kernel
      rcases hl with h4 | h3
      · rw [shape_4 h4] at hm
        rw [shape_4 (by exact h4)]
        simp only [Bool.and_eq_true, decide_eq_true_eq] at hm ⊢
        obtain ⟨⟨⟨⟨_, _⟩, q3⟩, q4⟩, q5⟩ := hm
        refine ⟨⟨⟨⟨rfl, e⟩, ?_⟩, ?_⟩, hall q5⟩
        · unfold delK; dsimp only; rw [if_pos h4]; exact namesTd (tdSub _ _) q3
        · unfold delK; dsimp only; rw [if_pos h4]; simp [q4]
      · rw [shape_3 h3] at hm
        rw [shape_3 (by exact h3)]
        simp only [Bool.and_eq_true, decide_eq_true_eq] at hm ⊢
        obtain ⟨⟨⟨⟨_, _⟩, q3⟩, q4⟩, q5⟩ := hm
        refine ⟨⟨⟨⟨rfl, e⟩, ?_⟩, ?_⟩, hall q5⟩
        · unfold delK; dsimp only; rw [if_neg (by omega)]; rfl
        · exact Nat.le_trans (tdSub m.kids k).length_le q4
  · rw [Nd.count_eq, Nd.count_eq m]
    have := countL_sub (tdSub m.kids k)
    show 1 + countL (m.kids.take k ++ m.kids.drop (k + 1)) ≤ _
    omega
theorem set_shape : ∀ (p : List ByteArray) (n m x r : Nd) (d : Nat), shapeB n d = true → getS n p = some m → (∀ e, shapeB m e = true → shapeB x e = true) → x.count ≤ m.count → setS n p x = some r → shapeB r d = true ∧ r.count ≤ n.count
  | [], n, m, x, r, d, hn, hg, hx, hc, hr => by
    rw [getS] at hg; rw [setS] at hr
    cases hg; cases hr
    exact ⟨hx d hn, hc⟩
  | s :: p, n, m, x, r, d, hn, hg, hx, hc, hr => by
    rcases placeI_cases n s with ⟨h1, _⟩ | ⟨k, h1, h2, _⟩
    · rw [setS_no p h1] at hr; cases hr
    · rw [setS_yes p h1 h2] at hr
      rw [getS_yes p h1 h2] at hg
      obtain ⟨y, hy, rfl⟩ := Option.map_eq_some_iff.1 hr
      rw [shapeB_eq] at hn
      simp only [Bool.and_eq_true] at hn
      obtain ⟨⟨q1, q2⟩, q3⟩ := hn
      have hall := q3
      rw [shapeL_all, List.all_eq_true] at hall
      obtain ⟨z1, z2⟩ := set_shape p n.kids[k] m x y (d - 1) (hall _ (List.getElem_mem h1)) hg hx hc hy
      constructor
      · rw [shapeB_eq]
        simp only [Bool.and_eq_true]
        refine ⟨⟨q1, ?_⟩, ?_⟩
        · unfold partsB setK at *
          simpa only [List.length_set] using q2
        · rw [shapeL_all, List.all_eq_true]
          intro c hcm
          rcases List.mem_or_eq_of_mem_set hcm with h | h
          · exact hall c h
          · rw [h]; exact z1
      · rw [Nd.count_eq, Nd.count_eq n]
        have := countL_set n.kids k y h1 z2
        show 1 + countL (n.kids.set k y) ≤ _
        omega
theorem rem_valid {n r : Nd} {p : List ByteArray} (hn : validB n = true) (hr : remS n p = some r) : validB r = true := by
  unfold validB at hn ⊢
  rw [Bool.and_eq_true, decide_eq_true_eq] at hn ⊢
  rcases snoc_cases p with rfl | ⟨q, s, rfl⟩
  · unfold remS at hr; cases hr
  · rw [remS_snoc] at hr
    obtain ⟨m, hm, hr⟩ := Option.bind_eq_some_iff.1 hr
    rcases placeI_cases m s with ⟨h1, _⟩ | ⟨k, h1, h2, _⟩
    · rw [h1, if_neg (by omega)] at hr; cases hr
    · rw [h2, if_pos (by omega), Int.toNat_natCast] at hr
      have hcnt : (delK m k).count ≤ m.count := by
        rw [Nd.count_eq, Nd.count_eq m]
        have := countL_sub (tdSub m.kids k)
        show 1 + countL (m.kids.take k ++ m.kids.drop (k + 1)) ≤ _
        omega
      obtain ⟨z1, z2⟩ := set_shape q n m (delK m k) r 5 hn.1 hm (fun e he => (del_shape he h1).1) hcnt hr
      exact ⟨z1, by omega⟩
def delO (s : ByteArray) (m : Nd) : Option Nd := if 0 ≤ placeI m s then some (delK m (placeI m s).toNat) else none
theorem chgS_bind (g : Nd → Option Nd) : ∀ (p : List ByteArray) (n : Nd), chgS n p g = (getS n p).bind (fun m => (g m).bind (fun x => setS n p x))
  | [], n => by
    rw [chgS, getS, Option.bind_some]
    cases g n <;> simp [setS]
  | s :: p, n => by
    rcases placeI_cases n s with ⟨h1, _⟩ | ⟨k, h1, h2, _⟩
    · rw [chgS_no p g h1, getS_no _ h1]; rfl
    · rw [chgS_yes p g h1 h2, getS_yes p h1 h2, chgS_bind g p]
      simp only [setS_yes p h1 h2]
      cases getS n.kids[k] p with
      | none => rfl
      | some m =>
        simp only [Option.bind_some]
        cases g m with
        | none => rfl
        | some x => rfl
theorem chgS_del (n : Nd) (q : List ByteArray) (s : ByteArray) : chgS n q (delO s) = remS n (q ++ [s]) := by
  rw [chgS_bind, remS_snoc]
  congr 1
  funext m
  unfold delO
  split <;> rfl
end Go.Proofs.YtfjaobfaepjfnaaDoor.Eng
-- EV: fresh
namespace Go.Proofs.YtfjaobfaepjfnaaDoor.Eng
open Go Go.RowKit
attribute [local simp] big size_mk ASt.pay Option.map_map Function.comp_def awant aop acall ado aev ofVal ofVal0 ASt.put ASt.add ASt.turn ASt.kill abox aalloc astore aload aloadD astoreD idOf ASt.at cellsTo afieldAddr afield aindexAddr aindex alen abin aint acmp astr aun apick aextract anil aslice abound abuild afill abuildSlice asCells aps avCells over upd aappend asrc amax amin aconv mkSt slots rowsOf_cons rowsOf_nil usedOf_cons usedOf_nil ZK.av List.replicate ASt.back ASt.addL ASt.killL nodeA nodeT nodeTL_eq nodeL_eq strsE_get strsE_len intsE_get intsE_len strsE_at intsE_at tab2 tab3 tab4 tab5 tab6 tab7 tab8 tab9 tab10 tab11 tab12 tab13 tab14 tab15 tab16 tab17 tab18 tab19 tab21 tab22 tab23 tab24 tab25 tab26 tab28 tab29 tab30 tab31 tab42 tab43 tab44 tab46 tab63 tab64 tab67 tab68 tab75 tab98 tab100 tab101 tab105 tab106 tab107 tab122 tab123 tab125 tab128 tab138 tab144 tab151 tab152 tab157 tab158 tab160 tab161 tab162
def ckN (m : Nd) : Option Nd := if validB m then some m else none
def remO (n : Nd) (p : List ByteArray) : Option Nd := if validB n && pathB p then (remS n p).bind ckN else none
set_option maxRecDepth 100000
set_option maxHeartbeats 8000000
theorem specChk (m : Nd) (b : Bool) : AC Tryd.prog 77 [nodeA m, .bool b] 0 (fun r => r = optA (if b then ckN m else none)) := by
  refine AC.weak ?_
  have p1 := validNode_AC m .loose
  unfold nodeA
  rw [nodeL_eq]
  cases b
  · have e : (if false then ckN m else none) = none := rfl
    refine AC.of tab_ok mixed_ok Tryd.func77 (by rfl) (by kernel_rfl) ?_; rintro ⟨P, T, hT, hm, w0, S0, rd0, k0⟩ hP hTT; dsimp only at hP hTT; subst hP hTT; unfold initSt; rw [Tryd.ntmps77]
    (repeat (first | with_reducible refine AW.seq ?_ | ((first | refine arun_kn 4 rfl (fun C hC => ?_) | refine arunD_kn 4 rfl (fun C hC => ?_)); (repeat ((conv => whnf); simp)); refine hC _ ?_; clear hC C; simp only [List.drop, Nat.reduceAdd]) | ((first | refine arun_kn 1 rfl (fun C hC => ?_) | refine arunD_kn 1 rfl (fun C hC => ?_)); (repeat ((conv => whnf); simp)); refine hC _ ?_; clear hC C; simp only [List.drop, Nat.reduceAdd]) | (refine arun_skip ?_ ?_; (focus (simp [awant]; done))) | (refine arun_c0 (p1) ?_; rintro _ rfl) | (refine AW.regionK [] (fun K hK => ?_)) | (refine AW.regionDK [] (pcs [] []) (by kernel_rfl) (by kernel_rfl) (fun K hK => ?_)) | (refine AW.condT ?_ ?_; (focus (simp [aev]; done))) | (refine AW.condF ?_ ?_; (focus (simp [aev]; done))) | with_reducible refine AW.block ?_ | ((first | ((first | refine arun_nil ?_ | refine arunD_nil ?_); refine hK _ ?_; clear hK K) | refine AW.skip ?_ | refine AW.exit ?_ | refine AW.ret ?_); simp only [thenA_exit, inBlockA_exit, if_true, if_false, Nat.reduceEqDiff, thenA_normal, inBlockA_normal, reduceIte, thenA_ret, inBlockA_ret, endQ_ret, endR_ret, endG_ret, endQ_normal, endR_normal, endG_normal, endF_ret, endF_normal])))
    exact ⟨.tup [node0 0 0 ⟨#[]⟩, .bool false], by simp [node0, ares, aresL, upd, rowsOf_cons], none_end.1, _, none_end.2, by rw [e]; rfl⟩
  cases h1 : validB m
  · have e : ckN m = none := by unfold ckN; rw [h1]; rfl
    rw [h1] at p1
    refine AC.of tab_ok mixed_ok Tryd.func77 (by rfl) (by kernel_rfl) ?_; rintro ⟨P, T, hT, hm, w0, S0, rd0, k0⟩ hP hTT; dsimp only at hP hTT; subst hP hTT; unfold initSt; rw [Tryd.ntmps77]
    (repeat (first | with_reducible refine AW.seq ?_ | ((first | refine arun_kn 4 rfl (fun C hC => ?_) | refine arunD_kn 4 rfl (fun C hC => ?_)); (repeat ((conv => whnf); simp)); refine hC _ ?_; clear hC C; simp only [List.drop, Nat.reduceAdd]) | ((first | refine arun_kn 1 rfl (fun C hC => ?_) | refine arunD_kn 1 rfl (fun C hC => ?_)); (repeat ((conv => whnf); simp)); refine hC _ ?_; clear hC C; simp only [List.drop, Nat.reduceAdd]) | (refine arun_skip ?_ ?_; (focus (simp [awant]; done))) | (refine arun_c0 (p1) ?_; rintro _ rfl) | (refine AW.regionK [] (fun K hK => ?_)) | (refine AW.regionDK [] (pcs [] []) (by kernel_rfl) (by kernel_rfl) (fun K hK => ?_)) | (refine AW.condT ?_ ?_; (focus (simp [aev]; done))) | (refine AW.condF ?_ ?_; (focus (simp [aev]; done))) | with_reducible refine AW.block ?_ | ((first | ((first | refine arun_nil ?_ | refine arunD_nil ?_); refine hK _ ?_; clear hK K) | refine AW.skip ?_ | refine AW.exit ?_ | refine AW.ret ?_); simp only [thenA_exit, inBlockA_exit, if_true, if_false, Nat.reduceEqDiff, thenA_normal, inBlockA_normal, reduceIte, thenA_ret, inBlockA_ret, endQ_ret, endR_ret, endG_ret, endQ_normal, endR_normal, endG_normal, endF_ret, endF_normal])))
    exact ⟨.tup [node0 0 0 ⟨#[]⟩, .bool false], by simp [node0, ares, aresL, upd, rowsOf_cons], none_end.1, _, none_end.2, by rw [e]; rfl⟩
  · have e : ckN m = some m := by unfold ckN; rw [h1]; rfl
    rw [h1] at p1
    refine AC.of tab_ok mixed_ok Tryd.func77 (by rfl) (by kernel_rfl) ?_; rintro ⟨P, T, hT, hm, w0, S0, rd0, k0⟩ hP hTT; dsimp only at hP hTT; subst hP hTT; unfold initSt; rw [Tryd.ntmps77]
    (repeat (first | with_reducible refine AW.seq ?_ | ((first | refine arun_kn 4 rfl (fun C hC => ?_) | refine arunD_kn 4 rfl (fun C hC => ?_)); (repeat ((conv => whnf); simp)); refine hC _ ?_; clear hC C; simp only [List.drop, Nat.reduceAdd]) | ((first | refine arun_kn 1 rfl (fun C hC => ?_) | refine arunD_kn 1 rfl (fun C hC => ?_)); (repeat ((conv => whnf); simp)); refine hC _ ?_; clear hC C; simp only [List.drop, Nat.reduceAdd]) | (refine arun_skip ?_ ?_; (focus (simp [awant]; done))) | (refine arun_c0 (p1) ?_; rintro _ rfl) | (refine AW.regionK [] (fun K hK => ?_)) | (refine AW.regionDK [] (pcs [] []) (by kernel_rfl) (by kernel_rfl) (fun K hK => ?_)) | (refine AW.condT ?_ ?_; (focus (simp [aev]; done))) | (refine AW.condF ?_ ?_; (focus (simp [aev]; done))) | with_reducible refine AW.block ?_ | ((first | ((first | refine arun_nil ?_ | refine arunD_nil ?_); refine hK _ ?_; clear hK K) | refine AW.skip ?_ | refine AW.exit ?_ | refine AW.ret ?_); simp only [thenA_exit, inBlockA_exit, if_true, if_false, Nat.reduceEqDiff, thenA_normal, inBlockA_normal, reduceIte, thenA_ret, inBlockA_ret, endQ_ret, endR_ret, endG_ret, endQ_normal, endR_normal, endG_normal, endF_ret, endF_normal])))
    exact ⟨.tup [nodeA m, .bool true], by simp [ares, aresL, upd, rowsOf_cons], tup2_pur (node_pur m) pur_bool, _, Wk.refl _, by rw [e]; rfl⟩
end Go.Proofs.YtfjaobfaepjfnaaDoor.Eng
-- EV: fresh
namespace Go.Proofs.YtfjaobfaepjfnaaDoor.Eng
open Go Go.RowKit
attribute [local simp] big size_mk ASt.pay Option.map_map Function.comp_def awant aop acall ado aev ofVal ofVal0 ASt.put ASt.add ASt.turn ASt.kill abox aalloc astore aload aloadD astoreD idOf ASt.at cellsTo afieldAddr afield aindexAddr aindex alen abin aint acmp astr aun apick aextract anil aslice abound abuild afill abuildSlice asCells aps avCells over upd aappend asrc amax amin aconv mkSt slots rowsOf_cons rowsOf_nil usedOf_cons usedOf_nil ZK.av List.replicate ASt.back ASt.addL ASt.killL nodeA nodeT nodeTL_eq nodeL_eq strsE_get strsE_len intsE_get intsE_len strsE_at intsE_at tab2 tab3 tab4 tab5 tab6 tab7 tab8 tab9 tab10 tab11 tab12 tab13 tab14 tab15 tab16 tab17 tab18 tab19 tab21 tab22 tab23 tab24 tab25 tab26 tab28 tab29 tab30 tab31 tab42 tab43 tab44 tab46 tab63 tab64 tab67 tab68 tab75 tab98 tab100 tab101 tab105 tab106 tab107 tab122 tab123 tab125 tab128 tab138 tab144 tab151 tab152 tab157 tab158 tab160 tab161 tab162
theorem fp_td {ks : List Lb} (k : Nat) (h : (ks.flatMap Lb.fp).Nodup) : ((ks.take k ++ ks.drop (k + 1)).flatMap Lb.fp).Nodup := by
  have aux : ∀ {l m : List Lb}, l.Sublist m → (l.flatMap Lb.fp).Sublist (m.flatMap Lb.fp) := fun h => by
    induction h with
    | slnil => exact List.Sublist.refl _
    | cons a _ ih => rw [List.flatMap_cons]; exact ih.trans (List.sublist_append_right _ _)
    | cons_cons a _ ih => rw [List.flatMap_cons, List.flatMap_cons]; exact (List.Sublist.refl _).append ih
  exact h.sublist (aux (tdSub ks k))
theorem fp_td_mem {ks : List Lb} {k b : Nat} (h : b ∈ (ks.take k ++ ks.drop (k + 1)).flatMap Lb.fp) : b ∈ ks.flatMap Lb.fp := by
  obtain ⟨y, hy, hb⟩ := List.mem_flatMap.1 h
  exact List.mem_flatMap.2 ⟨y, (tdSub ks k).subset hy, hb⟩
set_option maxRecDepth 100000
set_option maxHeartbeats 8000000
theorem remKF (t : VC) (q : List ByteArray) (s : ByteArray) (n : Nd) (hn : Shp n) (hq : q.length ≤ 999) : ACF Tryd.prog 58 [nodeA n, .eptr .loose [.view t 1 (strsE (q ++ [s]))], .eptr .loose [.int .i64 q.length]] 0 (rNB ((delO s n).getD Nd.zero) (delO s n).isSome) := by
  have pk := kidIndex_AC n s hn
  have hki := kidI_eq (st := s) hn
  have p5 := implCopyF_ACM n hn.sml
  have hcn := node_clo n
  have hget : (strsE q ++ [[AV.str s]])[q.length]? = some [AV.str s] := by rw [List.getElem?_append_right (by rw [strsE_len]; exact Nat.le_refl _), strsE_len]; simp
  have hget' : ∀ h, (strsE q ++ [[AV.str s]])[q.length]'h = [AV.str s] := fun h => by rw [List.getElem?_eq_getElem h] at hget; exact Option.some.inj hget
  have hlt : q.length < q.length + 1 := by omega
  have hle : q.length ≤ q.length + 1 := by omega
  have hle' : (q.length : Int) ≤ (q.length : Int) + 1 := by omega
  have hlt' : (q.length : Int) < (q.length : Int) + 1 := by omega
  have hn0 : ¬ (q.length : Int) < 0 := by omega
  refine ACF.weak ?_
  unfold nodeA at pk p5 hcn ⊢
  rw [nodeL_eq] at pk p5 hcn ⊢
  rw [strs_snoc]
  refine ACF.of tab_ok mixed_ok Tryd.func58 (by rfl) (by kernel_rfl) ?_; rintro ⟨P, T, hT, hm, w0, S0, rd0, k0⟩ hP hTT hN; dsimp only at hP hTT hN; subst hP hTT; dsimp only; unfold initSt; rw [Tryd.ntmps58]
  rcases placeI_cases n s with ⟨h1, _⟩ | ⟨k, h1, h2, _⟩
  · have hd : decide (0 ≤ placeI n s) = false := by rw [h1]; rfl
    have e : delO s n = none := by unfold delO; rw [h1, if_neg (by omega)]
    rw [hd] at pk
    rw [e]
    generalize kidI n s = ki at pk
    (repeat (first | with_reducible refine AW.seq ?_ | ((first | refine arun_kn 4 rfl (fun C hC => ?_) | refine arunD_kn 4 rfl (fun C hC => ?_)); (repeat ((conv => whnf); simp [strsE_len, hget, hget', hlt, hle, hle', hlt', hn0])); refine hC _ ?_; clear hC C; simp only [List.drop, Nat.reduceAdd]) | ((first | refine arun_kn 1 rfl (fun C hC => ?_) | refine arunD_kn 1 rfl (fun C hC => ?_)); (repeat ((conv => whnf); simp [strsE_len, hget, hget', hlt, hle, hle', hlt', hn0])); refine hC _ ?_; clear hC C; simp only [List.drop, Nat.reduceAdd]) | (refine arun_skip ?_ ?_; (focus (simp [awant, strsE_len, hget, hget', hlt, hle, hle', hlt', hn0]; done))) | (refine arun_c0 (pk) ?_; rintro _ rfl) | (refine arunD_c (0) (pk) ?_; rintro _ rfl; intro _) | (refine AW.regionK [] (fun K hK => ?_)) | (refine AW.regionDK [] (pcs [(5, 0, fun r => r = .tup [.int .i64 ki, .bool false])] []) (by kernel_rfl) (by kernel_rfl) (fun K hK => ?_)) | (refine AW.condT ?_ ?_; (focus (simp [aev, strsE_len, hget, hget', hlt, hle, hle', hlt', hn0]; done))) | (refine AW.condF ?_ ?_; (focus (simp [aev, strsE_len, hget, hget', hlt, hle, hle', hlt', hn0]; done))) | with_reducible refine AW.block ?_ | ((first | ((first | refine arun_nil ?_ | refine arunD_nil ?_); refine hK _ ?_; clear hK K) | refine AW.skip ?_ | refine AW.exit ?_ | refine AW.ret ?_); simp only [thenA_exit, inBlockA_exit, if_true, if_false, Nat.reduceEqDiff, thenA_normal, inBlockA_normal, reduceIte, thenA_ret, inBlockA_ret, endQ_ret, endR_ret, endG_ret, endQ_normal, endR_normal, endG_normal, endF_ret, endF_normal])))
    obtain ⟨z1, z2, z3⟩ := rNB_none (r := .tup [node0 0 0 ⟨#[]⟩, .bool false]) rfl
    exact ⟨.tup [node0 0 0 ⟨#[]⟩, .bool false], by simp [node0, ares, aresL, upd, rowsOf_cons], z1, z2 _, z3⟩
  have hd : decide (0 ≤ placeI n s) = true := by rw [h2]; simp
  rw [hd, hki (by omega), h2] at pk
  have e : delO s n = some (delK n k) := by unfold delO; rw [h2, if_pos (by omega), Int.toNat_natCast]
  rw [e]
  have hk0 : ¬ ((k : Int) < 0) := by omega
  have h6 := hn.kids
  have hw : IntKind.i64.wrap ((k : Int) + 1) = (k : Int) + 1 := i64_nat (by omega) (by omega)
  (repeat (first | with_reducible refine AW.seq ?_ | ((first | refine arun_kn 4 rfl (fun C hC => ?_) | refine arunD_kn 4 rfl (fun C hC => ?_)); (repeat ((conv => whnf); simp [strsE_len, hget, hget', hlt, hle, hle', hlt', hn0])); refine hC _ ?_; clear hC C; simp only [List.drop, Nat.reduceAdd]) | ((first | refine arun_kn 1 rfl (fun C hC => ?_) | refine arunD_kn 1 rfl (fun C hC => ?_)); (repeat ((conv => whnf); simp [strsE_len, hget, hget', hlt, hle, hle', hlt', hn0])); refine hC _ ?_; clear hC C; simp only [List.drop, Nat.reduceAdd]) | (refine arun_skip ?_ ?_; (focus (simp [awant, strsE_len, hget, hget', hlt, hle, hle', hlt', hn0]; done))) | (refine arun_c0 (pk) ?_; rintro _ rfl) | (refine arunD_c (0) (pk) ?_; rintro _ rfl; intro _) | (refine AW.regionK [] (fun K hK => ?_)) | (refine AW.regionDK [] (pcs [(5, 0, fun r => r = .tup [.int .i64 k, .bool true])] []) (by kernel_rfl) (by kernel_rfl) (fun K hK => ?_)) | (refine AW.condT ?_ ?_; (focus (simp [aev, strsE_len, hget, hget', hlt, hle, hle', hlt', hn0]; done))) | (refine AW.condF ?_ ?_; (focus (simp [aev, strsE_len, hget, hget', hlt, hle, hle', hlt', hn0]; done))) | with_reducible refine AW.block ?_ | ((first | ((first | refine arun_nil ?_ | refine arunD_nil ?_); refine hK _ ?_; clear hK K) | refine AW.skip ?_ | refine AW.exit ?_ | refine AW.ret ?_); simp only [thenA_exit, inBlockA_exit, if_true, if_false, Nat.reduceEqDiff, thenA_normal, inBlockA_normal, reduceIte, thenA_ret, inBlockA_ret, endQ_ret, endR_ret, endG_ret, endQ_normal, endR_normal, endG_normal, endF_ret, endF_normal])))
  refine arun_callM (hw := by simp [awant]) (ha := rfl) p5 (hargs := .cons (.base (.clo hcn.cloTo)) .nil) (hcan := can_of (Nat.le_refl _)) ?_
  rintro r l' ⟨ks, hks, hkn, rfl, rfl⟩ hA2
  refine ⟨_, _, _, back_copyF (A := 100) (B := 101) (by decide) (by simp [usedOf_cons, usedOf_nil, upd]) (by simp [usedOf_cons, usedOf_nil, upd]), ?_⟩
  have hA4 : ∀ b ∈ ks.flatMap Lb.fp, w0.wd.heap.size ≤ b := fun b hb => hN.ge (fun h => hA2 b (.inr ⟨(34, labsR ks), by simp, by rw [show (labsR ks).es = ks.map labL from rfl, atE_labs]; exact hb⟩) h)
  have hbare := hn.bare (hn.kd h1)
  (repeat (first | with_reducible refine AW.seq ?_ | ((first | refine arun_kn 4 rfl (fun C hC => ?_) | refine arunD_kn 4 rfl (fun C hC => ?_)); (repeat ((conv => whnf); simp [nodeRR])); refine hC _ ?_; clear hC C; simp only [List.drop, Nat.reduceAdd]) | ((first | refine arun_kn 1 rfl (fun C hC => ?_) | refine arunD_kn 1 rfl (fun C hC => ?_)); (repeat ((conv => whnf); simp [nodeRR])); refine hC _ ?_; clear hC C; simp only [List.drop, Nat.reduceAdd]) | (refine arun_skip ?_ ?_; (focus (simp [awant, nodeRR]; done))) | (refine AW.condT ?_ ?_; (focus (simp [aev, nodeRR]; done))) | (refine AW.condF ?_ ?_; (focus (simp [aev, nodeRR]; done))) | with_reducible refine AW.block ?_ | ((first | ((first | refine arun_nil ?_ | refine arunD_nil ?_); refine hK _ ?_; clear hK K) | refine AW.skip ?_ | refine AW.exit ?_ | refine AW.ret ?_); simp only [thenA_exit, inBlockA_exit, if_true, if_false, Nat.reduceEqDiff, thenA_normal, inBlockA_normal, reduceIte, thenA_ret, inBlockA_ret, endQ_ret, endR_ret, endG_ret, endQ_normal, endR_normal, endG_normal, endF_ret, endF_normal])))
  by_cases h4 : n.kind = 4
  · have hb4 : (n.kind == 4) = true := by simpa using h4
    have hnl := (hn.map h4).2
    have hsl := strsE_len n.names
    have hdel := delS_ACG (strsE n.names) k (by rw [hsl]; omega) (strsE_pur n.names)
    rw [hsl] at hdel
    obtain ⟨nm', hnm'⟩ : ∃ nm', nm' = n.names.take k ++ n.names.drop (k + 1) := ⟨_, rfl⟩
    have hes : (strsE n.names).take k ++ (strsE n.names).drop (k + 1) = strsE nm' := by rw [hnm']; simp [strsE, List.map_take, List.map_drop]
    rw [hes] at hdel
    have hnl2 : nm'.length = n.names.length - 1 := by rw [hnm', List.length_append, List.length_take, List.length_drop]; omega
    (repeat (first | with_reducible refine AW.seq ?_ | ((first | refine arun_kn 4 rfl (fun C hC => ?_) | refine arunD_kn 4 rfl (fun C hC => ?_)); (repeat ((conv => whnf); simp [hb4, hw, hsl, namesR, labsR])); refine hC _ ?_; clear hC C; simp only [List.drop, Nat.reduceAdd]) | ((first | refine arun_kn 1 rfl (fun C hC => ?_) | refine arunD_kn 1 rfl (fun C hC => ?_)); (repeat ((conv => whnf); simp [hb4, hw, hsl, namesR, labsR])); refine hC _ ?_; clear hC C; simp only [List.drop, Nat.reduceAdd]) | (refine arun_skip ?_ ?_; (focus (simp [awant, hb4, hw, hsl, namesR, labsR]; done))) | (refine AW.regionK [] (fun K hK => ?_)) | (refine AW.regionDK [] (pcs [] []) (by kernel_rfl) (by kernel_rfl) (fun K hK => ?_)) | (refine AW.condT ?_ ?_; (focus (simp [aev, hb4, hw, hsl, namesR, labsR]; done))) | (refine AW.condF ?_ ?_; (focus (simp [aev, hb4, hw, hsl, namesR, labsR]; done))) | with_reducible refine AW.block ?_ | ((first | ((first | refine arun_nil ?_ | refine arunD_nil ?_); refine hK _ ?_; clear hK K) | refine AW.skip ?_ | refine AW.exit ?_ | refine AW.ret ?_); simp only [thenA_exit, inBlockA_exit, if_true, if_false, Nat.reduceEqDiff, thenA_normal, inBlockA_normal, reduceIte, thenA_ret, inBlockA_ret, endQ_ret, endR_ret, endG_ret, endQ_normal, endR_normal, endG_normal, endF_ret, endF_normal])))
    refine arun_callG1 (g := fun k => .own k (n.names.length - 1)) (R := namesR nm') [(1000, ⟨false, 9, 1, strsE n.names⟩)] (fun _ => 100) 102 (by simp [awant]) rfl (hdel.mono (fun r b h => ⟨1, h⟩)) (by simp) ?_ ?_ (can_of (Nat.le_refl _)) (by simp [upd]) (strsE_pur _) (fun k => .base (.base (.own (by simp) rfl))) ?_
    · exact MvR.same (by simp [upd, rowsOf_cons]) (fun e he c hc => (strsE_pur _ e he c hc).clo) MvR.nil
    · exact .cons (.base (.own (by simp) (by simp))) (.cons (.base (.clo (Clo.cloTo clo_int))) (.cons (.base (.clo (Clo.cloTo clo_int))) .nil))
    (repeat (first | with_reducible refine AW.seq ?_ | ((first | refine arun_kn 4 rfl (fun C hC => ?_) | refine arunD_kn 4 rfl (fun C hC => ?_)); (repeat ((conv => whnf); simp [hw, hsl, namesR, labsR])); refine hC _ ?_; clear hC C; simp only [List.drop, Nat.reduceAdd]) | ((first | refine arun_kn 1 rfl (fun C hC => ?_) | refine arunD_kn 1 rfl (fun C hC => ?_)); (repeat ((conv => whnf); simp [hw, hsl, namesR, labsR])); refine hC _ ?_; clear hC C; simp only [List.drop, Nat.reduceAdd]) | (refine arun_skip ?_ ?_; (focus (simp [awant, hw, hsl, namesR, labsR]; done))) | (refine AW.regionK [] (fun K hK => ?_)) | (refine AW.regionDK [] (pcs [] []) (by kernel_rfl) (by kernel_rfl) (fun K hK => ?_)) | (refine AW.condT ?_ ?_; (focus (simp [aev, hw, hsl, namesR, labsR]; done))) | (refine AW.condF ?_ ?_; (focus (simp [aev, hw, hsl, namesR, labsR]; done))) | with_reducible refine AW.block ?_ | ((first | ((first | refine arun_nil ?_ | refine arunD_nil ?_); refine hK _ ?_; clear hK K) | refine AW.skip ?_ | refine AW.exit ?_ | refine AW.ret ?_); simp only [thenA_exit, inBlockA_exit, if_true, if_false, Nat.reduceEqDiff, thenA_normal, inBlockA_normal, reduceIte, thenA_ret, inBlockA_ret, endQ_ret, endR_ret, endG_ret, endQ_normal, endR_normal, endG_normal, endF_ret, endF_normal])))
    have hlk : ks.length = n.kids.length := by rw [← hks, List.length_map]
    have hml : (ks.map labL).length = n.kids.length := by rw [List.length_map, hlk]
    obtain ⟨ks', hks'⟩ : ∃ ks', ks' = ks.take k ++ ks.drop (k + 1) := ⟨_, rfl⟩
    have hlk2 : ks'.length = n.kids.length - 1 := by rw [hks', List.length_append, List.length_take, List.length_drop]; omega
    have hdek := delN_ACG (ks.map labL) k (by rw [hml]; exact h1) (labsE_pur ks)
    rw [hml] at hdek
    have hkk : (ks.map labL).take k ++ (ks.map labL).drop (k + 1) = ks'.map labL := by rw [hks']; simp [List.map_take, List.map_drop]
    rw [hkk] at hdek
    refine arun_callG1 (g := fun k => .own k (n.kids.length - 1)) (R := labsR ks') [(1000, ⟨false, 26, 5, ks.map labL⟩)] (fun _ => 101) 103 (by simp [awant]) rfl (hdek.mono (fun r b h => ⟨1, h⟩)) (by simp) ?_ ?_ (can_of (Nat.le_refl _)) (by simp [upd]) (labsE_pur _) (fun k => .base (.base (.own (by simp) rfl))) ?_
    · exact MvR.same (by simp [upd, rowsOf_cons, labsR]) (fun e he c hc => (labsE_pur _ e he c hc).clo) MvR.nil
    · exact .cons (.base (.own (by simp) (by simp))) (.cons (.base (.clo (Clo.cloTo clo_int))) (.cons (.base (.clo (Clo.cloTo clo_int))) .nil))
    (repeat (first | with_reducible refine AW.seq ?_ | ((first | refine arun_kn 4 rfl (fun C hC => ?_) | refine arunD_kn 4 rfl (fun C hC => ?_)); (repeat ((conv => whnf); simp [hw, hsl, namesR, labsR])); refine hC _ ?_; clear hC C; simp only [List.drop, Nat.reduceAdd]) | ((first | refine arun_kn 1 rfl (fun C hC => ?_) | refine arunD_kn 1 rfl (fun C hC => ?_)); (repeat ((conv => whnf); simp [hw, hsl, namesR, labsR])); refine hC _ ?_; clear hC C; simp only [List.drop, Nat.reduceAdd]) | (refine arun_skip ?_ ?_; (focus (simp [awant, hw, hsl, namesR, labsR]; done))) | (refine AW.condT ?_ ?_; (focus (simp [aev, hw, hsl, namesR, labsR]; done))) | (refine AW.condF ?_ ?_; (focus (simp [aev, hw, hsl, namesR, labsR]; done))) | with_reducible refine AW.block ?_ | ((first | ((first | refine arun_nil ?_ | refine arunD_nil ?_); refine hK _ ?_; clear hK K) | refine AW.skip ?_ | refine AW.exit ?_ | refine AW.ret ?_); simp only [thenA_exit, inBlockA_exit, if_true, if_false, Nat.reduceEqDiff, thenA_normal, inBlockA_normal, reduceIte, thenA_ret, inBlockA_ret, endQ_ret, endR_ret, endG_ret, endQ_normal, endR_normal, endG_normal, endF_ret, endF_normal])))
    refine AW.holdF 102 hN (fun g1 hg1 ht1 hr1 => ?_)
    have f1 := hr1 103 ⟨false, 26, 5, ks'.map labL⟩ (by simp [upd, rowsOf_cons, labsR])
    refine AW.holdF 103 hN (fun g2 hg2 ht2 hr2 => ?_)
    have f2 := hr2 103 ⟨false, 26, 5, ks'.map labL⟩ (by simp [ASt.holdF, rowsOf_cons, upd, Row.sub, labsE_sub, namesR, labsR]; exact fun a _ => labL_sub a)
    have f3 := hr2 8 ⟨true, 26, 5, [[.int .i64 n.kind, .int .i64 n.num, .str n.text, .view (.fr g1) 1 (strsE nm'), .own 103 (n.kids.length - 1)]]⟩ (by simp [ASt.holdF, rowsOf_cons, upd, AV.subL, AV.sub, Row.sub, strsE_len, namesR, labsR, hnl2])
    clear ht1 hr1 ht2 hr2
    (repeat (first | with_reducible refine AW.seq ?_ | ((first | refine arun_kn 4 rfl (fun C hC => ?_) | refine arunD_kn 4 rfl (fun C hC => ?_)); (repeat ((conv => whnf); simp [ASt.holdF, AV.subL, AV.sub, Row.sub, rowsOf_cons, upd, labsE_sub, strsE_len, hlk2, hnl2, namesR, labsR])); refine hC _ ?_; clear hC C; simp only [List.drop, Nat.reduceAdd]) | ((first | refine arun_kn 1 rfl (fun C hC => ?_) | refine arunD_kn 1 rfl (fun C hC => ?_)); (repeat ((conv => whnf); simp [ASt.holdF, AV.subL, AV.sub, Row.sub, rowsOf_cons, upd, labsE_sub, strsE_len, hlk2, hnl2, namesR, labsR])); refine hC _ ?_; clear hC C; simp only [List.drop, Nat.reduceAdd]) | (refine arun_skip ?_ ?_; (focus (simp [awant, ASt.holdF, AV.subL, AV.sub, Row.sub, rowsOf_cons, upd, labsE_sub, strsE_len, hlk2, hnl2, namesR, labsR]; done))) | (refine AW.regionK [] (fun K hK => ?_)) | (refine AW.regionDK [] (pcs [] []) (by kernel_rfl) (by kernel_rfl) (fun K hK => ?_)) | (refine AW.condT ?_ ?_; (focus (simp [aev, ASt.holdF, AV.subL, AV.sub, Row.sub, rowsOf_cons, upd, labsE_sub, strsE_len, hlk2, hnl2, namesR, labsR]; done))) | (refine AW.condF ?_ ?_; (focus (simp [aev, ASt.holdF, AV.subL, AV.sub, Row.sub, rowsOf_cons, upd, labsE_sub, strsE_len, hlk2, hnl2, namesR, labsR]; done))) | with_reducible refine AW.block ?_ | ((first | ((first | refine arun_nil ?_ | refine arunD_nil ?_); refine hK _ ?_; clear hK K) | refine AW.skip ?_ | refine AW.exit ?_ | refine AW.ret ?_); simp only [thenA_exit, inBlockA_exit, if_true, if_false, Nat.reduceEqDiff, thenA_normal, inBlockA_normal, reduceIte, thenA_ret, inBlockA_ret, endQ_ret, endR_ret, endG_ret, endQ_normal, endR_normal, endG_normal, endF_ret, endF_normal])))
    rw [atE_labs] at f1 f2
    refine ⟨.tup [labA ⟨n.kind, n.num, n.text, nm', g1, ks', g2⟩, .bool true], by unfold labA; rw [labL_eq]; simp [ares, aresL, upd, rowsOf_cons, labL_sub], tup2_pur (lab_pur _) pur_bool, fun b hb => ?_, _, Wk.refl _, fun _ h => h, ⟨_, _, _, _, _, _, _⟩, ?_, fp_nodup (by dsimp only; rw [hks']; exact fp_td k hkn) f1 f2 (fun h1 _ => f3 g1 ?_), rfl⟩
    · rw [at_tup2] at hb
      refine fp_ge (l := ⟨n.kind, n.num, n.text, nm', g1, ks', g2⟩) (fun b hb => ?_) hg1 hg2 b hb
      rw [hks'] at hb
      exact hA4 b (fp_td_mem hb)
    · rw [nd_eq]
      dsimp only
      rw [hks', List.map_append, List.map_take, List.map_drop, hks, hbare.1, hbare.2.1]
      show _ = delK n k
      unfold delK
      rw [if_pos h4, hnm']
    · dsimp only at h1
      have : (strsE nm').isEmpty = false := by unfold strsE; cases hh : nm' with | nil => exact absurd hh h1 | cons _ _ => rfl
      simp [atE_cons, atE_nil, atL_cons, atL_nil, at_int, at_str, at_own, at_view, frB_fr, this]
  · have hb4 : (n.kind == 4) = false := by simpa using h4
    (repeat (first | with_reducible refine AW.seq ?_ | ((first | refine arun_kn 4 rfl (fun C hC => ?_) | refine arunD_kn 4 rfl (fun C hC => ?_)); (repeat ((conv => whnf); simp [hb4, hw, namesR, labsR])); refine hC _ ?_; clear hC C; simp only [List.drop, Nat.reduceAdd]) | ((first | refine arun_kn 1 rfl (fun C hC => ?_) | refine arunD_kn 1 rfl (fun C hC => ?_)); (repeat ((conv => whnf); simp [hb4, hw, namesR, labsR])); refine hC _ ?_; clear hC C; simp only [List.drop, Nat.reduceAdd]) | (refine arun_skip ?_ ?_; (focus (simp [awant, hb4, hw, namesR, labsR]; done))) | (refine AW.regionK [] (fun K hK => ?_)) | (refine AW.regionDK [] (pcs [] []) (by kernel_rfl) (by kernel_rfl) (fun K hK => ?_)) | (refine AW.condT ?_ ?_; (focus (simp [aev, hb4, hw, namesR, labsR]; done))) | (refine AW.condF ?_ ?_; (focus (simp [aev, hb4, hw, namesR, labsR]; done))) | with_reducible refine AW.block ?_ | ((first | ((first | refine arun_nil ?_ | refine arunD_nil ?_); refine hK _ ?_; clear hK K) | refine AW.skip ?_ | refine AW.exit ?_ | refine AW.ret ?_); simp only [thenA_exit, inBlockA_exit, if_true, if_false, Nat.reduceEqDiff, thenA_normal, inBlockA_normal, reduceIte, thenA_ret, inBlockA_ret, endQ_ret, endR_ret, endG_ret, endQ_normal, endR_normal, endG_normal, endF_ret, endF_normal])))
    have hlk : ks.length = n.kids.length := by rw [← hks, List.length_map]
    have hml : (ks.map labL).length = n.kids.length := by rw [List.length_map, hlk]
    obtain ⟨ks', hks'⟩ : ∃ ks', ks' = ks.take k ++ ks.drop (k + 1) := ⟨_, rfl⟩
    have hlk2 : ks'.length = n.kids.length - 1 := by rw [hks', List.length_append, List.length_take, List.length_drop]; omega
    have hdek := delN_ACG (ks.map labL) k (by rw [hml]; exact h1) (labsE_pur ks)
    rw [hml] at hdek
    have hkk : (ks.map labL).take k ++ (ks.map labL).drop (k + 1) = ks'.map labL := by rw [hks']; simp [List.map_take, List.map_drop]
    rw [hkk] at hdek
    refine arun_callG1 (g := fun k => .own k (n.kids.length - 1)) (R := labsR ks') [(1000, ⟨false, 26, 5, ks.map labL⟩)] (fun _ => 101) 103 (by simp [awant]) rfl (hdek.mono (fun r b h => ⟨1, h⟩)) (by simp) ?_ ?_ (can_of (Nat.le_refl _)) (by simp [upd]) (labsE_pur _) (fun k => .base (.base (.own (by simp) rfl))) ?_
    · exact MvR.same (by simp [upd, rowsOf_cons, labsR]) (fun e he c hc => (labsE_pur _ e he c hc).clo) MvR.nil
    · exact .cons (.base (.own (by simp) (by simp))) (.cons (.base (.clo (Clo.cloTo clo_int))) (.cons (.base (.clo (Clo.cloTo clo_int))) .nil))
    (repeat (first | with_reducible refine AW.seq ?_ | ((first | refine arun_kn 4 rfl (fun C hC => ?_) | refine arunD_kn 4 rfl (fun C hC => ?_)); (repeat ((conv => whnf); simp [hw, namesR, labsR])); refine hC _ ?_; clear hC C; simp only [List.drop, Nat.reduceAdd]) | ((first | refine arun_kn 1 rfl (fun C hC => ?_) | refine arunD_kn 1 rfl (fun C hC => ?_)); (repeat ((conv => whnf); simp [hw, namesR, labsR])); refine hC _ ?_; clear hC C; simp only [List.drop, Nat.reduceAdd]) | (refine arun_skip ?_ ?_; (focus (simp [awant, hw, namesR, labsR]; done))) | (refine AW.condT ?_ ?_; (focus (simp [aev, hw, namesR, labsR]; done))) | (refine AW.condF ?_ ?_; (focus (simp [aev, hw, namesR, labsR]; done))) | with_reducible refine AW.block ?_ | ((first | ((first | refine arun_nil ?_ | refine arunD_nil ?_); refine hK _ ?_; clear hK K) | refine AW.skip ?_ | refine AW.exit ?_ | refine AW.ret ?_); simp only [thenA_exit, inBlockA_exit, if_true, if_false, Nat.reduceEqDiff, thenA_normal, inBlockA_normal, reduceIte, thenA_ret, inBlockA_ret, endQ_ret, endR_ret, endG_ret, endQ_normal, endR_normal, endG_normal, endF_ret, endF_normal])))
    refine AW.holdF 100 hN (fun g1 hg1 ht1 hr1 => ?_)
    have f1 := hr1 103 ⟨false, 26, 5, ks'.map labL⟩ (by simp [upd, rowsOf_cons, labsR])
    refine AW.holdF 103 hN (fun g2 hg2 ht2 hr2 => ?_)
    have f2 := hr2 103 ⟨false, 26, 5, ks'.map labL⟩ (by simp [ASt.holdF, rowsOf_cons, upd, Row.sub, labsE_sub, namesR, labsR]; exact fun a _ => labL_sub a)
    have f3 := hr2 8 ⟨true, 26, 5, [[.int .i64 n.kind, .int .i64 n.num, .str n.text, .view (.fr g1) 1 (strsE n.names), .own 103 (n.kids.length - 1)]]⟩ (by simp [ASt.holdF, rowsOf_cons, upd, AV.subL, AV.sub, Row.sub, strsE_len, namesR, labsR, hlk2])
    clear ht1 hr1 ht2 hr2
    (repeat (first | with_reducible refine AW.seq ?_ | ((first | refine arun_kn 4 rfl (fun C hC => ?_) | refine arunD_kn 4 rfl (fun C hC => ?_)); (repeat ((conv => whnf); simp [ASt.holdF, AV.subL, AV.sub, Row.sub, rowsOf_cons, upd, labsE_sub, strsE_len, hlk2, hlk2, namesR, labsR])); refine hC _ ?_; clear hC C; simp only [List.drop, Nat.reduceAdd]) | ((first | refine arun_kn 1 rfl (fun C hC => ?_) | refine arunD_kn 1 rfl (fun C hC => ?_)); (repeat ((conv => whnf); simp [ASt.holdF, AV.subL, AV.sub, Row.sub, rowsOf_cons, upd, labsE_sub, strsE_len, hlk2, hlk2, namesR, labsR])); refine hC _ ?_; clear hC C; simp only [List.drop, Nat.reduceAdd]) | (refine arun_skip ?_ ?_; (focus (simp [awant, ASt.holdF, AV.subL, AV.sub, Row.sub, rowsOf_cons, upd, labsE_sub, strsE_len, hlk2, hlk2, namesR, labsR]; done))) | (refine AW.regionK [] (fun K hK => ?_)) | (refine AW.regionDK [] (pcs [] []) (by kernel_rfl) (by kernel_rfl) (fun K hK => ?_)) | (refine AW.condT ?_ ?_; (focus (simp [aev, ASt.holdF, AV.subL, AV.sub, Row.sub, rowsOf_cons, upd, labsE_sub, strsE_len, hlk2, hlk2, namesR, labsR]; done))) | (refine AW.condF ?_ ?_; (focus (simp [aev, ASt.holdF, AV.subL, AV.sub, Row.sub, rowsOf_cons, upd, labsE_sub, strsE_len, hlk2, hlk2, namesR, labsR]; done))) | with_reducible refine AW.block ?_ | ((first | ((first | refine arun_nil ?_ | refine arunD_nil ?_); refine hK _ ?_; clear hK K) | refine AW.skip ?_ | refine AW.exit ?_ | refine AW.ret ?_); simp only [thenA_exit, inBlockA_exit, if_true, if_false, Nat.reduceEqDiff, thenA_normal, inBlockA_normal, reduceIte, thenA_ret, inBlockA_ret, endQ_ret, endR_ret, endG_ret, endQ_normal, endR_normal, endG_normal, endF_ret, endF_normal])))
    rw [atE_labs] at f1 f2
    refine ⟨.tup [labA ⟨n.kind, n.num, n.text, n.names, g1, ks', g2⟩, .bool true], by unfold labA; rw [labL_eq]; simp [ares, aresL, upd, rowsOf_cons, labL_sub], tup2_pur (lab_pur _) pur_bool, fun b hb => ?_, _, Wk.refl _, fun _ h => h, ⟨_, _, _, _, _, _, _⟩, ?_, fp_nodup (by dsimp only; rw [hks']; exact fp_td k hkn) f1 f2 (fun h1 _ => f3 g1 ?_), rfl⟩
    · rw [at_tup2] at hb
      refine fp_ge (l := ⟨n.kind, n.num, n.text, n.names, g1, ks', g2⟩) (fun b hb => ?_) hg1 hg2 b hb
      rw [hks'] at hb
      exact hA4 b (fp_td_mem hb)
    · rw [nd_eq]
      dsimp only
      rw [hks', List.map_append, List.map_take, List.map_drop, hks, hbare.1, hbare.2.1]
      show _ = delK n k
      unfold delK
      rw [if_neg h4, hbare.2.2 ((hn.kd h1).resolve_left h4)]
    · dsimp only at h1
      have : (strsE n.names).isEmpty = false := by unfold strsE; cases hh : n.names with | nil => exact absurd hh h1 | cons _ _ => rfl
      simp [atE_cons, atE_nil, atL_cons, atL_nil, at_int, at_str, at_own, at_view, frB_fr, this]
theorem remO_eq {n : Nd} {p : List ByteArray} (h1 : validB n = true) (h2 : pathB p = true) : remO n p = remS n p := by
  unfold remO
  rw [h1, h2]
  cases hr : remS n p with
  | none => rfl
  | some r => simp [ckN, rem_valid h1 hr]
theorem RemoveNode_ACF (t : VC) (n : Nd) (p : List ByteArray) : ACF Tryd.prog 17 [nodeA n, .view t 1 (strsE p)] 0 (rNB ((remO n p).getD Nd.zero) (remO n p).isSome) := by
  refine ACF.weak ?_
  have p1 := ValidNode_AC n .loose
  have p2 := isPath_AC p t
  have hcn := node_clo n
  unfold nodeA at hcn ⊢
  rw [nodeL_eq n] at hcn ⊢
  refine ACF.of tab_ok mixed_ok Tryd.func17 (by rfl) (by kernel_rfl) ?_; rintro ⟨P, T, hT, hm, w0, S0, rd0, k0⟩ hP hTT hN; dsimp only at hP hTT hN; subst hP hTT; dsimp only; unfold initSt; rw [Tryd.ntmps17]
  cases h1 : validB n <;> rw [h1] at p1
  · have e : remO n p = none := by unfold remO; rw [h1]; rfl
    rw [e]
    (repeat (first | with_reducible refine AW.seq ?_ | ((first | refine arun_kn 4 rfl (fun C hC => ?_) | refine arunD_kn 4 rfl (fun C hC => ?_)); (repeat ((conv => whnf); simp)); refine hC _ ?_; clear hC C; simp only [List.drop, Nat.reduceAdd]) | ((first | refine arun_kn 1 rfl (fun C hC => ?_) | refine arunD_kn 1 rfl (fun C hC => ?_)); (repeat ((conv => whnf); simp)); refine hC _ ?_; clear hC C; simp only [List.drop, Nat.reduceAdd]) | (refine arun_skip ?_ ?_; (focus (simp [awant]; done))) | (refine arun_c0 (p1) ?_; rintro _ rfl) | (refine arun_c0 (p2) ?_; rintro _ rfl) | (refine AW.regionK [] (fun K hK => ?_)) | (refine AW.regionDK [] (pcs [] []) (by kernel_rfl) (by kernel_rfl) (fun K hK => ?_)) | (refine AW.condT ?_ ?_; (focus (simp [aev]; done))) | (refine AW.condF ?_ ?_; (focus (simp [aev]; done))) | with_reducible refine AW.block ?_ | ((first | ((first | refine arun_nil ?_ | refine arunD_nil ?_); refine hK _ ?_; clear hK K) | refine AW.skip ?_ | refine AW.exit ?_ | refine AW.ret ?_); simp only [thenA_exit, inBlockA_exit, if_true, if_false, Nat.reduceEqDiff, thenA_normal, inBlockA_normal, reduceIte, thenA_ret, inBlockA_ret, endQ_ret, endR_ret, endG_ret, endQ_normal, endR_normal, endG_normal, endF_ret, endF_normal])))
    obtain ⟨z1, z2, z3⟩ := rNB_none (r := .tup [node0 0 0 ⟨#[]⟩, .bool false]) rfl
    exact ⟨.tup [node0 0 0 ⟨#[]⟩, .bool false], by simp [node0, ares, aresL, upd, rowsOf_cons], z1, z2 _, z3⟩
  cases h2 : pathB p <;> rw [h2] at p2
  · have e : remO n p = none := by unfold remO; rw [h1, h2]; rfl
    rw [e]
    (repeat (first | with_reducible refine AW.seq ?_ | ((first | refine arun_kn 4 rfl (fun C hC => ?_) | refine arunD_kn 4 rfl (fun C hC => ?_)); (repeat ((conv => whnf); simp)); refine hC _ ?_; clear hC C; simp only [List.drop, Nat.reduceAdd]) | ((first | refine arun_kn 1 rfl (fun C hC => ?_) | refine arunD_kn 1 rfl (fun C hC => ?_)); (repeat ((conv => whnf); simp)); refine hC _ ?_; clear hC C; simp only [List.drop, Nat.reduceAdd]) | (refine arun_skip ?_ ?_; (focus (simp [awant]; done))) | (refine arun_c0 (p1) ?_; rintro _ rfl) | (refine arun_c0 (p2) ?_; rintro _ rfl) | (refine AW.regionK [] (fun K hK => ?_)) | (refine AW.regionDK [] (pcs [] []) (by kernel_rfl) (by kernel_rfl) (fun K hK => ?_)) | (refine AW.condT ?_ ?_; (focus (simp [aev]; done))) | (refine AW.condF ?_ ?_; (focus (simp [aev]; done))) | with_reducible refine AW.block ?_ | ((first | ((first | refine arun_nil ?_ | refine arunD_nil ?_); refine hK _ ?_; clear hK K) | refine AW.skip ?_ | refine AW.exit ?_ | refine AW.ret ?_); simp only [thenA_exit, inBlockA_exit, if_true, if_false, Nat.reduceEqDiff, thenA_normal, inBlockA_normal, reduceIte, thenA_ret, inBlockA_ret, endQ_ret, endR_ret, endG_ret, endQ_normal, endR_normal, endG_normal, endF_ret, endF_normal])))
    obtain ⟨z1, z2, z3⟩ := rNB_none (r := .tup [node0 0 0 ⟨#[]⟩, .bool false]) rfl
    exact ⟨.tup [node0 0 0 ⟨#[]⟩, .bool false], by simp [node0, ares, aresL, upd, rowsOf_cons], z1, z2 _, z3⟩
  rw [remO_eq h1 h2]
  have hpl : p.length ≤ 1000 := by unfold pathB at h2; simp at h2; omega
  rcases snoc_cases p with rfl | ⟨q, s, rfl⟩
  · have e : remS n [] = none := rfl
    rw [e]
    (repeat (first | with_reducible refine AW.seq ?_ | ((first | refine arun_kn 4 rfl (fun C hC => ?_) | refine arunD_kn 4 rfl (fun C hC => ?_)); (repeat ((conv => whnf); simp [strsE_len])); refine hC _ ?_; clear hC C; simp only [List.drop, Nat.reduceAdd]) | ((first | refine arun_kn 1 rfl (fun C hC => ?_) | refine arunD_kn 1 rfl (fun C hC => ?_)); (repeat ((conv => whnf); simp [strsE_len])); refine hC _ ?_; clear hC C; simp only [List.drop, Nat.reduceAdd]) | (refine arun_skip ?_ ?_; (focus (simp [awant, strsE_len]; done))) | (refine arun_c0 (p1) ?_; rintro _ rfl) | (refine arun_c0 (p2) ?_; rintro _ rfl) | (refine AW.regionK [] (fun K hK => ?_)) | (refine AW.regionDK [] (pcs [] []) (by kernel_rfl) (by kernel_rfl) (fun K hK => ?_)) | (refine AW.condT ?_ ?_; (focus (simp [aev, strsE_len]; done))) | (refine AW.condF ?_ ?_; (focus (simp [aev, strsE_len]; done))) | with_reducible refine AW.block ?_ | ((first | ((first | refine arun_nil ?_ | refine arunD_nil ?_); refine hK _ ?_; clear hK K) | refine AW.skip ?_ | refine AW.exit ?_ | refine AW.ret ?_); simp only [thenA_exit, inBlockA_exit, if_true, if_false, Nat.reduceEqDiff, thenA_normal, inBlockA_normal, reduceIte, thenA_ret, inBlockA_ret, endQ_ret, endR_ret, endG_ret, endQ_normal, endR_normal, endG_normal, endF_ret, endF_normal])))
    obtain ⟨z1, z2, z3⟩ := rNB_none (r := .tup [node0 0 0 ⟨#[]⟩, .bool false]) rfl
    exact ⟨.tup [node0 0 0 ⟨#[]⟩, .bool false], by simp [node0, ares, aresL, upd, rowsOf_cons], z1, z2 _, z3⟩
  rw [List.length_append, List.length_singleton] at hpl
  have hch := changeAt_ACF 58 [.eptr .loose [.view t 1 (strsE (q ++ [s]))], .eptr .loose [.int .i64 q.length]] ⟨clo_eptr (fun c hc => by rw [List.mem_singleton.1 hc]; exact strs_clo _), clo_eptr (fun c hc => by rw [List.mem_singleton.1 hc]; exact clo_int), trivial⟩ (fun c hc => by
    simp only [List.mem_cons, List.not_mem_nil, or_false] at hc
    rcases hc with rfl | rfl
    · exact in_eptr.2 (fun c hc => by rw [List.mem_singleton.1 hc]; exact in_view.2 (strsE_in _))
    · exact in_eptr.2 (fun c hc => by rw [List.mem_singleton.1 hc]; exact in_int)) (delO s) q n t.cut (Shp.of h1) (fun m hm => remKF t q s m (getS_shp q n m (Shp.of h1) hm) (by omega))
  rw [chgS_del] at hch
  replace hch := hch.mono (fun r h => rNB_X h)
  have hcf : Clo (.fn 58 [.eptr .loose [.view t 1 (strsE q ++ [[.str s]])], .eptr .loose [.int .i64 q.length]]) := clo_fn (fun c hc => by
    simp only [List.mem_cons, List.not_mem_nil, or_false] at hc
    rcases hc with rfl | rfl
    · rw [← strs_snoc]; exact clo_eptr (fun c hc => by rw [List.mem_singleton.1 hc]; exact strs_clo _)
    · exact clo_eptr (fun c hc => by rw [List.mem_singleton.1 hc]; exact clo_int))
  unfold nodeA at hch
  rw [nodeL_eq n] at hch
  have hcp : Clo (.view t 1 (strsE q ++ [[.str s]])) := by rw [← strs_snoc]; exact strs_clo _
  rw [strs_snoc] at hch p2 ⊢
  have hw : IntKind.i64.wrap (q.length : Int) = (q.length : Int) := i64_nat (by omega) (by omega)
  have htk : (strsE q ++ [[AV.str s]]).take q.length = strsE q := by rw [List.take_append_of_le_length (by rw [strsE_len]; exact Nat.le_refl _), List.take_of_length_le (by rw [strsE_len]; exact Nat.le_refl _)]
  have hlt : q.length < q.length + 1 := by omega
  have hle : q.length ≤ q.length + 1 := by omega
  have hle' : (q.length : Int) ≤ (q.length : Int) + 1 := by omega
  have hlt' : (q.length : Int) < (q.length : Int) + 1 := by omega
  have hn0 : ¬ (q.length : Int) < 0 := by omega
  have hz : (((q.length : Int) + 1) == 0) = false := beq_false_of_ne (by omega)
  refine AW.bound (fun N hNb => ?_)
  (repeat (first | with_reducible refine AW.seq ?_ | ((first | refine arun_kn 4 rfl (fun C hC => ?_) | refine arunD_kn 4 rfl (fun C hC => ?_)); (repeat ((conv => whnf); simp [strsE_len, hw, hz])); refine hC _ ?_; clear hC C; simp only [List.drop, Nat.reduceAdd]) | ((first | refine arun_kn 1 rfl (fun C hC => ?_) | refine arunD_kn 1 rfl (fun C hC => ?_)); (repeat ((conv => whnf); simp [strsE_len, hw, hz])); refine hC _ ?_; clear hC C; simp only [List.drop, Nat.reduceAdd]) | (refine arun_skip ?_ ?_; (focus (simp [awant, strsE_len, hw, hz]; done))) | (refine arun_c0 (p1) ?_; rintro _ rfl) | (refine arun_c0 (p2) ?_; rintro _ rfl) | (refine AW.regionK [] (fun K hK => ?_)) | (refine AW.condT ?_ ?_; (focus (simp [aev, strsE_len, hw, hz]; done))) | (refine AW.condF ?_ ?_; (focus (simp [aev, strsE_len, hw, hz]; done))) | with_reducible refine AW.block ?_ | ((first | ((first | refine arun_nil ?_ | refine arunD_nil ?_); refine hK _ ?_; clear hK K) | refine AW.skip ?_ | refine AW.exit ?_ | refine AW.ret ?_); simp only [thenA_exit, inBlockA_exit, if_true, if_false, Nat.reduceEqDiff, thenA_normal, inBlockA_normal, reduceIte, thenA_ret, inBlockA_ret, endQ_ret, endR_ret, endG_ret, endQ_normal, endR_normal, endG_normal, endF_ret, endF_normal])))
  refine AW.holdBox 3 3 (r := ⟨true, 23, 1, [[.view t 1 (strsE q ++ [[.str s]])]]⟩) rfl (by simp [upd, rowsOf_cons]) rfl ?_
  unfold ASt.holdBox
  refine AW.holdBox 6 6 (r := ⟨true, 3, 1, [[.int .i64 q.length]]⟩) rfl (by simp [upd, rowsOf_cons]) rfl ?_
  unfold ASt.holdBox
  (repeat (first | with_reducible refine AW.seq ?_ | ((first | refine arun_kn 4 rfl (fun C hC => ?_) | refine arunD_kn 4 rfl (fun C hC => ?_)); (repeat ((conv => whnf); simp [strsE_len, hw, htk, hlt, hle, hle', hlt', hn0])); refine hC _ ?_; clear hC C; simp only [List.drop, Nat.reduceAdd]) | ((first | refine arun_kn 1 rfl (fun C hC => ?_) | refine arunD_kn 1 rfl (fun C hC => ?_)); (repeat ((conv => whnf); simp [strsE_len, hw, htk, hlt, hle, hle', hlt', hn0])); refine hC _ ?_; clear hC C; simp only [List.drop, Nat.reduceAdd]) | (refine arun_skip ?_ ?_; (focus (simp [awant, strsE_len, hw, htk, hlt, hle, hle', hlt', hn0]; done))) | (refine arun_cF (0) (hch) ?_; (rintro _ ⟨l, hl, hlp, rfl⟩ hA)) | (refine arunD_cF (0) (hch) (by exact rNBX_ex _ _ hNb) ?_; (rintro _ ⟨l, hl, hlp, rfl⟩ hA); intro _) | (refine AW.regionK [] (fun K hK => ?_)) | (refine AW.regionDK [] (pcs [(5, 0, fun r => rNBX ((remS n (q ++ [s])).getD Nd.zero) (remS n (q ++ [s])).isSome r ∧ ∀ b ∈ atB r, ¬ w0.A b)] []) (by kernel_rfl) (by kernel_rfl) (fun K hK => ?_)) | (refine AW.condT ?_ ?_; (focus (simp [aev, strsE_len, hw, htk, hlt, hle, hle', hlt', hn0]; done))) | (refine AW.condF ?_ ?_; (focus (simp [aev, strsE_len, hw, htk, hlt, hle, hle', hlt', hn0]; done))) | with_reducible refine AW.block ?_ | ((first | ((first | refine arun_nil ?_ | refine arunD_nil ?_); refine hK _ ?_; clear hK K) | refine AW.skip ?_ | refine AW.exit ?_ | refine AW.ret ?_); simp only [thenA_exit, inBlockA_exit, if_true, if_false, Nat.reduceEqDiff, thenA_normal, inBlockA_normal, reduceIte, thenA_ret, inBlockA_ret, endQ_ret, endR_ret, endG_ret, endQ_normal, endR_normal, endG_normal, endF_ret, endF_normal])))
  have hA' : ∀ b ∈ l.fp, ¬ w0.A b := fun b hb => hA b (by rw [at_tup, atL_cons, at_agg, ← labL_eq]; exact List.mem_append_left _ hb)
  exact ⟨.tup [labA l, .bool (remS n (q ++ [s])).isSome], by simp [labA, labL_eq, ares, aresL, upd, rowsOf_cons], tup2_pur (lab_pur l) pur_bool, fun b hb => by rw [at_tup2] at hb; exact hN.ge (hA' b hb), _, Wk.refl _, fun _ h => h, l, hl, hlp, rfl⟩
theorem specRemoveNode_AC (t : VC) (n : Nd) (p : List ByteArray) : AC Tryd.prog 50 [nodeA n, .view t 1 (strsE p)] 0 (fun r => r = optA (remO n p)) := by
  refine AC.weak ?_
  have p1 := validNode_AC n .loose
  have p2 := validPath_AC p t
  have hcn := node_clo n
  unfold nodeA at hcn ⊢
  rw [nodeL_eq n] at hcn ⊢
  cases h1 : validB n <;> rw [h1] at p1
  · have e : remO n p = none := by unfold remO; rw [h1]; rfl
    refine AC.of tab_ok mixed_ok Tryd.func50 (by rfl) (by kernel_rfl) ?_; rintro ⟨P, T, hT, hm, w0, S0, rd0, k0⟩ hP hTT; dsimp only at hP hTT; subst hP hTT; unfold initSt; rw [Tryd.ntmps50]
    (repeat (first | with_reducible refine AW.seq ?_ | ((first | refine arun_kn 4 rfl (fun C hC => ?_) | refine arunD_kn 4 rfl (fun C hC => ?_)); (repeat ((conv => whnf); simp)); refine hC _ ?_; clear hC C; simp only [List.drop, Nat.reduceAdd]) | ((first | refine arun_kn 1 rfl (fun C hC => ?_) | refine arunD_kn 1 rfl (fun C hC => ?_)); (repeat ((conv => whnf); simp)); refine hC _ ?_; clear hC C; simp only [List.drop, Nat.reduceAdd]) | (refine arun_skip ?_ ?_; (focus (simp [awant]; done))) | (refine arun_c0 (p1) ?_; rintro _ rfl) | (refine arun_c0 (p2) ?_; rintro _ rfl) | (refine AW.regionK [] (fun K hK => ?_)) | (refine AW.regionDK [] (pcs [] []) (by kernel_rfl) (by kernel_rfl) (fun K hK => ?_)) | (refine AW.condT ?_ ?_; (focus (simp [aev]; done))) | (refine AW.condF ?_ ?_; (focus (simp [aev]; done))) | with_reducible refine AW.block ?_ | ((first | ((first | refine arun_nil ?_ | refine arunD_nil ?_); refine hK _ ?_; clear hK K) | refine AW.skip ?_ | refine AW.exit ?_ | refine AW.ret ?_); simp only [thenA_exit, inBlockA_exit, if_true, if_false, Nat.reduceEqDiff, thenA_normal, inBlockA_normal, reduceIte, thenA_ret, inBlockA_ret, endQ_ret, endR_ret, endG_ret, endQ_normal, endR_normal, endG_normal, endF_ret, endF_normal])))
    exact ⟨.tup [node0 0 0 ⟨#[]⟩, .bool false], by simp [node0, ares, aresL, upd, rowsOf_cons], none_end.1, _, none_end.2, by rw [e]; rfl⟩
  cases h2 : pathB p <;> rw [h2] at p2
  · have e : remO n p = none := by unfold remO; rw [h1, h2]; rfl
    refine AC.of tab_ok mixed_ok Tryd.func50 (by rfl) (by kernel_rfl) ?_; rintro ⟨P, T, hT, hm, w0, S0, rd0, k0⟩ hP hTT; dsimp only at hP hTT; subst hP hTT; unfold initSt; rw [Tryd.ntmps50]
    (repeat (first | with_reducible refine AW.seq ?_ | ((first | refine arun_kn 4 rfl (fun C hC => ?_) | refine arunD_kn 4 rfl (fun C hC => ?_)); (repeat ((conv => whnf); simp)); refine hC _ ?_; clear hC C; simp only [List.drop, Nat.reduceAdd]) | ((first | refine arun_kn 1 rfl (fun C hC => ?_) | refine arunD_kn 1 rfl (fun C hC => ?_)); (repeat ((conv => whnf); simp)); refine hC _ ?_; clear hC C; simp only [List.drop, Nat.reduceAdd]) | (refine arun_skip ?_ ?_; (focus (simp [awant]; done))) | (refine arun_c0 (p1) ?_; rintro _ rfl) | (refine arun_c0 (p2) ?_; rintro _ rfl) | (refine AW.regionK [] (fun K hK => ?_)) | (refine AW.regionDK [] (pcs [] []) (by kernel_rfl) (by kernel_rfl) (fun K hK => ?_)) | (refine AW.condT ?_ ?_; (focus (simp [aev]; done))) | (refine AW.condF ?_ ?_; (focus (simp [aev]; done))) | with_reducible refine AW.block ?_ | ((first | ((first | refine arun_nil ?_ | refine arunD_nil ?_); refine hK _ ?_; clear hK K) | refine AW.skip ?_ | refine AW.exit ?_ | refine AW.ret ?_); simp only [thenA_exit, inBlockA_exit, if_true, if_false, Nat.reduceEqDiff, thenA_normal, inBlockA_normal, reduceIte, thenA_ret, inBlockA_ret, endQ_ret, endR_ret, endG_ret, endQ_normal, endR_normal, endG_normal, endF_ret, endF_normal])))
    exact ⟨.tup [node0 0 0 ⟨#[]⟩, .bool false], by simp [node0, ares, aresL, upd, rowsOf_cons], none_end.1, _, none_end.2, by rw [e]; rfl⟩
  have e : remO n p = (if (remS n p).isSome then ckN ((remS n p).getD Nd.zero) else none) := by
    unfold remO; rw [h1, h2]
    cases remS n p <;> rfl
  have hpl : p.length ≤ 1000 := by unfold pathB at h2; simp at h2; omega
  have p4 := removeAt_AC n p t (Shp.of h1) hpl
  have p5 := specChk ((remS n p).getD Nd.zero) (remS n p).isSome
  have hcm := node_clo ((remS n p).getD Nd.zero)
  rw [← e, optA_eq (remO n p)] at p5
  rw [optA_eq] at p4
  unfold optL at p4
  generalize remO n p = o at *
  generalize (remS n p).isSome = b at *
  generalize (remS n p).getD Nd.zero = m at *
  unfold nodeA at p4 p5 hcm
  rw [nodeL_eq n] at p4
  rw [nodeL_eq m] at p5 hcm
  refine AC.of tab_ok mixed_ok Tryd.func50 (by rfl) (by kernel_rfl) ?_; rintro ⟨P, T, hT, hm, w0, S0, rd0, k0⟩ hP hTT; dsimp only at hP hTT; subst hP hTT; unfold initSt; rw [Tryd.ntmps50]
  (repeat (first | with_reducible refine AW.seq ?_ | ((first | refine arun_kn 4 rfl (fun C hC => ?_) | refine arunD_kn 4 rfl (fun C hC => ?_)); (repeat ((conv => whnf); simp [optL])); refine hC _ ?_; clear hC C; simp only [List.drop, Nat.reduceAdd]) | ((first | refine arun_kn 1 rfl (fun C hC => ?_) | refine arunD_kn 1 rfl (fun C hC => ?_)); (repeat ((conv => whnf); simp [optL])); refine hC _ ?_; clear hC C; simp only [List.drop, Nat.reduceAdd]) | (refine arun_skip ?_ ?_; (focus (simp [awant, optL]; done))) | (refine arun_c0 (p1) ?_; rintro _ rfl) | (refine arun_c0 (p2) ?_; rintro _ rfl) | (refine arun_c0 (p4) ?_; rintro _ rfl) | (refine arun_c0 (p5) ?_; rintro _ rfl) | (refine AW.regionK [] (fun K hK => ?_)) | (refine AW.regionDK [] (pcs [] []) (by kernel_rfl) (by kernel_rfl) (fun K hK => ?_)) | (refine AW.condT ?_ ?_; (focus (simp [aev, optL]; done))) | (refine AW.condF ?_ ?_; (focus (simp [aev, optL]; done))) | with_reducible refine AW.block ?_ | ((first | ((first | refine arun_nil ?_ | refine arunD_nil ?_); refine hK _ ?_; clear hK K) | refine AW.skip ?_ | refine AW.exit ?_ | refine AW.ret ?_); simp only [thenA_exit, inBlockA_exit, if_true, if_false, Nat.reduceEqDiff, thenA_normal, inBlockA_normal, reduceIte, thenA_ret, inBlockA_ret, endQ_ret, endR_ret, endG_ret, endQ_normal, endR_normal, endG_normal, endF_ret, endF_normal])))
  exact ⟨optA o, by rw [optA_eq]; simp [optL, ares, aresL, upd, rowsOf_cons], optA_pur _, _, Wk.refl _, rfl⟩
end Go.Proofs.YtfjaobfaepjfnaaDoor.Eng
namespace Go.Proofs.YtfjaobfaepjfnaaDoor
open Go.RowKit
def remN (n : Nd) (p : List ByteArray) : Nd := (Eng.remO n p).getD Nd.zero
def remB (n : Nd) (p : List ByteArray) : Bool := (Eng.remO n p).isSome
theorem implRemoveNode_ok (n : Nd) (p : List ByteArray) (v u : Value) (w : World) (h : RV nodeRep packA w any n v) (k : RV strsRep packO w any p u) :
    Calls Tryd.prog 17 #[v, u] w fun e w' => ∃ r fp, e = .returned (.tuple #[r, .bool (remB n p)]) ∧ Grow w w' ∧ FV nodeRep packA w' (remN n p) r fp ∧ Free w.heap.size w' fp :=
  Eng.acf_nb (Eng.RemoveNode_ACF .loose n p) w [v, u] (Eng.args2 (Eng.arg_node h) (Eng.arg_strs k))
theorem specRemoveNode_ok (n : Nd) (p : List ByteArray) (v u : Value) (w : World) (h : RV nodeRep packA w any n v) (k : RV strsRep packO w any p u) :
    Calls Tryd.prog 50 #[v, u] w fun e w' => ∃ r, e = .returned (.tuple #[r, .bool (remB n p)]) ∧ Grow w w' ∧ RV nodeRep packA w' any (remN n p) r :=
  Eng.ac_nb ((Eng.specRemoveNode_AC .loose n p).mono (fun r hr => hr)) w [v, u] (Eng.args2 (Eng.arg_node h) (Eng.arg_strs k))
end Go.Proofs.YtfjaobfaepjfnaaDoor
namespace Go.Proofs.YtfjaobfaepjfnaaDoor
open Go.RowKit
theorem costL_sub {l m : List Nd} (h : l.Sublist m) : costL l ≤ costL m := by
  induction h with
  | slnil => exact Nat.le_refl _
  | cons a _ ih => rw [costL]; omega
  | cons_cons a _ ih => rw [costL, costL]; omega
theorem costS_sub {l m : List ByteArray} (h : l.Sublist m) : costS l ≤ costS m := by
  unfold costS
  have h1 := h.length_le
  have h2 : (l.map (·.size)).sum ≤ (m.map (·.size)).sum := by
    clear h1
    induction h with
    | slnil => exact Nat.le_refl _
    | cons a _ ih => simp only [List.map_cons, List.sum_cons]; omega
    | cons_cons a _ ih => simp only [List.map_cons, List.sum_cons]; omega
  omega
theorem costL_set : ∀ (l : List Nd) (k : Nat) (y : Nd) (c : Nat) (hk : k < l.length), costN y ≤ costN l[k] + c → costL (l.set k y) ≤ costL l + c
  | [], _, _, _, hk, _ => by cases hk
  | a :: l, 0, y, c, _, h => by rw [List.set_cons_zero, costL, costL]; simp at h; omega
  | a :: l, k + 1, y, c, hk, h => by
    rw [List.set_cons_succ, costL, costL]
    have := costL_set l k y c (by simpa using hk) (by simpa using h)
    omega
theorem setS_cost (x : Nd) (c : Nat) : ∀ (p : List ByteArray) (n r : Nd), (∀ m, Eng.getS n p = some m → costN x ≤ costN m + c) → Eng.setS n p x = some r → costN r ≤ costN n + c
  | [], n, r, h, hr => by
    rw [Eng.setS] at hr; cases hr
    exact h n rfl
  | s :: p, n, r, h, hr => by
    rcases Eng.placeI_cases n s with ⟨h1, _⟩ | ⟨k, h1, h2, _⟩
    · rw [Eng.setS_no p h1] at hr; cases hr
    · rw [Eng.setS_yes p h1 h2] at hr
      obtain ⟨y, hy, rfl⟩ := Option.map_eq_some_iff.1 hr
      have := setS_cost x c p _ y (fun m hm => h m (by rw [Eng.getS_yes p h1 h2]; exact hm)) hy
      have := costL_set n.kids k y c h1 this
      rw [costN_eq, costN_eq n]
      show n.text.size + costS n.names + costL (n.kids.set k y) ≤ _
      omega
theorem delK_cost (m : Nd) (k : Nat) : costN (Eng.delK m k) ≤ costN m := by
  rw [costN_eq, costN_eq m]
  have h1 := costL_sub (Eng.tdSub m.kids k)
  have h2 := costS_sub (Eng.tdSub m.names k)
  have h3 : costS (Eng.delK m k).names ≤ costS m.names := by
    unfold Eng.delK
    dsimp only
    split
    · exact h2
    · exact Nat.zero_le _
  have h4 : (Eng.delK m k).text.size = 0 := rfl
  have h5 : costL (Eng.delK m k).kids ≤ costL m.kids := h1
  omega
theorem remN_cnt (n : Nd) (p : List ByteArray) : cntT (remN n p) ≤ 3 * costN n := by
  unfold remN
  cases h : Eng.remO n p with
  | none => simp only [Option.getD_none]; rw [cntT_zero]; omega
  | some r =>
    simp only [Option.getD_some]
    have h1 := cntT_le r
    have h2 : costN r ≤ costN n := by
      unfold Eng.remO at h
      split at h
      · obtain ⟨r', h, h'⟩ := Option.bind_eq_some_iff.1 h
        unfold Eng.ckN at h'
        split at h'
        · cases h'
          rcases Eng.snoc_cases p with rfl | ⟨q, s, rfl⟩
          · unfold Eng.remS at h; cases h
          · rw [Eng.remS_snoc] at h
            obtain ⟨m, hm, h⟩ := Option.bind_eq_some_iff.1 h
            split at h
            · have := setS_cost _ 0 q n r (fun m' hm' => by rw [hm] at hm'; cases hm'; exact delK_cost _ _) h
              omega
            · cases h
        · cases h'
      · cases h
    omega
end Go.Proofs.YtfjaobfaepjfnaaDoor
namespace Go.Proofs.YtfjaobfaepjfnaaDoor
open Go.RowKit
theorem lawRem_big (n : Nd) (p : List ByteArray) (v0 : Value) (v1 : Value) (w : World) (h0 : RV nodeRep packA w any n v0) (h1 : RV strsRep packO w any p v1) (hbig : ¬ costN n + costS p ≤ 1048576) :
    Calls Tryd.prog 12 #[v0, v1] w fun e w' => e = .returned (.bool true) ∧ Grow w w' := by
  have HV0 := Lib.hid h0
  have HV1 := Lib.hid h1
  obtain ⟨na0, nc0, ka0, kc0, rfl⟩ := openV_node h0
  clear h0 h1
  unfold nodeV at *
  by_cases c0 : (costN n : Int) ≤ 1048576
  rotate_left
  ·
    have Hs0 := Lib.hid (szR_neg (c := costN n) (left := 1048576) (by omega))
    clear c0 hbig
    have HB0 := Lib.hid (BoxN.new w [.int .i64 n.kind, .int .i64 n.num, .string n.text, .slice na0 n.names.length nc0, .slice ka0 n.kids.length kc0] 44)
    go_enter Tryd.func12, Tryd.ntmps12
    go_wp2_with fail
    refine (uSzN n _ _ _ (by omega) (by omega) (HV0.out.grow (by repeat (first | with_reducible exact Ext.refl _ _ | with_reducible refine Ext.trans ?_ (by assumption) | with_reducible refine Ext.drew ?_ | with_reducible refine Ext.drewN ?_ _ | with_reducible refine Ext.alloc ?_ _ | with_reducible refine Ext.setNew ?_ (by simp; done) _ | with_reducible refine Ext.setNew ?_ (by simp; omega) _)))).mono ?_
    rintro e w1 ⟨rfl, hg1⟩
    simp only [Hs0.out]
    have z1 := hg1.size
    try simp only [World.size_alloc] at z1
    go_wp2_with fail
    go_ret
    exact ⟨by simp, (by repeat (first | with_reducible exact Ext.refl _ _ | with_reducible refine Ext.trans ?_ (by assumption) | with_reducible refine Ext.drew ?_ | with_reducible refine Ext.drewN ?_ _ | with_reducible refine Ext.alloc ?_ _ | with_reducible refine Ext.setNew ?_ (by simp; done) _ | with_reducible refine Ext.setNew ?_ (by simp; omega) _))⟩
  have Hs0 := Lib.hid (szR_pos (c := costN n) (left := 1048576) (by omega))
  by_cases c1 : (costS p : Int) ≤ 1048576 - costN n
  rotate_left
  ·
    have Hs1 := Lib.hid (szR_neg (c := costS p) (left := 1048576 - costN n) (by omega))
    clear c1 hbig
    have HB0 := Lib.hid (BoxN.new w [.int .i64 n.kind, .int .i64 n.num, .string n.text, .slice na0 n.names.length nc0, .slice ka0 n.kids.length kc0] 44)
    go_enter Tryd.func12, Tryd.ntmps12
    go_wp2_with fail
    refine (uSzN n _ _ _ (by omega) (by omega) (HV0.out.grow (by repeat (first | with_reducible exact Ext.refl _ _ | with_reducible refine Ext.trans ?_ (by assumption) | with_reducible refine Ext.drew ?_ | with_reducible refine Ext.drewN ?_ _ | with_reducible refine Ext.alloc ?_ _ | with_reducible refine Ext.setNew ?_ (by simp; done) _ | with_reducible refine Ext.setNew ?_ (by simp; omega) _)))).mono ?_
    rintro e w1 ⟨rfl, hg1⟩
    simp only [Hs0.out]
    have z1 := hg1.size
    try simp only [World.size_alloc] at z1
    go_wp2_with fail
    refine (uSzS p _ _ _ (by omega) (by omega) (HV1.out.grow (by repeat (first | with_reducible exact Ext.refl _ _ | with_reducible refine Ext.trans ?_ (by assumption) | with_reducible refine Ext.drew ?_ | with_reducible refine Ext.drewN ?_ _ | with_reducible refine Ext.alloc ?_ _ | with_reducible refine Ext.setNew ?_ (by simp; done) _ | with_reducible refine Ext.setNew ?_ (by simp; omega) _)))).mono ?_
    rintro e w2 ⟨rfl, hg2⟩
    simp only [Hs1.out]
    have z2 := hg2.size
    try simp only [World.size_alloc] at z2
    go_wp2_with fail
    go_ret
    exact ⟨by simp, (by repeat (first | with_reducible exact Ext.refl _ _ | with_reducible refine Ext.trans ?_ (by assumption) | with_reducible refine Ext.drew ?_ | with_reducible refine Ext.drewN ?_ _ | with_reducible refine Ext.alloc ?_ _ | with_reducible refine Ext.setNew ?_ (by simp; done) _ | with_reducible refine Ext.setNew ?_ (by simp; omega) _))⟩
  have Hs1 := Lib.hid (szR_pos (c := costS p) (left := 1048576 - costN n) (by omega))
  omega
theorem lawRem_main (n : Nd) (p : List ByteArray) (v0 : Value) (v1 : Value) (w : World) (h0 : RV nodeRep packA w any n v0) (h1 : RV strsRep packO w any p v1) (hcost : costN n + costS p ≤ 1048576) :
    Calls Tryd.prog 12 #[v0, v1] w fun e w' => e = .returned (.bool true) ∧ Grow w w' := by
  have HV0 := Lib.hid h0
  have HV1 := Lib.hid h1
  obtain ⟨na0, nc0, ka0, kc0, rfl⟩ := openV_node h0
  clear h0 h1
  unfold nodeV at *
  have Hs0 := Lib.hid (szR_pos (c := costN n) (left := 1048576) (by omega))
  have Hs1 := Lib.hid (szR_pos (c := costS p) (left := 1048576 - costN n) (by omega))
  have C0 : Hid (costN n ≤ 1048576) := Lib.hid (by omega)
  have C1 : Hid (costS p ≤ 1048576) := Lib.hid (by omega)
  have HB0 := Lib.hid (BoxN.new w [.int .i64 n.kind, .int .i64 n.num, .string n.text, .slice na0 n.names.length nc0, .slice ka0 n.kids.length kc0] 44)
  go_enter Tryd.func12, Tryd.ntmps12
  go_wp2_with fail
  refine (uSzN n _ _ _ (by omega) (by omega) (HV0.out.grow (by repeat (first | with_reducible exact Ext.refl _ _ | with_reducible refine Ext.trans ?_ (by assumption) | with_reducible refine Ext.drew ?_ | with_reducible refine Ext.drewN ?_ _ | with_reducible refine Ext.alloc ?_ _ | with_reducible refine Ext.setNew ?_ (by simp; done) _ | with_reducible refine Ext.setNew ?_ (by simp; omega) _)))).mono ?_
  rintro e w1 ⟨rfl, hg1⟩
  simp only [Hs0.out]
  have z1 := hg1.size
  try simp only [World.size_alloc] at z1
  go_wp2_with fail
  refine (uSzS p _ _ _ (by omega) (by omega) (HV1.out.grow (by repeat (first | with_reducible exact Ext.refl _ _ | with_reducible refine Ext.trans ?_ (by assumption) | with_reducible refine Ext.drew ?_ | with_reducible refine Ext.drewN ?_ _ | with_reducible refine Ext.alloc ?_ _ | with_reducible refine Ext.setNew ?_ (by simp; done) _ | with_reducible refine Ext.setNew ?_ (by simp; omega) _)))).mono ?_
  rintro e w2 ⟨rfl, hg2⟩
  simp only [Hs1.out]
  have z2 := hg2.size
  try simp only [World.size_alloc] at z2
  have pB := HB0.out.grow (w' := w2) (by repeat (first | with_reducible exact Ext.refl _ _ | with_reducible refine Ext.trans ?_ (by assumption) | with_reducible refine Ext.drew ?_ | with_reducible refine Ext.drewN ?_ _ | with_reducible refine Ext.alloc ?_ _ | with_reducible refine Ext.setNew ?_ (by simp; done) _ | with_reducible refine Ext.setNew ?_ (by simp; omega) _))
  have p0 := pB.cell 0 _ rfl; have p1 := pB.cell 1 _ rfl; have p2 := pB.cell 2 _ rfl; have p3 := pB.cell 3 _ rfl; have p4 := pB.cell 4 _ rfl
  go_wp2_with fail
  refine (uToN n _ _ C0.out (HV0.out.grow (by repeat (first | with_reducible exact Ext.refl _ _ | with_reducible refine Ext.trans ?_ (by assumption) | with_reducible refine Ext.drew ?_ | with_reducible refine Ext.drewN ?_ _ | with_reducible refine Ext.alloc ?_ _ | with_reducible refine Ext.setNew ?_ (by simp; done) _ | with_reducible refine Ext.setNew ?_ (by simp; omega) _)))).mono ?_
  rintro e w3 ⟨us0, fs0, rfl, hg3, hF, hfr⟩
  have z3 := hg3.size
  try simp only [World.size_alloc] at z3
  have RUs0 := Lib.hid hF.rv
  clear hF hfr p0 p1 p2 p3 p4 pB
  go_wp2_with fail
  refine (uToS p _ _ C1.out (HV1.out.grow (by repeat (first | with_reducible exact Ext.refl _ _ | with_reducible refine Ext.trans ?_ (by assumption) | with_reducible refine Ext.drew ?_ | with_reducible refine Ext.drewN ?_ _ | with_reducible refine Ext.alloc ?_ _ | with_reducible refine Ext.setNew ?_ (by simp; done) _ | with_reducible refine Ext.setNew ?_ (by simp; omega) _)))).mono ?_
  rintro e w4 ⟨us1, fs1, rfl, hg4, hF, hfr⟩
  have z4 := hg4.size
  try simp only [World.size_alloc] at z4
  have RUs1 := Lib.hid hF.rv
  clear hF hfr
  go_wp2_with fail
  refine (specRemoveNode_ok n p _ _ _  (RUs0.out.grow (by repeat (first | with_reducible exact Ext.refl _ _ | with_reducible refine Ext.trans ?_ (by assumption) | with_reducible refine Ext.drew ?_ | with_reducible refine Ext.drewN ?_ _ | with_reducible refine Ext.alloc ?_ _ | with_reducible refine Ext.setNew ?_ (by simp; done) _ | with_reducible refine Ext.setNew ?_ (by simp; omega) _))) (RUs1.out.grow (by repeat (first | with_reducible exact Ext.refl _ _ | with_reducible refine Ext.trans ?_ (by assumption) | with_reducible refine Ext.drew ?_ | with_reducible refine Ext.drewN ?_ _ | with_reducible refine Ext.alloc ?_ _ | with_reducible refine Ext.setNew ?_ (by simp; done) _ | with_reducible refine Ext.setNew ?_ (by simp; omega) _)))).mono ?_
  rintro e w5 ⟨rs, rfl, hg5, hR⟩
  have z5 := hg5.size
  try simp only [World.size_alloc] at z5
  clear RUs0 RUs1
  have RW := Lib.hid hR.under
  obtain ⟨nas, ncs, kas, kcs, rfl⟩ := openV_node hR
  unfold nodeV
  clear hR
  have HBs := Lib.hid (BoxN.new w5 [.int .i64 (remN n p).kind, .int .i64 (remN n p).num, .string (remN n p).text, .slice nas (remN n p).names.length ncs, .slice kas (remN n p).kids.length kcs] 26)
  have ys : w5.heap.size ≤ w5.heap.size := Nat.le_refl _
  have hpB := HB0.out.grow (w' := w5) (by repeat (first | with_reducible exact Ext.refl _ _ | with_reducible refine Ext.trans ?_ (by assumption) | with_reducible refine Ext.drew ?_ | with_reducible refine Ext.drewN ?_ _ | with_reducible refine Ext.alloc ?_ _ | with_reducible refine Ext.setNew ?_ (by simp; done) _ | with_reducible refine Ext.setNew ?_ (by simp; omega) _))
  have p0 := hpB.cell 0 _ rfl; have p1 := hpB.cell 1 _ rfl; have p2 := hpB.cell 2 _ rfl; have p3 := hpB.cell 3 _ rfl; have p4 := hpB.cell 4 _ rfl; have pz := hpB.lt
  go_wp2_with fail
  refine (uToN n _ _ C0.out (HV0.out.grow (by repeat (first | with_reducible exact Ext.refl _ _ | with_reducible refine Ext.trans ?_ (by assumption) | with_reducible refine Ext.drew ?_ | with_reducible refine Ext.drewN ?_ _ | with_reducible refine Ext.alloc ?_ _ | with_reducible refine Ext.setNew ?_ (by simp; done) _ | with_reducible refine Ext.setNew ?_ (by simp; omega) _)))).mono ?_
  rintro e w6 ⟨y0, f0, rfl, hg6, hF, hfr⟩
  have z6 := hg6.size
  try simp only [World.size_alloc] at z6
  try simp only [World.size_alloc] at hfr
  have F0 := Lib.hid hF
  have S0 := Lib.hid (Seg.of hfr)
  obtain ⟨nax0, ncx0, kax0, kcx0, rfl⟩ := openV_node hF.rv
  unfold nodeV at *
  clear hF hfr p0 p1 p2 p3 p4 hpB pz
  have HBx0 := Lib.hid (BoxN.new w6 [.int .i64 n.kind, .int .i64 n.num, .string n.text, .slice nax0 n.names.length ncx0, .slice kax0 n.kids.length kcx0] 26)
  go_wp2_with fail
  refine (uToS p _ _ C1.out (HV1.out.grow (by repeat (first | with_reducible exact Ext.refl _ _ | with_reducible refine Ext.trans ?_ (by assumption) | with_reducible refine Ext.drew ?_ | with_reducible refine Ext.drewN ?_ _ | with_reducible refine Ext.alloc ?_ _ | with_reducible refine Ext.setNew ?_ (by simp; done) _ | with_reducible refine Ext.setNew ?_ (by simp; omega) _)))).mono ?_
  rintro e w7 ⟨y1, f1, rfl, hg7, hF, hfr⟩
  have z7 := hg7.size
  try simp only [World.size_alloc] at z7
  try simp only [World.size_alloc] at hfr
  have F1 := Lib.hid hF
  have S1 := Lib.hid (Seg.of hfr)
  clear hF hfr
  have pB0 := HBx0.out.grow (w' := w7) (by repeat (first | with_reducible exact Ext.refl _ _ | with_reducible refine Ext.trans ?_ (by assumption) | with_reducible refine Ext.drew ?_ | with_reducible refine Ext.drewN ?_ _ | with_reducible refine Ext.alloc ?_ _ | with_reducible refine Ext.setNew ?_ (by simp; done) _ | with_reducible refine Ext.setNew ?_ (by simp; omega) _))
  have p0 := pB0.cell 0 _ rfl; have p1 := pB0.cell 1 _ rfl; have p2 := pB0.cell 2 _ rfl; have p3 := pB0.cell 3 _ rfl; have p4 := pB0.cell 4 _ rfl; have pz := pB0.lt
  go_wp2_with fail
  refine (implRemoveNode_ok n p _ _ _  (F0.out.rv.grow (by repeat (first | with_reducible exact Ext.refl _ _ | with_reducible refine Ext.trans ?_ (by assumption) | with_reducible refine Ext.drew ?_ | with_reducible refine Ext.drewN ?_ _ | with_reducible refine Ext.alloc ?_ _ | with_reducible refine Ext.setNew ?_ (by simp; done) _ | with_reducible refine Ext.setNew ?_ (by simp; omega) _))) (F1.out.rv.grow (by repeat (first | with_reducible exact Ext.refl _ _ | with_reducible refine Ext.trans ?_ (by assumption) | with_reducible refine Ext.drew ?_ | with_reducible refine Ext.drewN ?_ _ | with_reducible refine Ext.alloc ?_ _ | with_reducible refine Ext.setNew ?_ (by simp; done) _ | with_reducible refine Ext.setNew ?_ (by simp; omega) _)))).mono ?_
  rintro e w8 ⟨rg, fg, rfl, hg8, hF, hfr⟩
  have z8 := hg8.size
  try simp only [World.size_alloc] at z8
  try simp only [World.size_alloc] at hfr
  have FG := Lib.hid hF
  have SG := Lib.hid (Seg.of hfr)
  obtain ⟨nag, ncg, kag, kcg, rfl⟩ := openV_node hF.rv
  unfold nodeV at *
  have HBg := Lib.hid (BoxN.new w8 [.int .i64 (remN n p).kind, .int .i64 (remN n p).num, .string (remN n p).text, .slice nag (remN n p).names.length ncg, .slice kag (remN n p).kids.length kcg] 26)
  clear hF hfr
  clear p0 p1 p2 p3 p4 pB0 pz
  have tB := HBs.out.grow (w' := w8) (by repeat (first | with_reducible exact Ext.refl _ _ | with_reducible refine Ext.trans ?_ (by assumption) | with_reducible refine Ext.drew ?_ | with_reducible refine Ext.drewN ?_ _ | with_reducible refine Ext.alloc ?_ _ | with_reducible refine Ext.setNew ?_ (by simp; done) _ | with_reducible refine Ext.setNew ?_ (by simp; omega) _))
  have t0 := tB.cell 0 _ rfl; have t1 := tB.cell 1 _ rfl; have t2 := tB.cell 2 _ rfl; have t3 := tB.cell 3 _ rfl; have t4 := tB.cell 4 _ rfl; have tz := tB.lt
  go_wp2_with fail
  refine (uEqN ((remN n p)) _ _ _ (FG.out.rv.grow (by repeat (first | with_reducible exact Ext.refl _ _ | with_reducible refine Ext.trans ?_ (by assumption) | with_reducible refine Ext.drew ?_ | with_reducible refine Ext.drewN ?_ _ | with_reducible refine Ext.alloc ?_ _ | with_reducible refine Ext.setNew ?_ (by simp; done) _ | with_reducible refine Ext.setNew ?_ (by simp; omega) _))) (RW.out.any.grow (by repeat (first | with_reducible exact Ext.refl _ _ | with_reducible refine Ext.trans ?_ (by assumption) | with_reducible refine Ext.drew ?_ | with_reducible refine Ext.drewN ?_ _ | with_reducible refine Ext.alloc ?_ _ | with_reducible refine Ext.setNew ?_ (by simp; done) _ | with_reducible refine Ext.setNew ?_ (by simp; omega) _)))).mono ?_
  rintro e w9 ⟨rfl, hg9⟩
  have z9 := hg9.size
  try simp only [World.size_alloc] at z9
  clear t0 t1 t2 t3 t4 tB tz
  go_wp2_with fail
  have pB := HBx0.out.grow (w' := w9) (by repeat (first | with_reducible exact Ext.refl _ _ | with_reducible refine Ext.trans ?_ (by assumption) | with_reducible refine Ext.drew ?_ | with_reducible refine Ext.drewN ?_ _ | with_reducible refine Ext.alloc ?_ _ | with_reducible refine Ext.setNew ?_ (by simp; done) _ | with_reducible refine Ext.setNew ?_ (by simp; omega) _))
  have p0 := pB.cell 0 _ rfl; have p1 := pB.cell 1 _ rfl; have p2 := pB.cell 2 _ rfl; have p3 := pB.cell 3 _ rfl; have p4 := pB.cell 4 _ rfl
  have qB := HB0.out.grow (w' := w9) (by repeat (first | with_reducible exact Ext.refl _ _ | with_reducible refine Ext.trans ?_ (by assumption) | with_reducible refine Ext.drew ?_ | with_reducible refine Ext.drewN ?_ _ | with_reducible refine Ext.alloc ?_ _ | with_reducible refine Ext.setNew ?_ (by simp; done) _ | with_reducible refine Ext.setNew ?_ (by simp; omega) _))
  have q0 := qB.cell 0 _ rfl; have q1 := qB.cell 1 _ rfl; have q2 := qB.cell 2 _ rfl; have q3 := qB.cell 3 _ rfl; have q4 := qB.cell 4 _ rfl
  refine wp_region_stab Grow (fun i => if i = 2 then some (fun v w' => RV nodeRep packA w' any n v) else if i = 3 then some (fun v _ => v = .bool true) else none) (by kernel_rfl) (by kernel_rfl) ⟨Ext.refl nil, fun _ _ h1 h2 => h2.trans h1, ?_⟩ ?_
  · intro i V hV v w1 w2 hr hv
    by_cases h1 : i = 2
    · simp only [h1, if_true, Option.some.injEq] at hV; subst hV; exact RV.grow hv hr
    · by_cases h3 : i = 3
      · simp [h3] at hV; subst hV; exact hv
      · simp [h1, h3] at hV
  (refine wpStab_quiet (by kernel_rfl) (by kernel_rfl) (by simp) ?_; intro K hK; go_big_quiet_op; go_big_quiet_on)
  (refine wpStab_quiet (by kernel_rfl) (by kernel_rfl) (by simp) ?_; intro K hK; go_big_quiet_op; go_big_quiet_on)
  refine wpStab_made (fun v w' => RV nodeRep packA w' any n v) ?_ ?_ ?_ ?_
  · go_simp
  · simp
  · intro y _
    refine stabAt_call (f := 23) (args := #[.agg #[.int .i64 n.kind, .int .i64 n.num, .string n.text, .slice na0 n.names.length nc0, .slice ka0 n.kids.length kc0]]) ?_ ?_
    · go_simp
    · refine (uToN n _ _ C0.out (HV0.out.grow (((by repeat (first | with_reducible exact Ext.refl _ _ | with_reducible refine Ext.trans ?_ (by assumption) | with_reducible refine Ext.drew ?_ | with_reducible refine Ext.drewN ?_ _ | with_reducible refine Ext.alloc ?_ _ | with_reducible refine Ext.setNew ?_ (by simp; done) _ | with_reducible refine Ext.setNew ?_ (by simp; omega) _)) : Grow w w9).trans (later_grow _ _)))).mono ?_
      rintro e w' ⟨v', fp, rfl, hg, hF, _⟩
      exact ⟨_, rfl, hg, hF.rv⟩
  intro vt
  go_frame
  refine wpStab_const (.bool true) ?_ ?_ ?_ ?_
  · go_simp
  · simp
  · intro y hE
    have Hr6 : RV nodeRep packA (later w9 y) any n vt := (hE ⟨2, .data⟩ (by simp) (by decide)).2 rfl
    clear hE
    refine stabAt_call (f := 26) (args := #[.agg #[.int .i64 n.kind, .int .i64 n.num, .string n.text, .slice nax0 n.names.length ncx0, .slice kax0 n.kids.length kcx0], vt]) ?_ ?_
    · go_simp
    · refine (uEqN n _ _ _ (F0.out.rv.grow (((by repeat (first | with_reducible exact Ext.refl _ _ | with_reducible refine Ext.trans ?_ (by assumption) | with_reducible refine Ext.drew ?_ | with_reducible refine Ext.drewN ?_ _ | with_reducible refine Ext.alloc ?_ _ | with_reducible refine Ext.setNew ?_ (by simp; done) _ | with_reducible refine Ext.setNew ?_ (by simp; omega) _)) : Grow _ w9).trans (later_grow _ _))) Hr6).mono ?_
      rintro e w' ⟨rfl, hg⟩
      exact ⟨_, rfl, hg, rfl⟩
  go_frame
  (refine wpStab_quiet (by kernel_rfl) (by kernel_rfl) (by simp) ?_; intro K hK; go_big_quiet_op; go_big_quiet_on)
  refine wpStab_end ?_
  intro w10 hg10
  clear p0 p1 p2 p3 p4 pB q0 q1 q2 q3 q4 qB
  have z10 := hg10.size
  go_wp2_with fail
  refine (uToS p _ _ C1.out (HV1.out.grow (by repeat (first | with_reducible exact Ext.refl _ _ | with_reducible refine Ext.trans ?_ (by assumption) | with_reducible refine Ext.drew ?_ | with_reducible refine Ext.drewN ?_ _ | with_reducible refine Ext.alloc ?_ _ | with_reducible refine Ext.setNew ?_ (by simp; done) _ | with_reducible refine Ext.setNew ?_ (by simp; omega) _)))).mono ?_
  rintro e w11 ⟨ue, fe, rfl, hg11, hF, hfr⟩
  have z11 := hg11.size
  try simp only [World.size_alloc] at z11
  have RE := Lib.hid hF.rv
  clear hF hfr
  go_wp2_with fail
  refine (uEqS p _ _ _ (F1.out.rv.grow (by repeat (first | with_reducible exact Ext.refl _ _ | with_reducible refine Ext.trans ?_ (by assumption) | with_reducible refine Ext.drew ?_ | with_reducible refine Ext.drewN ?_ _ | with_reducible refine Ext.alloc ?_ _ | with_reducible refine Ext.setNew ?_ (by simp; done) _ | with_reducible refine Ext.setNew ?_ (by simp; omega) _))) RE.out).mono ?_
  rintro e w12 ⟨rfl, hg12⟩
  have z12 := hg12.size
  try simp only [World.size_alloc] at z12
  clear RE
  replace F0 := Lib.hid (F0.out.grow S0.out (w' := w12) (by repeat (first | with_reducible exact Ext.refl _ _ | with_reducible refine Ext.trans ?_ (by assumption) | with_reducible refine Ext.drew ?_ | with_reducible refine Ext.drewN ?_ _ | with_reducible refine Ext.alloc ?_ _ | with_reducible refine Ext.setNew ?_ (by simp; done) _ | with_reducible refine Ext.setNew ?_ (by simp; omega) _)))
  replace S0 := Lib.hid (S0.out.grow (w' := w12) (by repeat (first | with_reducible exact Ext.refl _ _ | with_reducible refine Ext.trans ?_ (by assumption) | with_reducible refine Ext.drew ?_ | with_reducible refine Ext.drewN ?_ _ | with_reducible refine Ext.alloc ?_ _ | with_reducible refine Ext.setNew ?_ (by simp; done) _ | with_reducible refine Ext.setNew ?_ (by simp; omega) _)))
  replace F1 := Lib.hid (F1.out.grow S1.out (w' := w12) (by repeat (first | with_reducible exact Ext.refl _ _ | with_reducible refine Ext.trans ?_ (by assumption) | with_reducible refine Ext.drew ?_ | with_reducible refine Ext.drewN ?_ _ | with_reducible refine Ext.alloc ?_ _ | with_reducible refine Ext.setNew ?_ (by simp; done) _ | with_reducible refine Ext.setNew ?_ (by simp; omega) _)))
  replace S1 := Lib.hid (S1.out.grow (w' := w12) (by repeat (first | with_reducible exact Ext.refl _ _ | with_reducible refine Ext.trans ?_ (by assumption) | with_reducible refine Ext.drew ?_ | with_reducible refine Ext.drewN ?_ _ | with_reducible refine Ext.alloc ?_ _ | with_reducible refine Ext.setNew ?_ (by simp; done) _ | with_reducible refine Ext.setNew ?_ (by simp; omega) _)))
  replace FG := Lib.hid (FG.out.grow SG.out (w' := w12) (by repeat (first | with_reducible exact Ext.refl _ _ | with_reducible refine Ext.trans ?_ (by assumption) | with_reducible refine Ext.drew ?_ | with_reducible refine Ext.drewN ?_ _ | with_reducible refine Ext.alloc ?_ _ | with_reducible refine Ext.setNew ?_ (by simp; done) _ | with_reducible refine Ext.setNew ?_ (by simp; omega) _)))
  replace SG := Lib.hid (SG.out.grow (w' := w12) (by repeat (first | with_reducible exact Ext.refl _ _ | with_reducible refine Ext.trans ?_ (by assumption) | with_reducible refine Ext.drew ?_ | with_reducible refine Ext.drewN ?_ _ | with_reducible refine Ext.alloc ?_ _ | with_reducible refine Ext.setNew ?_ (by simp; done) _ | with_reducible refine Ext.setNew ?_ (by simp; omega) _)))
  replace RW := Lib.hid (RW.out.grow (w' := w12) (by repeat (first | with_reducible exact Ext.refl _ _ | with_reducible refine Ext.trans ?_ (by assumption) | with_reducible refine Ext.drew ?_ | with_reducible refine Ext.drewN ?_ _ | with_reducible refine Ext.alloc ?_ _ | with_reducible refine Ext.setNew ?_ (by simp; done) _ | with_reducible refine Ext.setNew ?_ (by simp; omega) _)))
  replace HB0 := Lib.hid (HB0.out.grow (w' := w12) (by repeat (first | with_reducible exact Ext.refl _ _ | with_reducible refine Ext.trans ?_ (by assumption) | with_reducible refine Ext.drew ?_ | with_reducible refine Ext.drewN ?_ _ | with_reducible refine Ext.alloc ?_ _ | with_reducible refine Ext.setNew ?_ (by simp; done) _ | with_reducible refine Ext.setNew ?_ (by simp; omega) _)))
  replace HBx0 := Lib.hid (HBx0.out.grow (w' := w12) (by repeat (first | with_reducible exact Ext.refl _ _ | with_reducible refine Ext.trans ?_ (by assumption) | with_reducible refine Ext.drew ?_ | with_reducible refine Ext.drewN ?_ _ | with_reducible refine Ext.alloc ?_ _ | with_reducible refine Ext.setNew ?_ (by simp; done) _ | with_reducible refine Ext.setNew ?_ (by simp; omega) _)))
  replace HBs := Lib.hid (HBs.out.grow (w' := w12) (by repeat (first | with_reducible exact Ext.refl _ _ | with_reducible refine Ext.trans ?_ (by assumption) | with_reducible refine Ext.drew ?_ | with_reducible refine Ext.drewN ?_ _ | with_reducible refine Ext.alloc ?_ _ | with_reducible refine Ext.setNew ?_ (by simp; done) _ | with_reducible refine Ext.setNew ?_ (by simp; omega) _)))
  replace HBg := Lib.hid (HBg.out.grow (w' := w12) (by repeat (first | with_reducible exact Ext.refl _ _ | with_reducible refine Ext.trans ?_ (by assumption) | with_reducible refine Ext.drew ?_ | with_reducible refine Ext.drewN ?_ _ | with_reducible refine Ext.alloc ?_ _ | with_reducible refine Ext.setNew ?_ (by simp; done) _ | with_reducible refine Ext.setNew ?_ (by simp; omega) _)))
  have lHB0 := HB0.out.lt
  have lHBx0 := HBx0.out.lt
  have lHBs := HBs.out.lt
  have lHBg := HBg.out.lt
  have hgA : Grow w w12 := (by repeat (first | with_reducible exact Ext.refl _ _ | with_reducible refine Ext.trans ?_ (by assumption) | with_reducible refine Ext.drew ?_ | with_reducible refine Ext.drewN ?_ _ | with_reducible refine Ext.alloc ?_ _ | with_reducible refine Ext.setNew ?_ (by simp; done) _ | with_reducible refine Ext.setNew ?_ (by simp; omega) _))
  clear hg1 hg2 hg3 hg4 hg5 hg6 hg7 hg8 hg9 hg10 hg11 hg12
  have m0 := cntT_le n
  have m1 := cntS_le p
  have mg := remN_cnt n p
  have p0 := HBx0.out.cell 0 _ rfl; have p1 := HBx0.out.cell 1 _ rfl; have p2 := HBx0.out.cell 2 _ rfl; have p3 := HBx0.out.cell 3 _ rfl; have p4 := HBx0.out.cell 4 _ rfl
  go_wp2_with fail
  refine (uMarkN n _ f0 _ (1) _ _ (by rfl) F0.out S0.out.1 (by omega) (by omega)).mono ?_
  rintro e w13 ⟨rfl, hx, _, _⟩
  clear p0 p1 p2 p3 p4
  replace F1 := Lib.hid (F1.out.keep (S1.out.keeps S0.out (by omega) hx))
  replace S1 := Lib.hid (S1.out.ext S0.out (by omega) hx)
  replace FG := Lib.hid (FG.out.keep (SG.out.keeps S0.out (by omega) hx))
  replace SG := Lib.hid (SG.out.ext S0.out (by omega) hx)
  replace HB0 := Lib.hid (S0.out.box HB0.out hx (by omega))
  replace HBx0 := Lib.hid (S0.out.box HBx0.out hx (by omega))
  replace HBs := Lib.hid (S0.out.box HBs.out hx (by omega))
  replace HBg := Lib.hid (S0.out.box HBg.out hx (by omega))
  replace RW := Lib.hid (S0.out.rv RW.out hx (by omega))
  replace hgA := S0.out.inner hgA hx (by omega)
  clear hx F0
  go_wp2_with fail
  refine (uMarkS p _ f1 _ (1 + cntT n) _ _ (by simp) F1.out S1.out.1 (by omega) (by omega)).mono ?_
  rintro e w14 ⟨rfl, hx, _, _⟩
  replace FG := Lib.hid (FG.out.keep (SG.out.keeps S1.out (by omega) hx))
  replace SG := Lib.hid (SG.out.ext S1.out (by omega) hx)
  replace HB0 := Lib.hid (S1.out.box HB0.out hx (by omega))
  replace HBx0 := Lib.hid (S1.out.box HBx0.out hx (by omega))
  replace HBs := Lib.hid (S1.out.box HBs.out hx (by omega))
  replace HBg := Lib.hid (S1.out.box HBg.out hx (by omega))
  replace RW := Lib.hid (S1.out.rv RW.out hx (by omega))
  replace hgA := S1.out.inner hgA hx (by omega)
  clear hx F1
  have r0 := HBg.out.cell 0 _ rfl; have r1 := HBg.out.cell 1 _ rfl; have r2 := HBg.out.cell 2 _ rfl; have r3 := HBg.out.cell 3 _ rfl; have r4 := HBg.out.cell 4 _ rfl
  have t0 := HBs.out.cell 0 _ rfl; have t1 := HBs.out.cell 1 _ rfl; have t2 := HBs.out.cell 2 _ rfl; have t3 := HBs.out.cell 3 _ rfl; have t4 := HBs.out.cell 4 _ rfl
  go_wp2_with fail
  refine (uEqN ((remN n p)) _ _ _ FG.out.rv RW.out.any).mono ?_
  rintro e w15 ⟨rfl, hg⟩
  clear r0 r1 r2 r3 r4 t0 t1 t2 t3 t4
  replace FG := Lib.hid (FG.out.grow SG.out hg)
  replace SG := Lib.hid (SG.out.grow hg)
  replace RW := Lib.hid (RW.out.grow hg)
  replace HB0 := Lib.hid (HB0.out.grow hg)
  replace HBx0 := Lib.hid (HBx0.out.grow hg)
  replace HBs := Lib.hid (HBs.out.grow hg)
  replace HBg := Lib.hid (HBg.out.grow hg)
  replace hgA := hgA.trans hg
  clear hg
  have r0 := HBg.out.cell 0 _ rfl; have r1 := HBg.out.cell 1 _ rfl; have r2 := HBg.out.cell 2 _ rfl; have r3 := HBg.out.cell 3 _ rfl; have r4 := HBg.out.cell 4 _ rfl
  go_wp2_with fail
  refine (uMarkN ((remN n p)) _ fg _ 1 _ _ (by rfl) FG.out SG.out.1 (by omega) (by omega)).mono ?_
  rintro e w16 ⟨rfl, hx, hfr, hF⟩
  clear r0 r1 r2 r3 r4
  replace HB0 := Lib.hid (SG.out.box HB0.out hx (by omega))
  replace HBx0 := Lib.hid (SG.out.box HBx0.out hx (by omega))
  replace HBs := Lib.hid (SG.out.box HBs.out hx (by omega))
  replace HBg := Lib.hid (SG.out.box HBg.out hx (by omega))
  replace RW := Lib.hid (SG.out.rv RW.out hx (by omega))
  replace hgA := SG.out.inner hgA hx (by omega)
  replace FG := Lib.hid hF
  replace SG := Lib.hid (SG.out.marked hfr)
  clear hx hfr hF
  have r0 := HBg.out.cell 0 _ rfl; have r1 := HBg.out.cell 1 _ rfl; have r2 := HBg.out.cell 2 _ rfl; have r3 := HBg.out.cell 3 _ rfl; have r4 := HBg.out.cell 4 _ rfl
  go_wp2_with fail
  refine (uHeldN ((remN n p)) _ 1 _ _ (by rfl) FG.out.rv (by omega) (by omega)).mono ?_
  rintro e w17 ⟨rfl, hg⟩
  clear r0 r1 r2 r3 r4
  replace FG := Lib.hid (FG.out.grow SG.out hg)
  replace SG := Lib.hid (SG.out.grow hg)
  replace RW := Lib.hid (RW.out.grow hg)
  replace HB0 := Lib.hid (HB0.out.grow hg)
  replace HBx0 := Lib.hid (HBx0.out.grow hg)
  replace HBs := Lib.hid (HBs.out.grow hg)
  replace HBg := Lib.hid (HBg.out.grow hg)
  replace hgA := hgA.trans hg
  clear hg
  have hbb : ((1 + cntT ((remN n p)) : Nat) != (1 + cntT ((remN n p)) : Nat)) = false := by simp
  have hgc := hgA
  have pB := HB0.out.grow (w' := w17) (by repeat (first | with_reducible exact Ext.refl _ _ | with_reducible refine Ext.trans ?_ (by assumption) | with_reducible refine Ext.drew ?_ | with_reducible refine Ext.drewN ?_ _ | with_reducible refine Ext.alloc ?_ _ | with_reducible refine Ext.setNew ?_ (by simp; done) _ | with_reducible refine Ext.setNew ?_ (by simp; omega) _))
  have p0 := pB.cell 0 _ rfl; have p1 := pB.cell 1 _ rfl; have p2 := pB.cell 2 _ rfl; have p3 := pB.cell 3 _ rfl; have p4 := pB.cell 4 _ rfl
  go_wp2_with fail
  refine (uToN n _ _ C0.out (HV0.out.grow (by repeat (first | with_reducible exact Ext.refl _ _ | with_reducible refine Ext.trans ?_ (by assumption) | with_reducible refine Ext.drew ?_ | with_reducible refine Ext.drewN ?_ _ | with_reducible refine Ext.alloc ?_ _ | with_reducible refine Ext.setNew ?_ (by simp; done) _ | with_reducible refine Ext.setNew ?_ (by simp; omega) _)))).mono ?_
  rintro e w18 ⟨uh0, fh0, rfl, hg18, hF, hfr⟩
  have z18 := hg18.size
  try simp only [World.size_alloc] at z18
  have RUh0 := Lib.hid hF.rv
  clear hF hfr p0 p1 p2 p3 p4 pB
  go_wp2_with fail
  refine (uToS p _ _ C1.out (HV1.out.grow (by repeat (first | with_reducible exact Ext.refl _ _ | with_reducible refine Ext.trans ?_ (by assumption) | with_reducible refine Ext.drew ?_ | with_reducible refine Ext.drewN ?_ _ | with_reducible refine Ext.alloc ?_ _ | with_reducible refine Ext.setNew ?_ (by simp; done) _ | with_reducible refine Ext.setNew ?_ (by simp; omega) _)))).mono ?_
  rintro e w19 ⟨uh1, fh1, rfl, hg19, hF, hfr⟩
  have z19 := hg19.size
  try simp only [World.size_alloc] at z19
  have RUh1 := Lib.hid hF.rv
  clear hF hfr
  go_wp2_with fail
  refine (implRemoveNode_ok n p _ _ _  (RUh0.out.grow (by repeat (first | with_reducible exact Ext.refl _ _ | with_reducible refine Ext.trans ?_ (by assumption) | with_reducible refine Ext.drew ?_ | with_reducible refine Ext.drewN ?_ _ | with_reducible refine Ext.alloc ?_ _ | with_reducible refine Ext.setNew ?_ (by simp; done) _ | with_reducible refine Ext.setNew ?_ (by simp; omega) _))) (RUh1.out.grow (by repeat (first | with_reducible exact Ext.refl _ _ | with_reducible refine Ext.trans ?_ (by assumption) | with_reducible refine Ext.drew ?_ | with_reducible refine Ext.drewN ?_ _ | with_reducible refine Ext.alloc ?_ _ | with_reducible refine Ext.setNew ?_ (by simp; done) _ | with_reducible refine Ext.setNew ?_ (by simp; omega) _)))).mono ?_
  rintro e w20 ⟨rh, fh, rfl, hg20, hF, hfr⟩
  have z20 := hg20.size
  try simp only [World.size_alloc] at z20
  have hR := hF.rv
  clear hF hfr
  clear RUh0 RUh1
  have RH := Lib.hid hR
  obtain ⟨nah, nch, kah, kch, rfl⟩ := openV_node hR
  unfold nodeV
  have HBh := Lib.hid (BoxN.new w20 [.int .i64 (remN n p).kind, .int .i64 (remN n p).num, .string (remN n p).text, .slice nah (remN n p).names.length nch, .slice kah (remN n p).kids.length kch] 26)
  clear hR
  have tB := HBs.out.grow (w' := w20) (by repeat (first | with_reducible exact Ext.refl _ _ | with_reducible refine Ext.trans ?_ (by assumption) | with_reducible refine Ext.drew ?_ | with_reducible refine Ext.drewN ?_ _ | with_reducible refine Ext.alloc ?_ _ | with_reducible refine Ext.setNew ?_ (by simp; done) _ | with_reducible refine Ext.setNew ?_ (by simp; omega) _))
  have t0 := tB.cell 0 _ rfl; have t1 := tB.cell 1 _ rfl; have t2 := tB.cell 2 _ rfl; have t3 := tB.cell 3 _ rfl; have t4 := tB.cell 4 _ rfl; have tz := tB.lt
  go_wp2_with fail
  refine (uEqN ((remN n p)) _ _ _ (RH.out.grow (by repeat (first | with_reducible exact Ext.refl _ _ | with_reducible refine Ext.trans ?_ (by assumption) | with_reducible refine Ext.drew ?_ | with_reducible refine Ext.drewN ?_ _ | with_reducible refine Ext.alloc ?_ _ | with_reducible refine Ext.setNew ?_ (by simp; done) _ | with_reducible refine Ext.setNew ?_ (by simp; omega) _))) (RW.out.any.grow (by repeat (first | with_reducible exact Ext.refl _ _ | with_reducible refine Ext.trans ?_ (by assumption) | with_reducible refine Ext.drew ?_ | with_reducible refine Ext.drewN ?_ _ | with_reducible refine Ext.alloc ?_ _ | with_reducible refine Ext.setNew ?_ (by simp; done) _ | with_reducible refine Ext.setNew ?_ (by simp; omega) _)))).mono ?_
  rintro e w21 ⟨rfl, hg21⟩
  have z21 := hg21.size
  try simp only [World.size_alloc] at z21
  clear t0 t1 t2 t3 t4 tB tz
  have rB := HBg.out.grow (w' := w21) (by repeat (first | with_reducible exact Ext.refl _ _ | with_reducible refine Ext.trans ?_ (by assumption) | with_reducible refine Ext.drew ?_ | with_reducible refine Ext.drewN ?_ _ | with_reducible refine Ext.alloc ?_ _ | with_reducible refine Ext.setNew ?_ (by simp; done) _ | with_reducible refine Ext.setNew ?_ (by simp; omega) _))
  have r0 := rB.cell 0 _ rfl; have r1 := rB.cell 1 _ rfl; have r2 := rB.cell 2 _ rfl; have r3 := rB.cell 3 _ rfl; have r4 := rB.cell 4 _ rfl; have rz := rB.lt
  go_wp2_with fail
  refine (uHeldN ((remN n p)) _ 1 _ _ (by rfl) (FG.out.rv.grow (by repeat (first | with_reducible exact Ext.refl _ _ | with_reducible refine Ext.trans ?_ (by assumption) | with_reducible refine Ext.drew ?_ | with_reducible refine Ext.drewN ?_ _ | with_reducible refine Ext.alloc ?_ _ | with_reducible refine Ext.setNew ?_ (by simp; done) _ | with_reducible refine Ext.setNew ?_ (by simp; omega) _))) (by omega) (by omega)).mono ?_
  rintro e w22 ⟨rfl, hg22⟩
  have z22 := hg22.size
  try simp only [World.size_alloc] at z22
  clear r0 r1 r2 r3 r4 rB rz
  go_wp2_with fail
  go_ret
  exact ⟨by simp, (by repeat (first | with_reducible exact Ext.refl _ _ | with_reducible refine Ext.trans ?_ (by assumption) | with_reducible refine Ext.drew ?_ | with_reducible refine Ext.drewN ?_ _ | with_reducible refine Ext.alloc ?_ _ | with_reducible refine Ext.setNew ?_ (by simp; done) _ | with_reducible refine Ext.setNew ?_ (by simp; omega) _))⟩
theorem lawRem_ok (n : Nd) (p : List ByteArray) (v0 : Value) (v1 : Value) (w : World) (h0 : RV nodeRep packA w any n v0) (h1 : RV strsRep packO w any p v1) :
    Calls Tryd.prog 12 #[v0, v1] w fun e w' => e = .returned (.bool true) ∧ Grow w w' := by
  by_cases hc : costN n + costS p ≤ 1048576
  · exact lawRem_main n p v0 v1 w h0 h1 hc
  · exact lawRem_big n p v0 v1 w h0 h1 hc
end Go.Proofs.YtfjaobfaepjfnaaDoor
namespace Go.Proofs.YtfjaobfaepjfnaaDoor
open Go.RowKit
end Go.Proofs.YtfjaobfaepjfnaaDoor
namespace Go.Proofs.YtfjaobfaepjfnaaDoor
open Go.RowKit
end Go.Proofs.YtfjaobfaepjfnaaDoor
namespace Go.Proofs.YtfjaobfaepjfnaaDoor
open Go.RowKit
structure Opn where
  kind : Int
  path : List ByteArray
  frm : List ByteArray
  val : Nd
def opV (o : Opn) (pa : Option Addr) (pc : Nat) (fa : Option Addr) (fc : Nat) (na : Option Addr) (nc : Nat) (ka : Option Addr) (kc : Nat) : Value :=
  .agg #[.int .i64 o.kind, .slice pa o.path.length pc, .slice fa o.frm.length fc, .int .i64 o.val.kind, .int .i64 o.val.num, .string o.val.text, .slice na o.val.names.length nc, .slice ka o.val.kids.length kc]
def OpC (w : World) (S : Nat → Prop) (o : Opn) (pa : Option Addr) (pc : Nat) (fa : Option Addr) (fc : Nat) (na : Option Addr) (nc : Nat) (ka : Option Addr) (kc : Nat) : Prop :=
  StrsR w S pa pc o.path ∧ StrsR w S fa fc o.frm ∧ NodeC w S o.val na nc ka kc
def OpR (w : World) (S : Nat → Prop) (o : Opn) (v : Value) : Prop := ∃ pa pc fa fc na nc ka kc, v = opV o pa pc fa fc na nc ka kc ∧ OpC w S o pa pc fa fc na nc ka kc
def OpsR (w : World) (S : Nat → Prop) (a : Option Addr) (c : Nat) (l : List Opn) : Prop :=
  l.length ≤ c ∧ l.length ≤ big ∧ (l = [] ∨ ∃ b o, a = some ⟨b, o, none⟩ ∧ S b ∧ ∀ i (h : i < l.length), ∃ pa pc fa fc na nc ka kc,
    w.cell? ⟨b, o + i * 8, none⟩ = some (.int .i64 l[i].kind) ∧ w.cell? ⟨b, o + i * 8 + 1, none⟩ = some (.slice pa l[i].path.length pc) ∧ w.cell? ⟨b, o + i * 8 + 2, none⟩ = some (.slice fa l[i].frm.length fc) ∧
    w.cell? ⟨b, o + i * 8 + 3, none⟩ = some (.int .i64 l[i].val.kind) ∧ w.cell? ⟨b, o + i * 8 + 4, none⟩ = some (.int .i64 l[i].val.num) ∧ w.cell? ⟨b, o + i * 8 + 5, none⟩ = some (.string l[i].val.text) ∧
    w.cell? ⟨b, o + i * 8 + 6, none⟩ = some (.slice na l[i].val.names.length nc) ∧ w.cell? ⟨b, o + i * 8 + 7, none⟩ = some (.slice ka l[i].val.kids.length kc) ∧ OpC w S l[i] pa pc fa fc na nc ka kc)
theorem OpC.ext {X S : Nat → Prop} {w w' : World} (h : Ext X w w') (hS : ∀ k, S k → ¬ X k) {o : Opn} {pa : Option Addr} {pc : Nat} {fa : Option Addr} {fc : Nat} {na : Option Addr} {nc : Nat} {ka : Option Addr} {kc : Nat}
    (hs : OpC w S o pa pc fa fc na nc ka kc) : OpC w' S o pa pc fa fc na nc ka kc := ⟨hs.1.ext h hS, hs.2.1.ext h hS, hs.2.2.ext h hS⟩
theorem OpC.grow {S : Nat → Prop} {w w' : World} {o : Opn} {pa : Option Addr} {pc : Nat} {fa : Option Addr} {fc : Nat} {na : Option Addr} {nc : Nat} {ka : Option Addr} {kc : Nat}
    (hs : OpC w S o pa pc fa fc na nc ka kc) (h : Grow w w') : OpC w' S o pa pc fa fc na nc ka kc := hs.ext h (fun _ _ h => h)
theorem OpR.ext {X S : Nat → Prop} {w w' : World} (h : Ext X w w') (hS : ∀ k, S k → ¬ X k) {o : Opn} {v : Value} (hs : OpR w S o v) : OpR w' S o v := by
  obtain ⟨pa, pc, fa, fc, na, nc, ka, kc, hv, hc⟩ := hs
  exact ⟨pa, pc, fa, fc, na, nc, ka, kc, hv, hc.ext h hS⟩
theorem OpR.grow {S : Nat → Prop} {w w' : World} {o : Opn} {v : Value} (hs : OpR w S o v) (h : Grow w w') : OpR w' S o v := hs.ext h (fun _ _ h => h)
theorem OpsR.ext {X S : Nat → Prop} {w w' : World} (h : Ext X w w') (hS : ∀ k, S k → ¬ X k) {a : Option Addr} {c : Nat} {l : List Opn} (hs : OpsR w S a c l) : OpsR w' S a c l := by
  obtain ⟨h1, h2, h4⟩ := hs
  refine ⟨h1, h2, h4.imp id ?_⟩
  rintro ⟨b, o, rfl, hb, hc⟩
  refine ⟨b, o, rfl, hb, fun i hi => ?_⟩
  obtain ⟨pa, pc, fa, fc, na, nc, ka, kc, g0, g1, g2, g3, g4, g5, g6, g7, g⟩ := hc i hi
  exact ⟨pa, pc, fa, fc, na, nc, ka, kc, h.some g0 (hS b hb), h.some g1 (hS b hb), h.some g2 (hS b hb), h.some g3 (hS b hb), h.some g4 (hS b hb), h.some g5 (hS b hb), h.some g6 (hS b hb), h.some g7 (hS b hb), g.ext h hS⟩
theorem OpsR.grow {S : Nat → Prop} {w w' : World} {a : Option Addr} {c : Nat} {l : List Opn} (hs : OpsR w S a c l) (h : Grow w w') : OpsR w' S a c l := hs.ext h (fun _ _ h => h)
end Go.Proofs.YtfjaobfaepjfnaaDoor
