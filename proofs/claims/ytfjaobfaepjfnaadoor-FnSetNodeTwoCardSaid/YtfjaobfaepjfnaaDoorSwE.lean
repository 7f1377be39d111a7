/-
  Texts of this claim, joined.
-/
import Derived.ProofKit
import Derived.Deep.Slices
import Derived.Deep.Fields
import Derived.Laws.MakeOwn
import Derived.Test.YtfjaobfaepjfnaaDoorSwD

set_option linter.unusedSimpArgs false
set_option linter.unusedVariables false
set_option linter.unnecessarySimpa false
set_option maxRecDepth 100000
set_option maxHeartbeats 16000000
namespace Go.Proofs.YtfjaobfaepjfnaaDoor.Eng
open Go Go.RowKit
attribute [local simp] big size_mk ASt.pay Option.map_map Function.comp_def awant aop acall ado aev ofVal ofVal0 ASt.put ASt.add ASt.turn ASt.kill abox aalloc astore aload aloadD astoreD idOf ASt.at cellsTo afieldAddr afield aindexAddr aindex alen abin aint acmp astr aun apick aextract anil aslice abound abuild afill abuildSlice asCells aps avCells over upd aappend asrc amax amin aconv mkSt slots rowsOf_cons rowsOf_nil usedOf_cons usedOf_nil ZK.av List.replicate ASt.back ASt.addL ASt.killL nodeA nodeT nodeTL_eq nodeL_eq strsE_get strsE_len intsE_get intsE_len strsE_at intsE_at tab2 tab3 tab4 tab5 tab6 tab7 tab8 tab9 tab10 tab11 tab12 tab13 tab14 tab15 tab16 tab17 tab18 tab19 tab21 tab22 tab23 tab24 tab25 tab26 tab28 tab29 tab30 tab31 tab42 tab43 tab44 tab46 tab63 tab64 tab67 tab68 tab75 tab98 tab100 tab101 tab105 tab106 tab107 tab122 tab123 tab125 tab128 tab138 tab144 tab151 tab152 tab157 tab158 tab160 tab161 tab162
theorem addN_sml {n v : Nd} {i : Nat} {st : ByteArray} (h : Sml n) (hv : Sml v) (h1 : n.names.length ≤ 900) (h2 : n.kids.length ≤ 900) : Sml (addN n i st v) := .mk _ (by simp [addN]; omega) (by simp [addN]; omega) (fun k hk => by
  simp only [addN, List.append_assoc, List.mem_append, List.mem_singleton, List.cons_append, List.nil_append, List.mem_cons] at hk
  rcases hk with hk | rfl | hk
  · exact h.kid (List.mem_of_mem_take hk)
  · exact hv
  · exact h.kid (List.mem_of_mem_drop hk))
theorem addN_len {n v : Nd} {i : Nat} {st : ByteArray} (hi : i ≤ n.kids.length) (hl : n.names.length = n.kids.length) : (addN n i st v).names.length = n.kids.length + 1 ∧ (addN n i st v).kids.length = n.kids.length + 1 := by
  simp [addN]; omega
theorem addN_data (n : Nd) (i : Nat) (st : ByteArray) (v : Nd) : (addN n i st v).kind = n.kind ∧ (addN n i st v).num = 0 ∧ (addN n i st v).text = ⟨#[]⟩ := ⟨rfl, rfl, rfl⟩
theorem randomMap_step (d : Nat) (hd : d ≤ 4) (hrn : AC Tryd.prog 123 [.rdr, .int .i64 (d : Int)] (nC d) (fun r => ∃ n, Sml n ∧ r = nodeA n)) :
    ACR Tryd.prog 124 [.rdr, .int .i64 ((d + 1 : Nat) : Int)] (9 + 4 * nC d) (R0 Sml) (R1 Sml) := by
  have hwd : IntKind.i64.wrap (d : Int) = (d : Int) := i64_nat (by omega) (by omega)
  generalize nC d = C at *
  refine ACR.of tab_ok mixed_ok Tryd.func124 (by rfl) (by kernel_rfl) ?_; rintro ⟨P, T, hT, hm, w0, S0, rd0, k0⟩ hP hTT; dsimp only at hP hTT; subst hP hTT; unfold initSt; rw [Tryd.ntmps124]
  (repeat (first | with_reducible refine AW.seq ?_ | ((first | refine arun_kn 4 rfl (fun C hC => ?_) | refine arunD_kn 4 rfl (fun C hC => ?_)); (repeat ((conv => whnf); simp)); refine hC _ ?_; clear hC C; simp only [List.drop, Nat.reduceAdd]) | ((first | refine arun_kn 1 rfl (fun C hC => ?_) | refine arunD_kn 1 rfl (fun C hC => ?_)); (repeat ((conv => whnf); simp)); refine hC _ ?_; clear hC C; simp only [List.drop, Nat.reduceAdd]) | (refine arun_skip ?_ ?_; (focus (simp [awant]; done))) | (refine arun_cU (1) rfl (one_ACU _ _ (by rfl) (by simp) (by simp)) ?_; (rintro r ⟨y, hy, rfl⟩)) | (refine AW.regionK [] (fun K hK => ?_)) | (refine AW.regionDK [] (pcs [] []) (by kernel_rfl) (by kernel_rfl) (fun K hK => ?_)) | (refine AW.condT ?_ ?_; (focus (simp [aev]; done))) | (refine AW.condF ?_ ?_; (focus (simp [aev]; done))) | with_reducible refine AW.block ?_ | ((first | ((first | refine arun_nil ?_ | refine arunD_nil ?_); refine hK _ ?_; clear hK K) | refine AW.skip ?_ | refine AW.exit ?_ | refine AW.ret ?_); simp only [thenA_exit, inBlockA_exit, if_true, if_false, Nat.reduceEqDiff, thenA_normal, inBlockA_normal, reduceIte, thenA_ret, inBlockA_ret, endQ_ret, endR_ret, endG_ret, endQ_normal, endR_normal, endG_normal])))
  have hy4 : 0 ≤ y ∧ y ≤ 4 := by simp [intOf] at hy; omega
  clear hy
  obtain ⟨j, rfl⟩ := Int.eq_ofNat_of_zero_le hy4.1
  refine AW.adoptB 5 3 36 9 1 ⟨_, tab9, rfl⟩ (by simp [upd]; rfl) rfl rfl (by simp [upd]) ?_
  simp [ASt.adoptB, upd]
  refine AW.wkB 5 4 (.view .loose 5 []) (Wk.nil (fun h => by cases h)) (by simp [upd]; rfl) rfl rfl ?_
  simp [ASt.wkB, upd]
  refine AW.loopS (fun (x : Nd × Nat × Nat × Nat) => mkSt (slots 0 37 [(0, .rdr), (1, .int .i64 ((d : Int) + 1)), (4, .ptr true 5 1 4 0 0), (5, .ptr true 5 1 5 0 0), (6, .int .i64 (x.2.1 : Int))]) [(4, ⟨true, 26, 5, [[.int .i64 0, .int .i64 0, .str ⟨#[]⟩, .view .tight 0 [], .view .tight 0 []]]⟩), (5, ⟨true, 26, 5, [[.int .i64 4, .int .i64 0, .str ⟨#[]⟩, .own x.2.2.2 x.1.names.length, .view .loose 5 (x.1.kids.map nodeL)]]⟩), (x.2.2.2, namesRow x.1)] [4, 5, x.2.2.2] (rd0.map fun _ => x.2.2.1)) (fun x => x.2.1) (fun x => x.1.kind = 4 ∧ x.1.num = 0 ∧ x.1.text = ⟨#[]⟩ ∧ x.1.names.length = x.1.kids.length ∧ x.1.names.length + x.2.1 ≤ 4 ∧ x.2.1 * (C + 2) ≤ x.2.2.1 ∧ Sml x.1 ∧ (x.2.2.2 = 36 ∨ x.2.2.2 = 54)) (⟨4, 0, ⟨#[]⟩, [], []⟩, j, 8 + 4 * C, 36) ?_ ⟨rfl, rfl, rfl, rfl, by show 0 + j ≤ 4; omega, Nat.le_trans (Nat.mul_le_mul_right _ (show j ≤ 4 by omega)) (by show 4 * (C + 2) ≤ 8 + 4 * C; omega), .mk _ (by simp) (by simp) (fun k hk => by cases hk), .inl rfl⟩ ?_
  · dsimp only [List.map_nil, List.length_nil, namesRow, strsE]
    exact less_a
  · rintro ⟨⟨_, _, _, names, kids⟩, j, b, id⟩ ⟨g1, g2, g3, g4, g5, g6, g7, g8⟩
    dsimp only at g1 g2 g3 g4 g5 g6 g7 g8 ⊢
    subst g1 g2 g3
    unfold namesRow
    rcases g8 with rfl | rfl
    · cases j with
      | zero =>
        (repeat (first | with_reducible refine AW.seq ?_ | ((first | refine arun_kn 4 rfl (fun C hC => ?_) | refine arunD_kn 4 rfl (fun C hC => ?_)); (repeat ((conv => whnf); simp)); refine hC _ ?_; clear hC C; simp only [List.drop, Nat.reduceAdd]) | ((first | refine arun_kn 1 rfl (fun C hC => ?_) | refine arunD_kn 1 rfl (fun C hC => ?_)); (repeat ((conv => whnf); simp)); refine hC _ ?_; clear hC C; simp only [List.drop, Nat.reduceAdd]) | (refine arun_skip ?_ ?_; (focus (simp [awant]; done))) | (refine AW.regionK [] (fun K hK => ?_)) | (refine AW.regionDK [] (pcs [] []) (by kernel_rfl) (by kernel_rfl) (fun K hK => ?_)) | (refine AW.condT ?_ ?_; (focus (simp [aev]; done))) | (refine AW.condF ?_ ?_; (focus (simp [aev]; done))) | with_reducible refine AW.block ?_ | ((first | ((first | refine arun_nil ?_ | refine arunD_nil ?_); refine hK _ ?_; clear hK K) | refine AW.skip ?_ | refine AW.exit ?_ | refine AW.ret ?_); simp only [thenA_exit, inBlockA_exit, if_true, if_false, Nat.reduceEqDiff, thenA_normal, inBlockA_normal, reduceIte, thenA_ret, inBlockA_ret, endQ_ret, endR_ret, endG_ret, endQ_normal, endR_normal, endG_normal])))
        exact ⟨nodeN ⟨4, 0, ⟨#[]⟩, names, kids⟩ 36, by simp [nodeN, ares, aresL, upd, rowsOf_cons], .inr ⟨nodeN ⟨4, 0, ⟨#[]⟩, names, kids⟩, 36, namesRow ⟨4, 0, ⟨#[]⟩, names, kids⟩, rfl, by simp [upd, rowsOf_cons, namesRow], nodeN_res _ 36, strsE_pur _, _, g7, rfl, rfl⟩⟩
      | succ j =>
        have hw : IntKind.i64.wrap (j : Int) = (j : Int) := i64_nat (by omega) (by omega)
        have hpos : (0 : Int) < (j : Int) + 1 := by omega
        have hjc : (j + 1) * (C + 2) = j * (C + 2) + (C + 2) := Nat.succ_mul _ _
        have hplc : Plc ⟨4, 0, ⟨#[]⟩, names, kids⟩ := ⟨fun _ => by dsimp only; omega, fun h => by cases h⟩
        (repeat (first | with_reducible refine AW.seq ?_ | ((first | refine arun_kn 4 rfl (fun C hC => ?_) | refine arunD_kn 4 rfl (fun C hC => ?_)); (repeat ((conv => whnf); simp [hpos, hw, hwd])); refine hC _ ?_; clear hC C; simp only [List.drop, Nat.reduceAdd]) | ((first | refine arun_kn 1 rfl (fun C hC => ?_) | refine arunD_kn 1 rfl (fun C hC => ?_)); (repeat ((conv => whnf); simp [hpos, hw, hwd])); refine hC _ ?_; clear hC C; simp only [List.drop, Nat.reduceAdd]) | (refine arun_skip ?_ ?_; (focus (simp [awant, hpos, hw, hwd]; done))) | (refine arun_c (1) (someName_AC) ?_; (rintro _ ⟨nm, hnm, rfl⟩)) | (refine arun_c (C) (hrn) ?_; (rintro _ ⟨kid, hkid, rfl⟩)) | (refine arun_cL (0) (place_ok .lent ⟨4, 0, ⟨#[]⟩, names, kids⟩ nm hplc) ?_; rintro _ rfl) | (refine AW.regionK [] (fun K hK => ?_)) | (refine AW.regionDK [] (pcs [] []) (by kernel_rfl) (by kernel_rfl) (fun K hK => ?_)) | (refine AW.condT ?_ ?_; (focus (simp [aev, hpos, hw, hwd]; done))) | (refine AW.condF ?_ ?_; (focus (simp [aev, hpos, hw, hwd]; done))) | with_reducible refine AW.block ?_ | ((first | ((first | refine arun_nil ?_ | refine arunD_nil ?_); refine hK _ ?_; clear hK K) | refine AW.skip ?_ | refine AW.exit ?_ | refine AW.ret ?_); simp only [thenA_exit, inBlockA_exit, if_true, if_false, Nat.reduceEqDiff, thenA_normal, inBlockA_normal, reduceIte, thenA_ret, inBlockA_ret, endQ_ret, endR_ret, endG_ret, endQ_normal, endR_normal, endG_normal])))
        rcases Int.lt_or_le (placeI ⟨4, 0, ⟨#[]⟩, names, kids⟩ nm) 0 with hp | hp
        · (repeat (first | with_reducible refine AW.seq ?_ | ((first | refine arun_kn 4 rfl (fun C hC => ?_) | refine arunD_kn 4 rfl (fun C hC => ?_)); (repeat ((conv => whnf); simp [hw, hp])); refine hC _ ?_; clear hC C; simp only [List.drop, Nat.reduceAdd]) | ((first | refine arun_kn 1 rfl (fun C hC => ?_) | refine arunD_kn 1 rfl (fun C hC => ?_)); (repeat ((conv => whnf); simp [hw, hp])); refine hC _ ?_; clear hC C; simp only [List.drop, Nat.reduceAdd]) | (refine arun_skip ?_ ?_; (focus (simp [awant, hw, hp]; done))) | (refine arun_cR (0) 54 (addHere_ACR ⟨4, 0, ⟨#[]⟩, names, kids⟩ kid .lent nm rfl g4 g7 hkid hp) ?_; ((rintro _ _ ⟨i, hi, rfl, rfl⟩; have hlen := addN_len (v := kid) (st := nm) hi g4; have hsm := addN_sml (i := i) (st := nm) g7 hkid (by dsimp only; omega) (by dsimp only; omega); obtain ⟨hm1, hm2, hm3⟩ := addN_data ⟨4, 0, ⟨#[]⟩, names, kids⟩ i nm kid; generalize addN ⟨4, 0, ⟨#[]⟩, names, kids⟩ i nm kid = m at *; unfold nodeN namesRow; rw [hm1, hm2, hm3]))) | (refine AW.regionK [] (fun K hK => ?_)) | (refine AW.regionDK [] (pcs [] []) (by kernel_rfl) (by kernel_rfl) (fun K hK => ?_)) | (refine AW.condT ?_ ?_; (focus (simp [aev, hw, hp]; done))) | (refine AW.condF ?_ ?_; (focus (simp [aev, hw, hp]; done))) | with_reducible refine AW.block ?_ | ((first | ((first | refine arun_nil ?_ | refine arunD_nil ?_); refine hK _ ?_; clear hK K) | refine AW.skip ?_ | refine AW.exit ?_ | refine AW.ret ?_); simp only [thenA_exit, inBlockA_exit, if_true, if_false, Nat.reduceEqDiff, thenA_normal, inBlockA_normal, reduceIte, thenA_ret, inBlockA_ret, endQ_ret, endR_ret, endG_ret, endQ_normal, endR_normal, endG_normal])))
          dsimp only at hlen
          refine ⟨(m, j, b - 1 - C, 54), by dsimp only; omega, ⟨hm1, hm2, hm3, by dsimp only; omega, by dsimp only; omega, by dsimp only; omega, hsm, by simp⟩, ?_⟩
          dsimp only
          exact (less_of (by simp [lessL, mkSt, slots, namesRow]) (by simp [upd, mkSt, rowsOf_cons, namesRow]) (by simp [upd, mkSt, usedOf_cons, namesRow]) (by first | exact rd_less (by omega) | simp [mkSt, namesRow]) (by simp [slots, in_any, in_int, in_bool, in_str, in_ptr, in_own, in_agg, in_vnil, in_rdr, usedOf_cons, usedOf_nil, strs_in, ints_in, nodes_in, in_tup, namesRow]) (by simp only [List.forall_mem_cons, List.not_mem_nil, false_implies, implies_true, and_true, true_and, namesRow]; (repeat (first | with_reducible exact trivial | with_reducible refine And.intro ?_ ?_ | with_reducible exact in_int | with_reducible exact in_str | with_reducible exact in_bool | with_reducible exact strs_in _ | with_reducible exact nodes_in _ | with_reducible exact items_in _ | with_reducible exact in_vnil | with_reducible exact in_any | exact hin _ | with_reducible refine take_in ?_ | with_reducible exact strsE_in _ | with_reducible exact nodesE_in _ | with_reducible exact nodeL_in _ | with_reducible exact itemsE_in _ | with_reducible exact itemL_in _ | with_reducible refine app_in ?_ ?_ | with_reducible refine sing_in ?_ | (focus (simp [in_any, in_int, in_bool, in_str, in_ptr, in_own, in_agg, in_vnil, in_rdr, usedOf_cons, usedOf_nil, strs_in, ints_in, nodes_in, namesRow]; done)))); done))
        · have hp' : ¬ (placeI ⟨4, 0, ⟨#[]⟩, names, kids⟩ nm < 0) := by omega
          (repeat (first | with_reducible refine AW.seq ?_ | ((first | refine arun_kn 4 rfl (fun C hC => ?_) | refine arunD_kn 4 rfl (fun C hC => ?_)); (repeat ((conv => whnf); simp [hw, hp'])); refine hC _ ?_; clear hC C; simp only [List.drop, Nat.reduceAdd]) | ((first | refine arun_kn 1 rfl (fun C hC => ?_) | refine arunD_kn 1 rfl (fun C hC => ?_)); (repeat ((conv => whnf); simp [hw, hp'])); refine hC _ ?_; clear hC C; simp only [List.drop, Nat.reduceAdd]) | (refine arun_skip ?_ ?_; (focus (simp [awant, hw, hp']; done))) | (refine AW.regionK [] (fun K hK => ?_)) | (refine AW.regionDK [] (pcs [] []) (by kernel_rfl) (by kernel_rfl) (fun K hK => ?_)) | (refine AW.condT ?_ ?_; (focus (simp [aev, hw, hp']; done))) | (refine AW.condF ?_ ?_; (focus (simp [aev, hw, hp']; done))) | with_reducible refine AW.block ?_ | ((first | ((first | refine arun_nil ?_ | refine arunD_nil ?_); refine hK _ ?_; clear hK K) | refine AW.skip ?_ | refine AW.exit ?_ | refine AW.ret ?_); simp only [thenA_exit, inBlockA_exit, if_true, if_false, Nat.reduceEqDiff, thenA_normal, inBlockA_normal, reduceIte, thenA_ret, inBlockA_ret, endQ_ret, endR_ret, endG_ret, endQ_normal, endR_normal, endG_normal])))
          refine ⟨(⟨4, 0, ⟨#[]⟩, names, kids⟩, j, b - 1 - C, 36), by dsimp only; omega, ⟨rfl, rfl, rfl, g4, by dsimp only at g5 ⊢; omega, by dsimp only; omega, g7, by simp⟩, ?_⟩
          dsimp only
          exact (less_of (by simp [lessL, mkSt, slots, namesRow]) (by simp [upd, mkSt, rowsOf_cons, namesRow]) (by simp [upd, mkSt, usedOf_cons, namesRow]) (by first | exact rd_less (by omega) | simp [mkSt, namesRow]) (by simp [slots, in_any, in_int, in_bool, in_str, in_ptr, in_own, in_agg, in_vnil, in_rdr, usedOf_cons, usedOf_nil, strs_in, ints_in, nodes_in, in_tup, namesRow]) (by simp only [List.forall_mem_cons, List.not_mem_nil, false_implies, implies_true, and_true, true_and, namesRow]; (repeat (first | with_reducible exact trivial | with_reducible refine And.intro ?_ ?_ | with_reducible exact in_int | with_reducible exact in_str | with_reducible exact in_bool | with_reducible exact strs_in _ | with_reducible exact nodes_in _ | with_reducible exact items_in _ | with_reducible exact in_vnil | with_reducible exact in_any | exact hin _ | with_reducible refine take_in ?_ | with_reducible exact strsE_in _ | with_reducible exact nodesE_in _ | with_reducible exact nodeL_in _ | with_reducible exact itemsE_in _ | with_reducible exact itemL_in _ | with_reducible refine app_in ?_ ?_ | with_reducible refine sing_in ?_ | (focus (simp [in_any, in_int, in_bool, in_str, in_ptr, in_own, in_agg, in_vnil, in_rdr, usedOf_cons, usedOf_nil, strs_in, ints_in, nodes_in, namesRow]; done)))); done))
    · cases j with
      | zero =>
        (repeat (first | with_reducible refine AW.seq ?_ | ((first | refine arun_kn 4 rfl (fun C hC => ?_) | refine arunD_kn 4 rfl (fun C hC => ?_)); (repeat ((conv => whnf); simp)); refine hC _ ?_; clear hC C; simp only [List.drop, Nat.reduceAdd]) | ((first | refine arun_kn 1 rfl (fun C hC => ?_) | refine arunD_kn 1 rfl (fun C hC => ?_)); (repeat ((conv => whnf); simp)); refine hC _ ?_; clear hC C; simp only [List.drop, Nat.reduceAdd]) | (refine arun_skip ?_ ?_; (focus (simp [awant]; done))) | (refine AW.regionK [] (fun K hK => ?_)) | (refine AW.regionDK [] (pcs [] []) (by kernel_rfl) (by kernel_rfl) (fun K hK => ?_)) | (refine AW.condT ?_ ?_; (focus (simp [aev]; done))) | (refine AW.condF ?_ ?_; (focus (simp [aev]; done))) | with_reducible refine AW.block ?_ | ((first | ((first | refine arun_nil ?_ | refine arunD_nil ?_); refine hK _ ?_; clear hK K) | refine AW.skip ?_ | refine AW.exit ?_ | refine AW.ret ?_); simp only [thenA_exit, inBlockA_exit, if_true, if_false, Nat.reduceEqDiff, thenA_normal, inBlockA_normal, reduceIte, thenA_ret, inBlockA_ret, endQ_ret, endR_ret, endG_ret, endQ_normal, endR_normal, endG_normal])))
        exact ⟨nodeN ⟨4, 0, ⟨#[]⟩, names, kids⟩ 54, by simp [nodeN, ares, aresL, upd, rowsOf_cons], .inr ⟨nodeN ⟨4, 0, ⟨#[]⟩, names, kids⟩, 54, namesRow ⟨4, 0, ⟨#[]⟩, names, kids⟩, rfl, by simp [upd, rowsOf_cons, namesRow], nodeN_res _ 54, strsE_pur _, _, g7, rfl, rfl⟩⟩
      | succ j =>
        have hw : IntKind.i64.wrap (j : Int) = (j : Int) := i64_nat (by omega) (by omega)
        have hpos : (0 : Int) < (j : Int) + 1 := by omega
        have hjc : (j + 1) * (C + 2) = j * (C + 2) + (C + 2) := Nat.succ_mul _ _
        have hplc : Plc ⟨4, 0, ⟨#[]⟩, names, kids⟩ := ⟨fun _ => by dsimp only; omega, fun h => by cases h⟩
        (repeat (first | with_reducible refine AW.seq ?_ | ((first | refine arun_kn 4 rfl (fun C hC => ?_) | refine arunD_kn 4 rfl (fun C hC => ?_)); (repeat ((conv => whnf); simp [hpos, hw, hwd])); refine hC _ ?_; clear hC C; simp only [List.drop, Nat.reduceAdd]) | ((first | refine arun_kn 1 rfl (fun C hC => ?_) | refine arunD_kn 1 rfl (fun C hC => ?_)); (repeat ((conv => whnf); simp [hpos, hw, hwd])); refine hC _ ?_; clear hC C; simp only [List.drop, Nat.reduceAdd]) | (refine arun_skip ?_ ?_; (focus (simp [awant, hpos, hw, hwd]; done))) | (refine arun_c (1) (someName_AC) ?_; (rintro _ ⟨nm, hnm, rfl⟩)) | (refine arun_c (C) (hrn) ?_; (rintro _ ⟨kid, hkid, rfl⟩)) | (refine arun_cL (0) (place_ok .lent ⟨4, 0, ⟨#[]⟩, names, kids⟩ nm hplc) ?_; rintro _ rfl) | (refine AW.regionK [] (fun K hK => ?_)) | (refine AW.regionDK [] (pcs [] []) (by kernel_rfl) (by kernel_rfl) (fun K hK => ?_)) | (refine AW.condT ?_ ?_; (focus (simp [aev, hpos, hw, hwd]; done))) | (refine AW.condF ?_ ?_; (focus (simp [aev, hpos, hw, hwd]; done))) | with_reducible refine AW.block ?_ | ((first | ((first | refine arun_nil ?_ | refine arunD_nil ?_); refine hK _ ?_; clear hK K) | refine AW.skip ?_ | refine AW.exit ?_ | refine AW.ret ?_); simp only [thenA_exit, inBlockA_exit, if_true, if_false, Nat.reduceEqDiff, thenA_normal, inBlockA_normal, reduceIte, thenA_ret, inBlockA_ret, endQ_ret, endR_ret, endG_ret, endQ_normal, endR_normal, endG_normal])))
        rcases Int.lt_or_le (placeI ⟨4, 0, ⟨#[]⟩, names, kids⟩ nm) 0 with hp | hp
        · (repeat (first | with_reducible refine AW.seq ?_ | ((first | refine arun_kn 4 rfl (fun C hC => ?_) | refine arunD_kn 4 rfl (fun C hC => ?_)); (repeat ((conv => whnf); simp [hw, hp])); refine hC _ ?_; clear hC C; simp only [List.drop, Nat.reduceAdd]) | ((first | refine arun_kn 1 rfl (fun C hC => ?_) | refine arunD_kn 1 rfl (fun C hC => ?_)); (repeat ((conv => whnf); simp [hw, hp])); refine hC _ ?_; clear hC C; simp only [List.drop, Nat.reduceAdd]) | (refine arun_skip ?_ ?_; (focus (simp [awant, hw, hp]; done))) | (refine arun_cR (0) 36 (addHere_ACR ⟨4, 0, ⟨#[]⟩, names, kids⟩ kid .lent nm rfl g4 g7 hkid hp) ?_; ((rintro _ _ ⟨i, hi, rfl, rfl⟩; have hlen := addN_len (v := kid) (st := nm) hi g4; have hsm := addN_sml (i := i) (st := nm) g7 hkid (by dsimp only; omega) (by dsimp only; omega); obtain ⟨hm1, hm2, hm3⟩ := addN_data ⟨4, 0, ⟨#[]⟩, names, kids⟩ i nm kid; generalize addN ⟨4, 0, ⟨#[]⟩, names, kids⟩ i nm kid = m at *; unfold nodeN namesRow; rw [hm1, hm2, hm3]))) | (refine AW.regionK [] (fun K hK => ?_)) | (refine AW.regionDK [] (pcs [] []) (by kernel_rfl) (by kernel_rfl) (fun K hK => ?_)) | (refine AW.condT ?_ ?_; (focus (simp [aev, hw, hp]; done))) | (refine AW.condF ?_ ?_; (focus (simp [aev, hw, hp]; done))) | with_reducible refine AW.block ?_ | ((first | ((first | refine arun_nil ?_ | refine arunD_nil ?_); refine hK _ ?_; clear hK K) | refine AW.skip ?_ | refine AW.exit ?_ | refine AW.ret ?_); simp only [thenA_exit, inBlockA_exit, if_true, if_false, Nat.reduceEqDiff, thenA_normal, inBlockA_normal, reduceIte, thenA_ret, inBlockA_ret, endQ_ret, endR_ret, endG_ret, endQ_normal, endR_normal, endG_normal])))
          dsimp only at hlen
          refine ⟨(m, j, b - 1 - C, 36), by dsimp only; omega, ⟨hm1, hm2, hm3, by dsimp only; omega, by dsimp only; omega, by dsimp only; omega, hsm, by simp⟩, ?_⟩
          dsimp only
          exact (less_of (by simp [lessL, mkSt, slots, namesRow]) (by simp [upd, mkSt, rowsOf_cons, namesRow]) (by simp [upd, mkSt, usedOf_cons, namesRow]) (by first | exact rd_less (by omega) | simp [mkSt, namesRow]) (by simp [slots, in_any, in_int, in_bool, in_str, in_ptr, in_own, in_agg, in_vnil, in_rdr, usedOf_cons, usedOf_nil, strs_in, ints_in, nodes_in, in_tup, namesRow]) (by simp only [List.forall_mem_cons, List.not_mem_nil, false_implies, implies_true, and_true, true_and, namesRow]; (repeat (first | with_reducible exact trivial | with_reducible refine And.intro ?_ ?_ | with_reducible exact in_int | with_reducible exact in_str | with_reducible exact in_bool | with_reducible exact strs_in _ | with_reducible exact nodes_in _ | with_reducible exact items_in _ | with_reducible exact in_vnil | with_reducible exact in_any | exact hin _ | with_reducible refine take_in ?_ | with_reducible exact strsE_in _ | with_reducible exact nodesE_in _ | with_reducible exact nodeL_in _ | with_reducible exact itemsE_in _ | with_reducible exact itemL_in _ | with_reducible refine app_in ?_ ?_ | with_reducible refine sing_in ?_ | (focus (simp [in_any, in_int, in_bool, in_str, in_ptr, in_own, in_agg, in_vnil, in_rdr, usedOf_cons, usedOf_nil, strs_in, ints_in, nodes_in, namesRow]; done)))); done))
        · have hp' : ¬ (placeI ⟨4, 0, ⟨#[]⟩, names, kids⟩ nm < 0) := by omega
          (repeat (first | with_reducible refine AW.seq ?_ | ((first | refine arun_kn 4 rfl (fun C hC => ?_) | refine arunD_kn 4 rfl (fun C hC => ?_)); (repeat ((conv => whnf); simp [hw, hp'])); refine hC _ ?_; clear hC C; simp only [List.drop, Nat.reduceAdd]) | ((first | refine arun_kn 1 rfl (fun C hC => ?_) | refine arunD_kn 1 rfl (fun C hC => ?_)); (repeat ((conv => whnf); simp [hw, hp'])); refine hC _ ?_; clear hC C; simp only [List.drop, Nat.reduceAdd]) | (refine arun_skip ?_ ?_; (focus (simp [awant, hw, hp']; done))) | (refine AW.regionK [] (fun K hK => ?_)) | (refine AW.regionDK [] (pcs [] []) (by kernel_rfl) (by kernel_rfl) (fun K hK => ?_)) | (refine AW.condT ?_ ?_; (focus (simp [aev, hw, hp']; done))) | (refine AW.condF ?_ ?_; (focus (simp [aev, hw, hp']; done))) | with_reducible refine AW.block ?_ | ((first | ((first | refine arun_nil ?_ | refine arunD_nil ?_); refine hK _ ?_; clear hK K) | refine AW.skip ?_ | refine AW.exit ?_ | refine AW.ret ?_); simp only [thenA_exit, inBlockA_exit, if_true, if_false, Nat.reduceEqDiff, thenA_normal, inBlockA_normal, reduceIte, thenA_ret, inBlockA_ret, endQ_ret, endR_ret, endG_ret, endQ_normal, endR_normal, endG_normal])))
          refine ⟨(⟨4, 0, ⟨#[]⟩, names, kids⟩, j, b - 1 - C, 54), by dsimp only; omega, ⟨rfl, rfl, rfl, g4, by dsimp only at g5 ⊢; omega, by dsimp only; omega, g7, by simp⟩, ?_⟩
          dsimp only
          exact (less_of (by simp [lessL, mkSt, slots, namesRow]) (by simp [upd, mkSt, rowsOf_cons, namesRow]) (by simp [upd, mkSt, usedOf_cons, namesRow]) (by first | exact rd_less (by omega) | simp [mkSt, namesRow]) (by simp [slots, in_any, in_int, in_bool, in_str, in_ptr, in_own, in_agg, in_vnil, in_rdr, usedOf_cons, usedOf_nil, strs_in, ints_in, nodes_in, in_tup, namesRow]) (by simp only [List.forall_mem_cons, List.not_mem_nil, false_implies, implies_true, and_true, true_and, namesRow]; (repeat (first | with_reducible exact trivial | with_reducible refine And.intro ?_ ?_ | with_reducible exact in_int | with_reducible exact in_str | with_reducible exact in_bool | with_reducible exact strs_in _ | with_reducible exact nodes_in _ | with_reducible exact items_in _ | with_reducible exact in_vnil | with_reducible exact in_any | exact hin _ | with_reducible refine take_in ?_ | with_reducible exact strsE_in _ | with_reducible exact nodesE_in _ | with_reducible exact nodeL_in _ | with_reducible exact itemsE_in _ | with_reducible exact itemL_in _ | with_reducible refine app_in ?_ ?_ | with_reducible refine sing_in ?_ | (focus (simp [in_any, in_int, in_bool, in_str, in_ptr, in_own, in_agg, in_vnil, in_rdr, usedOf_cons, usedOf_nil, strs_in, ints_in, nodes_in, namesRow]; done)))); done))
end Go.Proofs.YtfjaobfaepjfnaaDoor.Eng
namespace Go.Proofs.YtfjaobfaepjfnaaDoor.Eng
open Go Go.RowKit
section
variable {w : World} {ρ : Cx} {S : Nat → Prop}
theorem strs_of_rep {t : VC} {xs : List ByteArray} {v : Value} (h : Rep w ρ (.view t 1 (strsE xs)) v) : ∃ a c, v = .slice a xs.length c ∧ StrsR w any a c xs := by
  obtain ⟨a, c, rfl, _, h3, h4, h5, h6⟩ := rep_view.1 h
  rw [strsE_len] at *
  refine ⟨a, c, rfl, h3, h4, ?_, ?_⟩
  · intro x hx
    obtain ⟨i, hi, rfl⟩ := List.mem_iff_getElem.1 hx
    rcases h6 with h6 | ⟨b, o, _, _, he⟩
    · unfold strsE at h6
      have := List.map_eq_nil_iff.1 h6
      subst this
      simp at hi
    · obtain ⟨u, _, _, q3⟩ := (he.get h5 (i := i) (e := [.str xs[i]]) (by rw [strsE_get, List.getElem?_eq_getElem hi]; rfl)).get (i := 0) rfl
      exact (rep_str.1 q3).2
  · rcases h6 with h6 | ⟨b, o, ha, _, he⟩
    · unfold strsE at h6
      exact .inl (List.map_eq_nil_iff.1 h6)
    · refine .inr ⟨b, o, ha, trivial, fun i hi => ?_⟩
      obtain ⟨u, q1, _, q3⟩ := (he.get h5 (i := i) (e := [.str xs[i]]) (by rw [strsE_get, List.getElem?_eq_getElem hi]; rfl)).get (i := 0) rfl
      rw [(rep_str.1 q3).1] at q1
      simpa using q1
theorem kids_of_rep {t : VC} {ks : List Nd} (ih : ∀ k ∈ ks, ∀ (ρ : Cx) na nc ka kc, Rep w ρ (.str k.text) (.string k.text) → Rep w ρ (.view .loose 1 (strsE k.names)) (.slice na k.names.length nc) → Rep w ρ (.view .loose 5 (k.kids.map nodeL)) (.slice ka k.kids.length kc) → NodeC w any k na nc ka kc)
    {a : Option Addr} {c : Nat} (h : Rep w ρ (.view t 5 (ks.map nodeL)) (.slice a ks.length c)) : ks.length ≤ c ∧ ks.length ≤ big ∧ (ks = [] ∨ ∃ b o, a = some ⟨b, o, none⟩ ∧ any b ∧ KidsR w any b o ks) := by
  obtain ⟨a', c', h1, h2, h3, h4, h5, h6⟩ := rep_view.1 h
  clear h2
  simp only [List.length_map] at *
  cases h1
  refine ⟨h3, h4, ?_⟩
  rcases h6 with h6 | ⟨b, o, ha, _, he⟩
  · exact .inl (List.map_eq_nil_iff.1 h6)
  · refine .inr ⟨b, o, ha, trivial, ?_⟩
    clear h h3 h4 h5 ha
    induction ks generalizing o with
    | nil => unfold KidsR; trivial
    | cons k ks ih2 =>
      unfold KidsR
      rw [List.map_cons] at he
      unfold RepE at he
      obtain ⟨e1, e2⟩ := he
      rw [nodeL_len] at e2
      refine ⟨?_, ih2 (fun k hk => ih k (by simp [hk])) _ e2⟩
      rw [nodeL_eq] at e1
      obtain ⟨v0, p0, _, q0⟩ := e1.get (i := 0) rfl
      obtain ⟨v1, p1, _, q1⟩ := e1.get (i := 1) rfl
      obtain ⟨v2, p2, _, q2⟩ := e1.get (i := 2) rfl
      obtain ⟨v3, p3, _, q3⟩ := e1.get (i := 3) rfl
      obtain ⟨v4, p4, _, q4⟩ := e1.get (i := 4) rfl
      rw [rep_int] at q0 q1
      have q2' := q2
      rw [rep_str] at q2'
      obtain ⟨na, nc, r3, _⟩ := rep_view.1 q3
      obtain ⟨ka, kc, r4, _⟩ := rep_view.1 q4
      rw [strsE_len] at r3
      rw [List.length_map] at r4
      subst q0 q1 r3 r4
      obtain ⟨rfl, _⟩ := q2'
      exact ⟨na, nc, ka, kc, p0, p1, p2, p3, p4, ih k (by simp) ρ _ _ _ _ q2 q3 q4⟩
theorem nodeC_of_rep : ∀ (n : Nd) (ρ : Cx) na nc ka kc, Rep w ρ (.str n.text) (.string n.text) → Rep w ρ (.view .loose 1 (strsE n.names)) (.slice na n.names.length nc) → Rep w ρ (.view .loose 5 (n.kids.map nodeL)) (.slice ka n.kids.length kc) → NodeC w any n na nc ka kc :=
  Nd.ind' _ (fun n ih ρ na nc ka kc h1 h2 h3 => by
    obtain ⟨a, c, h2', h2''⟩ := strs_of_rep h2
    cases h2'
    have := kids_of_rep (w := w) (ρ := ρ) ih h3
    cases n
    unfold NodeC
    exact ⟨(rep_str.1 h1).2, h2'', this.1, this.2⟩)
theorem node_of_rep {t : VC} {n : Nd} {v : Value} (h : Rep w ρ (nodeT t n) v) : NodeR w any n v := by
  unfold nodeT nodeTL at h
  obtain ⟨vs, rfl, _, h2⟩ := rep_agg.1 h
  obtain ⟨v0, p0, q0⟩ := h2.get (i := 0) rfl
  obtain ⟨v1, p1, q1⟩ := h2.get (i := 1) rfl
  obtain ⟨v2, p2, q2⟩ := h2.get (i := 2) rfl
  obtain ⟨v3, p3, q3⟩ := h2.get (i := 3) rfl
  obtain ⟨v4, p4, q4⟩ := h2.get (i := 4) rfl
  rw [rep_int] at q0 q1
  have q2' := q2
  rw [rep_str] at q2'
  obtain ⟨na, nc, r3, r3'⟩ := strs_of_rep q3
  obtain ⟨ka, kc, r4, _⟩ := rep_view.1 q4
  rw [List.length_map] at r4
  subst q0 q1 r3 r4
  obtain ⟨rfl, hsz⟩ := q2'
  have hl := h2.length
  simp only [List.length_cons, List.length_nil] at hl
  refine ⟨na, nc, ka, kc, ?_, ?_⟩
  · unfold nodeV
    congr 1
    apply Array.ext'
    apply List.ext_getElem?
    intro i
    rcases i with _ | _ | _ | _ | _ | i
    · exact p0
    · exact p1
    · exact p2
    · exact p3
    · exact p4
    · rw [List.getElem?_eq_none (by simp; omega), List.getElem?_eq_none (by simp)]
  · have hk := kids_of_rep (w := w) (ρ := ρ) (fun k _ => nodeC_of_rep k) q4
    cases n
    unfold NodeC
    exact ⟨hsz, r3', hk.1, hk.2⟩
end
end Go.Proofs.YtfjaobfaepjfnaaDoor.Eng
namespace Go.Proofs.YtfjaobfaepjfnaaDoor
open Go.RowKit
def validB (n : Nd) : Bool := shapeB n 5 && decide (n.count ≤ 40)
theorem ValidNode_ok (n : Nd) (v : Value) (w : World) (hn : NodeR w any n v) :
    Calls Tryd.prog 41 #[v] w fun e w' => e = .returned (.bool (validB n)) ∧ Grow w w' := by
  have Hn := Lib.hid hn
  obtain ⟨na, nc, ka, kc, rfl, hc⟩ := hn
  clear hc
  unfold nodeV at *
  cases hs : shapeB n 5
  · have Hf := Lib.hid (measV_no hs)
    have Hv : Hid (validB n = false) := Lib.hid (by simp [validB, hs])
    clear hs
    go_enter Tryd.func41, Tryd.ntmps41
    go_wp2_with (go_at_call 83; refine (measureNode_ok n 5 _ _ _ (by omega) (by omega) ((Hn.out).ext ((Ext.refl nil w).alloc _) (fun _ _ h => h))).mono ?_; rintro e w2 ⟨rfl, hg2⟩; simp only [Hf.out])
    go_ret
    exact ⟨by simp [Hv.out], (by repeat (first | with_reducible exact Ext.refl _ _ | with_reducible refine Ext.trans ?_ (by assumption) | with_reducible refine Ext.drew ?_ | with_reducible refine Ext.drewN ?_ _ | with_reducible refine Ext.alloc ?_ _ | with_reducible refine Ext.setNew ?_ (by simp; done) _ | with_reducible refine Ext.setNew ?_ (by simp; omega) _))⟩
  · have Hf := Lib.hid (measV_yes hs)
    have Hv : Hid (validB n = decide (n.count ≤ 40)) := Lib.hid (by simp [validB, hs])
    clear hs
    go_enter Tryd.func41, Tryd.ntmps41
    go_wp2_with (go_at_call 83; refine (measureNode_ok n 5 _ _ _ (by omega) (by omega) ((Hn.out).ext ((Ext.refl nil w).alloc _) (fun _ _ h => h))).mono ?_; rintro e w2 ⟨rfl, hg2⟩; simp only [Hf.out])
    all_goals go_ret
    all_goals exact ⟨by rw [Hv.out]; simp; omega, (by repeat (first | with_reducible exact Ext.refl _ _ | with_reducible refine Ext.trans ?_ (by assumption) | with_reducible refine Ext.drew ?_ | with_reducible refine Ext.drewN ?_ _ | with_reducible refine Ext.alloc ?_ _ | with_reducible refine Ext.setNew ?_ (by simp; done) _ | with_reducible refine Ext.setNew ?_ (by simp; omega) _))⟩
end Go.Proofs.YtfjaobfaepjfnaaDoor
namespace Go.Proofs.YtfjaobfaepjfnaaDoor
open Go.RowKit
theorem byte_lt (c : UInt8) : (c.toNat : Int) < 256 := by have := c.toNat_lt; omega
def inR (a b c : Int) : Bool := decide (b ≤ a) && decide (a ≤ c)
theorem inRange_ok (a b c : Int) (w : World) :
    Calls Tryd.prog 111 #[.int .i64 a, .int .i64 b, .int .i64 c] w fun e w' => e = .returned (.bool (inR a b c)) ∧ w' = w := by
  go_enter Tryd.func111, Tryd.ntmps111
  go_wp2
  all_goals go_ret
  all_goals exact ⟨by first | (simp_all [inR]; done) | (simp_all [inR]; omega), rfl⟩
theorem validText_ok (s : ByteArray) (w : World) (hs : s.size ≤ big) :
    Calls Tryd.prog 106 #[.string s] w fun e w' => e = .returned (.bool (plainT s)) ∧ w' = w := by
  unfold big at hs
  go_enter Tryd.func106, Tryd.ntmps106
  go_wp2
  go_loop [2, 3] (fun n i => n = .bool false ∧ ∃ k : Nat, k ≤ s.size ∧ i = .int .i64 k ∧ (s.data.toList.take k).all okB = true) (fun _ i => s.size - (intOf i).toNat)
  case atStart => exact ⟨rfl, 0, Nat.zero_le _, rfl, rfl⟩
  case round =>
    obtain ⟨rfl, k, hk, rfl, hall⟩ := hrel
    by_cases hlt : k < s.size
    · have Hall := Lib.hid hall
      have hby := byte_lt s[k]
      clear hall
      cases hc : inR (s[k].toNat : Int) 32 126
      · have Hf := Lib.hid (all_stop s k hlt (p := okB) (by simpa [okB, inR] using hc))
        go_wp2_with (go_at_call 111; refine (inRange_ok _ _ _ _).mono ?_; rintro e w' ⟨rfl, rfl⟩)
        go_ret
        exact ⟨by simp [plainT, Hf.out], rfl⟩
      · have Hc := Lib.hid hc
        go_wp2_with (go_at_call 111; refine (inRange_ok _ _ _ _).mono ?_; rintro e w' ⟨rfl, rfl⟩)
        go_round
        case rel => exact ⟨rfl, k + 1, by omega, by go_num, all_step s k hlt Hall.out (by simpa [okB, inR] using Hc.out)⟩
        case measure => simp [intOf]; omega
    · go_wp2
      go_ret
      exact ⟨by have : k = s.data.toList.length := by simp; omega
                rw [this, List.take_length] at hall
                simp [plainT, hall]; omega, rfl⟩
theorem shapeL_zero {l : List Nd} {d : Nat} (h : l.length = 0) : shapeL l d = true := by
  rw [List.length_eq_zero_iff.1 h]; simp [shapeL]
theorem names_ok (a : Option Addr) (c : Nat) (xs : List ByteArray) (w : World) (ha : StrsR w any a c xs) :
    Calls Tryd.prog 126 #[.slice a xs.length c] w fun e w' => e = .returned (.bool (namesB xs)) ∧ Grow w w' := by
  have hbig : xs.length ≤ 9223372036854775807 := ha.2.1
  have Ha := Lib.hid ha
  clear ha
  go_enter Tryd.func126, Tryd.ntmps126
  go_wp2
  go_loopw [2, 3] (fun n i wr => n = .bool false ∧ Grow w wr ∧ ∃ k : Nat, k ≤ xs.length ∧ i = .int .i64 k ∧ namesB xs = namesAt xs k) (fun _ i _ => xs.length - (intOf i).toNat)
  case atStart => exact ⟨rfl, Ext.refl _ _, 0, Nat.zero_le _, rfl, (namesAt_zero xs).symm⟩
  case round =>
    obtain ⟨rfl, hg, k, hk, rfl, hr⟩ := hrel
    have Hr := Lib.hid hr
    clear hr
    by_cases hlt : k < xs.length
    · obtain ⟨_, _, hxs, ha4⟩ := (Ha.out).ext hg (fun _ _ h => h)
      rcases ha4 with rfl | ⟨ba, oa, rfl, _, hca⟩
      · simp at hlt
      have hx := hca k hlt
      have hsz := hxs _ (List.getElem_mem hlt)
      cases hp : plainT xs[k]
      · have Hs : Hid (namesAt xs k = false) := Lib.hid (by
          rcases Nat.eq_zero_or_pos k with rfl | hk0
          · rw [namesAt_first xs hlt, hp]; rfl
          · rw [namesAt_next xs k hlt hk0, hp]; simp)
        have Hp := Lib.hid hp
        clear hca Ha hp
        go_wp2
        go_quiet ((go_at_call 106; exact Calls.quiet_of_same (by simpa only [Hp.out] using validText_ok xs[k] _ hsz)))
        go_wp2
        go_ret
        exact ⟨by simp [Hr.out, Hs.out], hg.drewN _⟩
      · have Hp := Lib.hid hp
        by_cases hk0 : 0 < k
        · have hy := hca (k - 1) (by omega)
          have Hs := Lib.hid (namesAt_next xs k hlt hk0)
          have hki : (0 : Int) < (k : Int) := by omega
          clear hca Ha hp
          rcases bl_cases xs[k - 1] xs[k] with ⟨l1, l2, l3, l4, _⟩ | ⟨l1, l2, l3, l4, _⟩ | l0
          · go_wp2
            go_quiet ((go_at_call 106; exact Calls.quiet_of_same (by simpa only [Hp.out] using validText_ok xs[k] _ hsz)))
            go_wp2
            go_roundw
            case rel => exact ⟨rfl, hg.drewN _, k + 1, by omega, by go_num, by rw [Hr.out, Hs.out, Hp.out, l1]; rfl⟩
            case measure => simp [intOf]; omega
          · go_wp2
            go_quiet ((go_at_call 106; exact Calls.quiet_of_same (by simpa only [Hp.out] using validText_ok xs[k] _ hsz)))
            go_wp2
            go_ret; exact ⟨by simp [Hr.out, Hs.out, Hp.out, l1], hg.drewN _⟩
          · rw [l0] at hy Hs
            clear l0
            have l1 := blF_irrefl xs[k]
            go_wp2
            go_quiet ((go_at_call 106; exact Calls.quiet_of_same (by simpa only [Hp.out] using validText_ok xs[k] _ hsz)))
            go_wp2
            go_ret; exact ⟨by simp [Hr.out, Hs.out, Hp.out, l1], hg.drewN _⟩
        · obtain rfl : k = 0 := by omega
          simp only [Nat.add_zero] at hx
          have Hs := Lib.hid (namesAt_first xs hlt)
          clear hca Ha hp
          go_wp2
          go_quiet ((go_at_call 106; exact Calls.quiet_of_same (by simpa only [Hp.out] using validText_ok xs[0] _ hsz)))
          go_wp2
          go_roundw
          case rel => exact ⟨rfl, hg.drewN _, 1, by omega, by go_num, by rw [Hr.out, Hs.out, Hp.out]; rfl⟩
          case measure => simp [intOf]; omega
    · go_wp2
      go_ret
      exact ⟨by simp [Hr.out, namesAt_end _ _ hlt], hg⟩
def ShapeOk (n : Nd) : Prop := ∀ (d : Nat) (dep : Int) (v : Value) (w : World), d ≤ 5 → dep = (d : Int) → NodeR w any n v →
    Calls Tryd.prog 96 #[v, .int .i64 dep] w fun e w' => e = .returned (.bool (shapeB n d)) ∧ Grow w w'
theorem kids_of (n : Nd) (ih : ∀ k ∈ n.kids, ShapeOk k) (d : Nat) (dep : Int) (v : Value) (w : World) (hd : d ≤ 4) (hdep : dep = (d : Int) + 1) (hn : NodeR w any n v) :
    Calls Tryd.prog 125 #[v, .int .i64 dep] w fun e w' => e = .returned (.bool (shapeL n.kids d)) ∧ Grow w w' := by
  have hd1 : 1 ≤ dep := by omega
  have hd2 : dep ≤ 5 := by omega
  have Hd := Lib.hid hdep
  have Ih := Lib.hid ih
  clear ih hdep
  obtain ⟨na, nc, ka, kc, rfl, hc⟩ := hn
  obtain ⟨htx, hns, hks⟩ := hc.parts
  have hkl : n.kids.length ≤ 9223372036854775807 := hks.2.1
  have Hks := Lib.hid hks
  clear htx hns hks hc
  unfold nodeV at *
  go_enter Tryd.func125, Tryd.ntmps125
  go_wp2
  go_loopw [4, 5] (fun n4 i wr => n4 = .bool false ∧ Grow (w.alloc (.cells #[.int .i64 n.kind, .int .i64 n.num, .string n.text, .slice na n.names.length nc, .slice ka n.kids.length kc] 26)) wr ∧ ∃ k : Nat, k ≤ n.kids.length ∧ i = .int .i64 k ∧ shapeL n.kids d = shapeL (n.kids.drop k) d) (fun _ i _ => n.kids.length - (intOf i).toNat)
  case atStart => exact ⟨rfl, Ext.refl _ _, 0, Nat.zero_le _, rfl, rfl⟩
  case round =>
    obtain ⟨rfl, hg, k, hk, rfl, hr⟩ := hrel
    have Hr := Lib.hid hr
    clear hr
    have hcc := bcell hg
    have hg0 : Grow w wr := ((Ext.refl _ _).alloc _).trans hg
    by_cases hlt : k < n.kids.length
    · obtain ⟨_, _, hks⟩ := (Hks.out).ext hg0 (fun _ _ h => h)
      rcases hks with hks | ⟨bk, ok, rfl, _, hkr⟩
      · simp [hks] at hlt
      obtain ⟨na', nc', ka', kc', c0, c1, c2, c3, c4, hkc⟩ := hkr.get k hlt
      have Hkc : Hid (NodeR wr any n.kids[k] (nodeV n.kids[k] na' nc' ka' kc')) := Lib.hid ⟨_, _, _, _, rfl, hkc⟩
      clear hkr hkc
      cases hsk : shapeB n.kids[k] d
      · have Hf := Lib.hid hsk
        have Hff := Lib.hid (shapeL_get hlt hsk)
        go_wp2_with (go_at_call 96; refine (Ih.out _ (List.getElem_mem hlt) d _ _ _ (by omega) (by have := Hd.out; omega) Hkc.out).mono ?_; rintro e w2 ⟨rfl, hg2⟩; simp only [Hf.out])
        go_ret
        exact ⟨by simp [Hff.out], hg0.trans hg2⟩
      · have Hf := Lib.hid hsk
        clear hsk
        go_wp2_with (go_at_call 96; refine (Ih.out _ (List.getElem_mem hlt) d _ _ _ (by omega) (by have := Hd.out; omega) Hkc.out).mono ?_; rintro e w2 ⟨rfl, hg2⟩; simp only [Hf.out])
        go_roundw
        case rel => exact ⟨rfl, hg.trans hg2, k + 1, by omega, by go_num, by rw [Hr.out, drop_cons _ _ hlt, shapeL, Hf.out]; rfl⟩
        case measure => simp [intOf]; omega
    · go_wp2
      go_ret
      exact ⟨by simp [Hr.out, List.drop_eq_nil_of_le (Nat.le_of_not_lt hlt), shapeL], hg0⟩
end Go.Proofs.YtfjaobfaepjfnaaDoor
namespace Go.Proofs.YtfjaobfaepjfnaaDoor
open Go.RowKit
theorem shape_other {n : Nd} {d : Nat} (h : n.kind < 0 ∨ 4 < n.kind) : shapeB n (d + 1) = false := by
  have h0 : ¬ n.kind = 0 := by omega
  have h1 : ¬ n.kind = 1 := by omega
  have h2 : ¬ n.kind = 2 := by omega
  have h3 : ¬ n.kind = 3 := by omega
  have h4 : ¬ n.kind = 4 := by omega
  simp [shapeB_eq, partsB, h0, h1, h2, h3, h4]
theorem shape_0 {n : Nd} {d : Nat} (h : n.kind = 0) : shapeB n (d + 1) = (decide (n.num = 0) && n.text.toList.isEmpty && decide (n.names.length = 0) && decide (n.kids.length = 0)) := by
  by_cases hk : n.kids.length = 0 <;> simp [shapeB_eq, partsB, h, hk, shapeL_zero, -List.length_eq_zero_iff]
theorem shape_1 {n : Nd} {d : Nat} (h : n.kind = 1) : shapeB n (d + 1) = (n.text.toList.isEmpty && decide (n.names.length = 0) && (decide (-999999 ≤ n.num) && decide (n.num ≤ 999999)) && decide (n.kids.length = 0)) := by
  by_cases hk : n.kids.length = 0 <;> simp [shapeB_eq, partsB, h, hk, shapeL_zero, -List.length_eq_zero_iff]
theorem shape_2 {n : Nd} {d : Nat} (h : n.kind = 2) : shapeB n (d + 1) = (decide (n.num = 0) && decide (n.names.length = 0) && plainT n.text && decide (n.kids.length = 0)) := by
  by_cases hk : n.kids.length = 0 <;> simp [shapeB_eq, partsB, h, hk, shapeL_zero, -List.length_eq_zero_iff]
theorem shape_3 {n : Nd} {d : Nat} (h : n.kind = 3) : shapeB n (d + 1) = (decide (n.num = 0) && n.text.toList.isEmpty && decide (n.names.length = 0) && decide (n.kids.length ≤ 6) && shapeL n.kids d) := by
  simp [shapeB_eq, partsB, h, -List.length_eq_zero_iff]
theorem shape_4 {n : Nd} {d : Nat} (h : n.kind = 4) : shapeB n (d + 1) = (decide (n.num = 0) && n.text.toList.isEmpty && areNamesB n.names && decide (n.kids.length = n.names.length) && shapeL n.kids d) := by
  simp [shapeB_eq, partsB, h, Bool.and_assoc, -List.length_eq_zero_iff]
theorem shape_long {n : Nd} {d : Nat} (h : 6 < n.kids.length) : shapeB n d = false := by
  cases hp : partsB n
  · simp [shapeB_eq, hp]
  · have := partsB_kids hp; omega
theorem shape_num {n : Nd} {d : Nat} (h1 : n.kind ≠ 1) (h2 : n.num ≠ 0) : shapeB n d = false := by simp [shapeB_eq, partsB, h1, h2]
theorem shape_text {n : Nd} {d : Nat} (h1 : n.kind ≠ 2) (h2 : (!n.text.toList.isEmpty) = true) : shapeB n d = false := by
  have : n.text.toList.isEmpty = false := by simpa using h2
  simp [shapeB_eq, partsB, h1, this]
theorem shape_names {n : Nd} {d : Nat} (h1 : n.kind ≠ 4) (h2 : 0 < n.names.length) : shapeB n d = false := by
  have : ¬ n.names.length = 0 := by omega
  simp [shapeB_eq, partsB, h1, this, -List.length_eq_zero_iff]
theorem shape_ok : ∀ n, ShapeOk n := by
  refine Nd.ind' ShapeOk ?_
  intro n ih d dep v w hd hdep hn
  have Hn := Lib.hid hn
  obtain ⟨na, nc, ka, kc, rfl, hc⟩ := hn
  obtain ⟨htx, hns, hks⟩ := hc.parts
  have hnl : n.names.length ≤ 9223372036854775807 := hns.2.1
  have hkl : n.kids.length ≤ 9223372036854775807 := hks.2.1
  have Hns := Lib.hid hns
  have Htx := Lib.hid htx
  have Ih := Lib.hid ih
  clear hns hks hc htx ih
  unfold nodeV at *
  by_cases hd0 : d = 0
  · subst hd0
    obtain rfl : dep = 0 := by omega
    clear hdep
    have Hf : Hid (shapeB n 0 = false) := Lib.hid (by rw [shapeB_eq]; simp)
    go_enter Tryd.func96, Tryd.ntmps96
    go_wp2_with fail
    go_ret
    exact ⟨by simp [Hf.out], (by repeat (first | with_reducible exact Ext.refl _ _ | with_reducible refine Ext.trans ?_ (by assumption) | with_reducible refine Ext.drew ?_ | with_reducible refine Ext.drewN ?_ _ | with_reducible refine Ext.alloc ?_ _ | with_reducible refine Ext.setNew ?_ (by simp; done) _ | with_reducible refine Ext.setNew ?_ (by simp; omega) _))⟩
  · obtain ⟨d, rfl⟩ : ∃ d', d = d' + 1 := ⟨d - 1, by omega⟩
    have hd1 : 1 ≤ dep := by omega
    have hd2 : dep ≤ 5 := by omega
    have hdne : (dep == 0) = false := by rw [ibeq]; simp; omega
    have Hdep := Lib.hid hdep
    have Hd := Lib.hid hd
    clear hd hdep hd0
    obtain ⟨kind, num, text, names, kids⟩ := n
    dsimp only at *
    by_cases h1 : 6 < kids.length
    · have hz : shapeB ⟨kind, num, text, names, kids⟩ (d + 1) = false := shape_long (by exact h1)
      have Hf := Lib.hid hz
      clear hz
      go_enter Tryd.func96, Tryd.ntmps96
      go_wp2_with (first | (go_at_call 111; refine (inRange_ok _ _ _ _).mono ?_; rintro e w' ⟨rfl, rfl⟩) | (go_at_call 106; refine (validText_ok _ _ Htx.out).mono ?_; rintro e w' ⟨rfl, rfl⟩) | (go_at_call 126; refine (names_ok _ _ _ _ (Hns.out.ext ((Ext.refl nil w).alloc _) (fun _ _ h => h))).mono ?_; rintro e w' ⟨rfl, hg⟩; have hcc := bcell hg) | (go_at_call 125; refine (kids_of _ Ih.out d _ _ _ (by have := Hd.out; omega) (by have := Hdep.out; omega) (Hn.out.ext (by repeat (first | exact Ext.refl _ _ | refine Ext.trans ?_ (by assumption) | refine Ext.alloc ?_ _)) (fun _ _ h => h))).mono ?_; rintro e w'' ⟨rfl, hg2⟩))
      all_goals (go_ret; refine ⟨?_, (by repeat (first | with_reducible exact Ext.refl _ _ | with_reducible refine Ext.trans ?_ (by assumption) | with_reducible refine Ext.drew ?_ | with_reducible refine Ext.drewN ?_ _ | with_reducible refine Ext.alloc ?_ _ | with_reducible refine Ext.setNew ?_ (by simp; done) _ | with_reducible refine Ext.setNew ?_ (by simp; omega) _))⟩; rw [Hf.out])
      all_goals clear Hn Hns Htx Ih Hdep Hd Hf
      all_goals (simp_all [-List.length_eq_zero_iff])
      all_goals first | omega | rfl | (intro _; exact ⟨by simp only [areNamesB, ‹namesB names = true›]; simp; omega, by omega⟩) | (intro h; exfalso; simp [areNamesB, ‹namesB names = false›] at h)
    have h1 : kids.length ≤ 6 := by omega
    by_cases k1 : kind = 1
    · subst k1
      have he := shape_1 (n := ⟨1, num, text, names, kids⟩) (d := d) rfl
      cases ht : (!text.toList.isEmpty)
      · by_cases h2 : 0 < names.length
        · have := h2
          have Hf := Lib.hid he
          clear he
          go_enter Tryd.func96, Tryd.ntmps96
          go_wp2_with (first | (go_at_call 111; refine (inRange_ok _ _ _ _).mono ?_; rintro e w' ⟨rfl, rfl⟩) | (go_at_call 106; refine (validText_ok _ _ Htx.out).mono ?_; rintro e w' ⟨rfl, rfl⟩) | (go_at_call 126; refine (names_ok _ _ _ _ (Hns.out.ext ((Ext.refl nil w).alloc _) (fun _ _ h => h))).mono ?_; rintro e w' ⟨rfl, hg⟩; have hcc := bcell hg) | (go_at_call 125; refine (kids_of _ Ih.out d _ _ _ (by have := Hd.out; omega) (by have := Hdep.out; omega) (Hn.out.ext (by repeat (first | exact Ext.refl _ _ | refine Ext.trans ?_ (by assumption) | refine Ext.alloc ?_ _)) (fun _ _ h => h))).mono ?_; rintro e w'' ⟨rfl, hg2⟩))
          all_goals (go_ret; refine ⟨?_, (by repeat (first | with_reducible exact Ext.refl _ _ | with_reducible refine Ext.trans ?_ (by assumption) | with_reducible refine Ext.drew ?_ | with_reducible refine Ext.drewN ?_ _ | with_reducible refine Ext.alloc ?_ _ | with_reducible refine Ext.setNew ?_ (by simp; done) _ | with_reducible refine Ext.setNew ?_ (by simp; omega) _))⟩; rw [Hf.out])
          all_goals clear Hn Hns Htx Ih Hdep Hd Hf
          all_goals (simp_all [-List.length_eq_zero_iff])
          all_goals first | omega | rfl | (intro _; exact ⟨by simp only [areNamesB, ‹namesB names = true›]; simp; omega, by omega⟩) | (intro h; exfalso; simp [areNamesB, ‹namesB names = false›] at h)
        · have h2 : names.length ≤ 0 := by omega
          by_cases h3 : 0 < kids.length
          · have := h3
            have Hf := Lib.hid he
            clear he
            go_enter Tryd.func96, Tryd.ntmps96
            go_wp2_with (first | (go_at_call 111; refine (inRange_ok _ _ _ _).mono ?_; rintro e w' ⟨rfl, rfl⟩) | (go_at_call 106; refine (validText_ok _ _ Htx.out).mono ?_; rintro e w' ⟨rfl, rfl⟩) | (go_at_call 126; refine (names_ok _ _ _ _ (Hns.out.ext ((Ext.refl nil w).alloc _) (fun _ _ h => h))).mono ?_; rintro e w' ⟨rfl, hg⟩; have hcc := bcell hg) | (go_at_call 125; refine (kids_of _ Ih.out d _ _ _ (by have := Hd.out; omega) (by have := Hdep.out; omega) (Hn.out.ext (by repeat (first | exact Ext.refl _ _ | refine Ext.trans ?_ (by assumption) | refine Ext.alloc ?_ _)) (fun _ _ h => h))).mono ?_; rintro e w'' ⟨rfl, hg2⟩))
            all_goals (go_ret; refine ⟨?_, (by repeat (first | with_reducible exact Ext.refl _ _ | with_reducible refine Ext.trans ?_ (by assumption) | with_reducible refine Ext.drew ?_ | with_reducible refine Ext.drewN ?_ _ | with_reducible refine Ext.alloc ?_ _ | with_reducible refine Ext.setNew ?_ (by simp; done) _ | with_reducible refine Ext.setNew ?_ (by simp; omega) _))⟩; rw [Hf.out])
            all_goals clear Hn Hns Htx Ih Hdep Hd Hf
            all_goals (simp_all [-List.length_eq_zero_iff])
            all_goals first | omega | rfl | (intro _; exact ⟨by simp only [areNamesB, ‹namesB names = true›]; simp; omega, by omega⟩) | (intro h; exfalso; simp [areNamesB, ‹namesB names = false›] at h)
          · have h3 : kids.length ≤ 0 := by omega
            have Hf := Lib.hid he
            clear he
            go_enter Tryd.func96, Tryd.ntmps96
            go_wp2_with (first | (go_at_call 111; refine (inRange_ok _ _ _ _).mono ?_; rintro e w' ⟨rfl, rfl⟩) | (go_at_call 106; refine (validText_ok _ _ Htx.out).mono ?_; rintro e w' ⟨rfl, rfl⟩) | (go_at_call 126; refine (names_ok _ _ _ _ (Hns.out.ext ((Ext.refl nil w).alloc _) (fun _ _ h => h))).mono ?_; rintro e w' ⟨rfl, hg⟩; have hcc := bcell hg) | (go_at_call 125; refine (kids_of _ Ih.out d _ _ _ (by have := Hd.out; omega) (by have := Hdep.out; omega) (Hn.out.ext (by repeat (first | exact Ext.refl _ _ | refine Ext.trans ?_ (by assumption) | refine Ext.alloc ?_ _)) (fun _ _ h => h))).mono ?_; rintro e w'' ⟨rfl, hg2⟩))
            all_goals (go_ret; refine ⟨?_, (by repeat (first | with_reducible exact Ext.refl _ _ | with_reducible refine Ext.trans ?_ (by assumption) | with_reducible refine Ext.drew ?_ | with_reducible refine Ext.drewN ?_ _ | with_reducible refine Ext.alloc ?_ _ | with_reducible refine Ext.setNew ?_ (by simp; done) _ | with_reducible refine Ext.setNew ?_ (by simp; omega) _))⟩; rw [Hf.out])
            all_goals clear Hn Hns Htx Ih Hdep Hd Hf
            all_goals (simp_all [-List.length_eq_zero_iff])
            all_goals first | omega | rfl | (intro _; exact ⟨by simp only [areNamesB, ‹namesB names = true›]; simp; omega, by omega⟩) | (intro h; exfalso; simp [areNamesB, ‹namesB names = false›] at h)
      · have := ht
        have Hf := Lib.hid he
        clear he
        go_enter Tryd.func96, Tryd.ntmps96
        go_wp2_with (first | (go_at_call 111; refine (inRange_ok _ _ _ _).mono ?_; rintro e w' ⟨rfl, rfl⟩) | (go_at_call 106; refine (validText_ok _ _ Htx.out).mono ?_; rintro e w' ⟨rfl, rfl⟩) | (go_at_call 126; refine (names_ok _ _ _ _ (Hns.out.ext ((Ext.refl nil w).alloc _) (fun _ _ h => h))).mono ?_; rintro e w' ⟨rfl, hg⟩; have hcc := bcell hg) | (go_at_call 125; refine (kids_of _ Ih.out d _ _ _ (by have := Hd.out; omega) (by have := Hdep.out; omega) (Hn.out.ext (by repeat (first | exact Ext.refl _ _ | refine Ext.trans ?_ (by assumption) | refine Ext.alloc ?_ _)) (fun _ _ h => h))).mono ?_; rintro e w'' ⟨rfl, hg2⟩))
        all_goals (go_ret; refine ⟨?_, (by repeat (first | with_reducible exact Ext.refl _ _ | with_reducible refine Ext.trans ?_ (by assumption) | with_reducible refine Ext.drew ?_ | with_reducible refine Ext.drewN ?_ _ | with_reducible refine Ext.alloc ?_ _ | with_reducible refine Ext.setNew ?_ (by simp; done) _ | with_reducible refine Ext.setNew ?_ (by simp; omega) _))⟩; rw [Hf.out])
        all_goals clear Hn Hns Htx Ih Hdep Hd Hf
        all_goals (simp_all [-List.length_eq_zero_iff])
        all_goals first | omega | rfl | (intro _; exact ⟨by simp only [areNamesB, ‹namesB names = true›]; simp; omega, by omega⟩) | (intro h; exfalso; simp [areNamesB, ‹namesB names = false›] at h)
    have k1 : (kind != 1) = true := by simpa using k1
    by_cases hnum : num = 0
    rotate_left
    · have hnum : (num != 0) = true := by simpa using hnum
      have hz : shapeB ⟨kind, num, text, names, kids⟩ (d + 1) = false := shape_num (by simpa using k1) (by simpa using hnum)
      have Hf := Lib.hid hz
      clear hz
      go_enter Tryd.func96, Tryd.ntmps96
      go_wp2_with (first | (go_at_call 111; refine (inRange_ok _ _ _ _).mono ?_; rintro e w' ⟨rfl, rfl⟩) | (go_at_call 106; refine (validText_ok _ _ Htx.out).mono ?_; rintro e w' ⟨rfl, rfl⟩) | (go_at_call 126; refine (names_ok _ _ _ _ (Hns.out.ext ((Ext.refl nil w).alloc _) (fun _ _ h => h))).mono ?_; rintro e w' ⟨rfl, hg⟩; have hcc := bcell hg) | (go_at_call 125; refine (kids_of _ Ih.out d _ _ _ (by have := Hd.out; omega) (by have := Hdep.out; omega) (Hn.out.ext (by repeat (first | exact Ext.refl _ _ | refine Ext.trans ?_ (by assumption) | refine Ext.alloc ?_ _)) (fun _ _ h => h))).mono ?_; rintro e w'' ⟨rfl, hg2⟩))
      all_goals (go_ret; refine ⟨?_, (by repeat (first | with_reducible exact Ext.refl _ _ | with_reducible refine Ext.trans ?_ (by assumption) | with_reducible refine Ext.drew ?_ | with_reducible refine Ext.drewN ?_ _ | with_reducible refine Ext.alloc ?_ _ | with_reducible refine Ext.setNew ?_ (by simp; done) _ | with_reducible refine Ext.setNew ?_ (by simp; omega) _))⟩; rw [Hf.out])
      all_goals clear Hn Hns Htx Ih Hdep Hd Hf
      all_goals (simp_all [-List.length_eq_zero_iff])
      all_goals first | omega | rfl | (intro _; exact ⟨by simp only [areNamesB, ‹namesB names = true›]; simp; omega, by omega⟩) | (intro h; exfalso; simp [areNamesB, ‹namesB names = false›] at h)
    subst hnum
    by_cases k2 : kind = 2
    · subst k2
      have he := shape_2 (n := ⟨2, 0, text, names, kids⟩) (d := d) rfl
      by_cases h2 : 0 < names.length
      · have := h2
        have Hf := Lib.hid he
        clear he
        go_enter Tryd.func96, Tryd.ntmps96
        go_wp2_with (first | (go_at_call 111; refine (inRange_ok _ _ _ _).mono ?_; rintro e w' ⟨rfl, rfl⟩) | (go_at_call 106; refine (validText_ok _ _ Htx.out).mono ?_; rintro e w' ⟨rfl, rfl⟩) | (go_at_call 126; refine (names_ok _ _ _ _ (Hns.out.ext ((Ext.refl nil w).alloc _) (fun _ _ h => h))).mono ?_; rintro e w' ⟨rfl, hg⟩; have hcc := bcell hg) | (go_at_call 125; refine (kids_of _ Ih.out d _ _ _ (by have := Hd.out; omega) (by have := Hdep.out; omega) (Hn.out.ext (by repeat (first | exact Ext.refl _ _ | refine Ext.trans ?_ (by assumption) | refine Ext.alloc ?_ _)) (fun _ _ h => h))).mono ?_; rintro e w'' ⟨rfl, hg2⟩))
        all_goals (go_ret; refine ⟨?_, (by repeat (first | with_reducible exact Ext.refl _ _ | with_reducible refine Ext.trans ?_ (by assumption) | with_reducible refine Ext.drew ?_ | with_reducible refine Ext.drewN ?_ _ | with_reducible refine Ext.alloc ?_ _ | with_reducible refine Ext.setNew ?_ (by simp; done) _ | with_reducible refine Ext.setNew ?_ (by simp; omega) _))⟩; rw [Hf.out])
        all_goals clear Hn Hns Htx Ih Hdep Hd Hf
        all_goals (simp_all [-List.length_eq_zero_iff])
        all_goals first | omega | rfl | (intro _; exact ⟨by simp only [areNamesB, ‹namesB names = true›]; simp; omega, by omega⟩) | (intro h; exfalso; simp [areNamesB, ‹namesB names = false›] at h)
      · have h2 : names.length ≤ 0 := by omega
        by_cases h3 : 0 < kids.length
        · have := h3
          have Hf := Lib.hid he
          clear he
          go_enter Tryd.func96, Tryd.ntmps96
          go_wp2_with (first | (go_at_call 111; refine (inRange_ok _ _ _ _).mono ?_; rintro e w' ⟨rfl, rfl⟩) | (go_at_call 106; refine (validText_ok _ _ Htx.out).mono ?_; rintro e w' ⟨rfl, rfl⟩) | (go_at_call 126; refine (names_ok _ _ _ _ (Hns.out.ext ((Ext.refl nil w).alloc _) (fun _ _ h => h))).mono ?_; rintro e w' ⟨rfl, hg⟩; have hcc := bcell hg) | (go_at_call 125; refine (kids_of _ Ih.out d _ _ _ (by have := Hd.out; omega) (by have := Hdep.out; omega) (Hn.out.ext (by repeat (first | exact Ext.refl _ _ | refine Ext.trans ?_ (by assumption) | refine Ext.alloc ?_ _)) (fun _ _ h => h))).mono ?_; rintro e w'' ⟨rfl, hg2⟩))
          all_goals (go_ret; refine ⟨?_, (by repeat (first | with_reducible exact Ext.refl _ _ | with_reducible refine Ext.trans ?_ (by assumption) | with_reducible refine Ext.drew ?_ | with_reducible refine Ext.drewN ?_ _ | with_reducible refine Ext.alloc ?_ _ | with_reducible refine Ext.setNew ?_ (by simp; done) _ | with_reducible refine Ext.setNew ?_ (by simp; omega) _))⟩; rw [Hf.out])
          all_goals clear Hn Hns Htx Ih Hdep Hd Hf
          all_goals (simp_all [-List.length_eq_zero_iff])
          all_goals first | omega | rfl | (intro _; exact ⟨by simp only [areNamesB, ‹namesB names = true›]; simp; omega, by omega⟩) | (intro h; exfalso; simp [areNamesB, ‹namesB names = false›] at h)
        · have h3 : kids.length ≤ 0 := by omega
          have Hf := Lib.hid he
          clear he
          go_enter Tryd.func96, Tryd.ntmps96
          go_wp2_with (first | (go_at_call 111; refine (inRange_ok _ _ _ _).mono ?_; rintro e w' ⟨rfl, rfl⟩) | (go_at_call 106; refine (validText_ok _ _ Htx.out).mono ?_; rintro e w' ⟨rfl, rfl⟩) | (go_at_call 126; refine (names_ok _ _ _ _ (Hns.out.ext ((Ext.refl nil w).alloc _) (fun _ _ h => h))).mono ?_; rintro e w' ⟨rfl, hg⟩; have hcc := bcell hg) | (go_at_call 125; refine (kids_of _ Ih.out d _ _ _ (by have := Hd.out; omega) (by have := Hdep.out; omega) (Hn.out.ext (by repeat (first | exact Ext.refl _ _ | refine Ext.trans ?_ (by assumption) | refine Ext.alloc ?_ _)) (fun _ _ h => h))).mono ?_; rintro e w'' ⟨rfl, hg2⟩))
          all_goals (go_ret; refine ⟨?_, (by repeat (first | with_reducible exact Ext.refl _ _ | with_reducible refine Ext.trans ?_ (by assumption) | with_reducible refine Ext.drew ?_ | with_reducible refine Ext.drewN ?_ _ | with_reducible refine Ext.alloc ?_ _ | with_reducible refine Ext.setNew ?_ (by simp; done) _ | with_reducible refine Ext.setNew ?_ (by simp; omega) _))⟩; rw [Hf.out])
          all_goals clear Hn Hns Htx Ih Hdep Hd Hf
          all_goals (simp_all [-List.length_eq_zero_iff])
          all_goals first | omega | rfl | (intro _; exact ⟨by simp only [areNamesB, ‹namesB names = true›]; simp; omega, by omega⟩) | (intro h; exfalso; simp [areNamesB, ‹namesB names = false›] at h)
    have k2 : (kind != 2) = true := by simpa using k2
    cases ht : (!text.toList.isEmpty)
    rotate_left
    · have hz : shapeB ⟨kind, 0, text, names, kids⟩ (d + 1) = false := shape_text (by simpa using k2) ht
      have Hf := Lib.hid hz
      clear hz
      go_enter Tryd.func96, Tryd.ntmps96
      go_wp2_with (first | (go_at_call 111; refine (inRange_ok _ _ _ _).mono ?_; rintro e w' ⟨rfl, rfl⟩) | (go_at_call 106; refine (validText_ok _ _ Htx.out).mono ?_; rintro e w' ⟨rfl, rfl⟩) | (go_at_call 126; refine (names_ok _ _ _ _ (Hns.out.ext ((Ext.refl nil w).alloc _) (fun _ _ h => h))).mono ?_; rintro e w' ⟨rfl, hg⟩; have hcc := bcell hg) | (go_at_call 125; refine (kids_of _ Ih.out d _ _ _ (by have := Hd.out; omega) (by have := Hdep.out; omega) (Hn.out.ext (by repeat (first | exact Ext.refl _ _ | refine Ext.trans ?_ (by assumption) | refine Ext.alloc ?_ _)) (fun _ _ h => h))).mono ?_; rintro e w'' ⟨rfl, hg2⟩))
      all_goals (go_ret; refine ⟨?_, (by repeat (first | with_reducible exact Ext.refl _ _ | with_reducible refine Ext.trans ?_ (by assumption) | with_reducible refine Ext.drew ?_ | with_reducible refine Ext.drewN ?_ _ | with_reducible refine Ext.alloc ?_ _ | with_reducible refine Ext.setNew ?_ (by simp; done) _ | with_reducible refine Ext.setNew ?_ (by simp; omega) _))⟩; rw [Hf.out])
      all_goals clear Hn Hns Htx Ih Hdep Hd Hf
      all_goals (simp_all [-List.length_eq_zero_iff])
      all_goals first | omega | rfl | (intro _; exact ⟨by simp only [areNamesB, ‹namesB names = true›]; simp; omega, by omega⟩) | (intro h; exfalso; simp [areNamesB, ‹namesB names = false›] at h)
    by_cases k4 : kind = 4
    · subst k4
      have he := shape_4 (n := ⟨4, 0, text, names, kids⟩) (d := d) rfl
      have Hf := Lib.hid he
      clear he
      go_enter Tryd.func96, Tryd.ntmps96
      go_wp2_with (first | (go_at_call 111; refine (inRange_ok _ _ _ _).mono ?_; rintro e w' ⟨rfl, rfl⟩) | (go_at_call 106; refine (validText_ok _ _ Htx.out).mono ?_; rintro e w' ⟨rfl, rfl⟩) | (go_at_call 126; refine (names_ok _ _ _ _ (Hns.out.ext ((Ext.refl nil w).alloc _) (fun _ _ h => h))).mono ?_; rintro e w' ⟨rfl, hg⟩; have hcc := bcell hg) | (go_at_call 125; refine (kids_of _ Ih.out d _ _ _ (by have := Hd.out; omega) (by have := Hdep.out; omega) (Hn.out.ext (by repeat (first | exact Ext.refl _ _ | refine Ext.trans ?_ (by assumption) | refine Ext.alloc ?_ _)) (fun _ _ h => h))).mono ?_; rintro e w'' ⟨rfl, hg2⟩))
      all_goals (go_ret; refine ⟨?_, (by repeat (first | with_reducible exact Ext.refl _ _ | with_reducible refine Ext.trans ?_ (by assumption) | with_reducible refine Ext.drew ?_ | with_reducible refine Ext.drewN ?_ _ | with_reducible refine Ext.alloc ?_ _ | with_reducible refine Ext.setNew ?_ (by simp; done) _ | with_reducible refine Ext.setNew ?_ (by simp; omega) _))⟩; rw [Hf.out])
      all_goals clear Hn Hns Htx Ih Hdep Hd Hf
      all_goals (simp_all [-List.length_eq_zero_iff])
      all_goals first | omega | rfl | (intro _; exact ⟨by simp only [areNamesB, ‹namesB names = true›]; simp; omega, by omega⟩) | (intro h; exfalso; simp [areNamesB, ‹namesB names = false›] at h)
    have k4 : (kind != 4) = true := by simpa using k4
    by_cases h2 : 0 < names.length
    · have hz : shapeB ⟨kind, 0, text, names, kids⟩ (d + 1) = false := shape_names (by simpa using k4) h2
      have Hf := Lib.hid hz
      clear hz
      go_enter Tryd.func96, Tryd.ntmps96
      go_wp2_with (first | (go_at_call 111; refine (inRange_ok _ _ _ _).mono ?_; rintro e w' ⟨rfl, rfl⟩) | (go_at_call 106; refine (validText_ok _ _ Htx.out).mono ?_; rintro e w' ⟨rfl, rfl⟩) | (go_at_call 126; refine (names_ok _ _ _ _ (Hns.out.ext ((Ext.refl nil w).alloc _) (fun _ _ h => h))).mono ?_; rintro e w' ⟨rfl, hg⟩; have hcc := bcell hg) | (go_at_call 125; refine (kids_of _ Ih.out d _ _ _ (by have := Hd.out; omega) (by have := Hdep.out; omega) (Hn.out.ext (by repeat (first | exact Ext.refl _ _ | refine Ext.trans ?_ (by assumption) | refine Ext.alloc ?_ _)) (fun _ _ h => h))).mono ?_; rintro e w'' ⟨rfl, hg2⟩))
      all_goals (go_ret; refine ⟨?_, (by repeat (first | with_reducible exact Ext.refl _ _ | with_reducible refine Ext.trans ?_ (by assumption) | with_reducible refine Ext.drew ?_ | with_reducible refine Ext.drewN ?_ _ | with_reducible refine Ext.alloc ?_ _ | with_reducible refine Ext.setNew ?_ (by simp; done) _ | with_reducible refine Ext.setNew ?_ (by simp; omega) _))⟩; rw [Hf.out])
      all_goals clear Hn Hns Htx Ih Hdep Hd Hf
      all_goals (simp_all [-List.length_eq_zero_iff])
      all_goals first | omega | rfl | (intro _; exact ⟨by simp only [areNamesB, ‹namesB names = true›]; simp; omega, by omega⟩) | (intro h; exfalso; simp [areNamesB, ‹namesB names = false›] at h)
    have h2 : names.length ≤ 0 := by omega
    by_cases k3 : kind = 3
    · subst k3
      have he := shape_3 (n := ⟨3, 0, text, names, kids⟩) (d := d) rfl
      have Hf := Lib.hid he
      clear he
      go_enter Tryd.func96, Tryd.ntmps96
      go_wp2_with (first | (go_at_call 111; refine (inRange_ok _ _ _ _).mono ?_; rintro e w' ⟨rfl, rfl⟩) | (go_at_call 106; refine (validText_ok _ _ Htx.out).mono ?_; rintro e w' ⟨rfl, rfl⟩) | (go_at_call 126; refine (names_ok _ _ _ _ (Hns.out.ext ((Ext.refl nil w).alloc _) (fun _ _ h => h))).mono ?_; rintro e w' ⟨rfl, hg⟩; have hcc := bcell hg) | (go_at_call 125; refine (kids_of _ Ih.out d _ _ _ (by have := Hd.out; omega) (by have := Hdep.out; omega) (Hn.out.ext (by repeat (first | exact Ext.refl _ _ | refine Ext.trans ?_ (by assumption) | refine Ext.alloc ?_ _)) (fun _ _ h => h))).mono ?_; rintro e w'' ⟨rfl, hg2⟩))
      all_goals (go_ret; refine ⟨?_, (by repeat (first | with_reducible exact Ext.refl _ _ | with_reducible refine Ext.trans ?_ (by assumption) | with_reducible refine Ext.drew ?_ | with_reducible refine Ext.drewN ?_ _ | with_reducible refine Ext.alloc ?_ _ | with_reducible refine Ext.setNew ?_ (by simp; done) _ | with_reducible refine Ext.setNew ?_ (by simp; omega) _))⟩; rw [Hf.out])
      all_goals clear Hn Hns Htx Ih Hdep Hd Hf
      all_goals (simp_all [-List.length_eq_zero_iff])
      all_goals first | omega | rfl | (intro _; exact ⟨by simp only [areNamesB, ‹namesB names = true›]; simp; omega, by omega⟩) | (intro h; exfalso; simp [areNamesB, ‹namesB names = false›] at h)
    by_cases k0 : kind = 0
    · subst k0
      have he := shape_0 (n := ⟨0, 0, text, names, kids⟩) (d := d) rfl
      by_cases h3 : 0 < kids.length
      · have := h3
        have Hf := Lib.hid he
        clear he
        go_enter Tryd.func96, Tryd.ntmps96
        go_wp2_with (first | (go_at_call 111; refine (inRange_ok _ _ _ _).mono ?_; rintro e w' ⟨rfl, rfl⟩) | (go_at_call 106; refine (validText_ok _ _ Htx.out).mono ?_; rintro e w' ⟨rfl, rfl⟩) | (go_at_call 126; refine (names_ok _ _ _ _ (Hns.out.ext ((Ext.refl nil w).alloc _) (fun _ _ h => h))).mono ?_; rintro e w' ⟨rfl, hg⟩; have hcc := bcell hg) | (go_at_call 125; refine (kids_of _ Ih.out d _ _ _ (by have := Hd.out; omega) (by have := Hdep.out; omega) (Hn.out.ext (by repeat (first | exact Ext.refl _ _ | refine Ext.trans ?_ (by assumption) | refine Ext.alloc ?_ _)) (fun _ _ h => h))).mono ?_; rintro e w'' ⟨rfl, hg2⟩))
        all_goals (go_ret; refine ⟨?_, (by repeat (first | with_reducible exact Ext.refl _ _ | with_reducible refine Ext.trans ?_ (by assumption) | with_reducible refine Ext.drew ?_ | with_reducible refine Ext.drewN ?_ _ | with_reducible refine Ext.alloc ?_ _ | with_reducible refine Ext.setNew ?_ (by simp; done) _ | with_reducible refine Ext.setNew ?_ (by simp; omega) _))⟩; rw [Hf.out])
        all_goals clear Hn Hns Htx Ih Hdep Hd Hf
        all_goals (simp_all [-List.length_eq_zero_iff])
        all_goals first | omega | rfl | (intro _; exact ⟨by simp only [areNamesB, ‹namesB names = true›]; simp; omega, by omega⟩) | (intro h; exfalso; simp [areNamesB, ‹namesB names = false›] at h)
      · have h3 : kids.length ≤ 0 := by omega
        have Hf := Lib.hid he
        clear he
        go_enter Tryd.func96, Tryd.ntmps96
        go_wp2_with (first | (go_at_call 111; refine (inRange_ok _ _ _ _).mono ?_; rintro e w' ⟨rfl, rfl⟩) | (go_at_call 106; refine (validText_ok _ _ Htx.out).mono ?_; rintro e w' ⟨rfl, rfl⟩) | (go_at_call 126; refine (names_ok _ _ _ _ (Hns.out.ext ((Ext.refl nil w).alloc _) (fun _ _ h => h))).mono ?_; rintro e w' ⟨rfl, hg⟩; have hcc := bcell hg) | (go_at_call 125; refine (kids_of _ Ih.out d _ _ _ (by have := Hd.out; omega) (by have := Hdep.out; omega) (Hn.out.ext (by repeat (first | exact Ext.refl _ _ | refine Ext.trans ?_ (by assumption) | refine Ext.alloc ?_ _)) (fun _ _ h => h))).mono ?_; rintro e w'' ⟨rfl, hg2⟩))
        all_goals (go_ret; refine ⟨?_, (by repeat (first | with_reducible exact Ext.refl _ _ | with_reducible refine Ext.trans ?_ (by assumption) | with_reducible refine Ext.drew ?_ | with_reducible refine Ext.drewN ?_ _ | with_reducible refine Ext.alloc ?_ _ | with_reducible refine Ext.setNew ?_ (by simp; done) _ | with_reducible refine Ext.setNew ?_ (by simp; omega) _))⟩; rw [Hf.out])
        all_goals clear Hn Hns Htx Ih Hdep Hd Hf
        all_goals (simp_all [-List.length_eq_zero_iff])
        all_goals first | omega | rfl | (intro _; exact ⟨by simp only [areNamesB, ‹namesB names = true›]; simp; omega, by omega⟩) | (intro h; exfalso; simp [areNamesB, ‹namesB names = false›] at h)
    have kk : kind < 0 ∨ 4 < kind := by simp at k1 k2 k4; omega
    have hz : shapeB ⟨kind, 0, text, names, kids⟩ (d + 1) = false := shape_other kk
    rcases kk with kk | kk
    · by_cases h3 : 0 < kids.length
      · have := h3
        have Hf := Lib.hid hz
        clear hz
        go_enter Tryd.func96, Tryd.ntmps96
        go_wp2_with (first | (go_at_call 111; refine (inRange_ok _ _ _ _).mono ?_; rintro e w' ⟨rfl, rfl⟩) | (go_at_call 106; refine (validText_ok _ _ Htx.out).mono ?_; rintro e w' ⟨rfl, rfl⟩) | (go_at_call 126; refine (names_ok _ _ _ _ (Hns.out.ext ((Ext.refl nil w).alloc _) (fun _ _ h => h))).mono ?_; rintro e w' ⟨rfl, hg⟩; have hcc := bcell hg) | (go_at_call 125; refine (kids_of _ Ih.out d _ _ _ (by have := Hd.out; omega) (by have := Hdep.out; omega) (Hn.out.ext (by repeat (first | exact Ext.refl _ _ | refine Ext.trans ?_ (by assumption) | refine Ext.alloc ?_ _)) (fun _ _ h => h))).mono ?_; rintro e w'' ⟨rfl, hg2⟩))
        all_goals (go_ret; refine ⟨?_, (by repeat (first | with_reducible exact Ext.refl _ _ | with_reducible refine Ext.trans ?_ (by assumption) | with_reducible refine Ext.drew ?_ | with_reducible refine Ext.drewN ?_ _ | with_reducible refine Ext.alloc ?_ _ | with_reducible refine Ext.setNew ?_ (by simp; done) _ | with_reducible refine Ext.setNew ?_ (by simp; omega) _))⟩; rw [Hf.out])
        all_goals clear Hn Hns Htx Ih Hdep Hd Hf
        all_goals (simp_all [-List.length_eq_zero_iff])
        all_goals first | omega | rfl | (intro _; exact ⟨by simp only [areNamesB, ‹namesB names = true›]; simp; omega, by omega⟩) | (intro h; exfalso; simp [areNamesB, ‹namesB names = false›] at h)
      · have h3 : kids.length ≤ 0 := by omega
        have Hf := Lib.hid hz
        clear hz
        go_enter Tryd.func96, Tryd.ntmps96
        go_wp2_with (first | (go_at_call 111; refine (inRange_ok _ _ _ _).mono ?_; rintro e w' ⟨rfl, rfl⟩) | (go_at_call 106; refine (validText_ok _ _ Htx.out).mono ?_; rintro e w' ⟨rfl, rfl⟩) | (go_at_call 126; refine (names_ok _ _ _ _ (Hns.out.ext ((Ext.refl nil w).alloc _) (fun _ _ h => h))).mono ?_; rintro e w' ⟨rfl, hg⟩; have hcc := bcell hg) | (go_at_call 125; refine (kids_of _ Ih.out d _ _ _ (by have := Hd.out; omega) (by have := Hdep.out; omega) (Hn.out.ext (by repeat (first | exact Ext.refl _ _ | refine Ext.trans ?_ (by assumption) | refine Ext.alloc ?_ _)) (fun _ _ h => h))).mono ?_; rintro e w'' ⟨rfl, hg2⟩))
        all_goals (go_ret; refine ⟨?_, (by repeat (first | with_reducible exact Ext.refl _ _ | with_reducible refine Ext.trans ?_ (by assumption) | with_reducible refine Ext.drew ?_ | with_reducible refine Ext.drewN ?_ _ | with_reducible refine Ext.alloc ?_ _ | with_reducible refine Ext.setNew ?_ (by simp; done) _ | with_reducible refine Ext.setNew ?_ (by simp; omega) _))⟩; rw [Hf.out])
        all_goals clear Hn Hns Htx Ih Hdep Hd Hf
        all_goals (simp_all [-List.length_eq_zero_iff])
        all_goals first | omega | rfl | (intro _; exact ⟨by simp only [areNamesB, ‹namesB names = true›]; simp; omega, by omega⟩) | (intro h; exfalso; simp [areNamesB, ‹namesB names = false›] at h)
    · have := kk
      have Hf := Lib.hid hz
      clear hz
      go_enter Tryd.func96, Tryd.ntmps96
      go_wp2_with (first | (go_at_call 111; refine (inRange_ok _ _ _ _).mono ?_; rintro e w' ⟨rfl, rfl⟩) | (go_at_call 106; refine (validText_ok _ _ Htx.out).mono ?_; rintro e w' ⟨rfl, rfl⟩) | (go_at_call 126; refine (names_ok _ _ _ _ (Hns.out.ext ((Ext.refl nil w).alloc _) (fun _ _ h => h))).mono ?_; rintro e w' ⟨rfl, hg⟩; have hcc := bcell hg) | (go_at_call 125; refine (kids_of _ Ih.out d _ _ _ (by have := Hd.out; omega) (by have := Hdep.out; omega) (Hn.out.ext (by repeat (first | exact Ext.refl _ _ | refine Ext.trans ?_ (by assumption) | refine Ext.alloc ?_ _)) (fun _ _ h => h))).mono ?_; rintro e w'' ⟨rfl, hg2⟩))
      all_goals (go_ret; refine ⟨?_, (by repeat (first | with_reducible exact Ext.refl _ _ | with_reducible refine Ext.trans ?_ (by assumption) | with_reducible refine Ext.drew ?_ | with_reducible refine Ext.drewN ?_ _ | with_reducible refine Ext.alloc ?_ _ | with_reducible refine Ext.setNew ?_ (by simp; done) _ | with_reducible refine Ext.setNew ?_ (by simp; omega) _))⟩; rw [Hf.out])
      all_goals clear Hn Hns Htx Ih Hdep Hd Hf
      all_goals (simp_all [-List.length_eq_zero_iff])
      all_goals first | omega | rfl | (intro _; exact ⟨by simp only [areNamesB, ‹namesB names = true›]; simp; omega, by omega⟩) | (intro h; exfalso; simp [areNamesB, ‹namesB names = false›] at h)
def CountOk (n : Nd) : Prop := ∀ (v : Value) (w : World), n.count ≤ 1000000 → NodeR w any n v →
    Calls Tryd.prog 97 #[v] w fun e w' => e = .returned (.int .i64 n.count) ∧ Grow w w'
theorem countL_take (l : List Nd) (k : Nat) : countL (l.take k) ≤ countL l := by
  induction l generalizing k with
  | nil => simp
  | cons a l ih => cases k with
    | zero => simp [countL]
    | succ k => simp only [List.take_succ_cons, countL]; have := ih k; omega
theorem count_ok : ∀ n, CountOk n := by
  refine Nd.ind' CountOk ?_
  intro n ih v w hb hn
  have hb' : countL n.kids ≤ 1000000 := by rw [Nd.count_eq] at hb; omega
  have Ih := Lib.hid ih
  have Hb := Lib.hid hb
  clear ih hb
  obtain ⟨na, nc, ka, kc, rfl, hc⟩ := hn
  obtain ⟨htx, hns, hks⟩ := hc.parts
  have hkl : n.kids.length ≤ 9223372036854775807 := hks.2.1
  have Hks := Lib.hid hks
  clear htx hns hks hc
  unfold nodeV at *
  go_enter Tryd.func97, Tryd.ntmps97
  go_wp2
  go_loopw [3, 4] (fun t i wr => Grow (w.alloc (.cells #[.int .i64 n.kind, .int .i64 n.num, .string n.text, .slice na n.names.length nc, .slice ka n.kids.length kc] 26)) wr ∧ ∃ k : Nat, k ≤ n.kids.length ∧ i = .int .i64 k ∧ t = .int .i64 ((1 + countL (n.kids.take k) : Nat) : Int)) (fun _ i _ => n.kids.length - (intOf i).toNat)
  case atStart => exact ⟨Ext.refl _ _, 0, Nat.zero_le _, rfl, by simp [countL]⟩
  case round =>
    obtain ⟨hg, k, hk, rfl, rfl⟩ := hrel
    have hcc := bcell hg
    have hg0 : Grow w wr := ((Ext.refl _ _).alloc _).trans hg
    have hct := countL_take n.kids k
    by_cases hlt : k < n.kids.length
    · obtain ⟨_, _, hks⟩ := (Hks.out).ext hg0 (fun _ _ h => h)
      rcases hks with hks | ⟨bk, ok, rfl, _, hkr⟩
      · simp [hks] at hlt
      obtain ⟨na', nc', ka', kc', c0, c1, c2, c3, c4, hkc⟩ := hkr.get k hlt
      have Hkc : Hid (NodeR wr any n.kids[k] (nodeV n.kids[k] na' nc' ka' kc')) := Lib.hid ⟨_, _, _, _, rfl, hkc⟩
      have hct' := countL_take n.kids (k + 1)
      rw [take_snoc' _ _ hlt, countL_snoc] at hct'
      clear hkr hkc
      go_wp2_with (go_at_call 97; refine (Ih.out _ (List.getElem_mem hlt) _ _ (by omega) Hkc.out).mono ?_; rintro e w2 ⟨rfl, hg2⟩)
      go_roundw
      case rel => exact ⟨hg.trans hg2, k + 1, by omega, by go_num, by rw [take_snoc' _ _ hlt, countL_snoc]; go_num⟩
      case measure => simp [intOf]; omega
    · have hke : k = n.kids.length := by omega
      have Hke := Lib.hid hke
      clear hke
      go_wp2
      go_ret
      exact ⟨by rw [Nd.count_eq, Hke.out]; simp, hg0⟩
theorem validNode_ok (n : Nd) (v : Value) (w : World) (hn : NodeR w any n v) :
    Calls Tryd.prog 54 #[v] w fun e w' => e = .returned (.bool (validB n)) ∧ Grow w w' := by
  have Hn := Lib.hid hn
  obtain ⟨na, nc, ka, kc, rfl, hc⟩ := hn
  clear hc
  unfold nodeV at *
  cases hs : shapeB n 5
  · have Hs := Lib.hid hs
    have Hv : Hid (validB n = false) := Lib.hid (by simp [validB, hs])
    clear hs
    go_enter Tryd.func54, Tryd.ntmps54
    go_wp2_with (go_at_call 96; refine (shape_ok n 5 _ _ _ (by omega) (by omega) ((Hn.out).ext ((Ext.refl nil w).alloc _) (fun _ _ h => h))).mono ?_; rintro e w2 ⟨rfl, hg2⟩; simp only [Hs.out])
    go_ret
    exact ⟨by simp [Hv.out], (by repeat (first | with_reducible exact Ext.refl _ _ | with_reducible refine Ext.trans ?_ (by assumption) | with_reducible refine Ext.drew ?_ | with_reducible refine Ext.drewN ?_ _ | with_reducible refine Ext.alloc ?_ _ | with_reducible refine Ext.setNew ?_ (by simp; done) _ | with_reducible refine Ext.setNew ?_ (by simp; omega) _))⟩
  · have Hs := Lib.hid hs
    have hcn : n.count ≤ 1555 := Nat.le_trans (count_le 5 n hs) (cb_le 5 (by omega))
    have Hv : Hid (validB n = decide (n.count ≤ 40)) := Lib.hid (by simp [validB, hs])
    clear hs
    go_enter Tryd.func54, Tryd.ntmps54
    go_wp2_with (first | (go_at_call 96; refine (shape_ok n 5 _ _ _ (by omega) (by omega) ((Hn.out).ext ((Ext.refl nil w).alloc _) (fun _ _ h => h))).mono ?_; rintro e w2 ⟨rfl, hg2⟩; simp only [Hs.out]; have hcc := bcell hg2) | (go_at_call 97; refine (count_ok n _ _ (by omega) ((Hn.out).grow (by repeat (first | with_reducible exact Ext.refl _ _ | with_reducible refine Ext.trans ?_ (by assumption) | with_reducible refine Ext.drew ?_ | with_reducible refine Ext.drewN ?_ _ | with_reducible refine Ext.alloc ?_ _ | with_reducible refine Ext.setNew ?_ (by simp; done) _ | with_reducible refine Ext.setNew ?_ (by simp; omega) _)))).mono ?_; rintro e w3 ⟨rfl, hg3⟩))
    all_goals go_ret
    all_goals exact ⟨by rw [Hv.out]; simp; omega, (by repeat (first | with_reducible exact Ext.refl _ _ | with_reducible refine Ext.trans ?_ (by assumption) | with_reducible refine Ext.drew ?_ | with_reducible refine Ext.drewN ?_ _ | with_reducible refine Ext.alloc ?_ _ | with_reducible refine Ext.setNew ?_ (by simp; done) _ | with_reducible refine Ext.setNew ?_ (by simp; omega) _))⟩
end Go.Proofs.YtfjaobfaepjfnaaDoor
namespace Go.Proofs.YtfjaobfaepjfnaaDoor.Eng
open Go Go.RowKit
attribute [local simp] big size_mk ASt.pay Option.map_map Function.comp_def awant aop acall ado aev ofVal ofVal0 ASt.put ASt.add ASt.turn ASt.kill abox aalloc astore aload aloadD astoreD idOf ASt.at cellsTo afieldAddr afield aindexAddr aindex alen abin aint acmp astr aun apick aextract anil aslice abound abuild afill abuildSlice asCells aps avCells over upd aappend asrc amax amin aconv mkSt slots rowsOf_cons rowsOf_nil usedOf_cons usedOf_nil ZK.av List.replicate ASt.back ASt.addL ASt.killL nodeA nodeT nodeTL_eq nodeL_eq strsE_get strsE_len intsE_get intsE_len strsE_at intsE_at tab2 tab3 tab4 tab5 tab6 tab7 tab8 tab9 tab10 tab11 tab12 tab13 tab14 tab15 tab16 tab17 tab18 tab19 tab21 tab22 tab23 tab24 tab25 tab26 tab28 tab29 tab30 tab31 tab42 tab43 tab44 tab46 tab63 tab64 tab67 tab68 tab75 tab98 tab100 tab101 tab105 tab106 tab107 tab122 tab123 tab125 tab128 tab138 tab144 tab151 tab152 tab157 tab158 tab160 tab161 tab162
theorem repL5 {w : World} {ρ : Cx} {a b c d e : AV} {v0 v1 v2 v3 v4 : Value} (h0 : Rep w ρ a v0) (h1 : Rep w ρ b v1) (h2 : Rep w ρ c v2) (h3 : Rep w ρ d v3) (h4 : Rep w ρ e v4) : RepL w ρ [a, b, c, d, e] [v0, v1, v2, v3, v4] := by
  unfold RepL; refine ⟨_, _, rfl, h0, ?_⟩
  unfold RepL; refine ⟨_, _, rfl, h1, ?_⟩
  unfold RepL; refine ⟨_, _, rfl, h2, ?_⟩
  unfold RepL; refine ⟨_, _, rfl, h3, ?_⟩
  unfold RepL; refine ⟨_, _, rfl, h4, ?_⟩
  unfold RepL; rfl
theorem repL5_inv {w : World} {ρ : Cx} {a b c d e : AV} {vs : List Value} (h : RepL w ρ [a, b, c, d, e] vs) : ∃ v0 v1 v2 v3 v4, vs = [v0, v1, v2, v3, v4] ∧ Rep w ρ a v0 ∧ Rep w ρ b v1 ∧ Rep w ρ c v2 ∧ Rep w ρ d v3 ∧ Rep w ρ e v4 := by
  unfold RepL at h; obtain ⟨v0, vs, rfl, h0, h⟩ := h
  unfold RepL at h; obtain ⟨v1, vs, rfl, h1, h⟩ := h
  unfold RepL at h; obtain ⟨v2, vs, rfl, h2, h⟩ := h
  unfold RepL at h; obtain ⟨v3, vs, rfl, h3, h⟩ := h
  unfold RepL at h; obtain ⟨v4, vs, rfl, h4, h⟩ := h
  unfold RepL at h; subst h
  exact ⟨_, _, _, _, _, rfl, h0, h1, h2, h3, h4⟩
theorem cells_of {t : TypeId} {i : TI} (h : tab t = some i) : (Tryd.prog).cellsOf t = i.size := by
  obtain ⟨d, j, hs⟩ := TI.says (tab_ok t i h)
  exact hs.cells
theorem ACR.row {f : FuncId} {args : List AV} {c : Nat} {p : Nd → Prop} (h : ACR Tryd.prog f args c (R0 p) (R1 p)) : ACR Tryd.prog f args c (fun _ => False) (R1 p) :=
  ⟨h.1, fun w L S rb k vs g0 h1 h2 h3 => (h.2 w L S rb k vs g0 h1 h2 h3).mono fun e w' ⟨v, S', k1, k2, k3, k4, k5, k6⟩ => ⟨v, S', k1, k2, k3, k4, k5, .inr (by
    rcases k6 with ⟨r, q1, n, hs, hn, rfl⟩ | q
    · unfold nodeT at q1
      rw [nodeTL_eq, hn] at q1
      obtain ⟨vs, rfl, hone, hl⟩ := rep_agg.1 q1
      obtain ⟨v0, v1, v2, v3, v4, rfl, r0, r1, r2, r3, r4⟩ := repL5_inv hl
      obtain ⟨a, c', rfl, ht, _⟩ := rep_view.1 r3
      have hc := ht rfl
      simp only [strsE, List.map_nil, List.length_nil] at hc
      subst hc
      have le : ∀ id, Cx.Le w' (pureC nil S' none) w' (oneC S' id (.slice a 0 0) 0) := fun id => ⟨fun b hb => ⟨hb, fun _ => rfl⟩, fun b hb => False.elim hb, fun id' hid' => False.elim hid', fun _ h => by cases h⟩
      refine ⟨nodeN n, namesRow n, .slice a 0 0, fun id => ?_, ⟨⟨cells_of tab9, fun g hg => by cases a <;> simp [blk] at hg⟩, ?_, (fun h => by cases h), [], .inl ?_, ?_, fun u hu => by cases hu⟩, fun g hg => by cases a <;> simp [blk] at hg, n, hs, rfl, rfl⟩
      · have hl0 : (namesRow n).es.length = 0 := by simp [namesRow, hn, strsE]
        rw [hl0]
        unfold nodeN
        rw [hn]
        refine rep_agg.2 ⟨_, rfl, hone, repL5 (r0.le (le id)) (r1.le (le id)) (r2.le (le id)) (rep_own.2 ⟨rfl, by simp [oneC], ⟨a, 0, rfl, .inl rfl⟩, fun u hu _ => by simp [oneC] at hu; exact hu⟩) (r4.le (le id))⟩
      · simp [namesRow, hn, strsE]
      · simp [namesRow, hn, strsE]
      · simp only [namesRow, hn, strsE, List.map_nil, List.flatten_nil]; unfold RepL; rfl
    · exact q)⟩⟩
theorem randomNode_ACR : ∀ d : Nat, d ≤ 5 → ACR Tryd.prog 123 [.rdr, .int .i64 (d : Int)] (nC d) (R0 Sml) (R1 Sml)
  | 0, h => randomNode_step 0 h (fun h => by omega)
  | d + 1, h => by
    have ih := AC.ofR01 (randomNode_ACR d (by omega))
    exact randomNode_step (d + 1) h (fun _ => ⟨ih, randomMap_step d (by omega) ih⟩)
theorem randomNode_AC (d : Nat) (h : d ≤ 5) : AC Tryd.prog 123 [.rdr, .int .i64 (d : Int)] (nC d) (fun r => ∃ n, Sml n ∧ r = nodeA n) := AC.ofR01 (randomNode_ACR d h)
theorem randomMap_ACR (d : Nat) (h : d ≤ 4) : ACR Tryd.prog 124 [.rdr, .int .i64 ((d + 1 : Nat) : Int)] (9 + 4 * nC d) (R0 Sml) (R1 Sml) := randomMap_step d h (randomNode_AC d (by omega))
theorem validNode_AC (n : Nd) (t : VC) : AC Tryd.prog 54 [nodeT t n] 0 (fun r => r = .bool (validB n)) := by
  refine AC.ofGrow (enters_of Tryd.func54 (by kernel_rfl) (by kernel_rfl)) (fun w L S rb vs h => ?_)
  unfold RepL at h
  obtain ⟨v, vs', rfl, h1, h2⟩ := h
  unfold RepL at h2
  subst h2
  refine (validNode_ok n v w (node_of_rep h1)).mono ?_
  rintro e w' ⟨rfl, hg⟩
  exact ⟨_, _, rfl, hg, rep_bool.2 rfl, rfl⟩
def SmlV (n : Nd) : Prop := Sml n ∧ validB n = true
def rNodeA (r : AV) : Prop := ∃ n, Sml n ∧ r = nodeA n
theorem valid0 : validB ⟨0, 0, ⟨#[]⟩, [], []⟩ = true := by decide +kernel
theorem someNode_ACR : ACR Tryd.prog 91 [.rdr] (nC 3 + 10 + 4 * nC 2) (fun _ => False) (R1 SmlV) := by
  have hN := (randomNode_ACR 3 (by omega)).row
  have hM := (randomMap_ACR 2 (by omega)).row
  refine ACR.row (ACR.weak ?_)
  generalize hA : nC 3 = A at *
  generalize hB : nC 2 = B at *
  refine ACR.of tab_ok mixed_ok Tryd.func91 (by rfl) (by kernel_rfl) ?_; rintro ⟨P, T, hT, hm, w0, S0, rd0, k0⟩ hP hTT; dsimp only at hP hTT; subst hP hTT; unfold initSt; rw [Tryd.ntmps91]
  (repeat (first | with_reducible refine AW.seq ?_ | ((first | refine arun_kn 4 rfl (fun C hC => ?_) | refine arunD_kn 4 rfl (fun C hC => ?_)); (repeat ((conv => whnf); simp)); refine hC _ ?_; clear hC C; simp only [List.drop, Nat.reduceAdd]) | ((first | refine arun_kn 1 rfl (fun C hC => ?_) | refine arunD_kn 1 rfl (fun C hC => ?_)); (repeat ((conv => whnf); simp)); refine hC _ ?_; clear hC C; simp only [List.drop, Nat.reduceAdd]) | (refine arun_skip ?_ ?_; (focus (simp [awant]; done))) | (refine arun_cR (A) 100 (hN) ?_; (rintro _ _ ⟨n, hn, rfl, rfl⟩; unfold nodeN namesRow)) | (refine arun_c (1) (pick_AC 3 (by omega) (by omega)) ?_; (rintro _ ⟨v, rfl, -⟩)) | (refine AW.regionK [] (fun K hK => ?_)) | (refine AW.regionDK [] (pcs [] []) (by kernel_rfl) (by kernel_rfl) (fun K hK => ?_)) | (refine AW.condT ?_ ?_; (focus (simp [aev]; done))) | (refine AW.condF ?_ ?_; (focus (simp [aev]; done))) | with_reducible refine AW.block ?_ | ((first | ((first | refine arun_nil ?_ | refine arunD_nil ?_); refine hK _ ?_; clear hK K) | refine AW.skip ?_ | refine AW.exit ?_ | refine AW.ret ?_); simp only [thenA_exit, inBlockA_exit, if_true, if_false, Nat.reduceEqDiff, thenA_normal, inBlockA_normal, reduceIte, thenA_ret, inBlockA_ret, endQ_ret, endR_ret, endG_ret, endQ_normal, endR_normal, endG_normal])))
  rcases Int.lt_or_le 0 v with hv | hv
  · (repeat (first | with_reducible refine AW.seq ?_ | ((first | refine arun_kn 4 rfl (fun C hC => ?_) | refine arunD_kn 4 rfl (fun C hC => ?_)); (repeat ((conv => whnf); simp [hv])); refine hC _ ?_; clear hC C; simp only [List.drop, Nat.reduceAdd]) | ((first | refine arun_kn 1 rfl (fun C hC => ?_) | refine arunD_kn 1 rfl (fun C hC => ?_)); (repeat ((conv => whnf); simp [hv])); refine hC _ ?_; clear hC C; simp only [List.drop, Nat.reduceAdd]) | (refine arun_skip ?_ ?_; (focus (simp [awant, hv]; done))) | (refine arun_cR ((9+4*B)) 101 (hM) ?_; (rintro _ _ ⟨m, hm, rfl, rfl⟩; unfold nodeN namesRow)) | (refine AW.regionK [] (fun K hK => ?_)) | (refine AW.regionDK [] (pcs [] []) (by kernel_rfl) (by kernel_rfl) (fun K hK => ?_)) | (refine AW.condT ?_ ?_; (focus (simp [aev, hv]; done))) | (refine AW.condF ?_ ?_; (focus (simp [aev, hv]; done))) | with_reducible refine AW.block ?_ | ((first | ((first | refine arun_nil ?_ | refine arunD_nil ?_); refine hK _ ?_; clear hK K) | refine AW.skip ?_ | refine AW.exit ?_ | refine AW.ret ?_); simp only [thenA_exit, inBlockA_exit, if_true, if_false, Nat.reduceEqDiff, thenA_normal, inBlockA_normal, reduceIte, thenA_ret, inBlockA_ret, endQ_ret, endR_ret, endG_ret, endQ_normal, endR_normal, endG_normal])))
    (repeat (first | with_reducible refine AW.seq ?_ | ((first | refine arun_kn 4 rfl (fun C hC => ?_) | refine arunD_kn 4 rfl (fun C hC => ?_)); (repeat ((conv => whnf); simp [hv])); refine hC _ ?_; clear hC C; simp only [List.drop, Nat.reduceAdd]) | ((first | refine arun_kn 1 rfl (fun C hC => ?_) | refine arunD_kn 1 rfl (fun C hC => ?_)); (repeat ((conv => whnf); simp [hv])); refine hC _ ?_; clear hC C; simp only [List.drop, Nat.reduceAdd]) | (refine arun_skip ?_ ?_; (focus (simp [awant, hv]; done))) | (refine arun_cL (0) (validNode_AC m .lent) ?_; rintro _ rfl) | (refine AW.regionK [] (fun K hK => ?_)) | (refine AW.regionDK [] (pcs [] []) (by kernel_rfl) (by kernel_rfl) (fun K hK => ?_)) | (refine AW.condT ?_ ?_; (focus (simp [aev, hv]; done))) | (refine AW.condF ?_ ?_; (focus (simp [aev, hv]; done))) | with_reducible refine AW.block ?_ | ((first | ((first | refine arun_nil ?_ | refine arunD_nil ?_); refine hK _ ?_; clear hK K) | refine AW.skip ?_ | refine AW.exit ?_ | refine AW.ret ?_); simp only [thenA_exit, inBlockA_exit, if_true, if_false, Nat.reduceEqDiff, thenA_normal, inBlockA_normal, reduceIte, thenA_ret, inBlockA_ret, endQ_ret, endR_ret, endG_ret, endQ_normal, endR_normal, endG_normal])))
    cases hb : validB m
    · (repeat (first | with_reducible refine AW.seq ?_ | ((first | refine arun_kn 4 rfl (fun C hC => ?_) | refine arunD_kn 4 rfl (fun C hC => ?_)); (repeat ((conv => whnf); simp [hb])); refine hC _ ?_; clear hC C; simp only [List.drop, Nat.reduceAdd]) | ((first | refine arun_kn 1 rfl (fun C hC => ?_) | refine arunD_kn 1 rfl (fun C hC => ?_)); (repeat ((conv => whnf); simp [hb])); refine hC _ ?_; clear hC C; simp only [List.drop, Nat.reduceAdd]) | (refine arun_skip ?_ ?_; (focus (simp [awant, hb]; done))) | (refine AW.regionK [] (fun K hK => ?_)) | (refine AW.regionDK [] (pcs [] []) (by kernel_rfl) (by kernel_rfl) (fun K hK => ?_)) | (refine AW.condT ?_ ?_; (focus (simp [aev, hb]; done))) | (refine AW.condF ?_ ?_; (focus (simp [aev, hb]; done))) | with_reducible refine AW.block ?_ | ((first | ((first | refine arun_nil ?_ | refine arunD_nil ?_); refine hK _ ?_; clear hK K) | refine AW.skip ?_ | refine AW.exit ?_ | refine AW.ret ?_); simp only [thenA_exit, inBlockA_exit, if_true, if_false, Nat.reduceEqDiff, thenA_normal, inBlockA_normal, reduceIte, thenA_ret, inBlockA_ret, endQ_ret, endR_ret, endG_ret, endQ_normal, endR_normal, endG_normal])))
      exact ⟨_, by simp [ares, aresL, upd, rowsOf_cons]; rfl, .inl ⟨node0_pur 0 0 ⟨#[]⟩, _, node0_wk 0 0 ⟨#[]⟩, _, ⟨sml_leaf 0 0 ⟨#[]⟩, valid0⟩, rfl, rfl⟩⟩
    · (repeat (first | with_reducible refine AW.seq ?_ | ((first | refine arun_kn 4 rfl (fun C hC => ?_) | refine arunD_kn 4 rfl (fun C hC => ?_)); (repeat ((conv => whnf); simp [hb])); refine hC _ ?_; clear hC C; simp only [List.drop, Nat.reduceAdd]) | ((first | refine arun_kn 1 rfl (fun C hC => ?_) | refine arunD_kn 1 rfl (fun C hC => ?_)); (repeat ((conv => whnf); simp [hb])); refine hC _ ?_; clear hC C; simp only [List.drop, Nat.reduceAdd]) | (refine arun_skip ?_ ?_; (focus (simp [awant, hb]; done))) | (refine AW.regionK [] (fun K hK => ?_)) | (refine AW.regionDK [] (pcs [] []) (by kernel_rfl) (by kernel_rfl) (fun K hK => ?_)) | (refine AW.condT ?_ ?_; (focus (simp [aev, hb]; done))) | (refine AW.condF ?_ ?_; (focus (simp [aev, hb]; done))) | with_reducible refine AW.block ?_ | ((first | ((first | refine arun_nil ?_ | refine arunD_nil ?_); refine hK _ ?_; clear hK K) | refine AW.skip ?_ | refine AW.exit ?_ | refine AW.ret ?_); simp only [thenA_exit, inBlockA_exit, if_true, if_false, Nat.reduceEqDiff, thenA_normal, inBlockA_normal, reduceIte, thenA_ret, inBlockA_ret, endQ_ret, endR_ret, endG_ret, endQ_normal, endR_normal, endG_normal])))
      exact ⟨nodeN m 101, by simp [nodeN, ares, aresL, upd, rowsOf_cons], .inr ⟨nodeN m, 101, namesRow m, rfl, by simp [upd, namesRow], nodeN_res m 101, strsE_pur _, m, ⟨hm, hb⟩, rfl, rfl⟩⟩
  · have hv' : ¬ (0 < v) := by omega
    (repeat (first | with_reducible refine AW.seq ?_ | ((first | refine arun_kn 4 rfl (fun C hC => ?_) | refine arunD_kn 4 rfl (fun C hC => ?_)); (repeat ((conv => whnf); simp [hv'])); refine hC _ ?_; clear hC C; simp only [List.drop, Nat.reduceAdd]) | ((first | refine arun_kn 1 rfl (fun C hC => ?_) | refine arunD_kn 1 rfl (fun C hC => ?_)); (repeat ((conv => whnf); simp [hv'])); refine hC _ ?_; clear hC C; simp only [List.drop, Nat.reduceAdd]) | (refine arun_skip ?_ ?_; (focus (simp [awant, hv']; done))) | (refine arun_cL (0) (validNode_AC n .lent) ?_; rintro _ rfl) | (refine AW.regionK [] (fun K hK => ?_)) | (refine AW.regionDK [] (pcs [] []) (by kernel_rfl) (by kernel_rfl) (fun K hK => ?_)) | (refine AW.condT ?_ ?_; (focus (simp [aev, hv']; done))) | (refine AW.condF ?_ ?_; (focus (simp [aev, hv']; done))) | with_reducible refine AW.block ?_ | ((first | ((first | refine arun_nil ?_ | refine arunD_nil ?_); refine hK _ ?_; clear hK K) | refine AW.skip ?_ | refine AW.exit ?_ | refine AW.ret ?_); simp only [thenA_exit, inBlockA_exit, if_true, if_false, Nat.reduceEqDiff, thenA_normal, inBlockA_normal, reduceIte, thenA_ret, inBlockA_ret, endQ_ret, endR_ret, endG_ret, endQ_normal, endR_normal, endG_normal])))
    cases hb : validB n
    · (repeat (first | with_reducible refine AW.seq ?_ | ((first | refine arun_kn 4 rfl (fun C hC => ?_) | refine arunD_kn 4 rfl (fun C hC => ?_)); (repeat ((conv => whnf); simp [hb])); refine hC _ ?_; clear hC C; simp only [List.drop, Nat.reduceAdd]) | ((first | refine arun_kn 1 rfl (fun C hC => ?_) | refine arunD_kn 1 rfl (fun C hC => ?_)); (repeat ((conv => whnf); simp [hb])); refine hC _ ?_; clear hC C; simp only [List.drop, Nat.reduceAdd]) | (refine arun_skip ?_ ?_; (focus (simp [awant, hb]; done))) | (refine AW.regionK [] (fun K hK => ?_)) | (refine AW.regionDK [] (pcs [] []) (by kernel_rfl) (by kernel_rfl) (fun K hK => ?_)) | (refine AW.condT ?_ ?_; (focus (simp [aev, hb]; done))) | (refine AW.condF ?_ ?_; (focus (simp [aev, hb]; done))) | with_reducible refine AW.block ?_ | ((first | ((first | refine arun_nil ?_ | refine arunD_nil ?_); refine hK _ ?_; clear hK K) | refine AW.skip ?_ | refine AW.exit ?_ | refine AW.ret ?_); simp only [thenA_exit, inBlockA_exit, if_true, if_false, Nat.reduceEqDiff, thenA_normal, inBlockA_normal, reduceIte, thenA_ret, inBlockA_ret, endQ_ret, endR_ret, endG_ret, endQ_normal, endR_normal, endG_normal])))
      exact ⟨_, by simp [ares, aresL, upd, rowsOf_cons]; rfl, .inl ⟨node0_pur 0 0 ⟨#[]⟩, _, node0_wk 0 0 ⟨#[]⟩, _, ⟨sml_leaf 0 0 ⟨#[]⟩, valid0⟩, rfl, rfl⟩⟩
    · (repeat (first | with_reducible refine AW.seq ?_ | ((first | refine arun_kn 4 rfl (fun C hC => ?_) | refine arunD_kn 4 rfl (fun C hC => ?_)); (repeat ((conv => whnf); simp [hb])); refine hC _ ?_; clear hC C; simp only [List.drop, Nat.reduceAdd]) | ((first | refine arun_kn 1 rfl (fun C hC => ?_) | refine arunD_kn 1 rfl (fun C hC => ?_)); (repeat ((conv => whnf); simp [hb])); refine hC _ ?_; clear hC C; simp only [List.drop, Nat.reduceAdd]) | (refine arun_skip ?_ ?_; (focus (simp [awant, hb]; done))) | (refine AW.regionK [] (fun K hK => ?_)) | (refine AW.regionDK [] (pcs [] []) (by kernel_rfl) (by kernel_rfl) (fun K hK => ?_)) | (refine AW.condT ?_ ?_; (focus (simp [aev, hb]; done))) | (refine AW.condF ?_ ?_; (focus (simp [aev, hb]; done))) | with_reducible refine AW.block ?_ | ((first | ((first | refine arun_nil ?_ | refine arunD_nil ?_); refine hK _ ?_; clear hK K) | refine AW.skip ?_ | refine AW.exit ?_ | refine AW.ret ?_); simp only [thenA_exit, inBlockA_exit, if_true, if_false, Nat.reduceEqDiff, thenA_normal, inBlockA_normal, reduceIte, thenA_ret, inBlockA_ret, endQ_ret, endR_ret, endG_ret, endQ_normal, endR_normal, endG_normal])))
      exact ⟨nodeN n 100, by simp [nodeN, ares, aresL, upd, rowsOf_cons], .inr ⟨nodeN n, 100, namesRow n, rfl, by simp [upd, namesRow], nodeN_res n 100, strsE_pur _, n, ⟨hn, hb⟩, rfl, rfl⟩⟩
end Go.Proofs.YtfjaobfaepjfnaaDoor.Eng
namespace Go.Proofs.YtfjaobfaepjfnaaDoor.Eng
open Go Go.RowKit
inductive WkE : List (List AV) → List (List AV) → Prop
  | nil : WkE [] []
  | cons {c d : List AV} {cs ds : List (List AV)} (h : WkL c d) (t : WkE cs ds) : WkE (c :: cs) (d :: ds)
theorem WkL.length {cs ds : List AV} (h : WkL cs ds) : ds.length = cs.length := by
  induction h with
  | nil => rfl
  | cons _ _ ih => simp [ih]
theorem WkE.length {cs ds : List (List AV)} (h : WkE cs ds) : ds.length = cs.length := by
  induction h with
  | nil => rfl
  | cons _ _ ih => simp [ih]
theorem WkE.sz {cs ds : List (List AV)} {n : Nat} (h : WkE cs ds) (hs : ∀ e ∈ cs, e.length = n) : ∀ e ∈ ds, e.length = n := by
  induction h with
  | nil => intro e he; cases he
  | cons h _ ih =>
    intro e he
    rcases List.mem_cons.1 he with rfl | he
    · rw [h.length]; exact hs _ (by simp)
    · exact ih (fun e he => hs e (by simp [he])) e he
theorem WkL.cells {cs ds : List AV} (h : WkL cs ds) : ∀ {w : World} {ρ : Cx} {b o : Nat}, RepC w ρ b o cs → RepC w ρ b o ds := by
  induction h with
  | nil => exact fun h => h
  | cons h _ ih =>
    intro w ρ b o hr
    unfold RepC at hr ⊢
    obtain ⟨⟨v, h1, h2, h3⟩, h4⟩ := hr
    exact ⟨⟨v, h1, h2, h _ _ _ h3⟩, ih h4⟩
theorem WkE.rows {cs ds : List (List AV)} (h : WkE cs ds) : ∀ {w : World} {ρ : Cx} {b o : Nat}, RepE w ρ b o cs → RepE w ρ b o ds := by
  induction h with
  | nil => exact fun h => h
  | cons h _ ih =>
    intro w ρ b o hr
    unfold RepE at hr ⊢
    exact ⟨h.cells hr.1, by rw [h.length]; exact ih hr.2⟩
theorem Wk.view {t : VC} {sz : Nat} {es ds : List (List AV)} (h : t ≠ .lent) (he : WkE es ds) : Wk (.view t sz es) (.view .loose sz ds) := fun _ ρ _ hr => by
  obtain ⟨a, c, h1, h2, h3, h4, h5, h6⟩ := rep_view.1 hr
  refine rep_view.2 ⟨a, c, by rw [he.length]; exact h1, (fun e => by cases e), by rw [he.length]; exact h3, by rw [he.length]; exact h4, he.sz h5, ?_⟩
  rcases h6 with rfl | ⟨b, o, k1, k2, k3⟩
  · cases he; exact .inl rfl
  · exact .inr ⟨b, o, k1, by cases t <;> first | exact absurd rfl h | exact k2 | exact k2.1, he.rows k3⟩
theorem WkE.refl : ∀ (es : List (List AV)), WkE es es
  | [] => .nil
  | e :: es => .cons (WkL.refl e) (WkE.refl es)
theorem WkE.append {a b c d : List (List AV)} (h : WkE a b) (k : WkE c d) : WkE (a ++ c) (b ++ d) := by
  induction h with
  | nil => exact k
  | cons h _ ih => exact .cons h ih
end Go.Proofs.YtfjaobfaepjfnaaDoor.Eng
namespace Go.Proofs.YtfjaobfaepjfnaaDoor.Eng
open Go Go.RowKit
attribute [local simp] big size_mk ASt.pay Option.map_map Function.comp_def awant aop acall ado aev ofVal ofVal0 ASt.put ASt.add ASt.turn ASt.kill abox aalloc astore aload aloadD astoreD idOf ASt.at cellsTo afieldAddr afield aindexAddr aindex alen abin aint acmp astr aun apick aextract anil aslice abound abuild afill abuildSlice asCells aps avCells over upd aappend asrc amax amin aconv mkSt slots rowsOf_cons rowsOf_nil usedOf_cons usedOf_nil ZK.av List.replicate ASt.back ASt.addL ASt.killL nodeA nodeT nodeTL_eq nodeL_eq strsE_get strsE_len intsE_get intsE_len strsE_at intsE_at tab2 tab3 tab4 tab5 tab6 tab7 tab8 tab9 tab10 tab11 tab12 tab13 tab14 tab15 tab16 tab17 tab18 tab19 tab21 tab22 tab23 tab24 tab25 tab26 tab28 tab29 tab30 tab31 tab42 tab43 tab44 tab46 tab63 tab64 tab67 tab68 tab75 tab98 tab100 tab101 tab105 tab106 tab107 tab122 tab123 tab125 tab128 tab138 tab144 tab151 tab152 tab157 tab158 tab160 tab161 tab162
def one1 (cs : List AV) : List AV := [.int .i64 3, .int .i64 0, .str ⟨#[]⟩, .view .tight 0 [], .view .tight 5 [cs]]
def list1 (k : Nd) : Nd := ⟨3, 0, ⟨#[]⟩, [], [k]⟩
theorem one1_wk {cs : List AV} {k : Nd} (h : WkL cs (nodeL k)) : WkL (one1 cs) (nodeL (list1 k)) := by
  rw [nodeL_eq]
  exact .cons (Wk.refl _) (.cons (Wk.refl _) (.cons (Wk.refl _) (.cons (Wk.nil (fun h => by cases h)) (.cons (Wk.view (by decide) (.cons h .nil)) .nil))))
theorem one1_pur {cs : List AV} (h : ∀ c ∈ cs, Pur c) : ∀ c ∈ one1 cs, Pur c := by
  intro c hc
  simp only [one1, List.mem_cons, List.not_mem_nil, or_false] at hc
  rcases hc with rfl | rfl | rfl | rfl | rfl
  · exact pur_int
  · exact pur_int
  · exact pur_str
  · exact pur_view (by decide) (fun e he => by cases he)
  · exact pur_view (by decide) (fun e he c hc => by rw [List.mem_singleton.1 he] at hc; exact h c hc)
theorem list1_sml {k : Nd} (h : Sml k) : Sml (list1 k) := .mk _ (by simp [list1]) (by simp [list1]) (fun x hx => by simp [list1] at hx; subst hx; exact h)
theorem parts_len {n : Nd} (h : partsB n = true) : n.names.length ≤ 6 ∧ n.kids.length ≤ 6 := by
  unfold partsB at h
  simp only [Bool.and_eq_true, Bool.or_eq_true, decide_eq_true_eq] at h
  obtain ⟨⟨⟨h1, h2⟩, h3⟩, h4⟩ := h
  by_cases k4 : n.kind = 4
  · rw [if_neg (by omega), if_neg (by omega), if_neg (by omega), if_neg (by omega), if_pos k4] at h4
    unfold areNamesB at h4
    simp only [Bool.and_eq_true, decide_eq_true_eq] at h4
    omega
  · have : n.names.length = 0 := by rcases h3 with h3 | h3; exact absurd h3 k4; exact h3
    refine ⟨by omega, ?_⟩
    rw [if_neg k4] at h4
    split at h4
    · simp at h4; rw [h4]; simp
    split at h4
    · simp only [Bool.and_eq_true, decide_eq_true_eq] at h4; omega
    split at h4
    · simp only [Bool.and_eq_true, decide_eq_true_eq] at h4; omega
    split at h4
    · simp only [decide_eq_true_eq] at h4; omega
    · cases h4
theorem valid_parts {n : Nd} (h : validB n = true) : partsB n = true := by
  unfold validB at h
  rw [shapeB_eq] at h
  simp only [Bool.and_eq_true] at h
  exact h.1.1.2
theorem valid_names {n : Nd} (h : validB n = true) : n.names.length ≤ 6 := (parts_len (valid_parts h)).1
theorem r1_end (m : Nd) (id : Nat) (hs : Sml m) {rows : Nat → Option Row} (hr : rows id = some (namesRow m)) {Q : Prop} : Q ∨ ∃ f id0 R, nodeN m id = f id0 ∧ rows id0 = some R ∧ Res1 id0 f ∧ (∀ e ∈ R.es, ∀ c ∈ e, Pur c) ∧ R1 Sml f R :=
  .inr ⟨nodeN m, id, namesRow m, rfl, hr, nodeN_res m id, strsE_pur _, m, hs, rfl, rfl⟩
theorem nil_wk {cs : List AV} {k : Nd} (h : WkL cs (nodeL k)) : Wk (.agg [.int .i64 3, .int .i64 0, .str ⟨#[]⟩, .view .tight 0 [], .view .tight 5 [cs]]) (nodeT .tight (list1 k)) := by
  unfold nodeT
  rw [nodeTL_eq]
  exact Wk.agg (.cons (Wk.refl _) (.cons (Wk.refl _) (.cons (Wk.refl _) (.cons (Wk.nil (fun _ => rfl)) (.cons (Wk.view (by decide) (.cons h .nil)) .nil)))))
theorem one4_wk (n : Nd) : Wk (.agg (one1 (one1 (one1 (one1 (nodeL n)))))) (nodeT .tight (list1 (list1 (list1 (list1 n))))) := nil_wk (one1_wk (one1_wk (one1_wk (WkL.refl _))))
theorem kids_wk (ks : List Nd) : Wk (.agg [.int .i64 3, .int .i64 0, .str ⟨#[]⟩, .view .tight 0 [], .view .loose 5 (ks.map nodeL)]) (nodeT .tight ⟨3, 0, ⟨#[]⟩, [], ks⟩) := by
  unfold nodeT
  rw [nodeTL_eq]
  exact Wk.agg (.cons (Wk.refl _) (.cons (Wk.refl _) (.cons (Wk.refl _) (.cons (Wk.nil (fun _ => rfl)) (.cons (Wk.refl _) .nil)))))
theorem anyNode_AC : AC Tryd.prog 51 [.rdr] (nC 3 + 30 + 4 * nC 2) rNodeA := by
  have hS := someNode_ACR
  generalize hA : nC 3 = A at *
  generalize hB : nC 2 = B at *
  refine AC.ofR01 (p := Sml) (ACR.weak ?_)
  refine ACR.of tab_ok mixed_ok Tryd.func51 (by rfl) (by kernel_rfl) ?_; rintro ⟨P, T, hT, hm, w0, S0, rd0, k0⟩ hP hTT; dsimp only at hP hTT; subst hP hTT; unfold initSt; rw [Tryd.ntmps51]
  (repeat (first | with_reducible refine AW.seq ?_ | ((first | refine arun_kn 4 rfl (fun C hC => ?_) | refine arunD_kn 4 rfl (fun C hC => ?_)); (repeat ((conv => whnf); simp)); refine hC _ ?_; clear hC C; simp only [List.drop, Nat.reduceAdd]) | ((first | refine arun_kn 1 rfl (fun C hC => ?_) | refine arunD_kn 1 rfl (fun C hC => ?_)); (repeat ((conv => whnf); simp)); refine hC _ ?_; clear hC C; simp only [List.drop, Nat.reduceAdd]) | (refine arun_skip ?_ ?_; (focus (simp [awant]; done))) | (refine arun_cR ((A+10+4*B)) 100 (hS) ?_; (rintro _ _ ⟨n, ⟨hn, hv⟩, rfl, rfl⟩; unfold nodeN namesRow)) | (refine arun_c (1) (pick_AC 40 (by omega) (by omega)) ?_; (rintro _ ⟨v, rfl, -⟩)) | (refine AW.regionK [] (fun K hK => ?_)) | (refine AW.regionDK [] (pcs [] []) (by kernel_rfl) (by kernel_rfl) (fun K hK => ?_)) | (refine AW.condT ?_ ?_; (focus (simp [aev]; done))) | (refine AW.condF ?_ ?_; (focus (simp [aev]; done))) | with_reducible refine AW.block ?_ | ((first | ((first | refine arun_nil ?_ | refine arunD_nil ?_); refine hK _ ?_; clear hK K) | refine AW.skip ?_ | refine AW.exit ?_ | refine AW.ret ?_); simp only [thenA_exit, inBlockA_exit, if_true, if_false, Nat.reduceEqDiff, thenA_normal, inBlockA_normal, reduceIte, thenA_ret, inBlockA_ret, endQ_ret, endR_ret, endG_ret, endQ_normal, endR_normal, endG_normal])))
  have h6 : v = 0 ∨ v = 1 ∨ v = 2 ∨ v = 3 ∨ v = 4 ∨ v = 5 ∨ ((v == 0) = false ∧ (v == 1) = false ∧ (v == 2) = false ∧ (v == 3) = false ∧ (v == 4) = false ∧ (v == 5) = false) := by
    by_cases h0 : v = 0; · simp [h0]
    by_cases h1 : v = 1; · simp [h1]
    by_cases h2 : v = 2; · simp [h2]
    by_cases h3 : v = 3; · simp [h3]
    by_cases h4 : v = 4; · simp [h4]
    by_cases h5 : v = 5; · simp [h5]
    simp [h0, h1, h2, h3, h4, h5]
  rcases h6 with rfl | rfl | rfl | rfl | rfl | rfl | ⟨e0, e1, e2, e3, e4, e5⟩
  · (repeat (first | with_reducible refine AW.seq ?_ | ((first | refine arun_kn 4 rfl (fun C hC => ?_) | refine arunD_kn 4 rfl (fun C hC => ?_)); (repeat ((conv => whnf); simp)); refine hC _ ?_; clear hC C; simp only [List.drop, Nat.reduceAdd]) | ((first | refine arun_kn 1 rfl (fun C hC => ?_) | refine arunD_kn 1 rfl (fun C hC => ?_)); (repeat ((conv => whnf); simp)); refine hC _ ?_; clear hC C; simp only [List.drop, Nat.reduceAdd]) | (refine arun_skip ?_ ?_; (focus (simp [awant]; done))) | (refine arun_cU (1) rfl (one_ACU _ _ (by rfl) (by simp) (by simp)) ?_; (rintro _ ⟨y, -, rfl⟩)) | (refine AW.regionK [] (fun K hK => ?_)) | (refine AW.regionDK [] (pcs [] []) (by kernel_rfl) (by kernel_rfl) (fun K hK => ?_)) | (refine AW.condT ?_ ?_; (focus (simp [aev]; done))) | (refine AW.condF ?_ ?_; (focus (simp [aev]; done))) | with_reducible refine AW.block ?_ | ((first | ((first | refine arun_nil ?_ | refine arunD_nil ?_); refine hK _ ?_; clear hK K) | refine AW.skip ?_ | refine AW.exit ?_ | refine AW.ret ?_); simp only [thenA_exit, inBlockA_exit, if_true, if_false, Nat.reduceEqDiff, thenA_normal, inBlockA_normal, reduceIte, thenA_ret, inBlockA_ret, endQ_ret, endR_ret, endG_ret, endQ_normal, endR_normal, endG_normal])))
    exact ⟨nodeN ⟨y, n.num, n.text, n.names, n.kids⟩ 100, by simp [nodeN, ares, aresL, upd, rowsOf_cons], r1_end ⟨y, n.num, n.text, n.names, n.kids⟩ 100 (.mk _ hn.names hn.kids (fun k hk => hn.kid hk)) (by simp [upd, namesRow])⟩
  · (repeat (first | with_reducible refine AW.seq ?_ | ((first | refine arun_kn 4 rfl (fun C hC => ?_) | refine arunD_kn 4 rfl (fun C hC => ?_)); (repeat ((conv => whnf); simp)); refine hC _ ?_; clear hC C; simp only [List.drop, Nat.reduceAdd]) | ((first | refine arun_kn 1 rfl (fun C hC => ?_) | refine arunD_kn 1 rfl (fun C hC => ?_)); (repeat ((conv => whnf); simp)); refine hC _ ?_; clear hC C; simp only [List.drop, Nat.reduceAdd]) | (refine arun_skip ?_ ?_; (focus (simp [awant]; done))) | (refine arun_cU (1) rfl (one_ACU _ _ (by rfl) (by simp) (by simp)) ?_; (rintro _ ⟨y, -, rfl⟩)) | (refine AW.regionK [] (fun K hK => ?_)) | (refine AW.regionDK [] (pcs [] []) (by kernel_rfl) (by kernel_rfl) (fun K hK => ?_)) | (refine AW.condT ?_ ?_; (focus (simp [aev]; done))) | (refine AW.condF ?_ ?_; (focus (simp [aev]; done))) | with_reducible refine AW.block ?_ | ((first | ((first | refine arun_nil ?_ | refine arunD_nil ?_); refine hK _ ?_; clear hK K) | refine AW.skip ?_ | refine AW.exit ?_ | refine AW.ret ?_); simp only [thenA_exit, inBlockA_exit, if_true, if_false, Nat.reduceEqDiff, thenA_normal, inBlockA_normal, reduceIte, thenA_ret, inBlockA_ret, endQ_ret, endR_ret, endG_ret, endQ_normal, endR_normal, endG_normal])))
    exact ⟨nodeN ⟨n.kind, y, n.text, n.names, n.kids⟩ 100, by simp [nodeN, ares, aresL, upd, rowsOf_cons], r1_end ⟨n.kind, y, n.text, n.names, n.kids⟩ 100 (.mk _ hn.names hn.kids (fun k hk => hn.kid hk)) (by simp [upd, namesRow])⟩
  · (repeat (first | with_reducible refine AW.seq ?_ | ((first | refine arun_kn 4 rfl (fun C hC => ?_) | refine arunD_kn 4 rfl (fun C hC => ?_)); (repeat ((conv => whnf); simp)); refine hC _ ?_; clear hC C; simp only [List.drop, Nat.reduceAdd]) | ((first | refine arun_kn 1 rfl (fun C hC => ?_) | refine arunD_kn 1 rfl (fun C hC => ?_)); (repeat ((conv => whnf); simp)); refine hC _ ?_; clear hC C; simp only [List.drop, Nat.reduceAdd]) | (refine arun_skip ?_ ?_; (focus (simp [awant]; done))) | (refine AW.regionK [] (fun K hK => ?_)) | (refine AW.regionDK [] (pcs [] []) (by kernel_rfl) (by kernel_rfl) (fun K hK => ?_)) | (refine AW.condT ?_ ?_; (focus (simp [aev]; done))) | (refine AW.condF ?_ ?_; (focus (simp [aev]; done))) | with_reducible refine AW.block ?_ | ((first | ((first | refine arun_nil ?_ | refine arunD_nil ?_); refine hK _ ?_; clear hK K) | refine AW.skip ?_ | refine AW.exit ?_ | refine AW.ret ?_); simp only [thenA_exit, inBlockA_exit, if_true, if_false, Nat.reduceEqDiff, thenA_normal, inBlockA_normal, reduceIte, thenA_ret, inBlockA_ret, endQ_ret, endR_ret, endG_ret, endQ_normal, endR_normal, endG_normal])))
    exact ⟨nodeN ⟨n.kind, n.num, ⟨#[97, 98, 99, 100, 101, 102, 103, 104, 105, 106, 107, 108, 109]⟩, n.names, n.kids⟩ 100, by simp [nodeN, ares, aresL, upd, rowsOf_cons], r1_end ⟨n.kind, n.num, _, n.names, n.kids⟩ 100 (.mk _ hn.names hn.kids (fun k hk => hn.kid hk)) (by simp [upd, namesRow])⟩
  · have hb1 : (n.names.length + 1) * 16 ≤ 140737488355328 := by have := hn.names; omega
    have hb2 : n.names.length + 1 ≤ 140737488355328 := by have := hn.names; omega
    (repeat (first | with_reducible refine AW.seq ?_ | ((first | refine arun_kn 4 rfl (fun C hC => ?_) | refine arunD_kn 4 rfl (fun C hC => ?_)); (repeat ((conv => whnf); simp [strsE_len, hb1, hb2])); refine hC _ ?_; clear hC C; simp only [List.drop, Nat.reduceAdd]) | ((first | refine arun_kn 1 rfl (fun C hC => ?_) | refine arunD_kn 1 rfl (fun C hC => ?_)); (repeat ((conv => whnf); simp [strsE_len, hb1, hb2])); refine hC _ ?_; clear hC C; simp only [List.drop, Nat.reduceAdd]) | (refine arun_skip ?_ ?_; (focus (simp [awant, strsE_len, hb1, hb2]; done))) | (refine AW.regionK [] (fun K hK => ?_)) | (refine AW.regionDK [] (pcs [] []) (by kernel_rfl) (by kernel_rfl) (fun K hK => ?_)) | (refine AW.condT ?_ ?_; (focus (simp [aev, strsE_len, hb1, hb2]; done))) | (refine AW.condF ?_ ?_; (focus (simp [aev, strsE_len, hb1, hb2]; done))) | with_reducible refine AW.block ?_ | ((first | ((first | refine arun_nil ?_ | refine arunD_nil ?_); refine hK _ ?_; clear hK K) | refine AW.skip ?_ | refine AW.exit ?_ | refine AW.ret ?_); simp only [thenA_exit, inBlockA_exit, if_true, if_false, Nat.reduceEqDiff, thenA_normal, inBlockA_normal, reduceIte, thenA_ret, inBlockA_ret, endQ_ret, endR_ret, endG_ret, endQ_normal, endR_normal, endG_normal])))
    have e1 : strsE n.names ++ [[.str ⟨#[]⟩]] = strsE (n.names ++ [⟨#[]⟩]) := by simp [strsE]
    exact ⟨nodeN ⟨n.kind, n.num, n.text, n.names ++ [⟨#[]⟩], n.kids⟩ 100, by simp [nodeN, ares, aresL, upd, rowsOf_cons], r1_end ⟨n.kind, n.num, n.text, n.names ++ [⟨#[]⟩], n.kids⟩ 100 (.mk _ (by have := valid_names hv; simp; omega) hn.kids (fun k hk => hn.kid hk)) (by simp [upd, namesRow, ← e1])⟩
  · refine AW.hold 100 ?_
    (repeat (first | with_reducible refine AW.seq ?_ | ((first | refine arun_kn 4 rfl (fun C hC => ?_) | refine arunD_kn 4 rfl (fun C hC => ?_)); (repeat ((conv => whnf); simp [ASt.hold, upd, AV.subL, AV.sub])); refine hC _ ?_; clear hC C; simp only [List.drop, Nat.reduceAdd]) | ((first | refine arun_kn 1 rfl (fun C hC => ?_) | refine arunD_kn 1 rfl (fun C hC => ?_)); (repeat ((conv => whnf); simp [ASt.hold, upd, AV.subL, AV.sub])); refine hC _ ?_; clear hC C; simp only [List.drop, Nat.reduceAdd]) | (refine arun_skip ?_ ?_; (focus (simp [awant, ASt.hold, upd, AV.subL, AV.sub]; done))) | (refine AW.regionK [] (fun K hK => ?_)) | (refine AW.regionDK [] (pcs [] []) (by kernel_rfl) (by kernel_rfl) (fun K hK => ?_)) | (refine AW.condT ?_ ?_; (focus (simp [aev, ASt.hold, upd, AV.subL, AV.sub]; done))) | (refine AW.condF ?_ ?_; (focus (simp [aev, ASt.hold, upd, AV.subL, AV.sub]; done))) | with_reducible refine AW.block ?_ | ((first | ((first | refine arun_nil ?_ | refine arunD_nil ?_); refine hK _ ?_; clear hK K) | refine AW.skip ?_ | refine AW.exit ?_ | refine AW.ret ?_); simp only [thenA_exit, inBlockA_exit, if_true, if_false, Nat.reduceEqDiff, thenA_normal, inBlockA_normal, reduceIte, thenA_ret, inBlockA_ret, endQ_ret, endR_ret, endG_ret, endQ_normal, endR_normal, endG_normal])))
    exact ⟨.agg (one1 (one1 (one1 (one1 (nodeL n))))), by simp [one1, nodeL_eq, ares, aresL, upd, rowsOf_cons, AV.subL, AV.sub, Row.sub], .inl ⟨pur_agg (one1_pur (one1_pur (one1_pur (one1_pur (nodeL_pur n))))), _, one4_wk n, _, list1_sml (list1_sml (list1_sml (list1_sml hn))), rfl, rfl⟩⟩
  · refine AW.hold 100 ?_
    (repeat (first | with_reducible refine AW.seq ?_ | ((first | refine arun_kn 4 rfl (fun C hC => ?_) | refine arunD_kn 4 rfl (fun C hC => ?_)); (repeat ((conv => whnf); simp [ASt.hold, upd, AV.subL, AV.sub])); refine hC _ ?_; clear hC C; simp only [List.drop, Nat.reduceAdd]) | ((first | refine arun_kn 1 rfl (fun C hC => ?_) | refine arunD_kn 1 rfl (fun C hC => ?_)); (repeat ((conv => whnf); simp [ASt.hold, upd, AV.subL, AV.sub])); refine hC _ ?_; clear hC C; simp only [List.drop, Nat.reduceAdd]) | (refine arun_skip ?_ ?_; (focus (simp [awant, ASt.hold, upd, AV.subL, AV.sub]; done))) | (refine AW.regionK [] (fun K hK => ?_)) | (refine AW.regionDK [] (pcs [] []) (by kernel_rfl) (by kernel_rfl) (fun K hK => ?_)) | (refine AW.condT ?_ ?_; (focus (simp [aev, ASt.hold, upd, AV.subL, AV.sub]; done))) | (refine AW.condF ?_ ?_; (focus (simp [aev, ASt.hold, upd, AV.subL, AV.sub]; done))) | with_reducible refine AW.block ?_ | ((first | ((first | refine arun_nil ?_ | refine arunD_nil ?_); refine hK _ ?_; clear hK K) | refine AW.skip ?_ | refine AW.exit ?_ | refine AW.ret ?_); simp only [thenA_exit, inBlockA_exit, if_true, if_false, Nat.reduceEqDiff, thenA_normal, inBlockA_normal, reduceIte, thenA_ret, inBlockA_ret, endQ_ret, endR_ret, endG_ret, endQ_normal, endR_normal, endG_normal])))
    refine AW.adopt 4 4 26 5 ⟨_, tab26, rfl⟩ rfl (by simp [upd]) ?_
    simp only [ASt.adopt, ASt.add]
    refine AW.loopS (fun (x : List Nd × Nat) => mkSt (slots 0 61 [(0, .rdr), (2, .ptr true 5 1 2 0 0), (3, .ptr true 5 1 3 0 0), (4, .own 4 x.1.length), (5, .int .i64 x.1.length)]) [(2, ⟨true, 26, 5, [[.int .i64 0, .int .i64 0, .str ⟨#[]⟩, .view .tight 0 [], .view .tight 0 []]]⟩), (3, ⟨true, 26, 5, [nodeL n]⟩), (4, ⟨false, 26, 5, x.1.map nodeL⟩)] [2, 3, 4] (rd0.map fun _ => x.2)) (fun x => 7 - x.1.length) (fun x => x.1.length ≤ 7 ∧ 10 ≤ x.1.length + x.2 ∧ ∀ k ∈ x.1, Sml k) ([], 19) ?_ ⟨by simp, by simp, fun k hk => by cases hk⟩ ?_
    · rw [nodeL_eq]
      dsimp only [List.map_nil, List.length_nil]
      have hq : A + 30 + 4 * B - (A + 10 + 4 * B) - 1 = 19 := by omega
      exact (less_of (by simp [lessL, mkSt, slots, AV.subL, AV.sub, Row.sub, hq]) (by simp [upd, mkSt, rowsOf_cons, AV.subL, AV.sub, Row.sub, hq]) (by simp [upd, mkSt, usedOf_cons, AV.subL, AV.sub, Row.sub, hq]) (by first | exact rd_less (by omega) | simp [mkSt, AV.subL, AV.sub, Row.sub, hq]) (by simp [slots, in_any, in_int, in_bool, in_str, in_ptr, in_own, in_agg, in_vnil, in_rdr, usedOf_cons, usedOf_nil, strs_in, ints_in, nodes_in, in_tup, AV.subL, AV.sub, Row.sub, hq]) (by simp only [List.forall_mem_cons, List.not_mem_nil, false_implies, implies_true, and_true, true_and, AV.subL, AV.sub, Row.sub, hq]; (repeat (first | with_reducible exact trivial | with_reducible refine And.intro ?_ ?_ | with_reducible exact in_int | with_reducible exact in_str | with_reducible exact in_bool | with_reducible exact strs_in _ | with_reducible exact nodes_in _ | with_reducible exact items_in _ | with_reducible exact in_vnil | with_reducible exact in_any | exact hin _ | with_reducible refine take_in ?_ | with_reducible exact strsE_in _ | with_reducible exact nodesE_in _ | with_reducible exact nodeL_in _ | with_reducible exact itemsE_in _ | with_reducible exact itemL_in _ | with_reducible refine app_in ?_ ?_ | with_reducible refine sing_in ?_ | (focus (simp [in_any, in_int, in_bool, in_str, in_ptr, in_own, in_agg, in_vnil, in_rdr, usedOf_cons, usedOf_nil, strs_in, ints_in, nodes_in, AV.subL, AV.sub, Row.sub, hq]; done)))); done))
    · rintro ⟨ks, b⟩ ⟨hi, hb, hs⟩
      dsimp only at hi hb hs ⊢
      rw [nodeL_eq]
      (repeat (first | with_reducible refine AW.seq ?_ | ((first | refine arun_kn 4 rfl (fun C hC => ?_) | refine arunD_kn 4 rfl (fun C hC => ?_)); (repeat ((conv => whnf); simp)); refine hC _ ?_; clear hC C; simp only [List.drop, Nat.reduceAdd]) | ((first | refine arun_kn 1 rfl (fun C hC => ?_) | refine arunD_kn 1 rfl (fun C hC => ?_)); (repeat ((conv => whnf); simp)); refine hC _ ?_; clear hC C; simp only [List.drop, Nat.reduceAdd]) | (refine arun_skip ?_ ?_; (focus (simp [awant]; done))) | (refine arun_c (1) (pick_AC 2 (by omega) (by omega)) ?_; (rintro _ ⟨v, rfl, hv⟩; obtain ⟨v0, v1⟩ := hv.1 (by omega))) | (refine AW.regionK [] (fun K hK => ?_)) | (refine AW.regionDK [] (pcs [] []) (by kernel_rfl) (by kernel_rfl) (fun K hK => ?_)) | (refine AW.condT ?_ ?_; (focus (simp [aev]; done))) | (refine AW.condF ?_ ?_; (focus (simp [aev]; done))) | with_reducible refine AW.block ?_ | ((first | ((first | refine arun_nil ?_ | refine arunD_nil ?_); refine hK _ ?_; clear hK K) | refine AW.skip ?_ | refine AW.exit ?_ | refine AW.ret ?_); simp only [thenA_exit, inBlockA_exit, if_true, if_false, Nat.reduceEqDiff, thenA_normal, inBlockA_normal, reduceIte, thenA_ret, inBlockA_ret, endQ_ret, endR_ret, endG_ret, endQ_normal, endR_normal, endG_normal])))
      have hw : IntKind.i64.wrap (6 + v) = 6 + v := i64_nat (by omega) (by omega)
      have hl : (ks.map nodeL).length = ks.length := List.length_map _
      rcases Int.lt_or_le (ks.length : Int) (6 + v) with h | h
      · have hw2 : IntKind.i64.wrap ((ks.length : Int) + 1) = (ks.length : Int) + 1 := i64_nat (by omega) (by omega)
        have hb1 : (ks.length + 1) * 80 ≤ 140737488355328 := by omega
        have hb2 : ks.length + 1 ≤ 140737488355328 := by omega
        (repeat (first | with_reducible refine AW.seq ?_ | ((first | refine arun_kn 4 rfl (fun C hC => ?_) | refine arunD_kn 4 rfl (fun C hC => ?_)); (repeat ((conv => whnf); simp [hw, h, hw2, hl, hb1, hb2])); refine hC _ ?_; clear hC C; simp only [List.drop, Nat.reduceAdd]) | ((first | refine arun_kn 1 rfl (fun C hC => ?_) | refine arunD_kn 1 rfl (fun C hC => ?_)); (repeat ((conv => whnf); simp [hw, h, hw2, hl, hb1, hb2])); refine hC _ ?_; clear hC C; simp only [List.drop, Nat.reduceAdd]) | (refine arun_skip ?_ ?_; (focus (simp [awant, hw, h, hw2, hl, hb1, hb2]; done))) | (refine arun_c0 (copyNode_AC n hn .loose) ?_; rintro _ rfl) | (refine AW.regionK [] (fun K hK => ?_)) | (refine AW.regionDK [] (pcs [] []) (by kernel_rfl) (by kernel_rfl) (fun K hK => ?_)) | (refine AW.condT ?_ ?_; (focus (simp [aev, hw, h, hw2, hl, hb1, hb2]; done))) | (refine AW.condF ?_ ?_; (focus (simp [aev, hw, h, hw2, hl, hb1, hb2]; done))) | with_reducible refine AW.block ?_ | ((first | ((first | refine arun_nil ?_ | refine arunD_nil ?_); refine hK _ ?_; clear hK K) | refine AW.skip ?_ | refine AW.exit ?_ | refine AW.ret ?_); simp only [thenA_exit, inBlockA_exit, if_true, if_false, Nat.reduceEqDiff, thenA_normal, inBlockA_normal, reduceIte, thenA_ret, inBlockA_ret, endQ_ret, endR_ret, endG_ret, endQ_normal, endR_normal, endG_normal])))
        refine ⟨(ks ++ [n], b - 1), by simp only [List.length_append, List.length_cons, List.length_nil]; omega, ⟨by simp only [List.length_append, List.length_cons, List.length_nil]; omega, by simp only [List.length_append, List.length_cons, List.length_nil]; omega, ?_⟩, ?_⟩
        · intro x hx
          rcases List.mem_append.1 hx with hx | hx
          · exact hs x hx
          · rw [List.mem_singleton.1 hx]; exact hn
        · dsimp only
          rw [List.map_append]
          exact (less_of (by simp [lessL, mkSt, slots, nodeL_eq]) (by simp [upd, mkSt, rowsOf_cons, nodeL_eq]) (by simp [upd, mkSt, usedOf_cons, nodeL_eq]) (by first | exact rd_less (by omega) | simp [mkSt, nodeL_eq]) (by simp [slots, in_any, in_int, in_bool, in_str, in_ptr, in_own, in_agg, in_vnil, in_rdr, usedOf_cons, usedOf_nil, strs_in, ints_in, nodes_in, in_tup, nodeL_eq]) (by simp only [List.forall_mem_cons, List.not_mem_nil, false_implies, implies_true, and_true, true_and, nodeL_eq]; (repeat (first | with_reducible exact trivial | with_reducible refine And.intro ?_ ?_ | with_reducible exact in_int | with_reducible exact in_str | with_reducible exact in_bool | with_reducible exact strs_in _ | with_reducible exact nodes_in _ | with_reducible exact items_in _ | with_reducible exact in_vnil | with_reducible exact in_any | exact hin _ | with_reducible refine take_in ?_ | with_reducible exact strsE_in _ | with_reducible exact nodesE_in _ | with_reducible exact nodeL_in _ | with_reducible exact itemsE_in _ | with_reducible exact itemL_in _ | with_reducible refine app_in ?_ ?_ | with_reducible refine sing_in ?_ | (focus (simp [in_any, in_int, in_bool, in_str, in_ptr, in_own, in_agg, in_vnil, in_rdr, usedOf_cons, usedOf_nil, strs_in, ints_in, nodes_in, nodeL_eq]; done)))); done))
      · refine AW.hold 4 ?_
        have h' : ¬ ((ks.length : Int) < 6 + v) := by omega
        (repeat (first | with_reducible refine AW.seq ?_ | ((first | refine arun_kn 4 rfl (fun C hC => ?_) | refine arunD_kn 4 rfl (fun C hC => ?_)); (repeat ((conv => whnf); simp [hw, h', ASt.hold, AV.subL, AV.sub, rowsOf_cons])); refine hC _ ?_; clear hC C; simp only [List.drop, Nat.reduceAdd]) | ((first | refine arun_kn 1 rfl (fun C hC => ?_) | refine arunD_kn 1 rfl (fun C hC => ?_)); (repeat ((conv => whnf); simp [hw, h', ASt.hold, AV.subL, AV.sub, rowsOf_cons])); refine hC _ ?_; clear hC C; simp only [List.drop, Nat.reduceAdd]) | (refine arun_skip ?_ ?_; (focus (simp [awant, hw, h', ASt.hold, AV.subL, AV.sub, rowsOf_cons]; done))) | (refine AW.regionK [] (fun K hK => ?_)) | (refine AW.regionDK [] (pcs [] []) (by kernel_rfl) (by kernel_rfl) (fun K hK => ?_)) | (refine AW.condT ?_ ?_; (focus (simp [aev, hw, h', ASt.hold, AV.subL, AV.sub, rowsOf_cons]; done))) | (refine AW.condF ?_ ?_; (focus (simp [aev, hw, h', ASt.hold, AV.subL, AV.sub, rowsOf_cons]; done))) | with_reducible refine AW.block ?_ | ((first | ((first | refine arun_nil ?_ | refine arunD_nil ?_); refine hK _ ?_; clear hK K) | refine AW.skip ?_ | refine AW.exit ?_ | refine AW.ret ?_); simp only [thenA_exit, inBlockA_exit, if_true, if_false, Nat.reduceEqDiff, thenA_normal, inBlockA_normal, reduceIte, thenA_ret, inBlockA_ret, endQ_ret, endR_ret, endG_ret, endQ_normal, endR_normal, endG_normal])))
        exact ⟨.agg [.int .i64 3, .int .i64 0, .str ⟨#[]⟩, .view .tight 0 [], .view .loose 5 (ks.map nodeL)], by simp [ares, aresL, upd, rowsOf_cons, AV.subL, AV.sub, Row.sub], .inl ⟨pur_agg (by
          simp only [List.forall_mem_cons, List.not_mem_nil, false_implies, implies_true, and_true]
          exact ⟨pur_int, pur_int, pur_str, pur_view (by decide) (fun e he => by cases he), nodes_pur _ (by decide)⟩), _, kids_wk ks, _, .mk ⟨3, 0, ⟨#[]⟩, [], ks⟩ (by simp) (by dsimp only; omega) hs, rfl, rfl⟩⟩
  · (repeat (first | with_reducible refine AW.seq ?_ | ((first | refine arun_kn 4 rfl (fun C hC => ?_) | refine arunD_kn 4 rfl (fun C hC => ?_)); (repeat ((conv => whnf); simp [e0, e1, e2, e3, e4, e5])); refine hC _ ?_; clear hC C; simp only [List.drop, Nat.reduceAdd]) | ((first | refine arun_kn 1 rfl (fun C hC => ?_) | refine arunD_kn 1 rfl (fun C hC => ?_)); (repeat ((conv => whnf); simp [e0, e1, e2, e3, e4, e5])); refine hC _ ?_; clear hC C; simp only [List.drop, Nat.reduceAdd]) | (refine arun_skip ?_ ?_; (focus (simp [awant, e0, e1, e2, e3, e4, e5]; done))) | (refine AW.regionK [] (fun K hK => ?_)) | (refine AW.regionDK [] (pcs [] []) (by kernel_rfl) (by kernel_rfl) (fun K hK => ?_)) | (refine AW.condT ?_ ?_; (focus (simp [aev, e0, e1, e2, e3, e4, e5]; done))) | (refine AW.condF ?_ ?_; (focus (simp [aev, e0, e1, e2, e3, e4, e5]; done))) | with_reducible refine AW.block ?_ | ((first | ((first | refine arun_nil ?_ | refine arunD_nil ?_); refine hK _ ?_; clear hK K) | refine AW.skip ?_ | refine AW.exit ?_ | refine AW.ret ?_); simp only [thenA_exit, inBlockA_exit, if_true, if_false, Nat.reduceEqDiff, thenA_normal, inBlockA_normal, reduceIte, thenA_ret, inBlockA_ret, endQ_ret, endR_ret, endG_ret, endQ_normal, endR_normal, endG_normal])))
    exact ⟨nodeN n 100, by simp [nodeN, ares, aresL, upd, rowsOf_cons], r1_end n 100 hn (by simp [upd, namesRow])⟩
theorem repL2_inv {w : World} {ρ : Cx} {a b : AV} {vs : List Value} (h : RepL w ρ [a, b] vs) : ∃ v0 v1, vs = [v0, v1] ∧ Rep w ρ a v0 ∧ Rep w ρ b v1 := by
  unfold RepL at h; obtain ⟨v0, vs, rfl, h0, h⟩ := h
  unfold RepL at h; obtain ⟨v1, vs, rfl, h1, h⟩ := h
  unfold RepL at h; subst h
  exact ⟨_, _, rfl, h0, h1⟩
theorem repL1_inv {w : World} {ρ : Cx} {a : AV} {vs : List Value} (h : RepL w ρ [a] vs) : ∃ v0, vs = [v0] ∧ Rep w ρ a v0 := by
  unfold RepL at h; obtain ⟨v0, vs, rfl, h0, h⟩ := h
  unfold RepL at h; subst h
  exact ⟨_, rfl, h0⟩
theorem repL2 {w : World} {ρ : Cx} {a b : AV} {v0 v1 : Value} (h0 : Rep w ρ a v0) (h1 : Rep w ρ b v1) : RepL w ρ [a, b] [v0, v1] := by
  unfold RepL; refine ⟨_, _, rfl, h0, ?_⟩
  unfold RepL; refine ⟨_, _, rfl, h1, ?_⟩
  unfold RepL; rfl
theorem ValidNode_AC (n : Nd) (t : VC) : AC Tryd.prog 41 [nodeT t n] 0 (fun r => r = .bool (validB n)) := by
  refine AC.ofGrow (enters_of Tryd.func41 (by kernel_rfl) (by kernel_rfl)) (fun w L S rb vs h => ?_)
  obtain ⟨v, rfl, h1⟩ := repL1_inv h
  refine (ValidNode_ok n v w (node_of_rep h1)).mono ?_
  rintro e w' ⟨rfl, hg⟩
  exact ⟨_, _, rfl, hg, rep_bool.2 rfl, rfl⟩
theorem shapeL_mem : ∀ {l : List Nd} {d : Nat}, shapeL l d = true → ∀ k ∈ l, shapeB k d = true
  | [], _, _, k, hk => by cases hk
  | x :: l, d, h, k, hk => by
    simp only [shapeL, Bool.and_eq_true] at h
    rcases List.mem_cons.1 hk with rfl | hk
    · exact h.1
    · exact shapeL_mem h.2 k hk
theorem shape_sml : ∀ n, ∀ d, shapeB n d = true → Sml n := Nd.ind' _ (fun n ih d h => by
  rw [shapeB_eq] at h
  simp only [Bool.and_eq_true] at h
  have hp := parts_len h.1.2
  exact .mk n (by omega) (by omega) (fun k hk => ih k hk (d - 1) (shapeL_mem h.2 k hk)))
theorem eqs_iff {a b : ByteArray} : eqs a b = true ↔ a = b := by
  rw [eqs_def, beq_iff_eq]
  exact ⟨toList_inj, fun h => by rw [h]⟩
theorem tup2_pur {a b : AV} (h : Pur a) (k : Pur b) : Pur (.tup [a, b]) := pur_tup (by
  simp only [List.forall_mem_cons, List.not_mem_nil, false_implies, implies_true, and_true]
  exact ⟨h, k⟩)
def ByteL (zs : List Int) : Prop := ∀ z ∈ zs, 0 ≤ z ∧ z ≤ 255
theorem bytes_clo {t : VC} (zs : List Int) : Clo (.view t 1 (bytesE zs)) := clo_view (by
  intro e he c hc
  obtain ⟨z, _, rfl⟩ := List.mem_map.1 he
  rw [List.mem_singleton.1 hc]; exact clo_int)
theorem bytesE_len (zs : List Int) : (bytesE zs).length = zs.length := by unfold bytesE; rw [List.length_map]
def eqT : List ByteArray → List ByteArray → Bool
  | [], [] => true
  | x :: xs, y :: ys => eqs x y && eqT xs ys
  | _, _ => false
theorem eqT_len : ∀ {xs ys : List ByteArray}, eqT xs ys = true → xs.length = ys.length
  | [], [], _ => rfl
  | x :: xs, y :: ys, h => by unfold eqT at h; rw [Bool.and_eq_true] at h; simp [eqT_len h.2]
  | [], _ :: _, h => by cases h
  | _ :: _, [], h => by cases h
theorem eqT_refl : ∀ xs : List ByteArray, eqT xs xs = true
  | [] => rfl
  | x :: xs => by unfold eqT; rw [eqs_iff.2 rfl, eqT_refl xs]; rfl
theorem eqT_of_ne {xs ys : List ByteArray} (h : xs.length ≠ ys.length) : eqT xs ys = false := by
  cases hb : eqT xs ys
  · rfl
  · exact absurd (eqT_len hb) h
theorem equalTexts_AC (t t' : VC) (xs ys : List ByteArray) (hb : xs.length ≤ 1000000) : AC Tryd.prog 20 [.view t 1 (strsE xs), .view t' 1 (strsE ys)] 0 (fun r => r = .bool (eqT xs ys)) := by
  refine AC.of tab_ok mixed_ok Tryd.func20 (by rfl) (by kernel_rfl) ?_; rintro ⟨P, T, hT, hm, w0, S0, rd0, k0⟩ hP hTT; dsimp only at hP hTT; subst hP hTT; unfold initSt; rw [Tryd.ntmps20]
  by_cases hlen : xs.length = ys.length
  · have hlen' : ((xs.length : Int) != (ys.length : Int)) = false := by rw [hlen]; simp
    (repeat (first | with_reducible refine AW.seq ?_ | ((first | refine arun_kn 4 rfl (fun C hC => ?_) | refine arunD_kn 4 rfl (fun C hC => ?_)); (repeat ((conv => whnf); simp [strsE_len, hlen'])); refine hC _ ?_; clear hC C; simp only [List.drop, Nat.reduceAdd]) | ((first | refine arun_kn 1 rfl (fun C hC => ?_) | refine arunD_kn 1 rfl (fun C hC => ?_)); (repeat ((conv => whnf); simp [strsE_len, hlen'])); refine hC _ ?_; clear hC C; simp only [List.drop, Nat.reduceAdd]) | (refine arun_skip ?_ ?_; (focus (simp [awant, strsE_len, hlen']; done))) | (refine AW.regionK [] (fun K hK => ?_)) | (refine AW.regionDK [] (pcs [] []) (by kernel_rfl) (by kernel_rfl) (fun K hK => ?_)) | (refine AW.condT ?_ ?_; (focus (simp [aev, strsE_len, hlen']; done))) | (refine AW.condF ?_ ?_; (focus (simp [aev, strsE_len, hlen']; done))) | with_reducible refine AW.block ?_ | ((first | ((first | refine arun_nil ?_ | refine arunD_nil ?_); refine hK _ ?_; clear hK K) | refine AW.skip ?_ | refine AW.exit ?_ | refine AW.ret ?_); simp only [thenA_exit, inBlockA_exit, if_true, if_false, Nat.reduceEqDiff, thenA_normal, inBlockA_normal, reduceIte, thenA_ret, inBlockA_ret, endQ_ret, endR_ret, endG_ret, endQ_normal, endR_normal, endG_normal])))
    refine AW.loopS (fun (i : Nat) => mkSt (slots 0 26 [(0, .view t 1 (strsE xs)), (1, .view t' 1 (strsE ys)), (5, .int .i64 i)]) [] [] (rd0.map fun _ => 0)) (fun i => xs.length - i) (fun i => i ≤ xs.length ∧ eqT xs ys = eqT (xs.drop i) (ys.drop i)) 0 ?_ ⟨Nat.zero_le _, rfl⟩ ?_
    · exact less_a
    · rintro i ⟨hi, hf⟩
      by_cases hlt : i < xs.length
      · have hlt2 : i < ys.length := by omega
        have hw : IntKind.i64.wrap ((i : Int) + 1) = (i : Int) + 1 := i64_nat (by omega) (by omega)
        rw [List.drop_eq_getElem_cons hlt, List.drop_eq_getElem_cons hlt2, eqT] at hf
        cases h2 : eqs xs[i] ys[i] <;> rw [h2] at hf
        · (repeat (first | with_reducible refine AW.seq ?_ | ((first | refine arun_kn 4 rfl (fun C hC => ?_) | refine arunD_kn 4 rfl (fun C hC => ?_)); (repeat ((conv => whnf); simp [hlt, hlt2, hw, h2, strsE_len])); refine hC _ ?_; clear hC C; simp only [List.drop, Nat.reduceAdd]) | ((first | refine arun_kn 1 rfl (fun C hC => ?_) | refine arunD_kn 1 rfl (fun C hC => ?_)); (repeat ((conv => whnf); simp [hlt, hlt2, hw, h2, strsE_len])); refine hC _ ?_; clear hC C; simp only [List.drop, Nat.reduceAdd]) | (refine arun_skip ?_ ?_; (focus (simp [awant, hlt, hlt2, hw, h2, strsE_len]; done))) | (refine AW.regionK [] (fun K hK => ?_)) | (refine AW.regionDK [] (pcs [] []) (by kernel_rfl) (by kernel_rfl) (fun K hK => ?_)) | (refine AW.condT ?_ ?_; (focus (simp [aev, hlt, hlt2, hw, h2, strsE_len]; done))) | (refine AW.condF ?_ ?_; (focus (simp [aev, hlt, hlt2, hw, h2, strsE_len]; done))) | with_reducible refine AW.block ?_ | ((first | ((first | refine arun_nil ?_ | refine arunD_nil ?_); refine hK _ ?_; clear hK K) | refine AW.skip ?_ | refine AW.exit ?_ | refine AW.ret ?_); simp only [thenA_exit, inBlockA_exit, if_true, if_false, Nat.reduceEqDiff, thenA_normal, inBlockA_normal, reduceIte, thenA_ret, inBlockA_ret, endQ_ret, endR_ret, endG_ret, endQ_normal, endR_normal, endG_normal])))
          exact ⟨.bool false, by simp [ares, aresL], pur_bool, by rw [hf]; rfl⟩
        · (repeat (first | with_reducible refine AW.seq ?_ | ((first | refine arun_kn 4 rfl (fun C hC => ?_) | refine arunD_kn 4 rfl (fun C hC => ?_)); (repeat ((conv => whnf); simp [hlt, hlt2, hw, h2, strsE_len])); refine hC _ ?_; clear hC C; simp only [List.drop, Nat.reduceAdd]) | ((first | refine arun_kn 1 rfl (fun C hC => ?_) | refine arunD_kn 1 rfl (fun C hC => ?_)); (repeat ((conv => whnf); simp [hlt, hlt2, hw, h2, strsE_len])); refine hC _ ?_; clear hC C; simp only [List.drop, Nat.reduceAdd]) | (refine arun_skip ?_ ?_; (focus (simp [awant, hlt, hlt2, hw, h2, strsE_len]; done))) | (refine AW.regionK [] (fun K hK => ?_)) | (refine AW.regionDK [] (pcs [] []) (by kernel_rfl) (by kernel_rfl) (fun K hK => ?_)) | (refine AW.condT ?_ ?_; (focus (simp [aev, hlt, hlt2, hw, h2, strsE_len]; done))) | (refine AW.condF ?_ ?_; (focus (simp [aev, hlt, hlt2, hw, h2, strsE_len]; done))) | with_reducible refine AW.block ?_ | ((first | ((first | refine arun_nil ?_ | refine arunD_nil ?_); refine hK _ ?_; clear hK K) | refine AW.skip ?_ | refine AW.exit ?_ | refine AW.ret ?_); simp only [thenA_exit, inBlockA_exit, if_true, if_false, Nat.reduceEqDiff, thenA_normal, inBlockA_normal, reduceIte, thenA_ret, inBlockA_ret, endQ_ret, endR_ret, endG_ret, endQ_normal, endR_normal, endG_normal])))
          exact ⟨i + 1, by omega, ⟨by omega, by rw [hf]; rfl⟩, less_a⟩
      · rw [List.drop_eq_nil_of_le (by omega), List.drop_eq_nil_of_le (by omega)] at hf
        (repeat (first | with_reducible refine AW.seq ?_ | ((first | refine arun_kn 4 rfl (fun C hC => ?_) | refine arunD_kn 4 rfl (fun C hC => ?_)); (repeat ((conv => whnf); simp [hlt, strsE_len])); refine hC _ ?_; clear hC C; simp only [List.drop, Nat.reduceAdd]) | ((first | refine arun_kn 1 rfl (fun C hC => ?_) | refine arunD_kn 1 rfl (fun C hC => ?_)); (repeat ((conv => whnf); simp [hlt, strsE_len])); refine hC _ ?_; clear hC C; simp only [List.drop, Nat.reduceAdd]) | (refine arun_skip ?_ ?_; (focus (simp [awant, hlt, strsE_len]; done))) | (refine AW.regionK [] (fun K hK => ?_)) | (refine AW.regionDK [] (pcs [] []) (by kernel_rfl) (by kernel_rfl) (fun K hK => ?_)) | (refine AW.condT ?_ ?_; (focus (simp [aev, hlt, strsE_len]; done))) | (refine AW.condF ?_ ?_; (focus (simp [aev, hlt, strsE_len]; done))) | with_reducible refine AW.block ?_ | ((first | ((first | refine arun_nil ?_ | refine arunD_nil ?_); refine hK _ ?_; clear hK K) | refine AW.skip ?_ | refine AW.exit ?_ | refine AW.ret ?_); simp only [thenA_exit, inBlockA_exit, if_true, if_false, Nat.reduceEqDiff, thenA_normal, inBlockA_normal, reduceIte, thenA_ret, inBlockA_ret, endQ_ret, endR_ret, endG_ret, endQ_normal, endR_normal, endG_normal])))
        exact ⟨.bool true, by simp [ares, aresL], pur_bool, by rw [hf]; rfl⟩
  · have hlen' : ((xs.length : Int) != (ys.length : Int)) = true := by rw [bne_iff_ne]; omega
    (repeat (first | with_reducible refine AW.seq ?_ | ((first | refine arun_kn 4 rfl (fun C hC => ?_) | refine arunD_kn 4 rfl (fun C hC => ?_)); (repeat ((conv => whnf); simp [strsE_len, hlen'])); refine hC _ ?_; clear hC C; simp only [List.drop, Nat.reduceAdd]) | ((first | refine arun_kn 1 rfl (fun C hC => ?_) | refine arunD_kn 1 rfl (fun C hC => ?_)); (repeat ((conv => whnf); simp [strsE_len, hlen'])); refine hC _ ?_; clear hC C; simp only [List.drop, Nat.reduceAdd]) | (refine arun_skip ?_ ?_; (focus (simp [awant, strsE_len, hlen']; done))) | (refine AW.regionK [] (fun K hK => ?_)) | (refine AW.regionDK [] (pcs [] []) (by kernel_rfl) (by kernel_rfl) (fun K hK => ?_)) | (refine AW.condT ?_ ?_; (focus (simp [aev, strsE_len, hlen']; done))) | (refine AW.condF ?_ ?_; (focus (simp [aev, strsE_len, hlen']; done))) | with_reducible refine AW.block ?_ | ((first | ((first | refine arun_nil ?_ | refine arunD_nil ?_); refine hK _ ?_; clear hK K) | refine AW.skip ?_ | refine AW.exit ?_ | refine AW.ret ?_); simp only [thenA_exit, inBlockA_exit, if_true, if_false, Nat.reduceEqDiff, thenA_normal, inBlockA_normal, reduceIte, thenA_ret, inBlockA_ret, endQ_ret, endR_ret, endG_ret, endQ_normal, endR_normal, endG_normal])))
    exact ⟨.bool false, by simp [ares, aresL], pur_bool, by rw [eqT_of_ne hlen]⟩
def pathsE (l : List (List ByteArray)) : List (List AV) := l.map fun xs => [.view .loose 1 (strsE xs)]
theorem pathsE_len (l : List (List ByteArray)) : (pathsE l).length = l.length := by unfold pathsE; rw [List.length_map]
theorem pathsE_get (l : List (List ByteArray)) (i : Nat) : (pathsE l)[i]? = (l[i]?).map fun xs => [.view .loose 1 (strsE xs)] := by unfold pathsE; rw [List.getElem?_map]
theorem pathsE_at (l : List (List ByteArray)) (i : Nat) (h : i < (pathsE l).length) : (pathsE l)[i] = [.view .loose 1 (strsE (l[i]'(by rw [pathsE_len] at h; exact h)))] := Option.some.inj (by rw [← List.getElem?_eq_getElem h, pathsE_get, List.getElem?_eq_getElem (by rw [pathsE_len] at h; exact h)]; rfl)
theorem pathsE_pur (l : List (List ByteArray)) : ∀ e ∈ pathsE l, ∀ c ∈ e, Pur c := fun e he c hc => by
  obtain ⟨k, _, rfl⟩ := List.mem_map.1 he
  rw [List.mem_singleton.1 hc]; exact strs_pur _ (by decide)
theorem pathsE_clo (l : List (List ByteArray)) : ∀ e ∈ pathsE l, ∀ c ∈ e, Clo c := fun e he c hc => (pathsE_pur l e he c hc).clo
theorem pathsE_in {U : Nat → Bool} (l : List (List ByteArray)) : ∀ e ∈ pathsE l, ∀ c ∈ e, AV.In U c := fun e he c hc => by
  obtain ⟨k, _, rfl⟩ := List.mem_map.1 he
  rw [List.mem_singleton.1 hc]; exact strs_in _
theorem paths_clo {t : VC} (l : List (List ByteArray)) : Clo (.view t 1 (pathsE l)) := clo_view (pathsE_clo l)
theorem paths_pur {t : VC} (l : List (List ByteArray)) (h : t ≠ .lent) : Pur (.view t 1 (pathsE l)) := pur_view h (pathsE_pur l)
theorem paths_in {U : Nat → Bool} {t : VC} (l : List (List ByteArray)) : AV.In U (.view t 1 (pathsE l)) := in_view.2 (pathsE_in l)
theorem eqs_self' (a : ByteArray) : eqs a a = true := eqs_iff.2 rfl
theorem in_paths {U : Nat → Bool} {t : VC} {l : List (List ByteArray)} : AV.In U (.view t 1 (pathsE l)) := in_view.2 (pathsE_in l)
def cN : Nat := nC 3 + 30 + 4 * nC 2
end Go.Proofs.YtfjaobfaepjfnaaDoor.Eng
namespace Go.Proofs.YtfjaobfaepjfnaaDoor
open Go.RowKit Go.ChangeShapes Go.WideShapes Go.Deep
section
variable {H : Type} {enc : TypeId × Value → H} {W : World} {base : Nat} {sp : Nat → Bool} {held : Bool}
theorem addr_spot {w : World} {a : Addr} {v : Value} (h : w.cell? a = some v) : ∃ b o, a = ⟨b, o, none⟩ := by
  have := World.cell?_spot h
  exact ⟨a.block, a.off, by cases a; simp_all⟩
theorem add_mk (b o i : Nat) : (⟨b, o, none⟩ : Addr).add i = ⟨b, o + i, none⟩ := by
  unfold Addr.add; split
  · rename_i h; subst h; rfl
  · rfl
end
end Go.Proofs.YtfjaobfaepjfnaaDoor
namespace Go.Proofs.YtfjaobfaepjfnaaDoor
open Go.RowKit Go.ChangeShapes Go.WideShapes Go.Deep
def BytesR (W : World) (zs : List Int) (v : Value) : Prop := ∃ a c, v = .slice a zs.length c ∧ zs.length ≤ c ∧ zs.length ≤ big ∧ (zs = [] ∨ ∃ b o, a = some ⟨b, o, none⟩ ∧ ∀ i (h : i < zs.length), W.cell? ⟨b, o + i, none⟩ = some (.int .u8 zs[i])) ∧ Eng.ByteL zs
section
variable {H : Type} {enc : TypeId × Value → H} {W : World} {base : Nat} {sp : Nat → Bool} {held : Bool}
theorem rv_bytes {fuel : Nat} {v : Value} {x : DataW H × List MemPlace} (h : DataW.trod enc Tryd.prog W base sp held fuel 22 [v] = some x) : ∃ zs, BytesR W zs v := by
  rcases open_slice Tryd.underlying22 h with ⟨e, _⟩ | ⟨a, len, cap, m, n, D, Pl, e, _, hl, hm, hmm, _, hi⟩
  · cases e
    exact ⟨[], none, 0, rfl, by simp, by simp, .inl rfl, fun z hz => by cases hz⟩
  · cases e
    have hlm : len ≤ m := by rw [hmm]; split <;> omega
    have hel : ∀ i, i < len → ∃ z : Int, W.cell? (a.add i) = some (.int .u8 z) ∧ (0 ≤ z ∧ z ≤ 255) := fun i hi' => by
      obtain ⟨cs', h1, h2⟩ := hi i (by omega)
      have hc : Tryd.prog.cellsOf 5 = 1 := by kernel_rfl
      rw [hc] at h1
      obtain ⟨_, hlen, hat⟩ := World.cells?_some h1
      obtain ⟨z, rfl, _, hz⟩ := DataW.trod_int Tryd.underlying5 h2
      have := hat 0 (by omega)
      refine ⟨z, by simpa [Go.Deep.add_add] using this, ?_⟩
      simp only [Lit.wf, Bool.and_eq_true, decide_eq_true_eq] at hz
      simpa [IntKind.min, IntKind.max, IntKind.signed, IntKind.bits] using hz
    have : Inhabited Int := ⟨0⟩
    obtain ⟨f, hf⟩ := choose_lt hel
    have hkl : ((List.range len).map f).length = len := by simp
    refine ⟨(List.range len).map f, some a, cap, by rw [hkl], by rw [hkl]; exact hl, by rw [hkl]; unfold maxLen at hm; unfold big; omega, ?_, ?_⟩
    · by_cases h0 : len = 0
      · subst h0; exact .inl rfl
      · obtain ⟨b, o, ha⟩ := addr_spot (hf 0 (by omega)).1
        have ha' : a = ⟨b, o, none⟩ := by simpa [Addr.add] using ha
        subst ha'
        refine .inr ⟨b, o, rfl, fun i hi' => ?_⟩
        simp at hi'
        have := (hf i hi').1
        rw [add_mk] at this
        simpa using this
    · intro z hz
      obtain ⟨i, hi', rfl⟩ := List.mem_map.1 hz
      exact (hf i (List.mem_range.1 hi')).2
end
theorem law_bytes {f : FuncId} {zs : List Int} {v : Value} (h : Eng.ByteL zs → Eng.AC0 Tryd.prog f [.view .loose 1 (Eng.bytesE zs)] (fun r => r = .bool true)) (W : World) (hv : BytesR W zs v) :
    Calls Tryd.prog f #[v] W fun e W' => e = .returned (.bool true) ∧ Grow W W' := by
  obtain ⟨a, c, rfl, h1, h2, h3, h4⟩ := hv
  refine ((h h4).2 W nil (fun b => b < W.heap.size) [.slice a zs.length c] (fun b hb => hb.elim) (fun b hb => hb) ?_).mono ?_
  · unfold Eng.RepL
    refine ⟨_, _, rfl, ?_, by unfold Eng.RepL; rfl⟩
    refine Eng.rep_view.2 ⟨a, c, by rw [Eng.bytesE_len], fun h => (by cases h), by rw [Eng.bytesE_len]; exact h1, by rw [Eng.bytesE_len]; exact h2, fun e he => ?_, ?_⟩
    · obtain ⟨k, _, rfl⟩ := List.mem_map.1 he; rfl
    · rcases h3 with rfl | ⟨b, o, ha, hc⟩
      · exact .inl rfl
      · by_cases hz : zs = []
        · subst hz; exact .inl rfl
        · have hb : b < W.heap.size := lt_of_cell (hc 0 (List.length_pos_iff.2 hz))
          refine .inr ⟨b, o, ha, hb, Eng.RepE.of_get (sz := 1) (fun e he => ?_) (fun i e he => ?_)⟩
          · obtain ⟨k, _, rfl⟩ := List.mem_map.1 he; rfl
          · unfold Eng.bytesE at he
            rw [List.getElem?_map, Option.map_eq_some_iff] at he
            obtain ⟨x, hx, rfl⟩ := he
            obtain ⟨hi, rfl⟩ := List.getElem?_eq_some_iff.1 hx
            refine Eng.RepC.of_get (fun j d hd => ?_)
            have hj := (List.getElem?_eq_some_iff.1 hd).1
            simp only [List.length_cons, List.length_nil] at hj
            obtain rfl : j = 0 := by omega
            simp only [List.getElem?_cons_zero, Option.some.injEq] at hd
            subst hd
            exact ⟨_, by simpa using hc i hi, rfl, Eng.rep_int.2 rfl⟩
  · rintro e w' ⟨u, r, S', rfl, hg, _, _, hr, rfl⟩
    rw [Eng.rep_bool.1 hr]
    exact ⟨rfl, hg⟩
end Go.Proofs.YtfjaobfaepjfnaaDoor
namespace Go.Proofs.YtfjaobfaepjfnaaDoor.Eng
open Go Go.RowKit
section
variable {P : Program} {T : Tab} {w0 : W0} {S0 : Nat → Prop} {rd0 : Option Nat} {k0 : Nat} {w : World} {a : Act} {s : ASt} {ρ : Cx}
end
section
variable {P : Program} {T : Tab} {k0 : Nat} {md : List Nat} {Av : Nat → Prop} {ops : Array Oper} {K : ASt → Prop} {o : Oper} {l : List Oper} {s : ASt}
end
end Go.Proofs.YtfjaobfaepjfnaaDoor.Eng
namespace Go.Proofs.YtfjaobfaepjfnaaDoor.Eng
open Go Go.RowKit
def frB : VC → Bool → List Nat
  | .fr g, false => [g]
  | _, _ => []
mutual
def atB : AV → List Nat
  | .agg cs => atL cs
  | .tup cs => atL cs
  | .fn _ cs => atL cs
  | .view t _ es => frB t es.isEmpty ++ atE es
  | .eptr t cs => frB t false ++ atL cs
  | _ => []
def atL : List AV → List Nat
  | [] => []
  | c :: cs => atB c ++ atL cs
def atE : List (List AV) → List Nat
  | [] => []
  | e :: es => atL e ++ atE es
end
theorem at_any : atB .any = [] := by unfold atB; rfl
theorem at_int {k : IntKind} {n : Int} : atB (.int k n) = [] := by unfold atB; rfl
theorem at_bool {b : Bool} : atB (.bool b) = [] := by unfold atB; rfl
theorem at_str {b : ByteArray} : atB (.str b) = [] := by unfold atB; rfl
theorem at_own {id n : Nat} : atB (.own id n) = [] := by unfold atB; rfl
theorem at_ptr {bx : Bool} {sz n id i j : Nat} : atB (.ptr bx sz n id i j) = [] := by unfold atB; rfl
theorem at_rdr : atB .rdr = [] := by unfold atB; rfl
theorem at_agg {cs : List AV} : atB (.agg cs) = atL cs := by unfold atB; rfl
theorem at_tup {cs : List AV} : atB (.tup cs) = atL cs := by unfold atB; rfl
theorem at_fn {f : FuncId} {cs : List AV} : atB (.fn f cs) = atL cs := by unfold atB; rfl
theorem at_view {t : VC} {sz : Nat} {es : List (List AV)} : atB (.view t sz es) = frB t es.isEmpty ++ atE es := by conv => lhs; unfold atB
theorem atL_nil : atL [] = [] := by unfold atL; rfl
theorem atL_cons {c : AV} {cs : List AV} : atL (c :: cs) = atB c ++ atL cs := by conv => lhs; unfold atL
theorem atE_nil : atE [] = [] := by unfold atE; rfl
theorem atE_cons {e : List AV} {es : List (List AV)} : atE (e :: es) = atL e ++ atE es := by conv => lhs; unfold atE
theorem frB_tight {b : Bool} : frB .tight b = [] := by cases b <;> rfl
theorem frB_fr {g : Nat} {b : Bool} : frB (.fr g) b = if b then [] else [g] := by cases b <;> rfl
theorem atL_mem {b : Nat} : ∀ {cs : List AV}, b ∈ atL cs ↔ ∃ c ∈ cs, b ∈ atB c
  | [] => by rw [atL_nil]; simp
  | c :: cs => by rw [atL_cons, List.mem_append, atL_mem]; simp
theorem atE_mem {b : Nat} : ∀ {es : List (List AV)}, b ∈ atE es ↔ ∃ e ∈ es, b ∈ atL e
  | [] => by rw [atE_nil]; simp
  | e :: es => by rw [atE_cons, List.mem_append, atE_mem]; simp
theorem atE_app {es ds : List (List AV)} : atE (es ++ ds) = atE es ++ atE ds := by
  induction es with
  | nil => rw [atE_nil]; rfl
  | cons e es ih => rw [List.cons_append, atE_cons, atE_cons, ih, List.append_assoc]
section
variable {w : World} {ρ : Cx}
mutual
theorem Rep.at : ∀ {c : AV} {v : Value}, Rep w ρ c v → ∀ b ∈ atB c, ρ.S b ∧ ∀ o, w.frozen? ⟨b, o, none⟩ = false
  | .any, _, _, b, hb => by rw [at_any] at hb; cases hb
  | .int _ _, _, _, b, hb => by rw [at_int] at hb; cases hb
  | .bool _, _, _, b, hb => by rw [at_bool] at hb; cases hb
  | .str _, _, _, b, hb => by rw [at_str] at hb; cases hb
  | .own _ _, _, _, b, hb => by rw [at_own] at hb; cases hb
  | .ptr _ _ _ _ _ _, _, _, b, hb => by rw [at_ptr] at hb; cases hb
  | .rdr, _, _, b, hb => by rw [at_rdr] at hb; cases hb
  | .agg cs, _, h, b, hb => by
    rw [at_agg] at hb
    obtain ⟨vs, _, _, h3⟩ := rep_agg.1 h
    exact RepL.at h3 b hb
  | .tup cs, _, h, b, hb => by
    rw [at_tup] at hb
    obtain ⟨vs, _, h3⟩ := rep_tup.1 h
    exact RepL.at h3 b hb
  | .fn f cs, _, h, b, hb => by
    rw [at_fn] at hb
    obtain ⟨vs, _, h3⟩ := rep_fn.1 h
    exact RepL.at h3 b hb
  | .view t sz es, _, h, b, hb => by
    rw [at_view, List.mem_append] at hb
    obtain ⟨a, c, _, _, _, _, _, h6⟩ := rep_view.1 h
    rcases h6 with rfl | ⟨g, o, _, hg, he⟩
    · rcases hb with hb | hb
      · cases t <;> simp [frB] at hb
      · rw [atE_nil] at hb; cases hb
    · rcases hb with hb | hb
      · cases t <;> cases hem : es.isEmpty <;> rw [hem] at hb <;> simp [frB] at hb
        subst hb
        simp only [Cx.H] at hg
        obtain ⟨h1, rfl, h3⟩ := hg
        exact ⟨h1, h3⟩
      · exact RepE.at he b hb
  | .eptr t cs, _, h, b, hb => by
    unfold atB at hb
    rw [List.mem_append] at hb
    obtain ⟨g, o, _, hg, he⟩ := rep_eptr.1 h
    rcases hb with hb | hb
    · cases t <;> simp [frB] at hb
      subst hb
      simp only [Cx.H] at hg
      obtain ⟨h1, rfl, h3⟩ := hg
      exact ⟨h1, h3⟩
    · exact RepC.at he b hb
theorem RepL.at : ∀ {cs : List AV} {vs : List Value}, RepL w ρ cs vs → ∀ b ∈ atL cs, ρ.S b ∧ ∀ o, w.frozen? ⟨b, o, none⟩ = false
  | [], _, _, b, hb => by rw [atL_nil] at hb; cases hb
  | c :: cs, _, h, b, hb => by
    rw [atL_cons, List.mem_append] at hb
    unfold RepL at h
    obtain ⟨v, vs', _, h2, h3⟩ := h
    rcases hb with hb | hb
    · exact Rep.at h2 b hb
    · exact RepL.at h3 b hb
theorem RepC.at {g : Nat} : ∀ {cs : List AV} {o : Nat}, RepC w ρ g o cs → ∀ b ∈ atL cs, ρ.S b ∧ ∀ o, w.frozen? ⟨b, o, none⟩ = false
  | [], _, _, b, hb => by rw [atL_nil] at hb; cases hb
  | c :: cs, _, h, b, hb => by
    rw [atL_cons, List.mem_append] at hb
    unfold RepC at h
    obtain ⟨⟨v, _, _, h2⟩, h3⟩ := h
    rcases hb with hb | hb
    · exact Rep.at h2 b hb
    · exact RepC.at h3 b hb
theorem RepE.at {g : Nat} : ∀ {es : List (List AV)} {o : Nat}, RepE w ρ g o es → ∀ b ∈ atE es, ρ.S b ∧ ∀ o, w.frozen? ⟨b, o, none⟩ = false
  | [], _, _, b, hb => by rw [atE_nil] at hb; cases hb
  | e :: es, _, h, b, hb => by
    rw [atE_cons, List.mem_append] at hb
    unfold RepE at h
    rcases hb with hb | hb
    · exact RepC.at h.1 b hb
    · exact RepE.at h.2 b hb
end
end
def ACF (P : Program) (f : FuncId) (args : List AV) (c : Nat) (Post : AV → Prop) : Prop :=
  Enters P f ∧ ∀ (w : World) (L S : Nat → Prop) (rb : Option Nat) (k : Nat) (vs : List Value), (∀ b, L b → b < w.heap.size ∧ rb ≠ some b) → (∀ b, S b → b < w.heap.size) → (∀ b, rb = some b → ¬ S b ∧ RdOk w S b (k + c)) → RepL w (pureC L S rb) args vs →
    Calls P f vs.toArray w fun e w' => ∃ v r S', e = .returned v ∧ Ext (fun b => rb = some b) w w' ∧ (∀ b, S b → S' b) ∧ (∀ b, S' b → S b ∨ (w.heap.size ≤ b ∧ b < w'.heap.size)) ∧
      (∀ b, rb = some b → RdOk w' S' b k) ∧ Rep w' (pureC nil S' none) r v ∧ Post r ∧ ∀ b ∈ atB r, w.heap.size ≤ b
section
variable {P : Program} {f : FuncId} {args : List AV} {c : Nat} {Q R : AV → Prop}
theorem ACF.toAC (h : ACF P f args c Q) : AC P f args c Q :=
  ⟨h.1, fun w L S rb k vs h0 h1 h2 h3 => (h.2 w L S rb k vs h0 h1 h2 h3).mono fun e w' ⟨v, r, S', k1, k2, k3, k4, k5, k6, k7, _⟩ => ⟨v, r, S', k1, k2, k3, k4, k5, k6, k7⟩⟩
theorem ACF.toV {A : Nat → Prop} (h : ACF P f args c Q) : ACV P A f args c (fun r => Q r ∧ ∀ b ∈ atB r, ¬ A b) :=
  ⟨h.1, fun w L S rb k vs hA h0 h1 h2 h3 => (h.2 w L S rb k vs h0 h1 h2 h3).mono fun e w' ⟨v, r, S', k1, k2, k3, k4, k5, k6, k7, k8⟩ => ⟨v, r, S', k1, k2, k3, k4, k5, k6, k7, fun b hb h => by have := hA b h; have := k8 b hb; omega⟩⟩
theorem ACF.mono (h : ACF P f args c Q) (hq : ∀ r, Q r → R r) : ACF P f args c R :=
  ⟨h.1, fun w L S rb k vs h0 h1 h2 h3 => (h.2 w L S rb k vs h0 h1 h2 h3).mono fun e w' ⟨v, r, S', k1, k2, k3, k4, k5, k6, k7, k8⟩ => ⟨v, r, S', k1, k2, k3, k4, k5, k6, hq r k7, k8⟩⟩
theorem AC.arg {bs : List AV} (h : AC P f args c Q) (hw : WkL bs args) : AC P f bs c Q :=
  ⟨h.1, fun w L S rb k vs h0 h1 h2 h3 => h.2 w L S rb k vs h0 h1 h2 (hw.rep h3)⟩
theorem ACF.arg {bs : List AV} (h : ACF P f args c Q) (hw : WkL bs args) : ACF P f bs c Q :=
  ⟨h.1, fun w L S rb k vs h0 h1 h2 h3 => h.2 w L S rb k vs h0 h1 h2 (hw.rep h3)⟩
end
section
variable {P : Program} {T : Tab} {k0 : Nat} {md : List Nat} {Av : Nat → Prop} {ops : Array Oper} {K : ASt → Prop} {o : Oper} {l : List Oper} {s : ASt}
theorem arun_callF {f : FuncId} {xs : List Operand} {args : List AV} {c : Nat} {Post : AV → Prop} (hw : awant ops o s = some true) (ha : acall o.op = some (f, xs)) (hx : xs.map (aev s) = args) (hac : ACF P f args c Post) (hclo : cloL args) (hcan : s.can c)
    (h : ∀ r, Post r → (∀ b ∈ atB r, ¬ Av b) → ARun P T k0 Av md ops K l ((s.pay c).put o.dst r)) : ARun P T k0 Av md ops K (o :: l) s :=
  ARun.opA hw fun w0 S0 rd0 w a ρ hT hA hS next Q hn => by
    subst hx
    exact callV_ok hS ha hA hac.toV (lendL_ops (cloL_spec hclo)) hcan (fun r v w' ρ' hp _ hs => hn _ _ _ _ hs (h r hp.1 hp.2))
theorem arun_cF {f : FuncId} {xs : List Operand} {args : List AV} (c : Nat) {Post : AV → Prop} (hac : ACF P f args c Post) (h : ∀ r, Post r → (∀ b ∈ atB r, ¬ Av b) → ARun P T k0 Av md ops K l ((s.pay c).put o.dst r)) (hw : awant ops o s = some true := by (simp [awant] <;> fail)) (ha : acall o.op = some (f, xs) := by rfl)
    (hx : xs.map (aev s) = args := by (simp [ASt.put, ASt.pay, ASt.add, Option.map_map, Function.comp_def, List.set_cons_succ, List.set_cons_zero, aev, ofVal, ofVal0, big, size_mk, nodeA, nodeT, nodeTL_eq, nodeL_eq] <;> fail))
    (hclo : cloL args := by (simp only [cloL] <;> (repeat (first | exact trivial | refine And.intro ?_ ?_ | exact clo_int | exact clo_str | exact clo_bool | exact clo_rdr | exact node_clo _ | exact nodeT_clo _ _ | exact strs_clo _ | exact ints_clo _ | exact nodes_clo _ | exact clo_vnil | exact bytes_clo _ | exact clo_lit _ rfl | assumption | exact item_clo _ | exact items_clo _ | exact store_clo _ _ | exact storeA_clo _ | exact change_clo _ _ _)) <;> fail))
    (hcan : s.can c := by (first | with_reducible exact can_none | (simp only [ASt.put, ASt.pay, ASt.add, Option.map_none]; exact can_none) | ((first | with_reducible refine can_some ?_ | refine can_of ?_ | (simp only [ASt.put, ASt.pay, ASt.add, Option.map_map, Function.comp_def, Option.map_some]; first | refine can_some ?_ | refine can_of ?_)); (first | exact Nat.le_refl _ | (simp <;> fail) | omega)))) : ARun P T k0 Av md ops K (o :: l) s :=
  arun_callF hw ha hx hac hclo hcan h
theorem arunD_cF {P : Program} {T : Tab} {md : List Nat} {Av : Nat → Prop} {pc : Pc} {ops : Array Oper} {K : ASt → Prop} {o : Oper} {l : List Oper} {k : Nat} {s : ASt} {f : FuncId} {xs : List Operand} {args : List AV} (c : Nat) {Post : AV → Prop} (hac : ACF P f args c Post) (hne : ∃ r, (Post r ∧ ∀ b ∈ atB r, ¬ Av b) ∧ NoId r)
    (h : ∀ r, Post r → (∀ b ∈ atB r, ¬ Av b) → NoId r → ARunD P T md Av pc ops K l (k + 1) ((s.pay c).put o.dst r)) (hl : (pc.2.contains k || pc.2.contains (1000 + k)) = false := by rfl) (hw : awant ops o s = some true := by (simp [awant] <;> fail)) (ha : acall o.op = some (f, xs) := by rfl)
    (hx : xs.map (aev s) = args := by (simp [ASt.put, ASt.pay, ASt.add, Option.map_map, Function.comp_def, List.set_cons_succ, List.set_cons_zero, aev, ofVal, ofVal0, big, size_mk, nodeA, nodeT, nodeTL_eq, nodeL_eq] <;> fail))
    (hpc : pc.1 k args = (some c, fun r => Post r ∧ ∀ b ∈ atB r, ¬ Av b) := by rfl)
    (hclo : ∀ x ∈ args, Clo x := by (simp only [List.forall_mem_cons, List.not_mem_nil, false_implies, implies_true, and_true] <;> (repeat (first | exact trivial | refine And.intro ?_ ?_ | exact clo_int | exact clo_str | exact clo_bool | exact clo_rdr | exact node_clo _ | exact nodeT_clo _ _ | exact strs_clo _ | exact ints_clo _ | exact nodes_clo _ | exact clo_vnil | exact bytes_clo _ | exact clo_lit _ rfl | assumption | exact item_clo _ | exact items_clo _ | exact store_clo _ _ | exact storeA_clo _ | exact change_clo _ _ _)) <;> fail))
    (hcan : s.can c := by (first | with_reducible exact can_none | (simp only [ASt.put, ASt.pay, ASt.add, Option.map_none]; exact can_none) | ((first | with_reducible refine can_some ?_ | refine can_of ?_ | (simp only [ASt.put, ASt.pay, ASt.add, Option.map_map, Function.comp_def, Option.map_some]; first | refine can_some ?_ | refine can_of ?_)); (first | exact Nat.le_refl _ | (simp <;> fail) | omega)))) : ARunD P T md Av pc ops K (o :: l) k s :=
  arunD_callV hl hw ha hx hac.toV hpc hclo hcan hne (fun r hr hn => h r hr.1 hr.2 hn)
end
def endF (T : Tab) (fn : Func) (B : Nat) (Post : AV → Prop) : Exit → ASt → Prop
  | .normal, s | .ret, s => ∃ r, ares T s fn.results.toList = some r ∧ Pur r ∧ (∀ b ∈ atB r, B ≤ b) ∧ Post r
  | _, _ => False
theorem endF_ret {T : Tab} {fn : Func} {B : Nat} {Post : AV → Prop} {s : ASt} : endF T fn B Post .ret s = ∃ r, ares T s fn.results.toList = some r ∧ Pur r ∧ (∀ b ∈ atB r, B ≤ b) ∧ Post r := rfl
theorem endF_normal {T : Tab} {fn : Func} {B : Nat} {Post : AV → Prop} {s : ASt} : endF T fn B Post .normal s = ∃ r, ares T s fn.results.toList = some r ∧ Pur r ∧ (∀ b ∈ atB r, B ≤ b) ∧ Post r := rfl
structure W0.New (w0 : W0) : Prop where
  A : ∀ b, b < w0.wd.heap.size → w0.A b
  X : ∀ b, ¬ w0.X b
theorem W0.New.ge {w0 : W0} (h : w0.New) {b : Nat} (hb : ¬ w0.A b) : w0.wd.heap.size ≤ b := by
  rcases Nat.lt_or_ge b w0.wd.heap.size with q | q
  · exact absurd (h.A b q) hb
  · exact q
theorem ACF.of {P : Program} {T : Tab} (hT : Tab.Ok P T) (hm : P.follows .mixedOrders = true) {f : FuncId} {fn : Func} {code : Code} (hf : P.funcs[f]? = some fn) (hb : fn.body = some code) (hn : (fn.name == "runtime.NumGoroutine") = false)
    {args : List AV} {c : Nat} {Post : AV → Prop}
    (h : ∀ E : Env, E.P = P → E.T = T → E.w0.New → AW E code (endF T fn E.w0.wd.heap.size Post) (initSt args fn.ntmps (E.rd0.map fun _ => c))) : ACF P f args c Post := by
  refine ⟨enters_of hf hn (by rw [hb]; rfl), fun w L S rb k vs hL hS hr hargs => ?_⟩
  refine calls_of_wp hf hb ?_
  refine wp_mono (h ⟨P, T, hT, hm, W0.of w, S, rb, k⟩ rfl rfl ⟨fun _ h => h, fun _ h => h⟩ w _ (initC L S rb) (init_SR hL hS hr hargs)) ?_
  rintro e a' w' ⟨s', ρ', h1, h2⟩
  have fin : ∀ r, ares T s' fn.results.toList = some r → Pur r → (∀ b ∈ atB r, w.heap.size ≤ b) → Post r → a'.defers = [] ∧ ∃ v, (results fn a'.tmps).run P w' = .ok v w' ∧ ∃ v' r S', Ending.returned v = .returned v' ∧ Ext (fun b => rb = some b) w w' ∧ (∀ b, S b → S' b) ∧ (∀ b, S' b → S b ∨ (w.heap.size ≤ b ∧ b < w'.heap.size)) ∧
      (∀ b, rb = some b → RdOk w' S' b k) ∧ Rep w' (pureC nil S' none) r v' ∧ Post r ∧ ∀ b ∈ atB r, w.heap.size ≤ b := fun r hr hp hat hq => by
    obtain ⟨v, k1, k2⟩ := ares_ok hT h1 hr
    exact ⟨SR.df h1, v, k1, v, r, ρ'.S, rfl, SR.fin_ext h1, SR.s0 h1, SR.fin_S h1, SR.fin_rd h1, hp _ _ _ k2, hq, hat⟩
  cases e with
  | normal => obtain ⟨r, q1, q2, q3, q4⟩ := h2; exact fin r q1 q2 q3 q4
  | ret => obtain ⟨r, q1, q2, q3, q4⟩ := h2; exact fin r q1 q2 q3 q4
  | _ => exact h2.elim
def W0.note (w0 : W0) (l : List Nat) : W0 := { w0 with A := fun b => w0.A b ∨ b ∈ l }
theorem W0.New.note {w0 : W0} (h : w0.New) (l : List Nat) : (w0.note l).New := ⟨fun b hb => .inl (h.A b hb), h.X⟩
theorem SR.noted {P : Program} {w0 : W0} {S0 : Nat → Prop} {rd0 : Option Nat} {k0 : Nat} {w : World} {a : Act} {s : ASt} {ρ : Cx} (h : SR P w0 S0 rd0 k0 w a s ρ) {l : List Nat} (hl : ∀ b ∈ l, b < w.heap.size) : SR P (w0.note l) S0 rd0 k0 w a s ρ :=
  ⟨h.tm, h.df, h.ext, h.s0, h.sl, h.us, h.rw, h.rn, h.dj, h.ns, h.rl, h.rdk, h.rdn, h.r0, h.ll, h.kp, h.rv, fun b hb => hb.elim (h.av b) (hl b)⟩
theorem SR.unnoted {P : Program} {w0 : W0} {S0 : Nat → Prop} {rd0 : Option Nat} {k0 : Nat} {w : World} {a : Act} {s : ASt} {ρ : Cx} {l : List Nat} (h : SR P (w0.note l) S0 rd0 k0 w a s ρ) : SR P w0 S0 rd0 k0 w a s ρ :=
  ⟨h.tm, h.df, h.ext, h.s0, h.sl, h.us, h.rw, h.rn, h.dj, h.ns, h.rl, h.rdk, h.rdn, h.r0, h.ll, h.kp, h.rv, fun b hb => h.av b (.inl hb)⟩
section
variable {P : Program} {T : Tab} {hT : Tab.Ok P T} {hm : P.follows .mixedOrders = true} {w0 : W0} {S0 : Nat → Prop} {rd0 : Option Nat} {k0 : Nat} {Q : Exit → ASt → Prop} {s : ASt} {code : Code}
theorem AW.noteL (l : List Nat) (hl : ∀ w a ρ, SR P w0 S0 rd0 k0 w a s ρ → ∀ b ∈ l, b < w.heap.size) (h : AW ⟨P, T, hT, hm, w0.note l, S0, rd0, k0⟩ code Q s) : AW ⟨P, T, hT, hm, w0, S0, rd0, k0⟩ code Q s := by
  intro w a ρ hS
  refine wp_mono (h w a ρ (SR.noted hS (hl w a ρ hS))) ?_
  rintro e a' w' ⟨s', ρ', h1, h2⟩
  exact ⟨s', ρ', SR.unnoted h1, h2⟩
theorem AW.noteR (id : Nat) {r : Row} (hr : s.rows id = some r) (h : AW ⟨P, T, hT, hm, w0.note (atE r.es), S0, rd0, k0⟩ code Q s) : AW ⟨P, T, hT, hm, w0, S0, rd0, k0⟩ code Q s :=
  AW.noteL (atE r.es) (fun w a ρ hS b hb => by
    obtain ⟨_, u, _, _, _, _, _, xs, _, q, _⟩ := hS.rw id r hr
    obtain ⟨e, he, hb⟩ := atE_mem.1 hb
    obtain ⟨c, hc, hb⟩ := atL_mem.1 hb
    exact (hS.sl b (q.at b (atL_mem.2 ⟨c, List.mem_flatten.2 ⟨e, he, hc⟩, hb⟩)).1).1) h
theorem AW.bound (h : ∀ N : Nat, (∀ b, w0.A b → b < N) → AW ⟨P, T, hT, hm, w0, S0, rd0, k0⟩ code Q s) : AW ⟨P, T, hT, hm, w0, S0, rd0, k0⟩ code Q s := by
  intro w a ρ hS
  exact h w.heap.size (fun b hb => SR.av hS b hb) w a ρ hS
end
def ASt.holdF (s : ASt) (id g : Nat) : ASt :=
  match s.rows id with
  | some r => { s with tmps := AV.subL id r.es.length (.view (.fr g) r.sz r.es) s.tmps, rows := fun k => ((upd s.rows id none) k).map (Row.sub id r.es.length (.view (.fr g) r.sz r.es)) }
  | none => s
section
variable {P : Program} {w0 : W0} {S0 : Nat → Prop} {rd0 : Option Nat} {k0 : Nat} {w : World} {a : Act} {s : ASt} {ρ : Cx}
theorem SR.heldF (h : SR P w0 S0 rd0 k0 w a s ρ) (id : Nat) : ∃ g ρ', w0.Own g ∧ ¬ ρ.S g ∧ SR P w0 S0 rd0 k0 w a (s.holdF id g) ρ' := by
  unfold ASt.holdF
  split
  · rename_i r hr
    obtain ⟨_, u0, hu0, hln, hok⟩ := h.rw id r hr
    obtain ⟨ρ', h1, h2, h3⟩ := h.hold id r hr
    obtain ⟨g, hg1, hg2, hg3⟩ : ∃ g, w0.Own g ∧ ¬ ρ.S g ∧ (r.es ≠ [] → ∀ a c, u0 = .slice (some a) r.es.length c → a.block = g ∧ ∀ o, w.frozen? ⟨g, o, none⟩ = false) := by
      by_cases hne : r.es = []
      · exact ⟨w.heap.size, .inl h.ext.size, fun hS => by have := (h.sl _ hS).1; omega, fun hn => absurd hne hn⟩
      · obtain ⟨⟨ad, c, rfl, k1, k2, k3⟩, k4⟩ := h3 _ hu0
        have hlen : 0 < r.es.length := List.length_pos_iff.2 hne
        rcases k3 with k3 | ⟨g, rfl, e2, e3⟩
        · exact absurd k3 hne
        · have hbl : blk (.slice (some ⟨g, 0, none⟩) r.es.length c) = some g := blk_slice _ _ _ (by omega)
          refine ⟨g, (h.row_lt hu0 hbl).1, (h.ns id _ g hu0 hbl).1, fun _ a c' he => ?_⟩
          cases he
          refine ⟨rfl, fun o => ?_⟩
          obtain ⟨_, _, _, xs, hat, _⟩ := hok
          rcases hat with ⟨q0, _⟩ | ⟨g', cap, cur, q1, _, _, q2, _⟩
          · omega
          · cases q1
            unfold World.frozen?
            rw [q2]
            simp
    refine ⟨g, ρ', hg1, hg2, ?_⟩
    have hc : ∀ v, Rep w ρ (.own id r.es.length) v → Rep w ρ' (.view (.fr g) r.sz r.es) v := fun v hv => by
      obtain ⟨_, _, _, hq⟩ := rep_own.1 hv
      have := hq u0 hu0 hln.symm
      subst this
      obtain ⟨⟨ad, c, rfl, k1, k2, k3⟩, k4⟩ := h3 _ hu0
      refine rep_view.2 ⟨ad, c, rfl, (fun h => by cases h), k1, k2, k4, ?_⟩
      by_cases hne : r.es = []
      · exact .inl hne
      · rcases k3 with k3 | ⟨g', rfl, e2, e3⟩
        · exact absurd k3 hne
        · obtain ⟨q1, q2⟩ := hg3 hne _ _ rfl
          dsimp only at q1
          subst q1
          exact .inr ⟨g', 0, rfl, ⟨e2, rfl, q2⟩, e3⟩
    refine ⟨h.tm.sub h2 hc, h1.df, h1.ext, h1.s0, h1.sl, h1.us, fun k r' hk => ?_, fun k hk => ?_, h1.dj, h1.ns, h1.rl, h1.rdk, h1.rdn, h1.r0, h1.ll, h1.kp2 (fun k r' hk => by
      simp only [Option.map_eq_some_iff] at hk
      obtain ⟨r0, hk, rfl⟩ := hk
      exact ⟨r0, hk, rfl⟩), h1.rv, h1.av⟩
    · simp only [Option.map_eq_some_iff] at hk
      obtain ⟨r0, hk, rfl⟩ := hk
      have hid : k ≠ id := fun e => by subst e; simp [upd_same] at hk
      rw [upd_ne _ _ hid] at hk
      obtain ⟨q1, u, q2, q3, p0, p1, p2, xs, p3, p4, p5⟩ := h.rw k r0 hk
      obtain ⟨q1', u', q2', q3', p0', p1', p2', xs', p3', p4', p5'⟩ := h1.rw k r0 (by simp only [ASt.kill]; rw [upd_ne _ _ hid]; exact hk)
      have hu' : ρ.row k = some u' := by
        have := (h2.U k ((h.us k).2 q1)).2.2 u' q2'
        exact this (by rw [q3', q3])
      rw [q2] at hu'; cases hu'
      refine ⟨q1', u, q2', by simpa [Row.sub] using q3', p0, fun x hx => ?_, fun hb => by simpa [Row.sub] using p2 hb, xs, by simpa [Row.sub] using p3, ?_, p5⟩
      · simp only [Row.sub, List.mem_map] at hx
        obtain ⟨y, hy, rfl⟩ := hx
        rw [subL_length]; exact p1 y hy
      · simp only [Row.sub]
        rw [subL_flatten]
        exact p4.sub h2 hc
    · simp only [Option.map_eq_none_iff] at hk
      exact h1.rn k hk
  · exact ⟨w.heap.size, ρ, .inl h.ext.size, fun hS => by have := (h.sl _ hS).1; omega, h⟩
end
section
variable {P : Program} {T : Tab} {hT : Tab.Ok P T} {hm : P.follows .mixedOrders = true} {w0 : W0} {S0 : Nat → Prop} {rd0 : Option Nat} {k0 : Nat} {Q : Exit → ASt → Prop} {s : ASt} {code : Code}
theorem AW.holdF (id : Nat) (hN : w0.New) (h : ∀ g, w0.wd.heap.size ≤ g → (∀ (t : Nat) c, s.tmps[t]? = some c → ∀ b ∈ atB c, g ≠ b) → (∀ k r, s.rows k = some r → ∀ b ∈ atE r.es, g ≠ b) → AW ⟨P, T, hT, hm, w0, S0, rd0, k0⟩ code Q (s.holdF id g)) : AW ⟨P, T, hT, hm, w0, S0, rd0, k0⟩ code Q s := by
  intro w a ρ hS
  obtain ⟨g, ρ', h1, h2, h3⟩ := SR.heldF hS id
  refine h g (h1.elim (fun h => h) (fun h => absurd h (hN.X g))) (fun t c hc b hb e => ?_) (fun k r hr b hb e => ?_) w a ρ' h3
  · obtain ⟨v, _, hr⟩ := (SR.tm hS).get hc
    exact h2 (by rw [e]; exact (hr.at b hb).1)
  · obtain ⟨_, u, _, _, _, _, _, xs, _, q, _⟩ := SR.rw hS k r hr
    obtain ⟨e', he, hb⟩ := atE_mem.1 hb
    obtain ⟨c, hc, hb⟩ := atL_mem.1 hb
    have hfl : b ∈ atL r.es.flatten := atL_mem.2 ⟨c, List.mem_flatten.2 ⟨e', he, hc⟩, hb⟩
    exact h2 (by rw [e]; exact (q.at b hfl).1)
end
def atRows (l : List (Nat × Row)) (b : Nat) : Prop := ∃ p ∈ l, b ∈ atE p.2.es
def ACM (P : Program) (f : FuncId) (args : List AV) (c : Nat) (Post : AV → List (Nat × Row) → Prop) : Prop :=
  ACGW P f args [] c (fun w r l => Post r l ∧ ∀ b, b ∈ atB r ∨ atRows l b → w.heap.size ≤ b)
theorem ACM.toV {P : Program} {A : Nat → Prop} {f : FuncId} {args : List AV} {c : Nat} {Q : AV → List (Nat × Row) → Prop} (h : ACM P f args c Q) : ACGV P A f args [] c (fun r l => Q r l ∧ ∀ b, b ∈ atB r ∨ atRows l b → ¬ A b) :=
  ⟨h.1, (fun p hp => by cases hp), fun w ρ k vs hA g0 g1 g2 g3 g4 g5 => (h.2.2 w ρ k vs g0 g1 g2 g3 g4 g5).mono fun e w' ⟨v, r, l, ρ', k1, k2, k3, k4, k5, k6, k7, k8, k9, k10, k11, k12⟩ => ⟨v, r, l, ρ', k1, k2, k3, k4, k5, k6, k7, k8, k9, k10, k11, fun b hb ha => by have := hA b ha; have := k12 b hb; omega⟩⟩
theorem ACM.of {P : Program} {T : Tab} (hT : Tab.Ok P T) (hm : P.follows .mixedOrders = true) {f : FuncId} {fn : Func} {code : Code} (hf : P.funcs[f]? = some fn) (hb : fn.body = some code) (hn : (fn.name == "runtime.NumGoroutine") = false)
    {args : List AV} {c : Nat} {Post : AV → List (Nat × Row) → Prop}
    (h : ∀ E : Env, E.P = P → E.T = T → E.w0.New → AW E code (endG T fn (fun r l => Post r l ∧ ∀ b, b ∈ atB r ∨ atRows l b → E.w0.wd.heap.size ≤ b)) (initStG args fn.ntmps [] (E.rd0.map fun _ => c))) : ACM P f args c Post :=
  ACGW.of hT hm hf hb hn (fun p hp => by cases hp) (fun E h1 h2 h3 h4 => h E h1 h2 ⟨h3, h4 rfl⟩)
section
variable {P : Program} {T : Tab} {k0 : Nat} {md : List Nat} {Av : Nat → Prop} {ops : Array Oper} {K : ASt → Prop} {o : Oper} {l : List Oper} {s : ASt}
theorem arun_callM {f : FuncId} {xs : List Operand} {args : List AV} {c : Nat} {Post : AV → List (Nat × Row) → Prop} (hw : awant ops o s = some true) (ha : acall o.op = some (f, xs)) (hac : ACM P f args c Post) (hargs : MvL s.rows [] (fun _ => 0) (xs.map (aev s)) args) (hcan : s.can c)
    (h : ∀ r l', Post r l' → (∀ b, b ∈ atB r ∨ atRows l' b → ¬ Av b) → ∃ μ l'' r', Back s [] (fun _ => 0) μ l' l'' r r' ∧ ARun P T k0 Av md ops K l ((s.back [] (fun _ => 0) c l'').put o.dst r')) : ARun P T k0 Av md ops K (o :: l) s :=
  ARun.opA hw fun w0 S0 rd0 w a ρ hT hA hS next Q hn =>
    callGV_ok hS ha hA hac.toV (fun _ => 0) (by simp) (fun p hp => by cases hp) hargs hcan (fun r l v w' hp hs => by
      obtain ⟨μ, l'', r', q1, q2⟩ := h r l hp.1 hp.2
      obtain ⟨ρ', q3⟩ := hs μ l'' r' q1
      exact hn _ _ _ ρ' q3 q2)
end
end Go.Proofs.YtfjaobfaepjfnaaDoor.Eng
namespace Go.Proofs.YtfjaobfaepjfnaaDoor.Eng
open Go Go.RowKit
def fcall : Op → Option (Tmp × List Operand)
  | .call { callee := .value (.tmp t), args, argTypes := _ } => some (t, args.toList)
  | _ => none
section
variable {P : Program} {w0 : W0} {S0 : Nat → Prop} {rd0 : Option Nat} {k0 : Nat} {w : World} {a : Act} {s : ASt} {ρ : Cx}
theorem exec_fn {o : Oper} {f : FuncId} {t : Tmp} {xs : List Operand} {us : List Value} (ha : fcall o.op = some (t, xs)) (hv : a.eval (.tmp t) = .func (.func f) #[] us.toArray) (he : Enters P f) : (execOp a.eval o).run P w = .ok (.enter f (xs.map a.eval ++ us).toArray) w := by
  unfold fcall at ha
  split at ha
  · rename_i t' args tys ho
    cases ha
    unfold execOp
    simp only [ho, resolve, hv, Deferred.ofValue, Sem.run_bind, Sem.run_pure, Result.andThen_ok, invoke]
    have q : (#[] ++ Array.map a.eval args ++ us.toArray) = (args.toList.map a.eval ++ us).toArray := by apply Array.ext'; simp
    rw [← q]
    exact he _ _
  · cases ha
theorem clo_fn {f : FuncId} {cs : List AV} (hp : ∀ c ∈ cs, Clo c) : Clo (.fn f cs) := fun _ _ _ h => by
  obtain ⟨vs, h1, h3⟩ := rep_fn.1 h
  exact rep_fn.2 ⟨vs, h1, RepL.of_get h3.length (fun i c v h1 h2 => by
    obtain ⟨u, hu, hr⟩ := h3.get h1
    rw [h2] at hu; cases hu
    exact hp c (List.mem_of_getElem? h1) _ _ _ hr)⟩
def ASt.holdBox (s : ASt) (t id : Nat) (cs : List AV) : ASt := { (s.kill id) with tmps := s.tmps.set t (.eptr .loose cs) }
theorem SR.holdBox (h : SR P w0 S0 rd0 k0 w a s ρ) {t id sz : Nat} {cs : List AV} {r : Row} (ht : s.tmps[t]? = some (.ptr true sz 1 id 0 0)) (hr : s.rows id = some r) (hb : r.es = [cs]) : ∃ ρ', SR P w0 S0 rd0 k0 w a (s.holdBox t id cs) ρ' := by
  obtain ⟨_, u, hu, hln, _⟩ := h.rw id r hr
  obtain ⟨ρ', h1, h2, h3⟩ := h.hold id r hr
  obtain ⟨v, hv, hrv⟩ := h.tm.get ht
  obtain ⟨⟨ad, c, rfl, k1, k2, k3⟩, _⟩ := h3 u hu
  refine ⟨ρ', ⟨?_, h1.df, h1.ext, h1.s0, h1.sl, h1.us, h1.rw, h1.rn, h1.dj, h1.ns, h1.rl, h1.rdk, h1.rdn, h1.r0, h1.ll, h1.kp, h1.rv, h1.av⟩⟩
  have hp : Rep w ρ' (.eptr .loose cs) v := by
    obtain ⟨_, _, _, q⟩ := rep_ptr.1 hrv
    obtain ⟨b, n, c', e1, e2⟩ := q _ hu (by rw [hln, hb]; rfl)
    cases e1
    rcases k3 with k3 | ⟨g, e3, e4, e5⟩
    · rw [hb] at k3; cases k3
    · cases e3
      rw [hb] at e5
      unfold RepE at e5
      exact rep_eptr.2 ⟨b, 0, by rw [e2, Nat.zero_mul], e4, e5.1⟩
  have := h1.tm.set t hp
  rw [set_same hv] at this
  exact this
end
section
variable {P : Program} {T : Tab} {hT : Tab.Ok P T} {hm : P.follows .mixedOrders = true} {w0 : W0} {S0 : Nat → Prop} {rd0 : Option Nat} {k0 : Nat} {Q : Exit → ASt → Prop} {s : ASt} {code : Code}
theorem AW.holdBox {E : Env} (t id : Nat) {sz : Nat} {cs : List AV} {r : Row} (ht : s.tmps[t]? = some (.ptr true sz 1 id 0 0)) (hr : s.rows id = some r) (hb : r.es = [cs]) (h : AW E code Q (s.holdBox t id cs)) : AW E code Q s := fun w a ρ hS => by
  obtain ⟨ρ', h1⟩ := SR.holdBox hS ht hr hb
  exact h w a ρ' h1
end
section
variable {P : Program} {T : Tab} {k0 : Nat} {md : List Nat} {Av : Nat → Prop} {ops : Array Oper} {K : ASt → Prop} {o : Oper} {l : List Oper} {s : ASt}
theorem arun_callFn {f : FuncId} {t : Tmp} {xs : List Operand} {cs args : List AV} {c : Nat} {Post : AV → Prop} (hf : fcall o.op = some (t, xs)) (ht : s.tmps[t]? = some (.fn f cs)) (hw : awant ops o s = some true) (hx : xs.map (aev s) ++ cs = args) (hac : ACF P f args c Post) (hclo : cloL args) (hcan : s.can c)
    (h : ∀ r, Post r → (∀ b ∈ atB r, ¬ Av b) → ARun P T k0 Av md ops K l ((s.pay c).put o.dst r)) : ARun P T k0 Av md ops K (o :: l) s :=
  ARun.opA hw fun w0 S0 rd0 w a ρ hT hA hS next Q hn => by
    subst hx
    have hall : ∀ x ∈ xs.map (aev s) ++ cs, Clo x := by
      have aux : ∀ l : List AV, cloL l → ∀ x ∈ l, Clo x := fun l => by
        induction l with
        | nil => intro _ x hx; cases hx
        | cons y l ih =>
          intro hc x hx
          rcases List.mem_cons.1 hx with rfl | hx
          · exact hc.1
          · exact ih hc.2 x hx
      exact aux _ hclo
    have ev := aev_rep hS (.tmp t)
    have e1 : aev s (.tmp t) = .fn f cs := by simp only [aev, ht]; rfl
    rw [e1] at ev
    obtain ⟨us, hv, hus⟩ := rep_fn.1 ev
    refine callE_ok (vs := xs.map a.eval ++ us) hS (fun he => exec_fn hf hv he) hA hac.toV ?_ hcan (fun r v w' ρ' hp _ hs => hn _ _ _ _ hs (h r hp.1 hp.2))
    refine RepL.of_get (by simp [hus.length]) (fun i c v h1 h2 => (hall c (List.mem_of_getElem? h1) _ _ _ ?_).le (le_lent w ρ))
    have hall2 : RepL w ρ (xs.map (aev s) ++ cs) (xs.map a.eval ++ us) := RepL.append (RepL.of_get (by simp) (fun i c v h1 h2 => by
      rw [List.getElem?_map] at h1 h2
      cases hx : xs[i]? with
      | none => rw [hx] at h1; cases h1
      | some x => rw [hx] at h1 h2; cases h1; cases h2; exact aev_rep hS x)) hus
    obtain ⟨u, hu, hr⟩ := hall2.get h1
    rw [h2] at hu; cases hu
    exact hr
end
end Go.Proofs.YtfjaobfaepjfnaaDoor.Eng
namespace Go.Proofs.YtfjaobfaepjfnaaDoor.Eng
open Go Go.RowKit
attribute [local simp] big size_mk ASt.pay Option.map_map Function.comp_def awant aop acall ado aev ofVal ofVal0 ASt.put ASt.add ASt.turn ASt.kill abox aalloc astore aload aloadD astoreD idOf ASt.at cellsTo afieldAddr afield aindexAddr aindex alen abin aint acmp astr aun apick aextract anil aslice abound abuild afill abuildSlice asCells aps avCells over upd aappend asrc amax amin aconv mkSt slots rowsOf_cons rowsOf_nil usedOf_cons usedOf_nil ZK.av List.replicate ASt.back ASt.addL ASt.killL nodeA nodeT nodeTL_eq nodeL_eq strsE_get strsE_len intsE_get intsE_len strsE_at intsE_at tab2 tab3 tab4 tab5 tab6 tab7 tab8 tab9 tab10 tab11 tab12 tab13 tab14 tab15 tab16 tab17 tab18 tab19 tab21 tab22 tab23 tab24 tab25 tab26 tab28 tab29 tab30 tab31 tab42 tab43 tab44 tab46 tab63 tab64 tab67 tab68 tab75 tab98 tab100 tab101 tab105 tab106 tab107 tab122 tab123 tab125 tab128 tab138 tab144 tab151 tab152 tab157 tab158 tab160 tab161 tab162
def nodeRR (n : Nd) (a b : Nat) : AV := .agg [.int .i64 n.kind, .int .i64 n.num, .str n.text, .own a n.names.length, .own b n.kids.length]
def namesR (xs : List ByteArray) : Row := ⟨false, 9, 1, strsE xs⟩
def zeroN : List AV := [.int .i64 0, .int .i64 0, .str ⟨#[]⟩, .view .tight 0 [], .view .tight 0 []]
def part (ks : List Nd) (i : Nat) : List (List AV) := (ks.take i).map nodeL ++ List.replicate (ks.length - i) zeroN
theorem sml_ind {p : Nd → Prop} (h : ∀ n, Sml n → (∀ k ∈ n.kids, p k) → p n) : ∀ n, Sml n → p n := Nd.ind' _ (fun n ih hs => h n hs (fun k hk => ih k hk (hs.kid hk)))
end Go.Proofs.YtfjaobfaepjfnaaDoor.Eng
namespace Go.Proofs.YtfjaobfaepjfnaaDoor
open Go Go.RowKit
structure Shp where
  kind : Int
  names : List ByteArray
  needs : List Bool
  kids : List Shp
theorem Shp.ind' (P : Shp → Prop) (h : ∀ n : Shp, (∀ k ∈ n.kids, P k) → P n) : ∀ n, P n := by
  intro n
  refine Shp.rec (motive_1 := P) (motive_2 := fun l => ∀ k ∈ l, P k) ?_ ?_ ?_ n
  · intro kind names needs kids ih
    exact h ⟨kind, names, needs, kids⟩ ih
  · intro k hk; cases hk
  · intro k ks h1 h2 x hx
    rcases List.mem_cons.1 hx with rfl | hx
    · exact h1
    · exact h2 _ hx
def BoolsR (w : World) (S : Nat → Prop) (a : Option Addr) (c : Nat) (xs : List Bool) : Prop :=
  xs.length ≤ c ∧ xs.length ≤ big ∧ (xs = [] ∨ ∃ b o, a = some ⟨b, o, none⟩ ∧ S b ∧ ∀ i (h : i < xs.length), w.cell? ⟨b, o + i, none⟩ = some (.bool xs[i]))
mutual
def ShapeC (w : World) (S : Nat → Prop) : Shp → Option Addr → Nat → Option Addr → Nat → Option Addr → Nat → Prop
  | ⟨_, names, needs, kids⟩, na, nc, ba, bc, ka, kc => StrsR w S na nc names ∧ BoolsR w S ba bc needs ∧ kids.length ≤ kc ∧ kids.length ≤ big ∧ (kids = [] ∨ ∃ b o, ka = some ⟨b, o, none⟩ ∧ S b ∧ ShpsR w S b o kids)
def ShpsR (w : World) (S : Nat → Prop) (b : Nat) : Nat → List Shp → Prop
  | _, [] => True
  | o, k :: ks => (∃ na nc ba bc ka kc, w.cell? ⟨b, o, none⟩ = some (.int .i64 k.kind) ∧ w.cell? ⟨b, o + 1, none⟩ = some (.slice na k.names.length nc) ∧
      w.cell? ⟨b, o + 2, none⟩ = some (.slice ba k.needs.length bc) ∧ w.cell? ⟨b, o + 3, none⟩ = some (.slice ka k.kids.length kc) ∧ ShapeC w S k na nc ba bc ka kc) ∧ ShpsR w S b (o + 4) ks
end
def shapeV (n : Shp) (na : Option Addr) (nc : Nat) (ba : Option Addr) (bc : Nat) (ka : Option Addr) (kc : Nat) : Value :=
  .agg #[.int .i64 n.kind, .slice na n.names.length nc, .slice ba n.needs.length bc, .slice ka n.kids.length kc]
def ShapeR (w : World) (S : Nat → Prop) (n : Shp) (v : Value) : Prop := ∃ na nc ba bc ka kc, v = shapeV n na nc ba bc ka kc ∧ ShapeC w S n na nc ba bc ka kc
theorem BoolsR.ext {X S : Nat → Prop} {w w' : World} (h : Ext X w w') (hS : ∀ k, S k → ¬ X k) {a : Option Addr} {c : Nat} {xs : List Bool} (hs : BoolsR w S a c xs) : BoolsR w' S a c xs := by
  obtain ⟨h1, h2, h4⟩ := hs
  refine ⟨h1, h2, h4.imp id ?_⟩
  rintro ⟨b, o, rfl, hb, hc⟩
  exact ⟨b, o, rfl, hb, fun i hi => h.some (hc i hi) (hS b hb)⟩
theorem ShapeC.parts {w : World} {S : Nat → Prop} {n : Shp} {na : Option Addr} {nc : Nat} {ba : Option Addr} {bc : Nat} {ka : Option Addr} {kc : Nat} (h : ShapeC w S n na nc ba bc ka kc) :
    StrsR w S na nc n.names ∧ BoolsR w S ba bc n.needs ∧ n.kids.length ≤ kc ∧ n.kids.length ≤ big ∧ (n.kids = [] ∨ ∃ b o, ka = some ⟨b, o, none⟩ ∧ S b ∧ ShpsR w S b o n.kids) := by
  cases n; unfold ShapeC at h; exact h
mutual
theorem ShapeC.ext {X S : Nat → Prop} {w w' : World} (h : Ext X w w') (hS : ∀ k, S k → ¬ X k) : ∀ {n : Shp} {na : Option Addr} {nc : Nat} {ba : Option Addr} {bc : Nat} {ka : Option Addr} {kc : Nat}, ShapeC w S n na nc ba bc ka kc → ShapeC w' S n na nc ba bc ka kc
  | ⟨_, _, _, kids⟩, na, nc, ba, bc, ka, kc, hn => by
    unfold ShapeC at hn ⊢
    obtain ⟨h1, h2, h3, h4, h5⟩ := hn
    refine ⟨h1.ext h hS, h2.ext h hS, h3, h4, h5.imp id ?_⟩
    rintro ⟨b, o, e, hb, hk⟩
    exact ⟨b, o, e, hb, ShpsR.ext h hS (hS b hb) hk⟩
theorem ShpsR.ext {X S : Nat → Prop} {w w' : World} (h : Ext X w w') (hS : ∀ k, S k → ¬ X k) {b : Nat} (hb : ¬ X b) : ∀ {l : List Shp} {o : Nat}, ShpsR w S b o l → ShpsR w' S b o l
  | [], _, _ => by unfold ShpsR; trivial
  | k :: ks, o, hk => by
    unfold ShpsR at hk ⊢
    obtain ⟨⟨na, nc, ba, bc, ka, kc, c0, c1, c2, c3, hn⟩, hr⟩ := hk
    exact ⟨⟨na, nc, ba, bc, ka, kc, h.some c0 hb, h.some c1 hb, h.some c2 hb, h.some c3 hb, ShapeC.ext h hS hn⟩, ShpsR.ext h hS hb hr⟩
end
theorem ShpsR.get {w : World} {S : Nat → Prop} {b : Nat} : ∀ {l : List Shp} {o : Nat}, ShpsR w S b o l → ∀ i (h : i < l.length), ∃ na nc ba bc ka kc,
    w.cell? ⟨b, o + i * 4, none⟩ = some (.int .i64 l[i].kind) ∧ w.cell? ⟨b, o + i * 4 + 1, none⟩ = some (.slice na l[i].names.length nc) ∧
      w.cell? ⟨b, o + i * 4 + 2, none⟩ = some (.slice ba l[i].needs.length bc) ∧ w.cell? ⟨b, o + i * 4 + 3, none⟩ = some (.slice ka l[i].kids.length kc) ∧ ShapeC w S l[i] na nc ba bc ka kc
  | [], _, _, i, h => absurd h (by simp)
  | k :: ks, o, hk, 0, _ => by
    unfold ShpsR at hk
    simpa using hk.1
  | k :: ks, o, hk, i + 1, h => by
    unfold ShpsR at hk
    have := ShpsR.get hk.2 i (by simpa using h)
    simp only [List.getElem_cons_succ]
    have e : o + (i + 1) * 4 = o + 4 + i * 4 := by omega
    rw [e]
    exact this
theorem ShapeR.ext {X S : Nat → Prop} {w w' : World} (h : Ext X w w') (hS : ∀ k, S k → ¬ X k) {n : Shp} {v : Value} (hn : ShapeR w S n v) : ShapeR w' S n v := by
  obtain ⟨na, nc, ba, bc, ka, kc, hv, hc⟩ := hn
  exact ⟨na, nc, ba, bc, ka, kc, hv, hc.ext h hS⟩
theorem ShapeR.grow {S : Nat → Prop} {w w' : World} {n : Shp} {v : Value} (hn : ShapeR w S n v) (h : Grow w w') : ShapeR w' S n v := hn.ext h (fun _ _ h => h)
end Go.Proofs.YtfjaobfaepjfnaaDoor
namespace Go.Proofs.YtfjaobfaepjfnaaDoor
open Go.RowKit
def shpHead (x : Shp) : Bool :=
  inR x.kind 0 4 && areNamesB x.names && !(decide (0 < x.names.length) && decide (x.kind ≠ 4)) && decide (x.needs.length = x.names.length) && decide (x.kids.length = x.names.length)
mutual
def shpB : Shp → Nat → Bool
  | ⟨kind, names, needs, kids⟩, d => decide (0 < d) && shpHead ⟨kind, names, needs, kids⟩ && shpL kids (d - 1)
def shpL : List Shp → Nat → Bool
  | [], _ => true
  | k :: ks, d => shpB k d && shpL ks d
end
theorem shpB_eq (x : Shp) (d : Nat) : shpB x d = (decide (0 < d) && shpHead x && shpL x.kids (d - 1)) := by cases x; simp [shpB]
theorem shpL_all (l : List Shp) (d : Nat) : shpL l d = l.all fun k => shpB k d := by
  induction l with
  | nil => simp [shpL]
  | cons a l ih => simp [shpL, ih]
end Go.Proofs.YtfjaobfaepjfnaaDoor
namespace Go.Proofs.YtfjaobfaepjfnaaDoor
open Go Go.RowKit
def BoolsF (w : World) (a : Option Addr) (c : Nat) (xs : List Bool) (fp : List Nat) : Prop :=
  xs.length ≤ c ∧ xs.length ≤ big ∧ ((xs = [] ∧ fp = []) ∨ ∃ b o, xs ≠ [] ∧ a = some ⟨b, o, none⟩ ∧ fp = [b] ∧ ∀ i (h : i < xs.length), w.cell? ⟨b, o + i, none⟩ = some (.bool xs[i]))
theorem BoolsF.keep {w w' : World} {a : Option Addr} {c : Nat} {xs : List Bool} {fp : List Nat} (hs : BoolsF w a c xs fp)
    (h : ∀ b ∈ fp, ∀ o, w'.cell? ⟨b, o, none⟩ = w.cell? ⟨b, o, none⟩) : BoolsF w' a c xs fp := by
  obtain ⟨h1, h2, h4⟩ := hs
  refine ⟨h1, h2, h4.imp id ?_⟩
  rintro ⟨b, o, hne, rfl, rfl, hc⟩
  exact ⟨b, o, hne, rfl, rfl, fun i hi => by rw [h b (by simp)]; exact hc i hi⟩
theorem BoolsF.toR {w : World} {a : Option Addr} {c : Nat} {xs : List Bool} {fp : List Nat} (hs : BoolsF w a c xs fp) {S : Nat → Prop} (hS : ∀ b ∈ fp, S b) : BoolsR w S a c xs := by
  obtain ⟨h1, h2, h4⟩ := hs
  refine ⟨h1, h2, h4.imp (fun h => h.1) ?_⟩
  rintro ⟨b, o, _, rfl, rfl, hc⟩
  exact ⟨b, o, rfl, hS b (by simp), hc⟩
mutual
def ShapeF (w : World) : Shp → Option Addr → Nat → Option Addr → Nat → Option Addr → Nat → List Nat → Prop
  | ⟨_, names, needs, kids⟩, na, nc, ba, bc, ka, kc, fp => ∃ f1 f2 f3, fp = f1 ++ f2 ++ f3 ∧ StrsF w na nc names f1 ∧ BoolsF w ba bc needs f2 ∧ kids.length ≤ kc ∧ kids.length ≤ big ∧
      ((kids = [] ∧ f3 = []) ∨ ∃ b o f4, kids ≠ [] ∧ ka = some ⟨b, o, none⟩ ∧ f3 = b :: f4 ∧ ShpsF w b o kids f4)
def ShpsF (w : World) (b : Nat) : Nat → List Shp → List Nat → Prop
  | _, [], fp => fp = []
  | o, k :: ks, fp => ∃ f1 f2, fp = f1 ++ f2 ∧ (∃ na nc ba bc ka kc, w.cell? ⟨b, o, none⟩ = some (.int .i64 k.kind) ∧ w.cell? ⟨b, o + 1, none⟩ = some (.slice na k.names.length nc) ∧ w.cell? ⟨b, o + 2, none⟩ = some (.slice ba k.needs.length bc) ∧
      w.cell? ⟨b, o + 3, none⟩ = some (.slice ka k.kids.length kc) ∧ ShapeF w k na nc ba bc ka kc f1) ∧ ShpsF w b (o + 4) ks f2
end
def ShpLF (w : World) (a : Option Addr) (c : Nat) (l : List Shp) (fp : List Nat) : Prop :=
  l.length ≤ c ∧ l.length ≤ big ∧ ((l = [] ∧ fp = []) ∨ ∃ b o f, l ≠ [] ∧ a = some ⟨b, o, none⟩ ∧ fp = b :: f ∧ ShpsF w b o l f)
theorem ShapeF.mk {w : World} {n : Shp} {na : Option Addr} {nc : Nat} {ba : Option Addr} {bc : Nat} {ka : Option Addr} {kc : Nat} {f1 f2 f3 : List Nat}
    (h2 : StrsF w na nc n.names f1) (h3 : BoolsF w ba bc n.needs f2) (h4 : ShpLF w ka kc n.kids f3) : ShapeF w n na nc ba bc ka kc (f1 ++ f2 ++ f3) := by
  cases n; unfold ShapeF
  exact ⟨f1, f2, f3, rfl, h2, h3, h4⟩
def ShapeO (w : World) (n : Shp) (v : Value) (fp : List Nat) : Prop := ∃ na nc ba bc ka kc, v = shapeV n na nc ba bc ka kc ∧ ShapeF w n na nc ba bc ka kc fp
mutual
theorem ShapeF.keep {w w' : World} : ∀ {n : Shp} {na : Option Addr} {nc : Nat} {ba : Option Addr} {bc : Nat} {ka : Option Addr} {kc : Nat} {fp : List Nat}, ShapeF w n na nc ba bc ka kc fp →
    (∀ b ∈ fp, ∀ o, w'.cell? ⟨b, o, none⟩ = w.cell? ⟨b, o, none⟩) → ShapeF w' n na nc ba bc ka kc fp
  | ⟨_, _, _, kids⟩, na, nc, ba, bc, ka, kc, fp, hn, h => by
    unfold ShapeF at hn ⊢
    obtain ⟨f1, f2, f3, rfl, h1, h2, h3, h4, h5⟩ := hn
    refine ⟨f1, f2, f3, rfl, h1.keep (fun b hb => h b (by simp [hb])), h2.keep (fun b hb => h b (by simp [hb])), h3, h4, h5.imp id ?_⟩
    rintro ⟨b, o, f4, hne, rfl, rfl, hc⟩
    exact ⟨b, o, f4, hne, rfl, rfl, ShpsF.keep hc (fun x hx => h x (by simp [hx])) (fun o' _ _ => h b (by simp) o')⟩
theorem ShpsF.keep {w w' : World} {b : Nat} : ∀ {l : List Shp} {o : Nat} {fp : List Nat}, ShpsF w b o l fp → (∀ x ∈ fp, ∀ o', w'.cell? ⟨x, o', none⟩ = w.cell? ⟨x, o', none⟩) →
    (∀ o', o ≤ o' → o' < o + 4 * l.length → w'.cell? ⟨b, o', none⟩ = w.cell? ⟨b, o', none⟩) → ShpsF w' b o l fp
  | [], _, _, hk, _, _ => by unfold ShpsF at hk ⊢; exact hk
  | k :: ks, o, fp, hk, h, hb => by
    unfold ShpsF at hk ⊢
    obtain ⟨f1, f2, rfl, ⟨na, nc, ba, bc, ka, kc, c0, c1, c2, c3, hn⟩, hr⟩ := hk
    simp only [List.length_cons] at hb
    refine ⟨f1, f2, rfl, ⟨na, nc, ba, bc, ka, kc, ?_, ?_, ?_, ?_, ShapeF.keep hn (fun x hx => h x (by simp [hx]))⟩, ShpsF.keep hr (fun x hx => h x (by simp [hx])) (fun o' h1 h2 => hb o' (by omega) (by omega))⟩
    · rw [hb _ (by omega) (by omega)]; exact c0
    · rw [hb _ (by omega) (by omega)]; exact c1
    · rw [hb _ (by omega) (by omega)]; exact c2
    · rw [hb _ (by omega) (by omega)]; exact c3
end
mutual
theorem ShapeF.toC {w : World} {S : Nat → Prop} : ∀ {n : Shp} {na : Option Addr} {nc : Nat} {ba : Option Addr} {bc : Nat} {ka : Option Addr} {kc : Nat} {fp : List Nat}, ShapeF w n na nc ba bc ka kc fp → (∀ b ∈ fp, S b) → ShapeC w S n na nc ba bc ka kc
  | ⟨_, _, _, kids⟩, na, nc, ba, bc, ka, kc, fp, hn, h => by
    unfold ShapeF at hn; unfold ShapeC
    obtain ⟨f1, f2, f3, rfl, h1, h2, h3, h4, h5⟩ := hn
    refine ⟨h1.toR (fun b hb => h b (by simp [hb])), h2.toR (fun b hb => h b (by simp [hb])), h3, h4, h5.imp (fun h => h.1) ?_⟩
    rintro ⟨b, o, f4, _, rfl, rfl, hc⟩
    exact ⟨b, o, rfl, h b (by simp), ShpsF.toR hc (fun x hx => h x (by simp [hx]))⟩
theorem ShpsF.toR {w : World} {S : Nat → Prop} {b : Nat} : ∀ {l : List Shp} {o : Nat} {fp : List Nat}, ShpsF w b o l fp → (∀ x ∈ fp, S x) → ShpsR w S b o l
  | [], _, _, _, _ => by unfold ShpsR; trivial
  | k :: ks, o, fp, hk, h => by
    unfold ShpsF at hk; unfold ShpsR
    obtain ⟨f1, f2, rfl, ⟨na, nc, ba, bc, ka, kc, c0, c1, c2, c3, hn⟩, hr⟩ := hk
    exact ⟨⟨na, nc, ba, bc, ka, kc, c0, c1, c2, c3, ShapeF.toC hn (fun x hx => h x (by simp [hx]))⟩, ShpsF.toR hr (fun x hx => h x (by simp [hx]))⟩
end
theorem ShapeO.toR {w : World} {n : Shp} {v : Value} {fp : List Nat} (h : ShapeO w n v fp) {S : Nat → Prop} (hS : ∀ b ∈ fp, S b) : ShapeR w S n v := by
  obtain ⟨na, nc, ba, bc, ka, kc, hv, hc⟩ := h
  exact ⟨na, nc, ba, bc, ka, kc, hv, hc.toC hS⟩
end Go.Proofs.YtfjaobfaepjfnaaDoor
namespace Go.Proofs.YtfjaobfaepjfnaaDoor
open Go Go.RowKit
def CellsAt (w : World) (b o : Nat) (cs : List Value) : Prop := ∀ i v, cs[i]? = some v → w.cell? ⟨b, o + i, none⟩ = some v
theorem CellsAt.ext {X : Nat → Prop} {w w' : World} (h : Ext X w w') {b o : Nat} (hb : ¬ X b) {cs : List Value} (hc : CellsAt w b o cs) : CellsAt w' b o cs :=
  fun i v hi => h.some (hc i v hi) hb
theorem CellsAt.keep {w w' : World} {b o : Nat} {cs : List Value} (hc : CellsAt w b o cs) (h : ∀ o', o ≤ o' → o' < o + cs.length → w'.cell? ⟨b, o', none⟩ = w.cell? ⟨b, o', none⟩) : CellsAt w' b o cs :=
  fun i v hi => by
    have := (List.getElem?_eq_some_iff.1 hi).1
    rw [h _ (by omega) (by omega)]; exact hc i v hi
structure Rep (α : Type) where
  n : Nat
  R : World → (Nat → Prop) → α → List Value → Prop
  F : World → α → List Value → List Nat → Prop
  rlen : ∀ {w S x cs}, R w S x cs → cs.length = n
  flen : ∀ {w x cs fp}, F w x cs fp → cs.length = n
  ext : ∀ {X S : Nat → Prop} {w w' x cs}, Ext X w w' → (∀ k, S k → ¬ X k) → R w S x cs → R w' S x cs
  mono : ∀ {S T : Nat → Prop} {w x cs}, (∀ k, S k → T k) → R w S x cs → R w T x cs
  lt : ∀ {S : Nat → Prop} {w x cs}, R w S x cs → R w (fun k => S k ∧ k < w.heap.size) x cs
  keep : ∀ {w w' x cs fp}, F w x cs fp → (∀ b ∈ fp, ∀ o, w'.cell? ⟨b, o, none⟩ = w.cell? ⟨b, o, none⟩) → F w' x cs fp
  toR : ∀ {S : Nat → Prop} {w x cs fp}, F w x cs fp → (∀ b ∈ fp, S b) → R w S x cs
theorem Rep.grow {α : Type} (E : Rep α) {S : Nat → Prop} {w w' : World} {x : α} {cs : List Value} (h : E.R w S x cs) (hg : Grow w w') : E.R w' S x cs := E.ext hg (fun _ _ h => h) h
section slices
variable {α : Type} (E : Rep α)
def SlR (w : World) (S : Nat → Prop) (a : Option Addr) (c : Nat) (l : List α) : Prop :=
  l.length ≤ c ∧ l.length ≤ big ∧ (l = [] ∨ ∃ b o, a = some ⟨b, o, none⟩ ∧ S b ∧ ∀ i (h : i < l.length), ∃ cs, CellsAt w b (o + i * E.n) cs ∧ E.R w S l[i] cs)
def RowF (w : World) (b : Nat) : Nat → List α → List Nat → Prop
  | _, [], fp => fp = []
  | o, x :: l, fp => ∃ f1 f2 cs, fp = f1 ++ f2 ∧ CellsAt w b o cs ∧ E.F w x cs f1 ∧ RowF w b (o + E.n) l f2
def SlF (w : World) (a : Option Addr) (c : Nat) (l : List α) (fp : List Nat) : Prop :=
  l.length ≤ c ∧ l.length ≤ big ∧ ((l = [] ∧ fp = []) ∨ ∃ b o f, l ≠ [] ∧ a = some ⟨b, o, none⟩ ∧ fp = b :: f ∧ RowF E w b o l f)
variable {E}
theorem RowF.keep {w w' : World} {b : Nat} : ∀ {l : List α} {o : Nat} {fp : List Nat}, RowF E w b o l fp → (∀ x ∈ fp, ∀ o', w'.cell? ⟨x, o', none⟩ = w.cell? ⟨x, o', none⟩) →
    (∀ o', o ≤ o' → o' < o + l.length * E.n → w'.cell? ⟨b, o', none⟩ = w.cell? ⟨b, o', none⟩) → RowF E w' b o l fp
  | [], _, _, hk, _, _ => hk
  | x :: l, o, fp, hk, h, hb => by
    obtain ⟨f1, f2, cs, rfl, hc, hx, hr⟩ := hk
    have hl := E.flen hx
    have e : (x :: l).length * E.n = l.length * E.n + E.n := by simp [Nat.succ_mul]
    rw [e] at hb
    exact ⟨f1, f2, cs, rfl, hc.keep (fun o' h1 h2 => hb o' h1 (by omega)), E.keep hx (fun b hb => h b (by simp [hb])), RowF.keep hr (fun b hb => h b (by simp [hb])) (fun o' h1 h2 => hb o' (by omega) (by omega))⟩
theorem RowF.toR {S : Nat → Prop} {w : World} {b : Nat} : ∀ {l : List α} {o : Nat} {fp : List Nat}, RowF E w b o l fp → (∀ x ∈ fp, S x) → ∀ i (h : i < l.length), ∃ cs, CellsAt w b (o + i * E.n) cs ∧ E.R w S l[i] cs
  | [], _, _, _, _, i, h => absurd h (by simp)
  | x :: l, o, fp, hk, h, 0, _ => by
    obtain ⟨f1, f2, cs, rfl, hc, hx, _⟩ := hk
    exact ⟨cs, by simpa using hc, E.toR hx (fun b hb => h b (by simp [hb]))⟩
  | x :: l, o, fp, hk, h, i + 1, hi => by
    obtain ⟨f1, f2, cs, rfl, _, _, hr⟩ := hk
    have := RowF.toR hr (fun b hb => h b (by simp [hb])) i (by simpa using hi)
    rw [show o + (i + 1) * E.n = o + E.n + i * E.n by rw [Nat.succ_mul]; omega]
    simpa using this
theorem SlF.keep {w w' : World} {a : Option Addr} {c : Nat} {l : List α} {fp : List Nat} (hs : SlF E w a c l fp)
    (h : ∀ b ∈ fp, ∀ o, w'.cell? ⟨b, o, none⟩ = w.cell? ⟨b, o, none⟩) : SlF E w' a c l fp := by
  obtain ⟨h1, h2, h4⟩ := hs
  refine ⟨h1, h2, h4.imp id ?_⟩
  rintro ⟨b, o, f, hne, rfl, rfl, hc⟩
  exact ⟨b, o, f, hne, rfl, rfl, hc.keep (fun x hx => h x (by simp [hx])) (fun o' _ _ => h b (by simp) o')⟩
theorem SlF.toR {S : Nat → Prop} {w : World} {a : Option Addr} {c : Nat} {l : List α} {fp : List Nat} (hs : SlF E w a c l fp) (hS : ∀ b ∈ fp, S b) : SlR E w S a c l := by
  obtain ⟨h1, h2, h4⟩ := hs
  refine ⟨h1, h2, h4.imp (fun h => h.1) ?_⟩
  rintro ⟨b, o, f, _, rfl, rfl, hc⟩
  exact ⟨b, o, rfl, hS b (by simp), hc.toR (fun x hx => hS x (by simp [hx]))⟩
theorem SlR.ext {X S : Nat → Prop} {w w' : World} (h : Ext X w w') (hS : ∀ k, S k → ¬ X k) {a : Option Addr} {c : Nat} {l : List α} (hs : SlR E w S a c l) : SlR E w' S a c l := by
  obtain ⟨h1, h2, h4⟩ := hs
  refine ⟨h1, h2, h4.imp id ?_⟩
  rintro ⟨b, o, rfl, hb, hc⟩
  exact ⟨b, o, rfl, hb, fun i hi => by obtain ⟨cs, h1, h2⟩ := hc i hi; exact ⟨cs, h1.ext h (hS b hb), E.ext h hS h2⟩⟩
theorem SlR.grow {S : Nat → Prop} {w w' : World} {a : Option Addr} {c : Nat} {l : List α} (hs : SlR E w S a c l) (h : Grow w w') : SlR E w' S a c l := hs.ext h (fun _ _ h => h)
theorem SlR.mono {S T : Nat → Prop} {w : World} (h : ∀ k, S k → T k) {a : Option Addr} {c : Nat} {l : List α} (hs : SlR E w S a c l) : SlR E w T a c l := by
  obtain ⟨h1, h2, h4⟩ := hs
  refine ⟨h1, h2, h4.imp id ?_⟩
  rintro ⟨b, o, rfl, hb, hc⟩
  exact ⟨b, o, rfl, h b hb, fun i hi => by obtain ⟨cs, h1, h2⟩ := hc i hi; exact ⟨cs, h1, E.mono h h2⟩⟩
theorem CellsAt.lt {w : World} {b o : Nat} {cs : List Value} (hc : CellsAt w b o cs) (h : cs ≠ []) : b < w.heap.size := by
  cases cs with
  | nil => exact absurd rfl h
  | cons v vs => exact lt_of_cell (hc 0 v rfl)
end slices
end Go.Proofs.YtfjaobfaepjfnaaDoor
namespace Go.Proofs.YtfjaobfaepjfnaaDoor
open Go.RowKit
end Go.Proofs.YtfjaobfaepjfnaaDoor
namespace Go.Proofs.YtfjaobfaepjfnaaDoor
open Go.RowKit
def inl (fp : List Nat) (k : Nat) : Prop := k ∈ fp
theorem Free.sub {B : Nat} {w w' : World} {fp fx : List Nat} (h : Free B w fp) (he : Ext (inl fx) w w') (hx : ∀ b ∈ fx, ∀ o, w'.frozen? ⟨b, o, none⟩ = false) : Free B w' fp := by
  refine ⟨h.1, fun b hb => ⟨(h.2 b hb).1, Nat.lt_of_lt_of_le (h.2 b hb).2.1 he.size, fun o => ?_⟩⟩
  by_cases hbx : b ∈ fx
  · exact hx b hbx o
  · rw [he.frozen (p := ⟨b, o, none⟩) (h.2 b hb).2.1 hbx]; exact (h.2 b hb).2.2 o
def RowAt (w : World) (b o n : Nat) : Prop := b < w.heap.size ∧ (∀ j, j < n → ∃ u, w.cell? ⟨b, o + j, none⟩ = some u) ∧ ∀ j, w.frozen? ⟨b, j, none⟩ = false
theorem RowAt.ext {X : Nat → Prop} {w w' : World} {b o n : Nat} (h : Ext X w w') (hx : ¬ X b) (hr : RowAt w b o n) : RowAt w' b o n := by
  obtain ⟨h1, h2, h3⟩ := hr
  refine ⟨Nat.lt_of_lt_of_le h1 h.size, fun j hj => ?_, fun j => ?_⟩
  · rw [h.cell (p := ⟨b, o + j, none⟩) h1 hx]; exact h2 j hj
  · rw [h.frozen (p := ⟨b, j, none⟩) h1 hx]; exact h3 j
theorem RowAt.setCell {w : World} {b o n : Nat} (hr : RowAt w b o n) (p : Addr) (v : Value) : RowAt (w.setCell p v) b o n := by
  obtain ⟨h1, h2, h3⟩ := hr
  refine ⟨by rw [size_setCell]; exact h1, fun j hj => cell?_setCell_some (h2 j hj).choose_spec, fun j => ?_⟩
  rw [World.frozen?_setCell]; exact h3 j
end Go.Proofs.YtfjaobfaepjfnaaDoor
