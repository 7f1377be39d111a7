/-
  Texts of this claim, joined.
-/
import Derived.Test.YtiobnaielfeeaaaPmH

set_option linter.unusedSimpArgs false
set_option linter.unusedVariables false
set_option linter.unnecessarySimpa false
set_option maxRecDepth 100000
set_option maxHeartbeats 16000000
-- EV: rows skip
namespace Go.Proofs.Ytiobnaielfeeaaa.Eng
open Go Go.RowKit
attribute [local simp] big size_mk ASt.pay Option.map_map Function.comp_def awant aop acall ado aev ofVal ofVal0 ASt.put ASt.add ASt.turn ASt.kill abox aalloc astore aload ASt.at cellsTo afieldAddr afield aindexAddr aindex alen abin aint acmp astr aun apick aextract anil aslice abound abuild afill abuildSlice asCells aps avCells over upd aappend asrc amax amin aconv mkSt slots rowsOf_cons rowsOf_nil usedOf_cons usedOf_nil ZK.av List.replicate ASt.back ASt.addL ASt.killL nodeA nodeT nodeTL_eq nodeL_eq strsE_get strsE_len intsE_get intsE_len strsE_at intsE_at nodeN namesRow nodeO kidsRow tab2 tab3 tab4 tab5 tab6 tab7 tab8 tab9 tab10 tab11 tab12 tab13 tab14 tab15 tab16 tab17 tab18 tab19 tab21 tab22 tab23 tab24 tab25 tab26 tab27 tab28 tab29 tab30 tab48 tab51 tab52 tab59 tab77 tab78 tab79 tab91 tab95 tab96 tab97 tab109 tab116 tab132 tab133 tab138 tab139 tab144 tab145 tab146 tab148 tab149 tab150
theorem at0_AC (t : VC) (n : Nd) (hs : Sml n) : AC Try.prog 121 [nodeA n, .view t 1 (strsE [])] 0 (fun r => r = optA (some n)) := by
  refine AC.weak ?_
  have p4 := copyNode_AC n hs .loose
  unfold nodeT at p4
  unfold nodeA
  rw [nodeTL_eq] at p4
  rw [nodeL_eq]
  refine AC.of tab_ok mixed_ok Try.func121 (by rfl) (by kernel_rfl) ?_; rintro ⟨P, T, hT, hm, w0, S0, rd0, k0⟩ hP hTT; dsimp only at hP hTT; subst hP hTT; unfold initSt; rw [Try.ntmps121]
  (repeat (first | with_reducible refine AW.seq ?_ | ((first | refine arun_kn 4 rfl (fun C hC => ?_) | refine arunD_kn 4 rfl (fun C hC => ?_)); (repeat ((conv => whnf); simp [strsE_len])); refine hC _ ?_; clear hC C; simp only [List.drop, Nat.reduceAdd]) | ((first | refine arun_kn 1 rfl (fun C hC => ?_) | refine arunD_kn 1 rfl (fun C hC => ?_)); (repeat ((conv => whnf); simp [strsE_len])); refine hC _ ?_; clear hC C; simp only [List.drop, Nat.reduceAdd]) | (refine arun_skip ?_ ?_; (focus (simp [awant, strsE_len]; done))) | (refine arunD_skip ?_ ?_; (focus (simp [awant, strsE_len]; done))) | (refine AW.regionK [] (fun K hK => ?_)) | (refine AW.regionDK [] (pcs [] []) (by kernel_rfl) (by kernel_rfl) (fun K hK => ?_)) | (refine AW.condT ?_ ?_; (focus (simp [aev, strsE_len]; done))) | (refine AW.condF ?_ ?_; (focus (simp [aev, strsE_len]; done))) | with_reducible refine AW.block ?_ | ((first | ((first | refine arun_nil ?_ | refine arunD_nil ?_); refine hK _ ?_; clear hK K) | refine AW.skip ?_ | refine AW.exit ?_ | refine AW.ret ?_); simp only [thenA_exit, inBlockA_exit, if_true, if_false, Nat.reduceEqDiff, thenA_normal, inBlockA_normal, reduceIte, thenA_ret, inBlockA_ret, endQ_ret, endR_ret, endG_ret, endQ_normal, endR_normal, endG_normal])))
  refine AW.loopS (fun (x : Nat) => mkSt (slots 0 30 [(1, .view t 1 (strsE [])), (2, .ptr true 5 1 2 0 0), (4, .ptr true 5 1 4 0 0), (5, .bool false), (6, .int .i64 0)]) [(2, ⟨true, 30, 5, [[.int .i64 n.kind, .int .i64 n.num, .str n.text, .view .loose 1 (strsE n.names), .view .loose 5 (n.kids.map nodeL)]]⟩), (4, ⟨true, 30, 5, [[.int .i64 0, .int .i64 0, .str ⟨#[]⟩, .view .tight 0 [], .view .tight 0 []]]⟩)] [2, 4] (rd0.map fun _ => 0)) (fun x => 0) (fun x => True) 0 ?_ trivial ?_
  · exact less_a
  · rintro i -
    (repeat (first | with_reducible refine AW.seq ?_ | ((first | refine arun_kn 4 rfl (fun C hC => ?_) | refine arunD_kn 4 rfl (fun C hC => ?_)); (repeat ((conv => whnf); simp [strsE_len])); refine hC _ ?_; clear hC C; simp only [List.drop, Nat.reduceAdd]) | ((first | refine arun_kn 1 rfl (fun C hC => ?_) | refine arunD_kn 1 rfl (fun C hC => ?_)); (repeat ((conv => whnf); simp [strsE_len])); refine hC _ ?_; clear hC C; simp only [List.drop, Nat.reduceAdd]) | (refine arun_skip ?_ ?_; (focus (simp [awant, strsE_len]; done))) | (refine arun_c0 (p4) ?_; rintro _ rfl) | (refine arunD_skip ?_ ?_; (focus (simp [awant, strsE_len]; done))) | (refine AW.regionK [] (fun K hK => ?_)) | (refine AW.regionDK [] (pcs [] []) (by kernel_rfl) (by kernel_rfl) (fun K hK => ?_)) | (refine AW.condT ?_ ?_; (focus (simp [aev, strsE_len]; done))) | (refine AW.condF ?_ ?_; (focus (simp [aev, strsE_len]; done))) | with_reducible refine AW.block ?_ | ((first | ((first | refine arun_nil ?_ | refine arunD_nil ?_); refine hK _ ?_; clear hK K) | refine AW.skip ?_ | refine AW.exit ?_ | refine AW.ret ?_); simp only [thenA_exit, inBlockA_exit, if_true, if_false, Nat.reduceEqDiff, thenA_normal, inBlockA_normal, reduceIte, thenA_ret, inBlockA_ret, endQ_ret, endR_ret, endG_ret, endQ_normal, endR_normal, endG_normal])))
    exact ⟨.tup [nodeA n, .bool true], by simp [nodeA, nodeL_eq, ares, aresL, upd, rowsOf_cons], tup2_pur (node_pur n) pur_bool, _, Wk.refl _, rfl⟩
theorem setAt0_AC (t t' : VC) (n v : Nd) (hv : Sml v) : AC Try.prog 105 [nodeA n, .view t 1 (strsE []), nodeT t' v] 0 (fun r => r = optA (some v)) := by
  have p1 := copyNode_AC v hv t'
  refine AC.weak ?_
  unfold nodeA
  unfold nodeT at p1 ⊢
  rw [nodeTL_eq] at p1 ⊢
  rw [nodeL_eq]
  refine AC.of tab_ok mixed_ok Try.func105 (by rfl) (by kernel_rfl) ?_; rintro ⟨P, T, hT, hm, w0, S0, rd0, k0⟩ hP hTT; dsimp only at hP hTT; subst hP hTT; unfold initSt; rw [Try.ntmps105]
  (repeat (first | with_reducible refine AW.seq ?_ | ((first | refine arun_kn 4 rfl (fun C hC => ?_) | refine arunD_kn 4 rfl (fun C hC => ?_)); (repeat ((conv => whnf); simp [strsE_len])); refine hC _ ?_; clear hC C; simp only [List.drop, Nat.reduceAdd]) | ((first | refine arun_kn 1 rfl (fun C hC => ?_) | refine arunD_kn 1 rfl (fun C hC => ?_)); (repeat ((conv => whnf); simp [strsE_len])); refine hC _ ?_; clear hC C; simp only [List.drop, Nat.reduceAdd]) | (refine arun_skip ?_ ?_; (focus (simp [awant, strsE_len]; done))) | (refine arun_c0 (p1) ?_; rintro _ rfl) | (refine arunD_skip ?_ ?_; (focus (simp [awant, strsE_len]; done))) | (refine AW.regionK [] (fun K hK => ?_)) | (refine AW.regionDK [] (pcs [] []) (by kernel_rfl) (by kernel_rfl) (fun K hK => ?_)) | (refine AW.condT ?_ ?_; (focus (simp [aev, strsE_len]; done))) | (refine AW.condF ?_ ?_; (focus (simp [aev, strsE_len]; done))) | with_reducible refine AW.block ?_ | ((first | ((first | refine arun_nil ?_ | refine arunD_nil ?_); refine hK _ ?_; clear hK K) | refine AW.skip ?_ | refine AW.exit ?_ | refine AW.ret ?_); simp only [thenA_exit, inBlockA_exit, if_true, if_false, Nat.reduceEqDiff, thenA_normal, inBlockA_normal, reduceIte, thenA_ret, inBlockA_ret, endQ_ret, endR_ret, endG_ret, endQ_normal, endR_normal, endG_normal])))
  exact ⟨.tup [nodeA v, .bool true], by simp [ares, aresL, upd, rowsOf_cons], tup2_pur (node_pur v) pur_bool, _, Wk.refl _, rfl⟩
theorem removeAt1_AC (n : Nd) (s : ByteArray) (t : VC) (hn : Slt n) : AC Try.prog 92 [nodeA n, .view t 1 [[.str s]]] 0 (fun r => r = optA (remS n [s])) :=
  removeAt_gen n [] s t (by simp) (at0_AC t.cut n hn.sml) (fun m hm => by rw [getS] at hm; cases hm; exact hn) (fun t' m x _ hx => setAt0_AC t.cut t' n x hx)
theorem MapW.slt {r : Nd} (h : MapW r) (hs : Sml r) : Slt r := ⟨fun _ => h.len, (fun h3 => by rw [h.kd] at h3; cases h3), hs⟩
theorem place_w {r : Nd} (h : MapW r) (st : ByteArray) : placeI r st = if mem r.names st then (lbound r.names st : Int) else -1 := by
  have hl := h.len
  rcases placeI_cases r st with ⟨h1, h2⟩ | ⟨j, h1, h2, h3⟩
  · have : mem r.names st = false := mem_no (fun hm => by
      obtain ⟨i, hi, rfl⟩ := List.getElem_of_mem hm
      have := h2 i (by omega)
      rw [hit_map h.kd hi, eqs_iff.2 rfl] at this
      cases this)
    rw [this, h1]; rfl
  · have hj : j < r.names.length := by omega
    rw [hit_map h.kd hj, eqs_iff] at h3
    subst h3
    rw [lb_at h.asc hj, mem_iff.2 (List.getElem_mem hj), h2]; rfl
theorem nmI_spec (st : ByteArray) : ∀ l : List ByteArray, (∀ t (h : t < l.length), t < nmI st l → lts st l[t] = false) ∧ (∀ h : nmI st l < l.length, lts st l[nmI st l] = true)
  | [] => ⟨fun t h => by simp at h, fun h => by simp [nmI] at h⟩
  | x :: xs => by
    obtain ⟨i1, i2⟩ := nmI_spec st xs
    cases hx : lts st x
    · have e : nmI st (x :: xs) = nmI st xs + 1 := by rw [nmI, hx]; rfl
      rw [e]
      refine ⟨fun t h ht => ?_, fun h => ?_⟩
      · cases t with
        | zero => exact hx
        | succ t => exact i1 t (by simpa using h) (by omega)
      · simpa using i2 (by simpa using h)
    · have e : nmI st (x :: xs) = 0 := by rw [nmI, hx]; rfl
      rw [e]
      exact ⟨fun t _ ht => by omega, fun _ => hx⟩
theorem nmI_lb {xs : List ByteArray} {st : ByteArray} (ha : Asc xs) (hm : mem xs st = false) : nmI st xs = lbound xs st := by
  obtain ⟨h1, h2⟩ := nmI_spec st xs
  refine (lb_of (nmI_le st xs) (fun t ht htk => ?_) (fun t ht hkt => ?_)).symm
  · have := h1 t ht htk
    rw [lts_lt] at this
    exact lt_tot this (fun e => by
      have : mem xs st = true := mem_iff.2 (e ▸ List.getElem_mem ht)
      rw [hm] at this; cases this)
  · have hlt : nmI st xs < xs.length := by omega
    have h3 := h2 hlt
    rw [lts_lt] at h3
    have h4 : lt st xs[t] = true := by
      rcases Nat.eq_or_lt_of_le hkt with e | hl
      · subst e; exact h3
      · exact bl_trans _ _ _ h3 (ha _ t hlt ht hl)
    exact bl_asymm _ _ h4
theorem remS_w {r : Nd} (h : MapW r) {nm : ByteArray} (hm : mem r.names nm = true) : remS r [nm] = some (dropK r nm) := by
  have hk := h.kd
  have e : remS r ([] ++ [nm]) = some (dropK r nm) := by
    rw [remS_snoc, getS, Option.bind_some, place_w h, if_pos hm, if_pos (by omega), setS, dropK_yes hm, h.nz, h.tz]
    simp [delK, hk]
  exact e
theorem addK_w {r v : Nd} (h : MapW r) {nm : ByteArray} (hm : mem r.names nm = false) : addK r nm v = some (putK r nm v) := by
  unfold addK slotS
  rw [place_w h, hm, if_neg (by simp), if_neg (fun h3 => by have := h3.1; have := h.kd; omega), if_pos h.kd, putK_no hm, nmI_lb h.asc hm, h.nz, h.tz]
  simp [insKid, insL, h.kd]
theorem setK_w {r v : Nd} {nm : ByteArray} (hm : mem r.names nm = true) : setK r (lbound r.names nm) v = putK r nm v := by
  rw [putK_yes hm]; rfl
theorem AC.argsW {P : Program} {f : FuncId} {a b c : AV} {k : Nat} {Post : AV → Prop} (h : AC P f [b, c] k Post) (hw : Wk a b) : AC P f [a, c] k Post :=
  h.args (fun _ _ _ hr => (WkL.cons hw (.cons (Wk.refl _) .nil)).rep hr)
theorem optL_noid (m : Nd) : NoId (.tup [.agg [.int .i64 m.kind, .int .i64 m.num, .str m.text, .view .loose 1 (strsE m.names), .view .loose 5 (m.kids.map nodeL)], .bool true]) := optL_in (some m)
theorem nodeA_noid (y : Nd) : NoId (.agg [.int .i64 y.kind, .int .i64 y.num, .str y.text, .view .loose 1 (strsE y.names), .view .loose 5 (y.kids.map nodeL)]) := by
  have h := node_in (U := fun _ => false) y
  unfold nodeA at h
  rw [nodeL_eq] at h
  exact h
theorem merge_step (p n : Nd) (hp : Shp p) (hn : Shp n) (ih : ∀ k ∈ p.kids, ∀ m, Shp m → AC Try.prog 66 [nodeA m, nodeA k] 0 (fun r => r = nodeA (mrg k m))) : AC Try.prog 66 [nodeA n, nodeA p] 0 (fun r => r = nodeA (mrg p n)) := by
  have hcn := copyNode_AC n hn.sml .loose
  unfold nodeT at hcn
  unfold nodeA at hcn ⊢
  rw [nodeTL_eq] at hcn
  rw [nodeL_eq n] at hcn
  rw [nodeL_eq n, nodeL_eq p]
  refine AC.of tab_ok mixed_ok Try.func66 (by rfl) (by kernel_rfl) ?_; rintro ⟨P, T, hT, hm, w0, S0, rd0, k0⟩ hP hTT; dsimp only at hP hTT; subst hP hTT; unfold initSt; rw [Try.ntmps66]
  by_cases h4 : p.kind = 4
  rotate_left
  · have hb : (p.kind != 4) = true := by simpa using h4
    have hpc := copyNode_AC p hp.sml .loose
    unfold nodeT at hpc
    unfold nodeA at hpc
    rw [nodeTL_eq, nodeL_eq p] at hpc
    (repeat (first | with_reducible refine AW.seq ?_ | ((first | refine arun_kn 4 rfl (fun C hC => ?_) | refine arunD_kn 4 rfl (fun C hC => ?_)); (repeat ((conv => whnf); simp [hb])); refine hC _ ?_; clear hC C; simp only [List.drop, Nat.reduceAdd]) | ((first | refine arun_kn 1 rfl (fun C hC => ?_) | refine arunD_kn 1 rfl (fun C hC => ?_)); (repeat ((conv => whnf); simp [hb])); refine hC _ ?_; clear hC C; simp only [List.drop, Nat.reduceAdd]) | (refine arun_skip ?_ ?_; (focus (simp [awant, hb]; done))) | (refine arun_c0 (hpc) ?_; rintro _ rfl) | (refine arunD_skip ?_ ?_; (focus (simp [awant, hb]; done))) | (refine AW.regionK [] (fun K hK => ?_)) | (refine AW.regionDK [] (pcs [] []) (by kernel_rfl) (by kernel_rfl) (fun K hK => ?_)) | (refine AW.condT ?_ ?_; (focus (simp [aev, hb]; done))) | (refine AW.condF ?_ ?_; (focus (simp [aev, hb]; done))) | with_reducible refine AW.block ?_ | ((first | ((first | refine arun_nil ?_ | refine arunD_nil ?_); refine hK _ ?_; clear hK K) | refine AW.skip ?_ | refine AW.exit ?_ | refine AW.ret ?_); simp only [thenA_exit, inBlockA_exit, if_true, if_false, Nat.reduceEqDiff, thenA_normal, inBlockA_normal, reduceIte, thenA_ret, inBlockA_ret, endQ_ret, endR_ret, endG_ret, endQ_normal, endR_normal, endG_normal])))
    exact ⟨nodeA p, by simp [ares, aresL, upd, rowsOf_cons], node_pur p, by rw [mrg_no h4]; rfl⟩
  have hb : (p.kind != 4) = false := by simp [h4]
  have h6 := hp.kids
  have hln := (hp.map h4).2
  (repeat (first | with_reducible refine AW.seq ?_ | ((first | refine arun_kn 4 rfl (fun C hC => ?_) | refine arunD_kn 4 rfl (fun C hC => ?_)); (repeat ((conv => whnf); simp [hb])); refine hC _ ?_; clear hC C; simp only [List.drop, Nat.reduceAdd]) | ((first | refine arun_kn 1 rfl (fun C hC => ?_) | refine arunD_kn 1 rfl (fun C hC => ?_)); (repeat ((conv => whnf); simp [hb])); refine hC _ ?_; clear hC C; simp only [List.drop, Nat.reduceAdd]) | (refine arun_skip ?_ ?_; (focus (simp [awant, hb]; done))) | (refine arunD_skip ?_ ?_; (focus (simp [awant, hb]; done))) | (refine AW.regionK [] (fun K hK => ?_)) | (refine AW.regionDK [] (pcs [] []) (by kernel_rfl) (by kernel_rfl) (fun K hK => ?_)) | (refine AW.condT ?_ ?_; (focus (simp [aev, hb]; done))) | (refine AW.condF ?_ ?_; (focus (simp [aev, hb]; done))) | with_reducible refine AW.block ?_ | ((first | ((first | refine arun_nil ?_ | refine arunD_nil ?_); refine hK _ ?_; clear hK K) | refine AW.skip ?_ | refine AW.exit ?_ | refine AW.ret ?_); simp only [thenA_exit, inBlockA_exit, if_true, if_false, Nat.reduceEqDiff, thenA_normal, inBlockA_normal, reduceIte, thenA_ret, inBlockA_ret, endQ_ret, endR_ret, endG_ret, endQ_normal, endR_normal, endG_normal])))
  refine AW.cutN (fun (_ : Unit) => mkSt (slots 0 104 [(3, .ptr true 5 1 3 0 0), (4, .ptr true 5 1 4 0 0), (5, .ptr true 5 1 5 0 0)]) [(3, ⟨true, 30, 5, [nodeL p]⟩), (4, ⟨true, 30, 5, [zeroN]⟩), (5, ⟨true, 30, 5, [nodeL (baseM n)]⟩)] [3, 4, 5] (rd0.map fun _ => 0)) (fun _ => True) ?_ ?_
  · by_cases hn4 : n.kind = 4
    · have hbn : (n.kind == 4) = true := by simpa using hn4
      have hbase : baseM n = n := by unfold baseM; rw [if_pos hn4]
      (repeat (first | with_reducible refine AW.seq ?_ | ((first | refine arun_kn 4 rfl (fun C hC => ?_) | refine arunD_kn 4 rfl (fun C hC => ?_)); (repeat ((conv => whnf); simp [hbn])); refine hC _ ?_; clear hC C; simp only [List.drop, Nat.reduceAdd]) | ((first | refine arun_kn 1 rfl (fun C hC => ?_) | refine arunD_kn 1 rfl (fun C hC => ?_)); (repeat ((conv => whnf); simp [hbn])); refine hC _ ?_; clear hC C; simp only [List.drop, Nat.reduceAdd]) | (refine arun_skip ?_ ?_; (focus (simp [awant, hbn]; done))) | (refine arun_c0 (hcn) ?_; rintro _ rfl) | (refine arunD_skip ?_ ?_; (focus (simp [awant, hbn]; done))) | (refine AW.regionK [] (fun K hK => ?_)) | (refine AW.regionDK [] (pcs [] []) (by kernel_rfl) (by kernel_rfl) (fun K hK => ?_)) | (refine AW.condT ?_ ?_; (focus (simp [aev, hbn]; done))) | (refine AW.condF ?_ ?_; (focus (simp [aev, hbn]; done))) | with_reducible refine AW.block ?_ | ((first | ((first | refine arun_nil ?_ | refine arunD_nil ?_); refine hK _ ?_; clear hK K) | refine AW.skip ?_ | refine AW.exit ?_ | refine AW.ret ?_); simp only [thenA_exit, inBlockA_exit, if_true, if_false, Nat.reduceEqDiff, thenA_normal, inBlockA_normal, reduceIte, thenA_ret, inBlockA_ret, endQ_ret, endR_ret, endG_ret, endQ_normal, endR_normal, endG_normal])))
      rw [hbase, nodeL_eq n, nodeL_eq p]
      exact ⟨(), trivial, (less_of (by simp [lessL, mkSt, slots, zeroN, nodeN, namesRow, nodeO, kidsRow]) (by simp [upd, mkSt, rowsOf_cons, zeroN, nodeN, namesRow, nodeO, kidsRow]) (by simp [upd, mkSt, usedOf_cons, zeroN, nodeN, namesRow, nodeO, kidsRow]) (by first | exact rd_less (by omega) | simp [mkSt, zeroN, nodeN, namesRow, nodeO, kidsRow]) (by simp [slots, in_any, in_int, in_bool, in_str, in_ptr, in_own, in_agg, in_vnil, in_rdr, usedOf_cons, usedOf_nil, strs_in, ints_in, nodes_in, in_tup, zeroN, nodeN, namesRow, nodeO, kidsRow]) (by simp only [List.forall_mem_cons, List.not_mem_nil, false_implies, implies_true, and_true, true_and, zeroN, nodeN, namesRow, nodeO, kidsRow]; (repeat (first | with_reducible exact trivial | with_reducible refine And.intro ?_ ?_ | with_reducible exact in_int | with_reducible exact in_str | with_reducible exact in_bool | with_reducible exact strs_in _ | with_reducible exact nodes_in _ | with_reducible exact items_in _ | with_reducible exact in_vnil | with_reducible exact in_any | exact hin _ | with_reducible refine take_in ?_ | with_reducible exact strsE_in _ | with_reducible exact nodesE_in _ | with_reducible exact nodeL_in _ | with_reducible exact itemsE_in _ | with_reducible exact itemL_in _ | with_reducible refine app_in ?_ ?_ | with_reducible refine sing_in ?_ | (focus (simp [in_any, in_int, in_bool, in_str, in_ptr, in_own, in_agg, in_vnil, in_rdr, usedOf_cons, usedOf_nil, strs_in, ints_in, nodes_in, zeroN, nodeN, namesRow, nodeO, kidsRow]; done)))); done))⟩
    · have hbn : (n.kind == 4) = false := by simpa using hn4
      have hbase : baseM n = ⟨4, 0, ⟨#[]⟩, [], []⟩ := by unfold baseM; rw [if_neg hn4]
      refine AW.wkB 5 3 (.view .loose 1 []) (Wk.nil (fun h => by cases h)) (by simp [upd]; rfl) rfl rfl ?_
      simp only [ASt.wkB]
      refine AW.wkB 5 4 (.view .loose 5 []) (Wk.nil (fun h => by cases h)) (by simp [upd]; rfl) rfl rfl ?_
      simp only [ASt.wkB]
      (repeat (first | with_reducible refine AW.seq ?_ | ((first | refine arun_kn 4 rfl (fun C hC => ?_) | refine arunD_kn 4 rfl (fun C hC => ?_)); (repeat ((conv => whnf); simp [hbn])); refine hC _ ?_; clear hC C; simp only [List.drop, Nat.reduceAdd]) | ((first | refine arun_kn 1 rfl (fun C hC => ?_) | refine arunD_kn 1 rfl (fun C hC => ?_)); (repeat ((conv => whnf); simp [hbn])); refine hC _ ?_; clear hC C; simp only [List.drop, Nat.reduceAdd]) | (refine arun_skip ?_ ?_; (focus (simp [awant, hbn]; done))) | (refine arunD_skip ?_ ?_; (focus (simp [awant, hbn]; done))) | (refine AW.regionK [] (fun K hK => ?_)) | (refine AW.regionDK [] (pcs [] []) (by kernel_rfl) (by kernel_rfl) (fun K hK => ?_)) | (refine AW.condT ?_ ?_; (focus (simp [aev, hbn]; done))) | (refine AW.condF ?_ ?_; (focus (simp [aev, hbn]; done))) | with_reducible refine AW.block ?_ | ((first | ((first | refine arun_nil ?_ | refine arunD_nil ?_); refine hK _ ?_; clear hK K) | refine AW.skip ?_ | refine AW.exit ?_ | refine AW.ret ?_); simp only [thenA_exit, inBlockA_exit, if_true, if_false, Nat.reduceEqDiff, thenA_normal, inBlockA_normal, reduceIte, thenA_ret, inBlockA_ret, endQ_ret, endR_ret, endG_ret, endQ_normal, endR_normal, endG_normal])))
      rw [hbase, nodeL_eq p, nodeL_eq]
      have hs0 : strsE ([] : List ByteArray) = [] := rfl
      exact ⟨(), trivial, (less_of (by simp [lessL, mkSt, slots, zeroN, hs0, nodeN, namesRow, nodeO, kidsRow]) (by simp [upd, mkSt, rowsOf_cons, zeroN, hs0, nodeN, namesRow, nodeO, kidsRow]) (by simp [upd, mkSt, usedOf_cons, zeroN, hs0, nodeN, namesRow, nodeO, kidsRow]) (by first | exact rd_less (by omega) | simp [mkSt, zeroN, hs0, nodeN, namesRow, nodeO, kidsRow]) (by simp [slots, in_any, in_int, in_bool, in_str, in_ptr, in_own, in_agg, in_vnil, in_rdr, usedOf_cons, usedOf_nil, strs_in, ints_in, nodes_in, in_tup, zeroN, hs0, nodeN, namesRow, nodeO, kidsRow]) (by simp only [List.forall_mem_cons, List.not_mem_nil, false_implies, implies_true, and_true, true_and, zeroN, hs0, nodeN, namesRow, nodeO, kidsRow]; (repeat (first | with_reducible exact trivial | with_reducible refine And.intro ?_ ?_ | with_reducible exact in_int | with_reducible exact in_str | with_reducible exact in_bool | with_reducible exact strs_in _ | with_reducible exact nodes_in _ | with_reducible exact items_in _ | with_reducible exact in_vnil | with_reducible exact in_any | exact hin _ | with_reducible refine take_in ?_ | with_reducible exact strsE_in _ | with_reducible exact nodesE_in _ | with_reducible exact nodeL_in _ | with_reducible exact itemsE_in _ | with_reducible exact itemL_in _ | with_reducible refine app_in ?_ ?_ | with_reducible refine sing_in ?_ | (focus (simp [in_any, in_int, in_bool, in_str, in_ptr, in_own, in_agg, in_vnil, in_rdr, usedOf_cons, usedOf_nil, strs_in, ints_in, nodes_in, zeroN, hs0, nodeN, namesRow, nodeO, kidsRow]; done)))); done))⟩
  rintro ⟨⟩ s' - hls
  refine AW.less _ hls ?_
  clear hls s'
  rw [nodeL_eq p]
  (repeat (first | with_reducible refine AW.seq ?_ | ((first | refine arun_kn 4 rfl (fun C hC => ?_) | refine arunD_kn 4 rfl (fun C hC => ?_)); (repeat ((conv => whnf); simp [strsE_len])); refine hC _ ?_; clear hC C; simp only [List.drop, Nat.reduceAdd]) | ((first | refine arun_kn 1 rfl (fun C hC => ?_) | refine arunD_kn 1 rfl (fun C hC => ?_)); (repeat ((conv => whnf); simp [strsE_len])); refine hC _ ?_; clear hC C; simp only [List.drop, Nat.reduceAdd]) | (refine arun_skip ?_ ?_; (focus (simp [awant, strsE_len]; done))) | (refine arunD_skip ?_ ?_; (focus (simp [awant, strsE_len]; done))) | (refine AW.regionK [] (fun K hK => ?_)) | (refine AW.regionDK [] (pcs [] []) (by kernel_rfl) (by kernel_rfl) (fun K hK => ?_)) | (refine AW.condT ?_ ?_; (focus (simp [aev, strsE_len]; done))) | (refine AW.condF ?_ ?_; (focus (simp [aev, strsE_len]; done))) | with_reducible refine AW.block ?_ | ((first | ((first | refine arun_nil ?_ | refine arunD_nil ?_); refine hK _ ?_; clear hK K) | refine AW.skip ?_ | refine AW.exit ?_ | refine AW.ret ?_); simp only [thenA_exit, inBlockA_exit, if_true, if_false, Nat.reduceEqDiff, thenA_normal, inBlockA_normal, reduceIte, thenA_ret, inBlockA_ret, endQ_ret, endR_ret, endG_ret, endQ_normal, endR_normal, endG_normal])))
  refine AW.loopS (fun (x : Nat × Nd) => mkSt (slots 0 104 [(3, .ptr true 5 1 3 0 0), (4, .ptr true 5 1 4 0 0), (5, .ptr true 5 1 5 0 0), (6, .int .i64 x.1)]) [(3, ⟨true, 30, 5, [[.int .i64 p.kind, .int .i64 p.num, .str p.text, .view .loose 1 (strsE p.names), .view .loose 5 (p.kids.map nodeL)]]⟩), (4, ⟨true, 30, 5, [zeroN]⟩), (5, ⟨true, 30, 5, [nodeL x.2]⟩)] [3, 4, 5] (rd0.map fun _ => 0)) (fun x => p.names.length - x.1) (fun x => x.1 ≤ p.names.length ∧ Mid n p x.1 x.2 ∧ mrgL (p.names.drop x.1) (p.kids.drop x.1) x.2 = mrg p n) (0, baseM n) ?_ ⟨Nat.zero_le _, Mid.start hn p, by rw [mrg_map h4]; rfl⟩ ?_
  · dsimp only
    rw [nodeL_eq (baseM n)]
    exact (less_of (by simp [lessL, mkSt, slots, zeroN, nodeN, namesRow, nodeO, kidsRow]) (by simp [upd, mkSt, rowsOf_cons, zeroN, nodeN, namesRow, nodeO, kidsRow]) (by simp [upd, mkSt, usedOf_cons, zeroN, nodeN, namesRow, nodeO, kidsRow]) (by first | exact rd_less (by omega) | simp [mkSt, zeroN, nodeN, namesRow, nodeO, kidsRow]) (by simp [slots, in_any, in_int, in_bool, in_str, in_ptr, in_own, in_agg, in_vnil, in_rdr, usedOf_cons, usedOf_nil, strs_in, ints_in, nodes_in, in_tup, zeroN, nodeN, namesRow, nodeO, kidsRow]) (by simp only [List.forall_mem_cons, List.not_mem_nil, false_implies, implies_true, and_true, true_and, zeroN, nodeN, namesRow, nodeO, kidsRow]; (repeat (first | with_reducible exact trivial | with_reducible refine And.intro ?_ ?_ | with_reducible exact in_int | with_reducible exact in_str | with_reducible exact in_bool | with_reducible exact strs_in _ | with_reducible exact nodes_in _ | with_reducible exact items_in _ | with_reducible exact in_vnil | with_reducible exact in_any | exact hin _ | with_reducible refine take_in ?_ | with_reducible exact strsE_in _ | with_reducible exact nodesE_in _ | with_reducible exact nodeL_in _ | with_reducible exact itemsE_in _ | with_reducible exact itemL_in _ | with_reducible refine app_in ?_ ?_ | with_reducible refine sing_in ?_ | (focus (simp [in_any, in_int, in_bool, in_str, in_ptr, in_own, in_agg, in_vnil, in_rdr, usedOf_cons, usedOf_nil, strs_in, ints_in, nodes_in, zeroN, nodeN, namesRow, nodeO, kidsRow]; done)))); done))
  rintro ⟨i, r⟩ ⟨hi, hm, hf⟩
  dsimp only at hi hm hf ⊢
  rw [nodeL_eq r]
  by_cases hlt : i < p.names.length
  rotate_left
  · obtain rfl : i = p.names.length := by omega
    rw [List.drop_of_length_le (Nat.le_refl _), List.drop_of_length_le (by omega), mrgL] at hf
    have hlk : ¬ (p.names.length < p.kids.length) := by omega
    have hlk' : ¬ ((p.names.length : Int) < (p.kids.length : Int)) := by omega
    (repeat (first | with_reducible refine AW.seq ?_ | ((first | refine arun_kn 4 rfl (fun C hC => ?_) | refine arunD_kn 4 rfl (fun C hC => ?_)); (repeat ((conv => whnf); simp [strsE_len, hlk, hlk', zeroN])); refine hC _ ?_; clear hC C; simp only [List.drop, Nat.reduceAdd]) | ((first | refine arun_kn 1 rfl (fun C hC => ?_) | refine arunD_kn 1 rfl (fun C hC => ?_)); (repeat ((conv => whnf); simp [strsE_len, hlk, hlk', zeroN])); refine hC _ ?_; clear hC C; simp only [List.drop, Nat.reduceAdd]) | (refine arun_skip ?_ ?_; (focus (simp [awant, strsE_len, hlk, hlk', zeroN]; done))) | (refine arunD_skip ?_ ?_; (focus (simp [awant, strsE_len, hlk, hlk', zeroN]; done))) | (refine AW.regionK [] (fun K hK => ?_)) | (refine AW.regionDK [] (pcs [] []) (by kernel_rfl) (by kernel_rfl) (fun K hK => ?_)) | (refine AW.condT ?_ ?_; (focus (simp [aev, strsE_len, hlk, hlk', zeroN]; done))) | (refine AW.condF ?_ ?_; (focus (simp [aev, strsE_len, hlk, hlk', zeroN]; done))) | with_reducible refine AW.block ?_ | ((first | ((first | refine arun_nil ?_ | refine arunD_nil ?_); refine hK _ ?_; clear hK K) | refine AW.skip ?_ | refine AW.exit ?_ | refine AW.ret ?_); simp only [thenA_exit, inBlockA_exit, if_true, if_false, Nat.reduceEqDiff, thenA_normal, inBlockA_normal, reduceIte, thenA_ret, inBlockA_ret, endQ_ret, endR_ret, endG_ret, endQ_normal, endR_normal, endG_normal])))
    exact ⟨nodeA r, by simp [ares, aresL, upd, rowsOf_cons], node_pur r, by rw [← hf]; rfl⟩
  have hk : i < p.kids.length := by omega
  have hwi : IntKind.i64.wrap ((i : Int) + 1) = ((i + 1 : Nat) : Int) := by rw [i64_nat (by omega) (by omega)]; simp
  have hnext := hm.next hp h4 hn hlt hk
  rw [mrgL_step hlt hk] at hf
  have hwd := hm.wide
  have hsr : Sml r := hm.smlR (by omega)
  have pk := place_ok .loose r p.names[i] (hm.w.slt hsr).plc
  rw [place_w hm.w] at pk
  unfold nodeT at pk
  rw [nodeTL_eq] at pk
  have hrl := hm.w.len
  cases hkk : p.kids[i].kind == 0
  rotate_left
  · have hst : stepN r p.names[i] p.kids[i] = dropK r p.names[i] := by unfold stepN; rw [if_pos (by simpa using hkk)]
    rw [hst] at hf hnext
    cases hmm : mem r.names p.names[i]
    · rw [hmm, if_neg (by simp)] at pk
      rw [dropK_no hmm] at hf hnext
      have hkn : (p.kids[i].kind != 0) = false := by simpa using hkk
      (repeat (first | with_reducible refine AW.seq ?_ | ((first | refine arun_kn 4 rfl (fun C hC => ?_) | refine arunD_kn 4 rfl (fun C hC => ?_)); (repeat ((conv => whnf); simp [hlt, hk, hkk, hkn, hwi, strsE_len])); refine hC _ ?_; clear hC C; simp only [List.drop, Nat.reduceAdd]) | ((first | refine arun_kn 1 rfl (fun C hC => ?_) | refine arunD_kn 1 rfl (fun C hC => ?_)); (repeat ((conv => whnf); simp [hlt, hk, hkk, hkn, hwi, strsE_len])); refine hC _ ?_; clear hC C; simp only [List.drop, Nat.reduceAdd]) | (refine arun_skip ?_ ?_; (focus (simp [awant, hlt, hk, hkk, hkn, hwi, strsE_len]; done))) | (refine arun_c0 (pk) ?_; rintro _ rfl) | (refine arunD_skip ?_ ?_; (focus (simp [awant, hlt, hk, hkk, hkn, hwi, strsE_len]; done))) | (refine AW.regionK [] (fun K hK => ?_)) | (refine AW.regionDK [] (pcs [] []) (by kernel_rfl) (by kernel_rfl) (fun K hK => ?_)) | (refine AW.condT ?_ ?_; (focus (simp [aev, hlt, hk, hkk, hkn, hwi, strsE_len]; done))) | (refine AW.condF ?_ ?_; (focus (simp [aev, hlt, hk, hkk, hkn, hwi, strsE_len]; done))) | with_reducible refine AW.block ?_ | ((first | ((first | refine arun_nil ?_ | refine arunD_nil ?_); refine hK _ ?_; clear hK K) | refine AW.skip ?_ | refine AW.exit ?_ | refine AW.ret ?_); simp only [thenA_exit, inBlockA_exit, if_true, if_false, Nat.reduceEqDiff, thenA_normal, inBlockA_normal, reduceIte, thenA_ret, inBlockA_ret, endQ_ret, endR_ret, endG_ret, endQ_normal, endR_normal, endG_normal])))
      generalize r = m at *
      refine ⟨(i + 1, m), by dsimp only; omega, ⟨by dsimp only; omega, hnext, hf⟩, ?_⟩
      dsimp only
      rw [nodeL_eq m]
      exact (less_of (by simp [lessL, mkSt, slots, zeroN, nodeN, namesRow, nodeO, kidsRow]) (by simp [upd, mkSt, rowsOf_cons, zeroN, nodeN, namesRow, nodeO, kidsRow]) (by simp [upd, mkSt, usedOf_cons, zeroN, nodeN, namesRow, nodeO, kidsRow]) (by first | exact rd_less (by omega) | simp [mkSt, zeroN, nodeN, namesRow, nodeO, kidsRow]) (by simp [slots, in_any, in_int, in_bool, in_str, in_ptr, in_own, in_agg, in_vnil, in_rdr, usedOf_cons, usedOf_nil, strs_in, ints_in, nodes_in, in_tup, zeroN, nodeN, namesRow, nodeO, kidsRow]) (by simp only [List.forall_mem_cons, List.not_mem_nil, false_implies, implies_true, and_true, true_and, zeroN, nodeN, namesRow, nodeO, kidsRow]; (repeat (first | with_reducible exact trivial | with_reducible refine And.intro ?_ ?_ | with_reducible exact in_int | with_reducible exact in_str | with_reducible exact in_bool | with_reducible exact strs_in _ | with_reducible exact nodes_in _ | with_reducible exact items_in _ | with_reducible exact in_vnil | with_reducible exact in_any | exact hin _ | with_reducible refine take_in ?_ | with_reducible exact strsE_in _ | with_reducible exact nodesE_in _ | with_reducible exact nodeL_in _ | with_reducible exact itemsE_in _ | with_reducible exact itemL_in _ | with_reducible refine app_in ?_ ?_ | with_reducible refine sing_in ?_ | (focus (simp [in_any, in_int, in_bool, in_str, in_ptr, in_own, in_agg, in_vnil, in_rdr, usedOf_cons, usedOf_nil, strs_in, ints_in, nodes_in, zeroN, nodeN, namesRow, nodeO, kidsRow]; done)))); done))
    · rw [hmm, if_pos rfl] at pk
      have hrm := removeAt1_AC r p.names[i] .tight (hm.w.slt hsr)
      rw [remS_w hm.w hmm, optA_eq] at hrm
      generalize dropK r p.names[i] = m at *
      unfold nodeA at hrm
      rw [nodeL_eq r] at hrm
      (repeat (first | with_reducible refine AW.seq ?_ | ((first | refine arun_kn 4 rfl (fun C hC => ?_) | refine arunD_kn 4 rfl (fun C hC => ?_)); (repeat ((conv => whnf); simp [hlt, hk, hkk, hwi, strsE_len, optL])); refine hC _ ?_; clear hC C; simp only [List.drop, Nat.reduceAdd]) | ((first | refine arun_kn 1 rfl (fun C hC => ?_) | refine arunD_kn 1 rfl (fun C hC => ?_)); (repeat ((conv => whnf); simp [hlt, hk, hkk, hwi, strsE_len, optL])); refine hC _ ?_; clear hC C; simp only [List.drop, Nat.reduceAdd]) | (refine arun_skip ?_ ?_; (focus (simp [awant, hlt, hk, hkk, hwi, strsE_len, optL]; done))) | (refine arun_c0 (pk) ?_; rintro _ rfl) | (refine arun_c0 (hrm) ?_; rintro _ rfl) | (refine arunD_skip ?_ ?_; (focus (simp [awant, hlt, hk, hkk, hwi, strsE_len, optL]; done))) | (refine AW.regionK [] (fun K hK => ?_)) | (refine AW.regionDK [] (pcs [] []) (by kernel_rfl) (by kernel_rfl) (fun K hK => ?_)) | (refine AW.condT ?_ ?_; (focus (simp [aev, hlt, hk, hkk, hwi, strsE_len, optL]; done))) | (refine AW.condF ?_ ?_; (focus (simp [aev, hlt, hk, hkk, hwi, strsE_len, optL]; done))) | with_reducible refine AW.block ?_ | ((first | ((first | refine arun_nil ?_ | refine arunD_nil ?_); refine hK _ ?_; clear hK K) | refine AW.skip ?_ | refine AW.exit ?_ | refine AW.ret ?_); simp only [thenA_exit, inBlockA_exit, if_true, if_false, Nat.reduceEqDiff, thenA_normal, inBlockA_normal, reduceIte, thenA_ret, inBlockA_ret, endQ_ret, endR_ret, endG_ret, endQ_normal, endR_normal, endG_normal])))
      refine ⟨(i + 1, m), by dsimp only; omega, ⟨by dsimp only; omega, hnext, hf⟩, ?_⟩
      dsimp only
      rw [nodeL_eq m]
      exact (less_of (by simp [lessL, mkSt, slots, zeroN, nodeN, namesRow, nodeO, kidsRow]) (by simp [upd, mkSt, rowsOf_cons, zeroN, nodeN, namesRow, nodeO, kidsRow]) (by simp [upd, mkSt, usedOf_cons, zeroN, nodeN, namesRow, nodeO, kidsRow]) (by first | exact rd_less (by omega) | simp [mkSt, zeroN, nodeN, namesRow, nodeO, kidsRow]) (by simp [slots, in_any, in_int, in_bool, in_str, in_ptr, in_own, in_agg, in_vnil, in_rdr, usedOf_cons, usedOf_nil, strs_in, ints_in, nodes_in, in_tup, zeroN, nodeN, namesRow, nodeO, kidsRow]) (by simp only [List.forall_mem_cons, List.not_mem_nil, false_implies, implies_true, and_true, true_and, zeroN, nodeN, namesRow, nodeO, kidsRow]; (repeat (first | with_reducible exact trivial | with_reducible refine And.intro ?_ ?_ | with_reducible exact in_int | with_reducible exact in_str | with_reducible exact in_bool | with_reducible exact strs_in _ | with_reducible exact nodes_in _ | with_reducible exact items_in _ | with_reducible exact in_vnil | with_reducible exact in_any | exact hin _ | with_reducible refine take_in ?_ | with_reducible exact strsE_in _ | with_reducible exact nodesE_in _ | with_reducible exact nodeL_in _ | with_reducible exact itemsE_in _ | with_reducible exact itemL_in _ | with_reducible refine app_in ?_ ?_ | with_reducible refine sing_in ?_ | (focus (simp [in_any, in_int, in_bool, in_str, in_ptr, in_own, in_agg, in_vnil, in_rdr, usedOf_cons, usedOf_nil, strs_in, ints_in, nodes_in, zeroN, nodeN, namesRow, nodeO, kidsRow]; done)))); done))
  · have h0 : ¬ p.kids[i].kind = 0 := by simpa using hkk
    have hkn : (p.kids[i].kind != 0) = true := by simpa using h0
    have hst : stepN r p.names[i] p.kids[i] = putK r p.names[i] (mrg p.kids[i] (kidOf r p.names[i])) := by unfold stepN; rw [if_neg h0]
    rw [hst] at hf hnext
    have hold := base_old hn p.names[i]
    rw [← hm.kid hp h4 hn hlt] at hold
    have hmg := ih _ (List.getElem_mem hk) _ hold
    have hys := mrg_sml p.kids[i] (hp.kid (List.getElem_mem hk)) _ hold
    cases hmm : mem r.names p.names[i]
    · rw [hmm, if_neg (by simp)] at pk
      have hah := addHereG_AC r (mrg p.kids[i] (kidOf r p.names[i])) p.names[i] (hm.w.slt hsr) hys
      rw [addK_w hm.w hmm, optA_eq] at hah
      rw [kidOf_no hmm] at hmg hah hf hnext
      have hcz : Clo (.agg [.int .i64 0, .int .i64 0, .str ⟨#[]⟩, .view .tight 0 [], .view .tight 0 []]) := (node0_pur 0 0 ⟨#[]⟩).clo
      have hmz := hmg.argsW (a := .agg [.int .i64 0, .int .i64 0, .str ⟨#[]⟩, .view .tight 0 [], .view .tight 0 []]) zero_wk
      generalize mrg p.kids[i] Nd.zero = y at *
      generalize putK r p.names[i] y = m at *
      unfold nodeA at hmz hah
      rw [nodeL_eq p.kids[i], nodeL_eq y] at hmz
      rw [nodeL_eq y, nodeL_eq r] at hah
      (repeat (first | with_reducible refine AW.seq ?_ | ((first | refine arun_kn 4 rfl (fun C hC => ?_) | refine arunD_kn 4 rfl (fun C hC => ?_)); (repeat ((conv => whnf); simp [hlt, hk, hkk, hkn, hwi, strsE_len, optL])); refine hC _ ?_; clear hC C; simp only [List.drop, Nat.reduceAdd]) | ((first | refine arun_kn 1 rfl (fun C hC => ?_) | refine arunD_kn 1 rfl (fun C hC => ?_)); (repeat ((conv => whnf); simp [hlt, hk, hkk, hkn, hwi, strsE_len, optL])); refine hC _ ?_; clear hC C; simp only [List.drop, Nat.reduceAdd]) | (refine arun_skip ?_ ?_; (focus (simp [awant, hlt, hk, hkk, hkn, hwi, strsE_len, optL]; done))) | (refine arun_c0 (pk) ?_; rintro _ rfl) | (refine arun_c0 (hmz) ?_; rintro _ rfl) | (refine arun_c0 (hah) ?_; rintro _ rfl) | (refine arunD_skip ?_ ?_; (focus (simp [awant, hlt, hk, hkk, hkn, hwi, strsE_len, optL]; done))) | (refine arunD_c (0) (pk) ?_; rintro _ rfl; intro _) | (refine arunD_cE (0) (hmz) (by exact ⟨_, rfl, nodeA_noid y⟩) ?_; rintro _ rfl; intro _) | (refine arunD_cE (0) (hah) (by exact ⟨_, rfl, optL_noid m⟩) ?_; rintro _ rfl; intro _) | (refine AW.regionK [] (fun K hK => ?_)) | (refine AW.regionDK [] (pcs [(8, 0, fun r => r = .agg [.int .i64 y.kind, .int .i64 y.num, .str y.text, .view .loose 1 (strsE y.names), .view .loose 5 (y.kids.map nodeL)]), (9, 0, fun r => r = optL (some m))] []) (by kernel_rfl) (by kernel_rfl) (fun K hK => ?_)) | (refine AW.condT ?_ ?_; (focus (simp [aev, hlt, hk, hkk, hkn, hwi, strsE_len, optL]; done))) | (refine AW.condF ?_ ?_; (focus (simp [aev, hlt, hk, hkk, hkn, hwi, strsE_len, optL]; done))) | with_reducible refine AW.block ?_ | ((first | ((first | refine arun_nil ?_ | refine arunD_nil ?_); refine hK _ ?_; clear hK K) | refine AW.skip ?_ | refine AW.exit ?_ | refine AW.ret ?_); simp only [thenA_exit, inBlockA_exit, if_true, if_false, Nat.reduceEqDiff, thenA_normal, inBlockA_normal, reduceIte, thenA_ret, inBlockA_ret, endQ_ret, endR_ret, endG_ret, endQ_normal, endR_normal, endG_normal])))
      refine ⟨(i + 1, m), by dsimp only; omega, ⟨by dsimp only; omega, hnext, hf⟩, ?_⟩
      dsimp only
      rw [nodeL_eq m]
      exact (less_of (by simp [lessL, mkSt, slots, zeroN, nodeN, namesRow, nodeO, kidsRow]) (by simp [upd, mkSt, rowsOf_cons, zeroN, nodeN, namesRow, nodeO, kidsRow]) (by simp [upd, mkSt, usedOf_cons, zeroN, nodeN, namesRow, nodeO, kidsRow]) (by first | exact rd_less (by omega) | simp [mkSt, zeroN, nodeN, namesRow, nodeO, kidsRow]) (by simp [slots, in_any, in_int, in_bool, in_str, in_ptr, in_own, in_agg, in_vnil, in_rdr, usedOf_cons, usedOf_nil, strs_in, ints_in, nodes_in, in_tup, zeroN, nodeN, namesRow, nodeO, kidsRow]) (by simp only [List.forall_mem_cons, List.not_mem_nil, false_implies, implies_true, and_true, true_and, zeroN, nodeN, namesRow, nodeO, kidsRow]; (repeat (first | with_reducible exact trivial | with_reducible refine And.intro ?_ ?_ | with_reducible exact in_int | with_reducible exact in_str | with_reducible exact in_bool | with_reducible exact strs_in _ | with_reducible exact nodes_in _ | with_reducible exact items_in _ | with_reducible exact in_vnil | with_reducible exact in_any | exact hin _ | with_reducible refine take_in ?_ | with_reducible exact strsE_in _ | with_reducible exact nodesE_in _ | with_reducible exact nodeL_in _ | with_reducible exact itemsE_in _ | with_reducible exact itemL_in _ | with_reducible refine app_in ?_ ?_ | with_reducible refine sing_in ?_ | (focus (simp [in_any, in_int, in_bool, in_str, in_ptr, in_own, in_agg, in_vnil, in_rdr, usedOf_cons, usedOf_nil, strs_in, ints_in, nodes_in, zeroN, nodeN, namesRow, nodeO, kidsRow]; done)))); done))
    · rw [hmm, if_pos rfl] at pk
      have hlb := lbn_lt hm.w.asc hmm
      have hlk : lbound r.names p.names[i] < r.kids.length := by omega
      have hwk := withKid_AC r (mrg p.kids[i] (kidOf r p.names[i])) (lbound r.names p.names[i]) hsr hys hlk
      rw [setK_w hmm] at hwk
      generalize hy : mrg p.kids[i] (kidOf r p.names[i]) = y at *
      clear hy
      generalize putK r p.names[i] y = m at *
      rw [kidOf_yes hmm hlk] at hmg
      unfold nodeA at hmg hwk
      rw [nodeL_eq p.kids[i], nodeL_eq y, nodeL_eq r.kids[lbound r.names p.names[i]]] at hmg
      rw [nodeL_eq y, nodeL_eq r, nodeL_eq m] at hwk
      generalize lbound r.names p.names[i] = lb at *
      (repeat (first | with_reducible refine AW.seq ?_ | ((first | refine arun_kn 4 rfl (fun C hC => ?_) | refine arunD_kn 4 rfl (fun C hC => ?_)); (repeat ((conv => whnf); simp [hlt, hk, hkk, hkn, hwi, hlk, strsE_len])); refine hC _ ?_; clear hC C; simp only [List.drop, Nat.reduceAdd]) | ((first | refine arun_kn 1 rfl (fun C hC => ?_) | refine arunD_kn 1 rfl (fun C hC => ?_)); (repeat ((conv => whnf); simp [hlt, hk, hkk, hkn, hwi, hlk, strsE_len])); refine hC _ ?_; clear hC C; simp only [List.drop, Nat.reduceAdd]) | (refine arun_skip ?_ ?_; (focus (simp [awant, hlt, hk, hkk, hkn, hwi, hlk, strsE_len]; done))) | (refine arun_c0 (pk) ?_; rintro _ rfl) | (refine arun_c0 (hmg) ?_; rintro _ rfl) | (refine arun_c0 (hwk) ?_; rintro _ rfl) | (refine arunD_skip ?_ ?_; (focus (simp [awant, hlt, hk, hkk, hkn, hwi, hlk, strsE_len]; done))) | (refine arunD_c (0) (pk) ?_; rintro _ rfl; intro _) | (refine arunD_cE (0) (hmg) (by exact ⟨_, rfl, nodeA_noid y⟩) ?_; rintro _ rfl; intro _) | (refine arunD_cE (0) (hwk) (by exact ⟨_, rfl, nodeA_noid m⟩) ?_; rintro _ rfl; intro _) | (refine AW.regionK [] (fun K hK => ?_)) | (refine AW.regionDK [] (pcs [(12, 0, fun r => r = .agg [.int .i64 y.kind, .int .i64 y.num, .str y.text, .view .loose 1 (strsE y.names), .view .loose 5 (y.kids.map nodeL)]), (13, 0, fun r => r = .agg [.int .i64 m.kind, .int .i64 m.num, .str m.text, .view .loose 1 (strsE m.names), .view .loose 5 (m.kids.map nodeL)])] []) (by kernel_rfl) (by kernel_rfl) (fun K hK => ?_)) | (refine AW.condT ?_ ?_; (focus (simp [aev, hlt, hk, hkk, hkn, hwi, hlk, strsE_len]; done))) | (refine AW.condF ?_ ?_; (focus (simp [aev, hlt, hk, hkk, hkn, hwi, hlk, strsE_len]; done))) | with_reducible refine AW.block ?_ | ((first | ((first | refine arun_nil ?_ | refine arunD_nil ?_); refine hK _ ?_; clear hK K) | refine AW.skip ?_ | refine AW.exit ?_ | refine AW.ret ?_); simp only [thenA_exit, inBlockA_exit, if_true, if_false, Nat.reduceEqDiff, thenA_normal, inBlockA_normal, reduceIte, thenA_ret, inBlockA_ret, endQ_ret, endR_ret, endG_ret, endQ_normal, endR_normal, endG_normal])))
      refine ⟨(i + 1, m), by dsimp only; omega, ⟨by dsimp only; omega, hnext, hf⟩, ?_⟩
      dsimp only
      rw [nodeL_eq m]
      exact (less_of (by simp [lessL, mkSt, slots, zeroN, nodeN, namesRow, nodeO, kidsRow]) (by simp [upd, mkSt, rowsOf_cons, zeroN, nodeN, namesRow, nodeO, kidsRow]) (by simp [upd, mkSt, usedOf_cons, zeroN, nodeN, namesRow, nodeO, kidsRow]) (by first | exact rd_less (by omega) | simp [mkSt, zeroN, nodeN, namesRow, nodeO, kidsRow]) (by simp [slots, in_any, in_int, in_bool, in_str, in_ptr, in_own, in_agg, in_vnil, in_rdr, usedOf_cons, usedOf_nil, strs_in, ints_in, nodes_in, in_tup, zeroN, nodeN, namesRow, nodeO, kidsRow]) (by simp only [List.forall_mem_cons, List.not_mem_nil, false_implies, implies_true, and_true, true_and, zeroN, nodeN, namesRow, nodeO, kidsRow]; (repeat (first | with_reducible exact trivial | with_reducible refine And.intro ?_ ?_ | with_reducible exact in_int | with_reducible exact in_str | with_reducible exact in_bool | with_reducible exact strs_in _ | with_reducible exact nodes_in _ | with_reducible exact items_in _ | with_reducible exact in_vnil | with_reducible exact in_any | exact hin _ | with_reducible refine take_in ?_ | with_reducible exact strsE_in _ | with_reducible exact nodesE_in _ | with_reducible exact nodeL_in _ | with_reducible exact itemsE_in _ | with_reducible exact itemL_in _ | with_reducible refine app_in ?_ ?_ | with_reducible refine sing_in ?_ | (focus (simp [in_any, in_int, in_bool, in_str, in_ptr, in_own, in_agg, in_vnil, in_rdr, usedOf_cons, usedOf_nil, strs_in, ints_in, nodes_in, zeroN, nodeN, namesRow, nodeO, kidsRow]; done)))); done))
theorem merge_AC : ∀ p, Shp p → ∀ n, Shp n → AC Try.prog 66 [nodeA n, nodeA p] 0 (fun r => r = nodeA (mrg p n)) := Nd.ind' _ (fun p ih hp n hn =>
  merge_step p n hp hn (fun k hk m hm => ih k hk (hp.kid hk) m hm))
end Go.Proofs.Ytiobnaielfeeaaa.Eng
namespace Go.Proofs.Ytiobnaielfeeaaa.Eng
open Go Go.RowKit
attribute [local simp] big size_mk ASt.pay Option.map_map Function.comp_def awant aop acall ado aev ofVal ofVal0 ASt.put ASt.add ASt.turn ASt.kill abox aalloc astore aload ASt.at cellsTo afieldAddr afield aindexAddr aindex alen abin aint acmp astr aun apick aextract anil aslice abound abuild afill abuildSlice asCells aps avCells over upd aappend asrc amax amin aconv mkSt slots rowsOf_cons rowsOf_nil usedOf_cons usedOf_nil ZK.av List.replicate ASt.back ASt.addL ASt.killL nodeA nodeT nodeTL_eq nodeL_eq strsE_get strsE_len intsE_get intsE_len strsE_at intsE_at tab2 tab3 tab4 tab5 tab6 tab7 tab8 tab9 tab10 tab11 tab12 tab13 tab14 tab15 tab16 tab17 tab18 tab19 tab21 tab22 tab23 tab24 tab25 tab26 tab27 tab28 tab29 tab30 tab48 tab51 tab52 tab59 tab77 tab78 tab79 tab91 tab95 tab96 tab97 tab109 tab116 tab132 tab133 tab138 tab139 tab144 tab145 tab146 tab148 tab149 tab150
theorem eqT_dec : ∀ xs ys : List ByteArray, eqT xs ys = decide (xs = ys)
  | [], [] => by simp [eqT]
  | [], _ :: _ => by simp [eqT]
  | _ :: _, [] => by simp [eqT]
  | x :: xs, y :: ys => by
    rw [eqT, eqT_dec xs ys]
    cases h : eqs x y
    · have : x ≠ y := eqs_false.1 h
      simp [this]
    · have : x = y := eqs_iff.1 h
      simp [this]
theorem eqs_dec (x y : ByteArray) : eqs x y = decide (x = y) := by
  cases h : eqs x y
  · have : x ≠ y := eqs_false.1 h
    simp [this]
  · have : x = y := eqs_iff.1 h
    simp [this]
theorem eqN_T (a b : Nd) : eqN a b = ((a.kind == b.kind) && (a.num == b.num) && eqs a.text b.text && eqT a.names b.names && eqL a.kids b.kids) := by
  rw [eqN_eq, eqT_dec, eqs_dec]
  congr 4
theorem equalNodesG_step (t t' : VC) (ks js : List Nd) (hn : ks.length ≤ 1000000) (ih : ∀ k ∈ ks, ∀ j, AC Try.prog 24 [nodeA k, nodeA j] 0 (fun r => r = .bool (eqN k j))) : AC Try.prog 50 [.view t 5 (ks.map nodeL), .view t' 5 (js.map nodeL)] 0 (fun r => r = .bool (eqL ks js)) := by
  refine AC.of tab_ok mixed_ok Try.func50 (by rfl) (by kernel_rfl) ?_; rintro ⟨P, T, hT, hm, w0, S0, rd0, k0⟩ hP hTT; dsimp only at hP hTT; subst hP hTT; unfold initSt; rw [Try.ntmps50]
  by_cases hlen : ks.length = js.length
  · have hlen' : ((ks.length : Int) != (js.length : Int)) = false := by rw [hlen]; simp
    (repeat (first | with_reducible refine AW.seq ?_ | ((first | refine arun_kn 4 rfl (fun C hC => ?_) | refine arunD_kn 4 rfl (fun C hC => ?_)); (repeat ((conv => whnf); simp [List.length_map, hlen'])); refine hC _ ?_; clear hC C; simp only [List.drop, Nat.reduceAdd]) | ((first | refine arun_kn 1 rfl (fun C hC => ?_) | refine arunD_kn 1 rfl (fun C hC => ?_)); (repeat ((conv => whnf); simp [List.length_map, hlen'])); refine hC _ ?_; clear hC C; simp only [List.drop, Nat.reduceAdd]) | (refine arun_skip ?_ ?_; (focus (simp [awant, List.length_map, hlen']; done))) | (refine AW.regionK [] (fun K hK => ?_)) | (refine AW.regionDK [] (pcs [] []) (by kernel_rfl) (by kernel_rfl) (fun K hK => ?_)) | (refine AW.condT ?_ ?_; (focus (simp [aev, List.length_map, hlen']; done))) | (refine AW.condF ?_ ?_; (focus (simp [aev, List.length_map, hlen']; done))) | with_reducible refine AW.block ?_ | ((first | ((first | refine arun_nil ?_ | refine arunD_nil ?_); refine hK _ ?_; clear hK K) | refine AW.skip ?_ | refine AW.exit ?_ | refine AW.ret ?_); simp only [thenA_exit, inBlockA_exit, if_true, if_false, Nat.reduceEqDiff, thenA_normal, inBlockA_normal, reduceIte, thenA_ret, inBlockA_ret, endQ_ret, endR_ret, endG_ret, endQ_normal, endR_normal, endG_normal])))
    refine AW.loopS (fun (i : Nat) => mkSt (slots 0 27 [(0, .view t 5 (ks.map nodeL)), (1, .view t' 5 (js.map nodeL)), (5, .int .i64 i)]) [] [] (rd0.map fun _ => 0)) (fun i => ks.length - i) (fun i => i ≤ ks.length ∧ eqL ks js = eqL (ks.drop i) (js.drop i)) 0 ?_ ⟨Nat.zero_le _, rfl⟩ ?_
    · exact less_a
    · rintro i ⟨hi, hf⟩
      by_cases hlt : i < ks.length
      · have hlt2 : i < js.length := by omega
        have hw : IntKind.i64.wrap ((i : Int) + 1) = (i : Int) + 1 := i64_nat (by omega) (by omega)
        have hik := ih ks[i] (List.getElem_mem hlt) js[i]
        rw [List.drop_eq_getElem_cons hlt, List.drop_eq_getElem_cons hlt2, eqL] at hf
        cases hb : eqN ks[i] js[i]
        · rw [hb] at hf hik
          (repeat (first | with_reducible refine AW.seq ?_ | ((first | refine arun_kn 4 rfl (fun C hC => ?_) | refine arunD_kn 4 rfl (fun C hC => ?_)); (repeat ((conv => whnf); simp [hlt, hlt2, hw, List.length_map])); refine hC _ ?_; clear hC C; simp only [List.drop, Nat.reduceAdd]) | ((first | refine arun_kn 1 rfl (fun C hC => ?_) | refine arunD_kn 1 rfl (fun C hC => ?_)); (repeat ((conv => whnf); simp [hlt, hlt2, hw, List.length_map])); refine hC _ ?_; clear hC C; simp only [List.drop, Nat.reduceAdd]) | (refine arun_skip ?_ ?_; (focus (simp [awant, hlt, hlt2, hw, List.length_map]; done))) | (refine arun_c0 (hik) ?_; rintro _ rfl) | (refine arunD_c (0) (hik) ?_; rintro _ rfl; intro _) | (refine AW.regionK [] (fun K hK => ?_)) | (refine AW.regionDK [] (pcs [(8, 0, fun r => r = .bool false)] []) (by kernel_rfl) (by kernel_rfl) (fun K hK => ?_)) | (refine AW.condT ?_ ?_; (focus (simp [aev, hlt, hlt2, hw, List.length_map]; done))) | (refine AW.condF ?_ ?_; (focus (simp [aev, hlt, hlt2, hw, List.length_map]; done))) | with_reducible refine AW.block ?_ | ((first | ((first | refine arun_nil ?_ | refine arunD_nil ?_); refine hK _ ?_; clear hK K) | refine AW.skip ?_ | refine AW.exit ?_ | refine AW.ret ?_); simp only [thenA_exit, inBlockA_exit, if_true, if_false, Nat.reduceEqDiff, thenA_normal, inBlockA_normal, reduceIte, thenA_ret, inBlockA_ret, endQ_ret, endR_ret, endG_ret, endQ_normal, endR_normal, endG_normal])))
          exact ⟨.bool false, by simp [ares, aresL], pur_bool, by rw [hf]; rfl⟩
        · rw [hb] at hf hik
          (repeat (first | with_reducible refine AW.seq ?_ | ((first | refine arun_kn 4 rfl (fun C hC => ?_) | refine arunD_kn 4 rfl (fun C hC => ?_)); (repeat ((conv => whnf); simp [hlt, hlt2, hw, List.length_map])); refine hC _ ?_; clear hC C; simp only [List.drop, Nat.reduceAdd]) | ((first | refine arun_kn 1 rfl (fun C hC => ?_) | refine arunD_kn 1 rfl (fun C hC => ?_)); (repeat ((conv => whnf); simp [hlt, hlt2, hw, List.length_map])); refine hC _ ?_; clear hC C; simp only [List.drop, Nat.reduceAdd]) | (refine arun_skip ?_ ?_; (focus (simp [awant, hlt, hlt2, hw, List.length_map]; done))) | (refine arun_c0 (hik) ?_; rintro _ rfl) | (refine arunD_c (0) (hik) ?_; rintro _ rfl; intro _) | (refine AW.regionK [] (fun K hK => ?_)) | (refine AW.regionDK [] (pcs [(8, 0, fun r => r = .bool true)] []) (by kernel_rfl) (by kernel_rfl) (fun K hK => ?_)) | (refine AW.condT ?_ ?_; (focus (simp [aev, hlt, hlt2, hw, List.length_map]; done))) | (refine AW.condF ?_ ?_; (focus (simp [aev, hlt, hlt2, hw, List.length_map]; done))) | with_reducible refine AW.block ?_ | ((first | ((first | refine arun_nil ?_ | refine arunD_nil ?_); refine hK _ ?_; clear hK K) | refine AW.skip ?_ | refine AW.exit ?_ | refine AW.ret ?_); simp only [thenA_exit, inBlockA_exit, if_true, if_false, Nat.reduceEqDiff, thenA_normal, inBlockA_normal, reduceIte, thenA_ret, inBlockA_ret, endQ_ret, endR_ret, endG_ret, endQ_normal, endR_normal, endG_normal])))
          exact ⟨i + 1, by omega, ⟨by omega, by rw [hf]; simp⟩, less_a⟩
      · rw [List.drop_eq_nil_of_le (by omega), List.drop_eq_nil_of_le (by omega)] at hf
        (repeat (first | with_reducible refine AW.seq ?_ | ((first | refine arun_kn 4 rfl (fun C hC => ?_) | refine arunD_kn 4 rfl (fun C hC => ?_)); (repeat ((conv => whnf); simp [hlt, List.length_map])); refine hC _ ?_; clear hC C; simp only [List.drop, Nat.reduceAdd]) | ((first | refine arun_kn 1 rfl (fun C hC => ?_) | refine arunD_kn 1 rfl (fun C hC => ?_)); (repeat ((conv => whnf); simp [hlt, List.length_map])); refine hC _ ?_; clear hC C; simp only [List.drop, Nat.reduceAdd]) | (refine arun_skip ?_ ?_; (focus (simp [awant, hlt, List.length_map]; done))) | (refine AW.regionK [] (fun K hK => ?_)) | (refine AW.regionDK [] (pcs [] []) (by kernel_rfl) (by kernel_rfl) (fun K hK => ?_)) | (refine AW.condT ?_ ?_; (focus (simp [aev, hlt, List.length_map]; done))) | (refine AW.condF ?_ ?_; (focus (simp [aev, hlt, List.length_map]; done))) | with_reducible refine AW.block ?_ | ((first | ((first | refine arun_nil ?_ | refine arunD_nil ?_); refine hK _ ?_; clear hK K) | refine AW.skip ?_ | refine AW.exit ?_ | refine AW.ret ?_); simp only [thenA_exit, inBlockA_exit, if_true, if_false, Nat.reduceEqDiff, thenA_normal, inBlockA_normal, reduceIte, thenA_ret, inBlockA_ret, endQ_ret, endR_ret, endG_ret, endQ_normal, endR_normal, endG_normal])))
        exact ⟨.bool true, by simp [ares, aresL], pur_bool, by rw [hf]; rfl⟩
  · have hlen' : ((ks.length : Int) != (js.length : Int)) = true := by simp; omega
    (repeat (first | with_reducible refine AW.seq ?_ | ((first | refine arun_kn 4 rfl (fun C hC => ?_) | refine arunD_kn 4 rfl (fun C hC => ?_)); (repeat ((conv => whnf); simp [List.length_map, hlen'])); refine hC _ ?_; clear hC C; simp only [List.drop, Nat.reduceAdd]) | ((first | refine arun_kn 1 rfl (fun C hC => ?_) | refine arunD_kn 1 rfl (fun C hC => ?_)); (repeat ((conv => whnf); simp [List.length_map, hlen'])); refine hC _ ?_; clear hC C; simp only [List.drop, Nat.reduceAdd]) | (refine arun_skip ?_ ?_; (focus (simp [awant, List.length_map, hlen']; done))) | (refine AW.regionK [] (fun K hK => ?_)) | (refine AW.regionDK [] (pcs [] []) (by kernel_rfl) (by kernel_rfl) (fun K hK => ?_)) | (refine AW.condT ?_ ?_; (focus (simp [aev, List.length_map, hlen']; done))) | (refine AW.condF ?_ ?_; (focus (simp [aev, List.length_map, hlen']; done))) | with_reducible refine AW.block ?_ | ((first | ((first | refine arun_nil ?_ | refine arunD_nil ?_); refine hK _ ?_; clear hK K) | refine AW.skip ?_ | refine AW.exit ?_ | refine AW.ret ?_); simp only [thenA_exit, inBlockA_exit, if_true, if_false, Nat.reduceEqDiff, thenA_normal, inBlockA_normal, reduceIte, thenA_ret, inBlockA_ret, endQ_ret, endR_ret, endG_ret, endQ_normal, endR_normal, endG_normal])))
    exact ⟨.bool false, by simp [ares, aresL], pur_bool, by rw [eqL_len hlen]⟩
theorem equalNodeG_step (n m : Nd) (hs : Sml n) (t t' : VC) (ih : ∀ k ∈ n.kids, ∀ j, AC Try.prog 24 [nodeA k, nodeA j] 0 (fun r => r = .bool (eqN k j))) : AC Try.prog 24 [nodeT t n, nodeT t' m] 0 (fun r => r = .bool (eqN n m)) := by
  have hs1 := hs.names
  have hs2 := hs.kids
  have p1 := equalTexts_AC t t' n.names m.names (by omega)
  have p2 := equalNodesG_step .loose .loose n.kids m.kids (by omega) ih
  rw [eqN_T]
  refine AC.of tab_ok mixed_ok Try.func24 (by rfl) (by kernel_rfl) ?_; rintro ⟨P, T, hT, hm, w0, S0, rd0, k0⟩ hP hTT; dsimp only at hP hTT; subst hP hTT; unfold initSt; rw [Try.ntmps24]
  unfold nodeT
  rw [nodeTL_eq, nodeTL_eq]
  cases e1 : (n.kind == m.kind)
  · (repeat (first | with_reducible refine AW.seq ?_ | ((first | refine arun_kn 4 rfl (fun C hC => ?_) | refine arunD_kn 4 rfl (fun C hC => ?_)); (repeat ((conv => whnf); simp [e1, nodeTL_eq])); refine hC _ ?_; clear hC C; simp only [List.drop, Nat.reduceAdd]) | ((first | refine arun_kn 1 rfl (fun C hC => ?_) | refine arunD_kn 1 rfl (fun C hC => ?_)); (repeat ((conv => whnf); simp [e1, nodeTL_eq])); refine hC _ ?_; clear hC C; simp only [List.drop, Nat.reduceAdd]) | (refine arun_skip ?_ ?_; (focus (simp [awant, e1, nodeTL_eq]; done))) | (refine AW.regionK [] (fun K hK => ?_)) | (refine AW.regionDK [] (pcs [] []) (by kernel_rfl) (by kernel_rfl) (fun K hK => ?_)) | (refine AW.condT ?_ ?_; (focus (simp [aev, e1, nodeTL_eq]; done))) | (refine AW.condF ?_ ?_; (focus (simp [aev, e1, nodeTL_eq]; done))) | with_reducible refine AW.block ?_ | ((first | ((first | refine arun_nil ?_ | refine arunD_nil ?_); refine hK _ ?_; clear hK K) | refine AW.skip ?_ | refine AW.exit ?_ | refine AW.ret ?_); simp only [thenA_exit, inBlockA_exit, if_true, if_false, Nat.reduceEqDiff, thenA_normal, inBlockA_normal, reduceIte, thenA_ret, inBlockA_ret, endQ_ret, endR_ret, endG_ret, endQ_normal, endR_normal, endG_normal])))
    exact ⟨.bool false, by simp [ares, aresL], pur_bool, rfl⟩
  cases e2 : (n.num == m.num)
  · (repeat (first | with_reducible refine AW.seq ?_ | ((first | refine arun_kn 4 rfl (fun C hC => ?_) | refine arunD_kn 4 rfl (fun C hC => ?_)); (repeat ((conv => whnf); simp [e1, e2, nodeTL_eq])); refine hC _ ?_; clear hC C; simp only [List.drop, Nat.reduceAdd]) | ((first | refine arun_kn 1 rfl (fun C hC => ?_) | refine arunD_kn 1 rfl (fun C hC => ?_)); (repeat ((conv => whnf); simp [e1, e2, nodeTL_eq])); refine hC _ ?_; clear hC C; simp only [List.drop, Nat.reduceAdd]) | (refine arun_skip ?_ ?_; (focus (simp [awant, e1, e2, nodeTL_eq]; done))) | (refine AW.regionK [] (fun K hK => ?_)) | (refine AW.regionDK [] (pcs [] []) (by kernel_rfl) (by kernel_rfl) (fun K hK => ?_)) | (refine AW.condT ?_ ?_; (focus (simp [aev, e1, e2, nodeTL_eq]; done))) | (refine AW.condF ?_ ?_; (focus (simp [aev, e1, e2, nodeTL_eq]; done))) | with_reducible refine AW.block ?_ | ((first | ((first | refine arun_nil ?_ | refine arunD_nil ?_); refine hK _ ?_; clear hK K) | refine AW.skip ?_ | refine AW.exit ?_ | refine AW.ret ?_); simp only [thenA_exit, inBlockA_exit, if_true, if_false, Nat.reduceEqDiff, thenA_normal, inBlockA_normal, reduceIte, thenA_ret, inBlockA_ret, endQ_ret, endR_ret, endG_ret, endQ_normal, endR_normal, endG_normal])))
    exact ⟨.bool false, by simp [ares, aresL], pur_bool, rfl⟩
  cases e3 : eqs n.text m.text
  · (repeat (first | with_reducible refine AW.seq ?_ | ((first | refine arun_kn 4 rfl (fun C hC => ?_) | refine arunD_kn 4 rfl (fun C hC => ?_)); (repeat ((conv => whnf); simp [e1, e2, e3, nodeTL_eq])); refine hC _ ?_; clear hC C; simp only [List.drop, Nat.reduceAdd]) | ((first | refine arun_kn 1 rfl (fun C hC => ?_) | refine arunD_kn 1 rfl (fun C hC => ?_)); (repeat ((conv => whnf); simp [e1, e2, e3, nodeTL_eq])); refine hC _ ?_; clear hC C; simp only [List.drop, Nat.reduceAdd]) | (refine arun_skip ?_ ?_; (focus (simp [awant, e1, e2, e3, nodeTL_eq]; done))) | (refine AW.regionK [] (fun K hK => ?_)) | (refine AW.regionDK [] (pcs [] []) (by kernel_rfl) (by kernel_rfl) (fun K hK => ?_)) | (refine AW.condT ?_ ?_; (focus (simp [aev, e1, e2, e3, nodeTL_eq]; done))) | (refine AW.condF ?_ ?_; (focus (simp [aev, e1, e2, e3, nodeTL_eq]; done))) | with_reducible refine AW.block ?_ | ((first | ((first | refine arun_nil ?_ | refine arunD_nil ?_); refine hK _ ?_; clear hK K) | refine AW.skip ?_ | refine AW.exit ?_ | refine AW.ret ?_); simp only [thenA_exit, inBlockA_exit, if_true, if_false, Nat.reduceEqDiff, thenA_normal, inBlockA_normal, reduceIte, thenA_ret, inBlockA_ret, endQ_ret, endR_ret, endG_ret, endQ_normal, endR_normal, endG_normal])))
    exact ⟨.bool false, by simp [ares, aresL], pur_bool, rfl⟩
  cases e4 : eqT n.names m.names <;> rw [e4] at p1
  · (repeat (first | with_reducible refine AW.seq ?_ | ((first | refine arun_kn 4 rfl (fun C hC => ?_) | refine arunD_kn 4 rfl (fun C hC => ?_)); (repeat ((conv => whnf); simp [e1, e2, e3, nodeTL_eq])); refine hC _ ?_; clear hC C; simp only [List.drop, Nat.reduceAdd]) | ((first | refine arun_kn 1 rfl (fun C hC => ?_) | refine arunD_kn 1 rfl (fun C hC => ?_)); (repeat ((conv => whnf); simp [e1, e2, e3, nodeTL_eq])); refine hC _ ?_; clear hC C; simp only [List.drop, Nat.reduceAdd]) | (refine arun_skip ?_ ?_; (focus (simp [awant, e1, e2, e3, nodeTL_eq]; done))) | (refine arun_c0 (p1) ?_; rintro _ rfl) | (refine AW.regionK [] (fun K hK => ?_)) | (refine AW.regionDK [] (pcs [] []) (by kernel_rfl) (by kernel_rfl) (fun K hK => ?_)) | (refine AW.condT ?_ ?_; (focus (simp [aev, e1, e2, e3, nodeTL_eq]; done))) | (refine AW.condF ?_ ?_; (focus (simp [aev, e1, e2, e3, nodeTL_eq]; done))) | with_reducible refine AW.block ?_ | ((first | ((first | refine arun_nil ?_ | refine arunD_nil ?_); refine hK _ ?_; clear hK K) | refine AW.skip ?_ | refine AW.exit ?_ | refine AW.ret ?_); simp only [thenA_exit, inBlockA_exit, if_true, if_false, Nat.reduceEqDiff, thenA_normal, inBlockA_normal, reduceIte, thenA_ret, inBlockA_ret, endQ_ret, endR_ret, endG_ret, endQ_normal, endR_normal, endG_normal])))
    exact ⟨.bool false, by simp [ares, aresL], pur_bool, rfl⟩
  cases e5 : eqL n.kids m.kids <;> rw [e5] at p2
  · (repeat (first | with_reducible refine AW.seq ?_ | ((first | refine arun_kn 4 rfl (fun C hC => ?_) | refine arunD_kn 4 rfl (fun C hC => ?_)); (repeat ((conv => whnf); simp [e1, e2, e3, nodeTL_eq])); refine hC _ ?_; clear hC C; simp only [List.drop, Nat.reduceAdd]) | ((first | refine arun_kn 1 rfl (fun C hC => ?_) | refine arunD_kn 1 rfl (fun C hC => ?_)); (repeat ((conv => whnf); simp [e1, e2, e3, nodeTL_eq])); refine hC _ ?_; clear hC C; simp only [List.drop, Nat.reduceAdd]) | (refine arun_skip ?_ ?_; (focus (simp [awant, e1, e2, e3, nodeTL_eq]; done))) | (refine arun_c0 (p1) ?_; rintro _ rfl) | (refine arun_c0 (p2) ?_; rintro _ rfl) | (refine AW.regionK [] (fun K hK => ?_)) | (refine AW.regionDK [] (pcs [] []) (by kernel_rfl) (by kernel_rfl) (fun K hK => ?_)) | (refine AW.condT ?_ ?_; (focus (simp [aev, e1, e2, e3, nodeTL_eq]; done))) | (refine AW.condF ?_ ?_; (focus (simp [aev, e1, e2, e3, nodeTL_eq]; done))) | with_reducible refine AW.block ?_ | ((first | ((first | refine arun_nil ?_ | refine arunD_nil ?_); refine hK _ ?_; clear hK K) | refine AW.skip ?_ | refine AW.exit ?_ | refine AW.ret ?_); simp only [thenA_exit, inBlockA_exit, if_true, if_false, Nat.reduceEqDiff, thenA_normal, inBlockA_normal, reduceIte, thenA_ret, inBlockA_ret, endQ_ret, endR_ret, endG_ret, endQ_normal, endR_normal, endG_normal])))
    exact ⟨.bool false, by simp [ares, aresL], pur_bool, rfl⟩
  · (repeat (first | with_reducible refine AW.seq ?_ | ((first | refine arun_kn 4 rfl (fun C hC => ?_) | refine arunD_kn 4 rfl (fun C hC => ?_)); (repeat ((conv => whnf); simp [e1, e2, e3, nodeTL_eq])); refine hC _ ?_; clear hC C; simp only [List.drop, Nat.reduceAdd]) | ((first | refine arun_kn 1 rfl (fun C hC => ?_) | refine arunD_kn 1 rfl (fun C hC => ?_)); (repeat ((conv => whnf); simp [e1, e2, e3, nodeTL_eq])); refine hC _ ?_; clear hC C; simp only [List.drop, Nat.reduceAdd]) | (refine arun_skip ?_ ?_; (focus (simp [awant, e1, e2, e3, nodeTL_eq]; done))) | (refine arun_c0 (p1) ?_; rintro _ rfl) | (refine arun_c0 (p2) ?_; rintro _ rfl) | (refine AW.regionK [] (fun K hK => ?_)) | (refine AW.regionDK [] (pcs [] []) (by kernel_rfl) (by kernel_rfl) (fun K hK => ?_)) | (refine AW.condT ?_ ?_; (focus (simp [aev, e1, e2, e3, nodeTL_eq]; done))) | (refine AW.condF ?_ ?_; (focus (simp [aev, e1, e2, e3, nodeTL_eq]; done))) | with_reducible refine AW.block ?_ | ((first | ((first | refine arun_nil ?_ | refine arunD_nil ?_); refine hK _ ?_; clear hK K) | refine AW.skip ?_ | refine AW.exit ?_ | refine AW.ret ?_); simp only [thenA_exit, inBlockA_exit, if_true, if_false, Nat.reduceEqDiff, thenA_normal, inBlockA_normal, reduceIte, thenA_ret, inBlockA_ret, endQ_ret, endR_ret, endG_ret, endQ_normal, endR_normal, endG_normal])))
    exact ⟨.bool true, by simp [ares, aresL], pur_bool, rfl⟩
theorem equalNodeG_AC : ∀ n, Sml n → ∀ m t t', AC Try.prog 24 [nodeT t n, nodeT t' m] 0 (fun r => r = .bool (eqN n m)) := Nd.ind' _ (fun n ih hs m t t' =>
  equalNodeG_step n m hs t t' (fun k hk j => by have := ih k hk (hs.kid hk) j .loose .loose; rwa [nodeT_loose, nodeT_loose] at this))
end Go.Proofs.Ytiobnaielfeeaaa.Eng
-- EV: rows skip
namespace Go.Proofs.Ytiobnaielfeeaaa.Eng
open Go Go.RowKit
attribute [local simp] big size_mk ASt.pay Option.map_map Function.comp_def awant aop acall ado aev ofVal ofVal0 ASt.put ASt.add ASt.turn ASt.kill abox aalloc astore aload ASt.at cellsTo afieldAddr afield aindexAddr aindex alen abin aint acmp astr aun apick aextract anil aslice abound abuild afill abuildSlice asCells aps avCells over upd aappend asrc amax amin aconv mkSt slots rowsOf_cons rowsOf_nil usedOf_cons usedOf_nil ZK.av List.replicate ASt.back ASt.addL ASt.killL nodeA nodeT nodeTL_eq nodeL_eq strsE_get strsE_len intsE_get intsE_len strsE_at intsE_at nodeN namesRow nodeO kidsRow tab2 tab3 tab4 tab5 tab6 tab7 tab8 tab9 tab10 tab11 tab12 tab13 tab14 tab15 tab16 tab17 tab18 tab19 tab21 tab22 tab23 tab24 tab25 tab26 tab27 tab28 tab29 tab30 tab48 tab51 tab52 tab59 tab77 tab78 tab79 tab91 tab95 tab96 tab97 tab109 tab116 tab132 tab133 tab138 tab139 tab144 tab145 tab146 tab148 tab149 tab150
def chkN (m : Nd) : Option Nd := if validB m then some m else none
def mgO (n p : Nd) : Option Nd := if validB n && validB p then chkN (mrg p n) else none
theorem checked_AC (m : Nd) : AC Try.prog 54 [nodeA m, .bool true] 0 (fun r => r = optA (chkN m)) := by
  refine AC.weak ?_
  have p1 := ValidNode_AC m .loose
  unfold nodeA
  rw [nodeL_eq]
  cases h1 : validB m
  · have e : chkN m = none := by unfold chkN; rw [h1]; rfl
    rw [h1] at p1
    refine AC.of tab_ok mixed_ok Try.func54 (by rfl) (by kernel_rfl) ?_; rintro ⟨P, T, hT, hm, w0, S0, rd0, k0⟩ hP hTT; dsimp only at hP hTT; subst hP hTT; unfold initSt; rw [Try.ntmps54]
    (repeat (first | with_reducible refine AW.seq ?_ | ((first | refine arun_kn 4 rfl (fun C hC => ?_) | refine arunD_kn 4 rfl (fun C hC => ?_)); (repeat ((conv => whnf); simp)); refine hC _ ?_; clear hC C; simp only [List.drop, Nat.reduceAdd]) | ((first | refine arun_kn 1 rfl (fun C hC => ?_) | refine arunD_kn 1 rfl (fun C hC => ?_)); (repeat ((conv => whnf); simp)); refine hC _ ?_; clear hC C; simp only [List.drop, Nat.reduceAdd]) | (refine arun_skip ?_ ?_; (focus (simp [awant]; done))) | (refine arun_c0 (p1) ?_; rintro _ rfl) | (refine arunD_skip ?_ ?_; (focus (simp [awant]; done))) | (refine AW.regionK [] (fun K hK => ?_)) | (refine AW.regionDK [] (pcs [] []) (by kernel_rfl) (by kernel_rfl) (fun K hK => ?_)) | (refine AW.condT ?_ ?_; (focus (simp [aev]; done))) | (refine AW.condF ?_ ?_; (focus (simp [aev]; done))) | with_reducible refine AW.block ?_ | ((first | ((first | refine arun_nil ?_ | refine arunD_nil ?_); refine hK _ ?_; clear hK K) | refine AW.skip ?_ | refine AW.exit ?_ | refine AW.ret ?_); simp only [thenA_exit, inBlockA_exit, if_true, if_false, Nat.reduceEqDiff, thenA_normal, inBlockA_normal, reduceIte, thenA_ret, inBlockA_ret, endQ_ret, endR_ret, endG_ret, endQ_normal, endR_normal, endG_normal])))
    exact ⟨.tup [node0 0 0 ⟨#[]⟩, .bool false], by simp [node0, ares, aresL, upd, rowsOf_cons], none_end.1, _, none_end.2, by rw [e]; rfl⟩
  · have e : chkN m = some m := by unfold chkN; rw [h1]; rfl
    rw [h1] at p1
    refine AC.of tab_ok mixed_ok Try.func54 (by rfl) (by kernel_rfl) ?_; rintro ⟨P, T, hT, hm, w0, S0, rd0, k0⟩ hP hTT; dsimp only at hP hTT; subst hP hTT; unfold initSt; rw [Try.ntmps54]
    (repeat (first | with_reducible refine AW.seq ?_ | ((first | refine arun_kn 4 rfl (fun C hC => ?_) | refine arunD_kn 4 rfl (fun C hC => ?_)); (repeat ((conv => whnf); simp)); refine hC _ ?_; clear hC C; simp only [List.drop, Nat.reduceAdd]) | ((first | refine arun_kn 1 rfl (fun C hC => ?_) | refine arunD_kn 1 rfl (fun C hC => ?_)); (repeat ((conv => whnf); simp)); refine hC _ ?_; clear hC C; simp only [List.drop, Nat.reduceAdd]) | (refine arun_skip ?_ ?_; (focus (simp [awant]; done))) | (refine arun_c0 (p1) ?_; rintro _ rfl) | (refine arunD_skip ?_ ?_; (focus (simp [awant]; done))) | (refine AW.regionK [] (fun K hK => ?_)) | (refine AW.regionDK [] (pcs [] []) (by kernel_rfl) (by kernel_rfl) (fun K hK => ?_)) | (refine AW.condT ?_ ?_; (focus (simp [aev]; done))) | (refine AW.condF ?_ ?_; (focus (simp [aev]; done))) | with_reducible refine AW.block ?_ | ((first | ((first | refine arun_nil ?_ | refine arunD_nil ?_); refine hK _ ?_; clear hK K) | refine AW.skip ?_ | refine AW.exit ?_ | refine AW.ret ?_); simp only [thenA_exit, inBlockA_exit, if_true, if_false, Nat.reduceEqDiff, thenA_normal, inBlockA_normal, reduceIte, thenA_ret, inBlockA_ret, endQ_ret, endR_ret, endG_ret, endQ_normal, endR_normal, endG_normal])))
    exact ⟨.tup [nodeA m, .bool true], by simp [ares, aresL, upd, rowsOf_cons], tup2_pur (node_pur m) pur_bool, _, Wk.refl _, by rw [e]; rfl⟩
theorem MergeNode_AC (n p : Nd) : AC Try.prog 28 [nodeA n, nodeA p] 0 (fun r => r = optA (mgO n p)) := by
  refine AC.weak ?_
  have p1 := ValidNode_AC n .loose
  have p2 := ValidNode_AC p .loose
  have hcn := node_clo n
  have hcp := node_clo p
  cases h1 : validB n
  · have e : mgO n p = none := by unfold mgO; rw [h1]; rfl
    rw [h1] at p1
    unfold nodeA
    rw [nodeL_eq n, nodeL_eq p]
    refine AC.of tab_ok mixed_ok Try.func28 (by rfl) (by kernel_rfl) ?_; rintro ⟨P, T, hT, hm, w0, S0, rd0, k0⟩ hP hTT; dsimp only at hP hTT; subst hP hTT; unfold initSt; rw [Try.ntmps28]
    (repeat (first | with_reducible refine AW.seq ?_ | ((first | refine arun_kn 4 rfl (fun C hC => ?_) | refine arunD_kn 4 rfl (fun C hC => ?_)); (repeat ((conv => whnf); simp)); refine hC _ ?_; clear hC C; simp only [List.drop, Nat.reduceAdd]) | ((first | refine arun_kn 1 rfl (fun C hC => ?_) | refine arunD_kn 1 rfl (fun C hC => ?_)); (repeat ((conv => whnf); simp)); refine hC _ ?_; clear hC C; simp only [List.drop, Nat.reduceAdd]) | (refine arun_skip ?_ ?_; (focus (simp [awant]; done))) | (refine arun_c0 (p1) ?_; rintro _ rfl) | (refine arunD_skip ?_ ?_; (focus (simp [awant]; done))) | (refine AW.regionK [] (fun K hK => ?_)) | (refine AW.regionDK [] (pcs [] []) (by kernel_rfl) (by kernel_rfl) (fun K hK => ?_)) | (refine AW.condT ?_ ?_; (focus (simp [aev]; done))) | (refine AW.condF ?_ ?_; (focus (simp [aev]; done))) | with_reducible refine AW.block ?_ | ((first | ((first | refine arun_nil ?_ | refine arunD_nil ?_); refine hK _ ?_; clear hK K) | refine AW.skip ?_ | refine AW.exit ?_ | refine AW.ret ?_); simp only [thenA_exit, inBlockA_exit, if_true, if_false, Nat.reduceEqDiff, thenA_normal, inBlockA_normal, reduceIte, thenA_ret, inBlockA_ret, endQ_ret, endR_ret, endG_ret, endQ_normal, endR_normal, endG_normal])))
    exact ⟨.tup [node0 0 0 ⟨#[]⟩, .bool false], by simp [node0, ares, aresL, upd, rowsOf_cons], none_end.1, _, none_end.2, by rw [e]; rfl⟩
  rw [h1] at p1
  cases h2 : validB p
  · have e : mgO n p = none := by unfold mgO; rw [h1, h2]; rfl
    rw [h2] at p2
    unfold nodeA
    rw [nodeL_eq n, nodeL_eq p]
    refine AC.of tab_ok mixed_ok Try.func28 (by rfl) (by kernel_rfl) ?_; rintro ⟨P, T, hT, hm, w0, S0, rd0, k0⟩ hP hTT; dsimp only at hP hTT; subst hP hTT; unfold initSt; rw [Try.ntmps28]
    (repeat (first | with_reducible refine AW.seq ?_ | ((first | refine arun_kn 4 rfl (fun C hC => ?_) | refine arunD_kn 4 rfl (fun C hC => ?_)); (repeat ((conv => whnf); simp)); refine hC _ ?_; clear hC C; simp only [List.drop, Nat.reduceAdd]) | ((first | refine arun_kn 1 rfl (fun C hC => ?_) | refine arunD_kn 1 rfl (fun C hC => ?_)); (repeat ((conv => whnf); simp)); refine hC _ ?_; clear hC C; simp only [List.drop, Nat.reduceAdd]) | (refine arun_skip ?_ ?_; (focus (simp [awant]; done))) | (refine arun_c0 (p1) ?_; rintro _ rfl) | (refine arun_c0 (p2) ?_; rintro _ rfl) | (refine arunD_skip ?_ ?_; (focus (simp [awant]; done))) | (refine AW.regionK [] (fun K hK => ?_)) | (refine AW.regionDK [] (pcs [] []) (by kernel_rfl) (by kernel_rfl) (fun K hK => ?_)) | (refine AW.condT ?_ ?_; (focus (simp [aev]; done))) | (refine AW.condF ?_ ?_; (focus (simp [aev]; done))) | with_reducible refine AW.block ?_ | ((first | ((first | refine arun_nil ?_ | refine arunD_nil ?_); refine hK _ ?_; clear hK K) | refine AW.skip ?_ | refine AW.exit ?_ | refine AW.ret ?_); simp only [thenA_exit, inBlockA_exit, if_true, if_false, Nat.reduceEqDiff, thenA_normal, inBlockA_normal, reduceIte, thenA_ret, inBlockA_ret, endQ_ret, endR_ret, endG_ret, endQ_normal, endR_normal, endG_normal])))
    exact ⟨.tup [node0 0 0 ⟨#[]⟩, .bool false], by simp [node0, ares, aresL, upd, rowsOf_cons], none_end.1, _, none_end.2, by rw [e]; rfl⟩
  · have e : mgO n p = chkN (mrg p n) := by unfold mgO; rw [h1, h2]; rfl
    rw [h2] at p2
    rw [e]
    have p3 := mergeValid_AC p (Shp.of h2) n (Shp.of h1)
    generalize mrg p n = m at *
    have p4 := checked_AC m
    rw [optA_eq] at p4
    have hcm := node_clo m
    unfold nodeA at p3 p4 hcn hcp hcm ⊢
    rw [nodeL_eq n, nodeL_eq p, nodeL_eq m] at p3
    rw [nodeL_eq m] at p4 hcm
    rw [nodeL_eq n] at hcn ⊢
    rw [nodeL_eq p] at hcp ⊢
    refine AC.of tab_ok mixed_ok Try.func28 (by rfl) (by kernel_rfl) ?_; rintro ⟨P, T, hT, hm, w0, S0, rd0, k0⟩ hP hTT; dsimp only at hP hTT; subst hP hTT; unfold initSt; rw [Try.ntmps28]
    (repeat (first | with_reducible refine AW.seq ?_ | ((first | refine arun_kn 4 rfl (fun C hC => ?_) | refine arunD_kn 4 rfl (fun C hC => ?_)); (repeat ((conv => whnf); simp [optL])); refine hC _ ?_; clear hC C; simp only [List.drop, Nat.reduceAdd]) | ((first | refine arun_kn 1 rfl (fun C hC => ?_) | refine arunD_kn 1 rfl (fun C hC => ?_)); (repeat ((conv => whnf); simp [optL])); refine hC _ ?_; clear hC C; simp only [List.drop, Nat.reduceAdd]) | (refine arun_skip ?_ ?_; (focus (simp [awant, optL]; done))) | (refine arun_c0 (p1) ?_; rintro _ rfl) | (refine arun_c0 (p2) ?_; rintro _ rfl) | (refine arun_c0 (p3) ?_; rintro _ rfl) | (refine arun_c0 (p4) ?_; rintro _ rfl) | (refine arunD_skip ?_ ?_; (focus (simp [awant, optL]; done))) | (refine AW.regionK [] (fun K hK => ?_)) | (refine AW.regionDK [] (pcs [] []) (by kernel_rfl) (by kernel_rfl) (fun K hK => ?_)) | (refine AW.condT ?_ ?_; (focus (simp [aev, optL]; done))) | (refine AW.condF ?_ ?_; (focus (simp [aev, optL]; done))) | with_reducible refine AW.block ?_ | ((first | ((first | refine arun_nil ?_ | refine arunD_nil ?_); refine hK _ ?_; clear hK K) | refine AW.skip ?_ | refine AW.exit ?_ | refine AW.ret ?_); simp only [thenA_exit, inBlockA_exit, if_true, if_false, Nat.reduceEqDiff, thenA_normal, inBlockA_normal, reduceIte, thenA_ret, inBlockA_ret, endQ_ret, endR_ret, endG_ret, endQ_normal, endR_normal, endG_normal])))
    exact ⟨optA (chkN m), by rw [optA_eq]; simp [optL, ares, aresL, upd, rowsOf_cons], optA_pur _, _, Wk.refl _, rfl⟩
theorem specChecked_AC (m : Nd) : AC Try.prog 65 [nodeA m, .bool true] 0 (fun r => r = optA (chkN m)) := by
  refine AC.weak ?_
  have p1 := validNode_AC m .loose
  unfold nodeA
  rw [nodeL_eq]
  cases h1 : validB m
  · have e : chkN m = none := by unfold chkN; rw [h1]; rfl
    rw [h1] at p1
    refine AC.of tab_ok mixed_ok Try.func65 (by rfl) (by kernel_rfl) ?_; rintro ⟨P, T, hT, hm, w0, S0, rd0, k0⟩ hP hTT; dsimp only at hP hTT; subst hP hTT; unfold initSt; rw [Try.ntmps65]
    (repeat (first | with_reducible refine AW.seq ?_ | ((first | refine arun_kn 4 rfl (fun C hC => ?_) | refine arunD_kn 4 rfl (fun C hC => ?_)); (repeat ((conv => whnf); simp)); refine hC _ ?_; clear hC C; simp only [List.drop, Nat.reduceAdd]) | ((first | refine arun_kn 1 rfl (fun C hC => ?_) | refine arunD_kn 1 rfl (fun C hC => ?_)); (repeat ((conv => whnf); simp)); refine hC _ ?_; clear hC C; simp only [List.drop, Nat.reduceAdd]) | (refine arun_skip ?_ ?_; (focus (simp [awant]; done))) | (refine arun_c0 (p1) ?_; rintro _ rfl) | (refine arunD_skip ?_ ?_; (focus (simp [awant]; done))) | (refine AW.regionK [] (fun K hK => ?_)) | (refine AW.regionDK [] (pcs [] []) (by kernel_rfl) (by kernel_rfl) (fun K hK => ?_)) | (refine AW.condT ?_ ?_; (focus (simp [aev]; done))) | (refine AW.condF ?_ ?_; (focus (simp [aev]; done))) | with_reducible refine AW.block ?_ | ((first | ((first | refine arun_nil ?_ | refine arunD_nil ?_); refine hK _ ?_; clear hK K) | refine AW.skip ?_ | refine AW.exit ?_ | refine AW.ret ?_); simp only [thenA_exit, inBlockA_exit, if_true, if_false, Nat.reduceEqDiff, thenA_normal, inBlockA_normal, reduceIte, thenA_ret, inBlockA_ret, endQ_ret, endR_ret, endG_ret, endQ_normal, endR_normal, endG_normal])))
    exact ⟨.tup [node0 0 0 ⟨#[]⟩, .bool false], by simp [node0, ares, aresL, upd, rowsOf_cons], none_end.1, _, none_end.2, by rw [e]; rfl⟩
  · have e : chkN m = some m := by unfold chkN; rw [h1]; rfl
    rw [h1] at p1
    refine AC.of tab_ok mixed_ok Try.func65 (by rfl) (by kernel_rfl) ?_; rintro ⟨P, T, hT, hm, w0, S0, rd0, k0⟩ hP hTT; dsimp only at hP hTT; subst hP hTT; unfold initSt; rw [Try.ntmps65]
    (repeat (first | with_reducible refine AW.seq ?_ | ((first | refine arun_kn 4 rfl (fun C hC => ?_) | refine arunD_kn 4 rfl (fun C hC => ?_)); (repeat ((conv => whnf); simp)); refine hC _ ?_; clear hC C; simp only [List.drop, Nat.reduceAdd]) | ((first | refine arun_kn 1 rfl (fun C hC => ?_) | refine arunD_kn 1 rfl (fun C hC => ?_)); (repeat ((conv => whnf); simp)); refine hC _ ?_; clear hC C; simp only [List.drop, Nat.reduceAdd]) | (refine arun_skip ?_ ?_; (focus (simp [awant]; done))) | (refine arun_c0 (p1) ?_; rintro _ rfl) | (refine arunD_skip ?_ ?_; (focus (simp [awant]; done))) | (refine AW.regionK [] (fun K hK => ?_)) | (refine AW.regionDK [] (pcs [] []) (by kernel_rfl) (by kernel_rfl) (fun K hK => ?_)) | (refine AW.condT ?_ ?_; (focus (simp [aev]; done))) | (refine AW.condF ?_ ?_; (focus (simp [aev]; done))) | with_reducible refine AW.block ?_ | ((first | ((first | refine arun_nil ?_ | refine arunD_nil ?_); refine hK _ ?_; clear hK K) | refine AW.skip ?_ | refine AW.exit ?_ | refine AW.ret ?_); simp only [thenA_exit, inBlockA_exit, if_true, if_false, Nat.reduceEqDiff, thenA_normal, inBlockA_normal, reduceIte, thenA_ret, inBlockA_ret, endQ_ret, endR_ret, endG_ret, endQ_normal, endR_normal, endG_normal])))
    exact ⟨.tup [nodeA m, .bool true], by simp [ares, aresL, upd, rowsOf_cons], tup2_pur (node_pur m) pur_bool, _, Wk.refl _, by rw [e]; rfl⟩
theorem specMergeNode_AC (n p : Nd) : AC Try.prog 37 [nodeA n, nodeA p] 0 (fun r => r = optA (mgO n p)) := by
  refine AC.weak ?_
  have p1 := validNode_AC n .loose
  have p2 := validNode_AC p .loose
  have hcn := node_clo n
  have hcp := node_clo p
  cases h1 : validB n
  · have e : mgO n p = none := by unfold mgO; rw [h1]; rfl
    rw [h1] at p1
    unfold nodeA
    rw [nodeL_eq n, nodeL_eq p]
    refine AC.of tab_ok mixed_ok Try.func37 (by rfl) (by kernel_rfl) ?_; rintro ⟨P, T, hT, hm, w0, S0, rd0, k0⟩ hP hTT; dsimp only at hP hTT; subst hP hTT; unfold initSt; rw [Try.ntmps37]
    (repeat (first | with_reducible refine AW.seq ?_ | ((first | refine arun_kn 4 rfl (fun C hC => ?_) | refine arunD_kn 4 rfl (fun C hC => ?_)); (repeat ((conv => whnf); simp)); refine hC _ ?_; clear hC C; simp only [List.drop, Nat.reduceAdd]) | ((first | refine arun_kn 1 rfl (fun C hC => ?_) | refine arunD_kn 1 rfl (fun C hC => ?_)); (repeat ((conv => whnf); simp)); refine hC _ ?_; clear hC C; simp only [List.drop, Nat.reduceAdd]) | (refine arun_skip ?_ ?_; (focus (simp [awant]; done))) | (refine arun_c0 (p1) ?_; rintro _ rfl) | (refine arunD_skip ?_ ?_; (focus (simp [awant]; done))) | (refine AW.regionK [] (fun K hK => ?_)) | (refine AW.regionDK [] (pcs [] []) (by kernel_rfl) (by kernel_rfl) (fun K hK => ?_)) | (refine AW.condT ?_ ?_; (focus (simp [aev]; done))) | (refine AW.condF ?_ ?_; (focus (simp [aev]; done))) | with_reducible refine AW.block ?_ | ((first | ((first | refine arun_nil ?_ | refine arunD_nil ?_); refine hK _ ?_; clear hK K) | refine AW.skip ?_ | refine AW.exit ?_ | refine AW.ret ?_); simp only [thenA_exit, inBlockA_exit, if_true, if_false, Nat.reduceEqDiff, thenA_normal, inBlockA_normal, reduceIte, thenA_ret, inBlockA_ret, endQ_ret, endR_ret, endG_ret, endQ_normal, endR_normal, endG_normal])))
    exact ⟨.tup [node0 0 0 ⟨#[]⟩, .bool false], by simp [node0, ares, aresL, upd, rowsOf_cons], none_end.1, _, none_end.2, by rw [e]; rfl⟩
  rw [h1] at p1
  cases h2 : validB p
  · have e : mgO n p = none := by unfold mgO; rw [h1, h2]; rfl
    rw [h2] at p2
    unfold nodeA
    rw [nodeL_eq n, nodeL_eq p]
    refine AC.of tab_ok mixed_ok Try.func37 (by rfl) (by kernel_rfl) ?_; rintro ⟨P, T, hT, hm, w0, S0, rd0, k0⟩ hP hTT; dsimp only at hP hTT; subst hP hTT; unfold initSt; rw [Try.ntmps37]
    (repeat (first | with_reducible refine AW.seq ?_ | ((first | refine arun_kn 4 rfl (fun C hC => ?_) | refine arunD_kn 4 rfl (fun C hC => ?_)); (repeat ((conv => whnf); simp)); refine hC _ ?_; clear hC C; simp only [List.drop, Nat.reduceAdd]) | ((first | refine arun_kn 1 rfl (fun C hC => ?_) | refine arunD_kn 1 rfl (fun C hC => ?_)); (repeat ((conv => whnf); simp)); refine hC _ ?_; clear hC C; simp only [List.drop, Nat.reduceAdd]) | (refine arun_skip ?_ ?_; (focus (simp [awant]; done))) | (refine arun_c0 (p1) ?_; rintro _ rfl) | (refine arun_c0 (p2) ?_; rintro _ rfl) | (refine arunD_skip ?_ ?_; (focus (simp [awant]; done))) | (refine AW.regionK [] (fun K hK => ?_)) | (refine AW.regionDK [] (pcs [] []) (by kernel_rfl) (by kernel_rfl) (fun K hK => ?_)) | (refine AW.condT ?_ ?_; (focus (simp [aev]; done))) | (refine AW.condF ?_ ?_; (focus (simp [aev]; done))) | with_reducible refine AW.block ?_ | ((first | ((first | refine arun_nil ?_ | refine arunD_nil ?_); refine hK _ ?_; clear hK K) | refine AW.skip ?_ | refine AW.exit ?_ | refine AW.ret ?_); simp only [thenA_exit, inBlockA_exit, if_true, if_false, Nat.reduceEqDiff, thenA_normal, inBlockA_normal, reduceIte, thenA_ret, inBlockA_ret, endQ_ret, endR_ret, endG_ret, endQ_normal, endR_normal, endG_normal])))
    exact ⟨.tup [node0 0 0 ⟨#[]⟩, .bool false], by simp [node0, ares, aresL, upd, rowsOf_cons], none_end.1, _, none_end.2, by rw [e]; rfl⟩
  · have e : mgO n p = chkN (mrg p n) := by unfold mgO; rw [h1, h2]; rfl
    rw [h2] at p2
    rw [e]
    have p3 := merge_AC p (Shp.of h2) n (Shp.of h1)
    generalize mrg p n = m at *
    have p4 := specChecked_AC m
    rw [optA_eq] at p4
    have hcm := node_clo m
    unfold nodeA at p3 p4 hcn hcp hcm ⊢
    rw [nodeL_eq n, nodeL_eq p, nodeL_eq m] at p3
    rw [nodeL_eq m] at p4 hcm
    rw [nodeL_eq n] at hcn ⊢
    rw [nodeL_eq p] at hcp ⊢
    refine AC.of tab_ok mixed_ok Try.func37 (by rfl) (by kernel_rfl) ?_; rintro ⟨P, T, hT, hm, w0, S0, rd0, k0⟩ hP hTT; dsimp only at hP hTT; subst hP hTT; unfold initSt; rw [Try.ntmps37]
    (repeat (first | with_reducible refine AW.seq ?_ | ((first | refine arun_kn 4 rfl (fun C hC => ?_) | refine arunD_kn 4 rfl (fun C hC => ?_)); (repeat ((conv => whnf); simp [optL])); refine hC _ ?_; clear hC C; simp only [List.drop, Nat.reduceAdd]) | ((first | refine arun_kn 1 rfl (fun C hC => ?_) | refine arunD_kn 1 rfl (fun C hC => ?_)); (repeat ((conv => whnf); simp [optL])); refine hC _ ?_; clear hC C; simp only [List.drop, Nat.reduceAdd]) | (refine arun_skip ?_ ?_; (focus (simp [awant, optL]; done))) | (refine arun_c0 (p1) ?_; rintro _ rfl) | (refine arun_c0 (p2) ?_; rintro _ rfl) | (refine arun_c0 (p3) ?_; rintro _ rfl) | (refine arun_c0 (p4) ?_; rintro _ rfl) | (refine arunD_skip ?_ ?_; (focus (simp [awant, optL]; done))) | (refine AW.regionK [] (fun K hK => ?_)) | (refine AW.regionDK [] (pcs [] []) (by kernel_rfl) (by kernel_rfl) (fun K hK => ?_)) | (refine AW.condT ?_ ?_; (focus (simp [aev, optL]; done))) | (refine AW.condF ?_ ?_; (focus (simp [aev, optL]; done))) | with_reducible refine AW.block ?_ | ((first | ((first | refine arun_nil ?_ | refine arunD_nil ?_); refine hK _ ?_; clear hK K) | refine AW.skip ?_ | refine AW.exit ?_ | refine AW.ret ?_); simp only [thenA_exit, inBlockA_exit, if_true, if_false, Nat.reduceEqDiff, thenA_normal, inBlockA_normal, reduceIte, thenA_ret, inBlockA_ret, endQ_ret, endR_ret, endG_ret, endQ_normal, endR_normal, endG_normal])))
    exact ⟨optA (chkN m), by rw [optA_eq]; simp [optL, ares, aresL, upd, rowsOf_cons], optA_pur _, _, Wk.refl _, rfl⟩
theorem mem_step {r k : Nd} (h : MapW r) (nm x : ByteArray) : mem (stepN r nm k).names x = if x = nm then decide (k.kind ≠ 0) else mem r.names x := by
  unfold stepN
  split
  · rename_i h0
    rw [mem_drop h]
    by_cases e : x = nm <;> simp [e, h0]
  · rename_i h0
    rw [mem_put h]
    by_cases e : x = nm <;> simp [e, h0]
theorem kid_step {r k : Nd} (h : MapW r) (nm x : ByteArray) : kidOf (stepN r nm k) x = if x = nm then (if k.kind = 0 then Nd.zero else mrg k (kidOf r nm)) else kidOf r x := by
  unfold stepN
  by_cases h0 : k.kind = 0
  · rw [if_pos h0, if_pos h0, kidOf_drop h]
  · rw [if_neg h0, if_neg h0, kidOf_put h]
theorem mrg_names {n p : Nd} (hp : Shp p) (h4 : p.kind = 4) (hn : Shp n) : MapW (mrg p n) ∧ ∀ i (hi : i < p.names.length) (hk : i < p.kids.length), mem (mrg p n).names p.names[i] = decide (p.kids[i].kind ≠ 0) ∧ (p.kids[i].kind ≠ 0 → ∃ m, Shp m ∧ kidOf (mrg p n) p.names[i] = mrg p.kids[i] m) := by
  have hl := (hp.map h4).2
  have key := mrg_loop (n := n) hp h4 (fun j r => Mid n p j r ∧ ∀ i (hi : i < p.names.length) (hk : i < p.kids.length), i < j → mem r.names p.names[i] = decide (p.kids[i].kind ≠ 0) ∧ (p.kids[i].kind ≠ 0 → ∃ m, Shp m ∧ kidOf r p.names[i] = mrg p.kids[i] m)) ⟨Mid.start hn p, fun i _ _ h => by omega⟩ (fun j hj hjk r ⟨hm, hr⟩ => by
    refine ⟨hm.next hp h4 hn hj hjk, fun i hi hk hij => ?_⟩
    rw [mem_step hm.w, kid_step hm.w]
    by_cases e : i = j
    · subst e
      rw [if_pos rfl, if_pos rfl]
      refine ⟨rfl, fun h0 => ?_⟩
      rw [if_neg h0]
      exact ⟨kidOf r p.names[i], by rw [hm.kid hp h4 hn hj]; exact base_old hn _, rfl⟩
    · have hne : p.names[i] ≠ p.names[j] := fun he => by
        have := hp.asc h4 i j hi hj (by omega)
        rw [he, lt_irr] at this; cases this
      rw [if_neg hne, if_neg hne]
      exact hr i hi hk (by omega))
  exact ⟨key.1.w, fun i hi hk => key.2 i hi hk hk⟩
theorem putK_same {r : Nd} (h : MapW r) {nm : ByteArray} (hm : mem r.names nm = true) : putK r nm (kidOf r nm) = r := by
  obtain ⟨h1, _⟩ := Go.Proofs.Ytiobnaielfeeaaa.lb_lt h.asc hm
  rw [putK_yes hm, kidOf_yes hm (by rw [← h.len]; exact h1), List.set_getElem_self]
  cases r; rfl
theorem mrg_twice : ∀ p, Shp p → ∀ n, Shp n → Shp (mrg p n) → mrg p (mrg p n) = mrg p n := Nd.ind' _ (fun p ih hp n hn hR => by
  by_cases h4 : p.kind = 4
  · obtain ⟨hw, hk⟩ := mrg_names hp h4 hn
    generalize hRe : mrg p n = R at *
    have hb : baseM R = R := by unfold baseM; rw [if_pos hw.kd]
    have := mrg_loop (n := R) hp h4 (fun _ r => r = R) hb (fun i hi hik r hr => by
      subst hr
      obtain ⟨q1, q2⟩ := hk i hi hik
      unfold stepN
      split
      · rename_i h0
        exact dropK_no (by rw [q1]; simp [h0])
      · rename_i h0
        obtain ⟨m, hm, he⟩ := q2 h0
        have hmem : mem r.names p.names[i] = true := by rw [q1]; simp [h0]
        have hsh : Shp (kidOf r p.names[i]) := hR.kid (kidOf_mem hw.asc (by rw [hw.len]; exact Nat.le_refl _) hmem)
        have : mrg p.kids[i] (kidOf r p.names[i]) = kidOf r p.names[i] := by
          rw [he] at hsh ⊢
          exact ih _ (List.getElem_mem hik) (hp.kid (List.getElem_mem hik)) m hm hsh
        rw [this]
        exact putK_same hw hmem)
    exact this
  · rw [mrg_no h4, mrg_no h4])
end Go.Proofs.Ytiobnaielfeeaaa.Eng
-- EV: rows skip
namespace Go.Proofs.Ytiobnaielfeeaaa.Eng
open Go Go.RowKit
attribute [local simp] big size_mk ASt.pay Option.map_map Function.comp_def awant aop acall ado aev ofVal ofVal0 ASt.put ASt.add ASt.turn ASt.kill abox aalloc astore aload ASt.at cellsTo afieldAddr afield aindexAddr aindex alen abin aint acmp astr aun apick aextract anil aslice abound abuild afill abuildSlice asCells aps avCells over upd aappend asrc amax amin aconv mkSt slots rowsOf_cons rowsOf_nil usedOf_cons usedOf_nil ZK.av List.replicate ASt.back ASt.addL ASt.killL nodeA nodeT nodeTL_eq nodeL_eq strsE_get strsE_len intsE_get intsE_len strsE_at intsE_at nodeN namesRow nodeO kidsRow tab2 tab3 tab4 tab5 tab6 tab7 tab8 tab9 tab10 tab11 tab12 tab13 tab14 tab15 tab16 tab17 tab18 tab19 tab21 tab22 tab23 tab24 tab25 tab26 tab27 tab28 tab29 tab30 tab48 tab51 tab52 tab59 tab77 tab78 tab79 tab91 tab95 tab96 tab97 tab109 tab116 tab132 tab133 tab138 tab139 tab144 tab145 tab146 tab148 tab149 tab150
theorem AC.toR {P : Program} {f : FuncId} {args : List AV} {c : Nat} {Q : AV → Prop} (h : AC P f args c Q) : ACR P f args c Q (fun _ _ => False) :=
  ⟨h.1, fun w L S rb k vs h0 h1 h2 h3 => (h.2 w L S rb k vs h0 h1 h2 h3).mono fun _ _ ⟨v, r, S', k1, k2, k3, k4, k5, k6, k7⟩ => ⟨v, S', k1, k2, k3, k4, k5, .inl ⟨r, k6, k7⟩⟩⟩
theorem someNodeA_AC : AC Try.prog 69 [.rdr] (nC 3 + 10 + 4 * nC 2) rNodeA := by
  refine (AC.ofR someNode_ACR ?_).mono ?_
  · rintro r R ⟨n, _, rfl, rfl⟩
    rw [nodeN_sub]; exact node_in n
  · rintro r (h | ⟨f, R, ⟨n, h1, rfl, rfl⟩, rfl⟩)
    · exact h.elim
    · rw [nodeN_sub]; exact ⟨n, h1.1, rfl⟩
theorem rNodeA_ex : ∃ r, rNodeA r ∧ NoId r := ⟨_, ⟨_, sml_leaf 0 0 ⟨#[]⟩, rfl⟩, node_in _⟩
def tupL (m : Nd) (b : Bool) : AV := .tup [.agg [.int .i64 m.kind, .int .i64 m.num, .str m.text, .view .loose 1 (strsE m.names), .view .loose 5 (m.kids.map nodeL)], .bool b]
def rOpt (r : AV) : Prop := ∃ m b, Sml m ∧ r = tupL m b
theorem rOpt_ex : ∃ r, rOpt r ∧ NoId r := ⟨_, ⟨Nd.zero, false, sml_leaf 0 0 ⟨#[]⟩, rfl⟩, optL_in none⟩
theorem rOpt_of {f : FuncId} {args : List AV} {o : Option Nd} (h : AC Try.prog f args 0 (fun r => r = optA o)) (hs : ∀ m, o = some m → Sml m) : AC Try.prog f args 0 rOpt := h.mono (fun r hr => by
  rw [optA_eq] at hr
  cases o with
  | none => exact ⟨Nd.zero, false, sml_leaf 0 0 ⟨#[]⟩, hr⟩
  | some m => exact ⟨m, true, hs m rfl, hr⟩)
def rStr (r : AV) : Prop := ∃ x : ByteArray, r = .str x
theorem rStr_ex : ∃ r, rStr r ∧ NoId r := ⟨_, ⟨⟨#[]⟩, rfl⟩, in_str⟩
def wC : Nat := 3 + (nC 3 + 10 + 4 * nC 2) + nC 2
theorem snoc_clo (p : List ByteArray) (x : ByteArray) : ∀ e ∈ strsE p ++ [[AV.str x]], ∀ c ∈ e, Clo c := by
  rw [← strs_snoc]; exact strsE_clo _
theorem near_AC (n : Nd) (hv : validB n = true) : AC Try.prog 78 [.rdr, nodeA n] wC rNodeA := by
  have hn := Shp.of hv
  obtain ⟨hw, hd, hc⟩ := valid_way hv
  have pall := all_AC n hw (by omega) (by omega)
  have hlen := allS_len n
  have hpos : 0 < (allS n).length := by rw [hlen, Nd.count_eq]; omega
  have hsh := allS_short n
  have hclo : Clo (.view .loose 1 (pathsE (allS n))) := paths_clo (allS n)
  have hcnt : (allS n).length ≤ 1000 := by omega
  have hS := someNodeA_AC
  have hR : AC Try.prog 96 [.rdr, .int .i64 2] (nC 2) rNodeA := randomNode_AC 2 (by omega)
  have hof : AC Try.prog 104 [.rdr, .view .tight 1 [[.str ⟨#[97]⟩], [.str ⟨#[48]⟩], [.str ⟨#[45]⟩], [.str ⟨#[122]⟩]]] 1 rStr := (of_AC .tight [⟨#[97]⟩, ⟨#[48]⟩, ⟨#[45]⟩, ⟨#[122]⟩] (by simp) (by simp)).mono (fun r ⟨x, _, hx⟩ => ⟨x, hx⟩)
  have hwC : wC = 3 + (nC 3 + 10 + 4 * nC 2) + nC 2 := rfl
  generalize wC = W at *
  generalize nC 3 + 10 + 4 * nC 2 = A at *
  generalize nC 2 = B at *
  subst hwC
  generalize allS n = P at *
  have hpos' : (0 : Int) < (P.length : Int) := by omega
  unfold nodeA at pall ⊢
  rw [nodeL_eq] at pall ⊢
  refine AC.of tab_ok mixed_ok Try.func78 (by rfl) (by kernel_rfl) ?_; rintro ⟨P, T, hT, hm, w0, S0, rd0, k0⟩ hP hTT; dsimp only at hP hTT; subst hP hTT; unfold initSt; rw [Try.ntmps78]
  (repeat (first | with_reducible refine AW.seq ?_ | ((first | refine arun_kn 4 rfl (fun C hC => ?_) | refine arunD_kn 4 rfl (fun C hC => ?_)); (repeat ((conv => whnf); simp [pathsE_len, hpos, hpos'])); refine hC _ ?_; clear hC C; simp only [List.drop, Nat.reduceAdd]) | ((first | refine arun_kn 1 rfl (fun C hC => ?_) | refine arunD_kn 1 rfl (fun C hC => ?_)); (repeat ((conv => whnf); simp [pathsE_len, hpos, hpos'])); refine hC _ ?_; clear hC C; simp only [List.drop, Nat.reduceAdd]) | (refine arun_skip ?_ ?_; (focus (simp [awant, pathsE_len, hpos, hpos']; done))) | (refine arun_c0 (pall) ?_; rintro _ rfl) | (refine arun_c (1) (pick_AC P.length (by omega) (by omega)) ?_; (rintro _ ⟨u, rfl, hu⟩; obtain ⟨u0, u1⟩ := hu.1 (by omega); obtain ⟨k, rfl⟩ := Int.eq_ofNat_of_zero_le u0)) | (refine arunD_skip ?_ ?_; (focus (simp [awant, pathsE_len, hpos, hpos']; done))) | (refine AW.regionK [] (fun K hK => ?_)) | (refine AW.regionDK [] (pcs [] []) (by kernel_rfl) (by kernel_rfl) (fun K hK => ?_)) | (refine AW.condT ?_ ?_; (focus (simp [aev, pathsE_len, hpos, hpos']; done))) | (refine AW.condF ?_ ?_; (focus (simp [aev, pathsE_len, hpos, hpos']; done))) | with_reducible refine AW.block ?_ | ((first | ((first | refine arun_nil ?_ | refine arunD_nil ?_); refine hK _ ?_; clear hK K) | refine AW.skip ?_ | refine AW.exit ?_ | refine AW.ret ?_); simp only [thenA_exit, inBlockA_exit, if_true, if_false, Nat.reduceEqDiff, thenA_normal, inBlockA_normal, reduceIte, thenA_ret, inBlockA_ret, endQ_ret, endR_ret, endG_ret, endQ_normal, endR_normal, endG_normal])))
  have hk : k < P.length := by omega
  have hpl := hsh _ (List.getElem_mem hk)
  (repeat (first | with_reducible refine AW.seq ?_ | ((first | refine arun_kn 4 rfl (fun C hC => ?_) | refine arunD_kn 4 rfl (fun C hC => ?_)); (repeat ((conv => whnf); simp [pathsE_len, hk, pathsE_get, pathsE_at])); refine hC _ ?_; clear hC C; simp only [List.drop, Nat.reduceAdd]) | ((first | refine arun_kn 1 rfl (fun C hC => ?_) | refine arunD_kn 1 rfl (fun C hC => ?_)); (repeat ((conv => whnf); simp [pathsE_len, hk, pathsE_get, pathsE_at])); refine hC _ ?_; clear hC C; simp only [List.drop, Nat.reduceAdd]) | (refine arun_skip ?_ ?_; (focus (simp [awant, pathsE_len, hk, pathsE_get, pathsE_at]; done))) | (refine arun_c0 (copyNode_AC n hn.sml .loose) ?_; rintro _ rfl) | (refine arun_c (1) (pick_AC 5 (by omega) (by omega)) ?_; (rintro _ ⟨v, rfl, -⟩)) | (refine arunD_skip ?_ ?_; (focus (simp [awant, pathsE_len, hk, pathsE_get, pathsE_at]; done))) | (refine AW.regionK [] (fun K hK => ?_)) | (refine AW.regionDK [] (pcs [] []) (by kernel_rfl) (by kernel_rfl) (fun K hK => ?_)) | (refine AW.condT ?_ ?_; (focus (simp [aev, pathsE_len, hk, pathsE_get, pathsE_at]; done))) | (refine AW.condF ?_ ?_; (focus (simp [aev, pathsE_len, hk, pathsE_get, pathsE_at]; done))) | with_reducible refine AW.block ?_ | ((first | ((first | refine arun_nil ?_ | refine arunD_nil ?_); refine hK _ ?_; clear hK K) | refine AW.skip ?_ | refine AW.exit ?_ | refine AW.ret ?_); simp only [thenA_exit, inBlockA_exit, if_true, if_false, Nat.reduceEqDiff, thenA_normal, inBlockA_normal, reduceIte, thenA_ret, inBlockA_ret, endQ_ret, endR_ret, endG_ret, endQ_normal, endR_normal, endG_normal])))
  generalize P[k] = p at *
  have h4 : v = 0 ∨ v = 1 ∨ v = 2 ∨ v = 3 ∨ ((v == 0) = false ∧ (v == 1) = false ∧ (v == 2) = false ∧ (v == 3) = false) := by
    by_cases h0 : v = 0; · simp [h0]
    by_cases h1 : v = 1; · simp [h1]
    by_cases h2 : v = 2; · simp [h2]
    by_cases h3 : v = 3; · simp [h3]
    simp [h0, h1, h2, h3]
  rcases h4 with rfl | rfl | rfl | rfl | ⟨e0, e1, e2, e3⟩
  · have pr := rOpt_of (removeAt_AC n p .loose hn (by omega)) (fun m h => remS_sml hn h)
    unfold nodeA at pr
    rw [nodeL_eq] at pr
    (repeat (first | with_reducible refine AW.seq ?_ | ((first | refine arun_kn 4 rfl (fun C hC => ?_) | refine arunD_kn 4 rfl (fun C hC => ?_)); (repeat ((conv => whnf); simp [tupL])); refine hC _ ?_; clear hC C; simp only [List.drop, Nat.reduceAdd]) | ((first | refine arun_kn 1 rfl (fun C hC => ?_) | refine arunD_kn 1 rfl (fun C hC => ?_)); (repeat ((conv => whnf); simp [tupL])); refine hC _ ?_; clear hC C; simp only [List.drop, Nat.reduceAdd]) | (refine arun_skip ?_ ?_; (focus (simp [awant, tupL]; done))) | (refine arun_c0 (pr) ?_; (rintro _ ⟨m, b, hm, rfl⟩)) | (refine arunD_skip ?_ ?_; (focus (simp [awant, tupL]; done))) | (refine AW.regionK [] (fun K hK => ?_)) | (refine AW.regionDK [] (pcs [] []) (by kernel_rfl) (by kernel_rfl) (fun K hK => ?_)) | (refine AW.condT ?_ ?_; (focus (simp [aev, tupL]; done))) | (refine AW.condF ?_ ?_; (focus (simp [aev, tupL]; done))) | with_reducible refine AW.block ?_ | ((first | ((first | refine arun_nil ?_ | refine arunD_nil ?_); refine hK _ ?_; clear hK K) | refine AW.skip ?_ | refine AW.exit ?_ | refine AW.ret ?_); simp only [thenA_exit, inBlockA_exit, if_true, if_false, Nat.reduceEqDiff, thenA_normal, inBlockA_normal, reduceIte, thenA_ret, inBlockA_ret, endQ_ret, endR_ret, endG_ret, endQ_normal, endR_normal, endG_normal])))
    have e9 : Sml n := hn.sml
    cases b
    · (repeat (first | with_reducible refine AW.seq ?_ | ((first | refine arun_kn 4 rfl (fun C hC => ?_) | refine arunD_kn 4 rfl (fun C hC => ?_)); (repeat ((conv => whnf); simp [tupL])); refine hC _ ?_; clear hC C; simp only [List.drop, Nat.reduceAdd]) | ((first | refine arun_kn 1 rfl (fun C hC => ?_) | refine arunD_kn 1 rfl (fun C hC => ?_)); (repeat ((conv => whnf); simp [tupL])); refine hC _ ?_; clear hC C; simp only [List.drop, Nat.reduceAdd]) | (refine arun_skip ?_ ?_; (focus (simp [awant, tupL]; done))) | (refine arun_c0 (copyNode_AC n e9 .loose) ?_; rintro _ rfl) | (refine arunD_skip ?_ ?_; (focus (simp [awant, tupL]; done))) | (refine AW.regionK [] (fun K hK => ?_)) | (refine AW.regionDK [] (pcs [] []) (by kernel_rfl) (by kernel_rfl) (fun K hK => ?_)) | (refine AW.condT ?_ ?_; (focus (simp [aev, tupL]; done))) | (refine AW.condF ?_ ?_; (focus (simp [aev, tupL]; done))) | with_reducible refine AW.block ?_ | ((first | ((first | refine arun_nil ?_ | refine arunD_nil ?_); refine hK _ ?_; clear hK K) | refine AW.skip ?_ | refine AW.exit ?_ | refine AW.ret ?_); simp only [thenA_exit, inBlockA_exit, if_true, if_false, Nat.reduceEqDiff, thenA_normal, inBlockA_normal, reduceIte, thenA_ret, inBlockA_ret, endQ_ret, endR_ret, endG_ret, endQ_normal, endR_normal, endG_normal])))
      exact ⟨nodeA n, by simp [ares, aresL], node_pur n, n, e9, rfl⟩
    · have pv := validNode_AC m .loose
      cases hb : validB m
      · rw [hb] at pv
        (repeat (first | with_reducible refine AW.seq ?_ | ((first | refine arun_kn 4 rfl (fun C hC => ?_) | refine arunD_kn 4 rfl (fun C hC => ?_)); (repeat ((conv => whnf); simp [tupL])); refine hC _ ?_; clear hC C; simp only [List.drop, Nat.reduceAdd]) | ((first | refine arun_kn 1 rfl (fun C hC => ?_) | refine arunD_kn 1 rfl (fun C hC => ?_)); (repeat ((conv => whnf); simp [tupL])); refine hC _ ?_; clear hC C; simp only [List.drop, Nat.reduceAdd]) | (refine arun_skip ?_ ?_; (focus (simp [awant, tupL]; done))) | (refine arun_c0 (pv) ?_; rintro _ rfl) | (refine arun_c0 (copyNode_AC n e9 .loose) ?_; rintro _ rfl) | (refine arunD_skip ?_ ?_; (focus (simp [awant, tupL]; done))) | (refine AW.regionK [] (fun K hK => ?_)) | (refine AW.regionDK [] (pcs [] []) (by kernel_rfl) (by kernel_rfl) (fun K hK => ?_)) | (refine AW.condT ?_ ?_; (focus (simp [aev, tupL]; done))) | (refine AW.condF ?_ ?_; (focus (simp [aev, tupL]; done))) | with_reducible refine AW.block ?_ | ((first | ((first | refine arun_nil ?_ | refine arunD_nil ?_); refine hK _ ?_; clear hK K) | refine AW.skip ?_ | refine AW.exit ?_ | refine AW.ret ?_); simp only [thenA_exit, inBlockA_exit, if_true, if_false, Nat.reduceEqDiff, thenA_normal, inBlockA_normal, reduceIte, thenA_ret, inBlockA_ret, endQ_ret, endR_ret, endG_ret, endQ_normal, endR_normal, endG_normal])))
        exact ⟨nodeA n, by simp [ares, aresL], node_pur n, n, e9, rfl⟩
      · rw [hb] at pv
        (repeat (first | with_reducible refine AW.seq ?_ | ((first | refine arun_kn 4 rfl (fun C hC => ?_) | refine arunD_kn 4 rfl (fun C hC => ?_)); (repeat ((conv => whnf); simp [tupL])); refine hC _ ?_; clear hC C; simp only [List.drop, Nat.reduceAdd]) | ((first | refine arun_kn 1 rfl (fun C hC => ?_) | refine arunD_kn 1 rfl (fun C hC => ?_)); (repeat ((conv => whnf); simp [tupL])); refine hC _ ?_; clear hC C; simp only [List.drop, Nat.reduceAdd]) | (refine arun_skip ?_ ?_; (focus (simp [awant, tupL]; done))) | (refine arun_c0 (pv) ?_; rintro _ rfl) | (refine arunD_skip ?_ ?_; (focus (simp [awant, tupL]; done))) | (refine AW.regionK [] (fun K hK => ?_)) | (refine AW.regionDK [] (pcs [] []) (by kernel_rfl) (by kernel_rfl) (fun K hK => ?_)) | (refine AW.condT ?_ ?_; (focus (simp [aev, tupL]; done))) | (refine AW.condF ?_ ?_; (focus (simp [aev, tupL]; done))) | with_reducible refine AW.block ?_ | ((first | ((first | refine arun_nil ?_ | refine arunD_nil ?_); refine hK _ ?_; clear hK K) | refine AW.skip ?_ | refine AW.exit ?_ | refine AW.ret ?_); simp only [thenA_exit, inBlockA_exit, if_true, if_false, Nat.reduceEqDiff, thenA_normal, inBlockA_normal, reduceIte, thenA_ret, inBlockA_ret, endQ_ret, endR_ret, endG_ret, endQ_normal, endR_normal, endG_normal])))
        exact ⟨nodeA m, by simp [ares, aresL], node_pur m, m, hm, rfl⟩
  · have pa : ∀ x y, Sml y → AC Try.prog 103 [nodeA n, .view .lent 1 (strsE (p ++ [x])), nodeA y] 0 rOpt := fun x y hy => rOpt_of (addAt_AC n y (p ++ [x]) .lent hn hy (by simp; omega)) (fun m h => addS_sml hn hy h)
    unfold nodeA at pa
    rw [nodeL_eq] at pa
    simp only [strs_snoc] at pa
    have hb1 : p.length * 16 ≤ 140737488355328 := by omega
    have hb2 : p.length ≤ 140737488355328 := by omega
    have hb3 : (p.length + 1) * 16 ≤ 140737488355328 := by omega
    have hb4 : p.length + 1 ≤ 140737488355328 := by omega
    (repeat (first | with_reducible refine AW.seq ?_ | ((first | refine arun_kn 4 rfl (fun C hC => ?_) | refine arunD_kn 4 rfl (fun C hC => ?_)); (repeat ((conv => whnf); simp [tupL, strsE_len, hb1, hb2, hb3, hb4])); refine hC _ ?_; clear hC C; simp only [List.drop, Nat.reduceAdd]) | ((first | refine arun_kn 1 rfl (fun C hC => ?_) | refine arunD_kn 1 rfl (fun C hC => ?_)); (repeat ((conv => whnf); simp [tupL, strsE_len, hb1, hb2, hb3, hb4])); refine hC _ ?_; clear hC C; simp only [List.drop, Nat.reduceAdd]) | (refine arun_skip ?_ ?_; (focus (simp [awant, tupL, strsE_len, hb1, hb2, hb3, hb4]; done))) | (refine arun_c (1) (hof) ?_; (rintro _ ⟨x, rfl⟩; have hcx := snoc_clo p x)) | (refine arun_c (B) (hR) ?_; (rintro _ ⟨y, hy, rfl⟩)) | (refine arunD_skip ?_ ?_; (focus (simp [awant, tupL, strsE_len, hb1, hb2, hb3, hb4]; done))) | (refine arunD_cE (1) (hof) (by exact rStr_ex) ?_; (rintro _ ⟨x, rfl⟩; have hcx := snoc_clo p x); intro _) | (refine arunD_cE (B) (hR) (by exact rNodeA_ex) ?_; (rintro _ ⟨y, hy, rfl⟩); intro _) | (refine arunD_sE (0) ((pa x y hy).toR) (by exact rOpt_ex) ?_ ?_; (rintro _ ⟨m, b, hm, rfl⟩ -)) | (refine AW.regionK [] (fun K hK => ?_)) | (refine AW.regionDK [] (pcs [(6, 1, rStr), (10, B, rNodeA)] [11]) (by kernel_rfl) (by kernel_rfl) (fun K hK => ?_)) | (refine AW.condT ?_ ?_; (focus (simp [aev, tupL, strsE_len, hb1, hb2, hb3, hb4]; done))) | (refine AW.condF ?_ ?_; (focus (simp [aev, tupL, strsE_len, hb1, hb2, hb3, hb4]; done))) | with_reducible refine AW.block ?_ | ((first | ((first | refine arun_nil ?_ | refine arunD_nil ?_); refine hK _ ?_; clear hK K) | refine AW.skip ?_ | refine AW.exit ?_ | refine AW.ret ?_); simp only [thenA_exit, inBlockA_exit, if_true, if_false, Nat.reduceEqDiff, thenA_normal, inBlockA_normal, reduceIte, thenA_ret, inBlockA_ret, endQ_ret, endR_ret, endG_ret, endQ_normal, endR_normal, endG_normal])))
    · skip
      have e9 : Sml n := hn.sml
      cases b
      · (repeat (first | with_reducible refine AW.seq ?_ | ((first | refine arun_kn 4 rfl (fun C hC => ?_) | refine arunD_kn 4 rfl (fun C hC => ?_)); (repeat ((conv => whnf); simp [tupL])); refine hC _ ?_; clear hC C; simp only [List.drop, Nat.reduceAdd]) | ((first | refine arun_kn 1 rfl (fun C hC => ?_) | refine arunD_kn 1 rfl (fun C hC => ?_)); (repeat ((conv => whnf); simp [tupL])); refine hC _ ?_; clear hC C; simp only [List.drop, Nat.reduceAdd]) | (refine arun_skip ?_ ?_; (focus (simp [awant, tupL]; done))) | (refine arun_c0 (copyNode_AC n e9 .loose) ?_; rintro _ rfl) | (refine arunD_skip ?_ ?_; (focus (simp [awant, tupL]; done))) | (refine AW.regionK [] (fun K hK => ?_)) | (refine AW.regionDK [] (pcs [] []) (by kernel_rfl) (by kernel_rfl) (fun K hK => ?_)) | (refine AW.condT ?_ ?_; (focus (simp [aev, tupL]; done))) | (refine AW.condF ?_ ?_; (focus (simp [aev, tupL]; done))) | with_reducible refine AW.block ?_ | ((first | ((first | refine arun_nil ?_ | refine arunD_nil ?_); refine hK _ ?_; clear hK K) | refine AW.skip ?_ | refine AW.exit ?_ | refine AW.ret ?_); simp only [thenA_exit, inBlockA_exit, if_true, if_false, Nat.reduceEqDiff, thenA_normal, inBlockA_normal, reduceIte, thenA_ret, inBlockA_ret, endQ_ret, endR_ret, endG_ret, endQ_normal, endR_normal, endG_normal])))
        exact ⟨nodeA n, by simp [ares, aresL], node_pur n, n, e9, rfl⟩
      · have pv := validNode_AC m .loose
        cases hb : validB m
        · rw [hb] at pv
          (repeat (first | with_reducible refine AW.seq ?_ | ((first | refine arun_kn 4 rfl (fun C hC => ?_) | refine arunD_kn 4 rfl (fun C hC => ?_)); (repeat ((conv => whnf); simp [tupL])); refine hC _ ?_; clear hC C; simp only [List.drop, Nat.reduceAdd]) | ((first | refine arun_kn 1 rfl (fun C hC => ?_) | refine arunD_kn 1 rfl (fun C hC => ?_)); (repeat ((conv => whnf); simp [tupL])); refine hC _ ?_; clear hC C; simp only [List.drop, Nat.reduceAdd]) | (refine arun_skip ?_ ?_; (focus (simp [awant, tupL]; done))) | (refine arun_c0 (pv) ?_; rintro _ rfl) | (refine arun_c0 (copyNode_AC n e9 .loose) ?_; rintro _ rfl) | (refine arunD_skip ?_ ?_; (focus (simp [awant, tupL]; done))) | (refine AW.regionK [] (fun K hK => ?_)) | (refine AW.regionDK [] (pcs [] []) (by kernel_rfl) (by kernel_rfl) (fun K hK => ?_)) | (refine AW.condT ?_ ?_; (focus (simp [aev, tupL]; done))) | (refine AW.condF ?_ ?_; (focus (simp [aev, tupL]; done))) | with_reducible refine AW.block ?_ | ((first | ((first | refine arun_nil ?_ | refine arunD_nil ?_); refine hK _ ?_; clear hK K) | refine AW.skip ?_ | refine AW.exit ?_ | refine AW.ret ?_); simp only [thenA_exit, inBlockA_exit, if_true, if_false, Nat.reduceEqDiff, thenA_normal, inBlockA_normal, reduceIte, thenA_ret, inBlockA_ret, endQ_ret, endR_ret, endG_ret, endQ_normal, endR_normal, endG_normal])))
          exact ⟨nodeA n, by simp [ares, aresL], node_pur n, n, e9, rfl⟩
        · rw [hb] at pv
          (repeat (first | with_reducible refine AW.seq ?_ | ((first | refine arun_kn 4 rfl (fun C hC => ?_) | refine arunD_kn 4 rfl (fun C hC => ?_)); (repeat ((conv => whnf); simp [tupL])); refine hC _ ?_; clear hC C; simp only [List.drop, Nat.reduceAdd]) | ((first | refine arun_kn 1 rfl (fun C hC => ?_) | refine arunD_kn 1 rfl (fun C hC => ?_)); (repeat ((conv => whnf); simp [tupL])); refine hC _ ?_; clear hC C; simp only [List.drop, Nat.reduceAdd]) | (refine arun_skip ?_ ?_; (focus (simp [awant, tupL]; done))) | (refine arun_c0 (pv) ?_; rintro _ rfl) | (refine arunD_skip ?_ ?_; (focus (simp [awant, tupL]; done))) | (refine AW.regionK [] (fun K hK => ?_)) | (refine AW.regionDK [] (pcs [] []) (by kernel_rfl) (by kernel_rfl) (fun K hK => ?_)) | (refine AW.condT ?_ ?_; (focus (simp [aev, tupL]; done))) | (refine AW.condF ?_ ?_; (focus (simp [aev, tupL]; done))) | with_reducible refine AW.block ?_ | ((first | ((first | refine arun_nil ?_ | refine arunD_nil ?_); refine hK _ ?_; clear hK K) | refine AW.skip ?_ | refine AW.exit ?_ | refine AW.ret ?_); simp only [thenA_exit, inBlockA_exit, if_true, if_false, Nat.reduceEqDiff, thenA_normal, inBlockA_normal, reduceIte, thenA_ret, inBlockA_ret, endQ_ret, endR_ret, endG_ret, endQ_normal, endR_normal, endG_normal])))
          exact ⟨nodeA m, by simp [ares, aresL], node_pur m, m, hm, rfl⟩
    · rintro _ _ h; exact h.elim
  · have ps : ∀ y, Sml y → AC Try.prog 105 [nodeA n, .view .loose 1 (strsE p), nodeT .loose y] 0 rOpt := fun y hy => rOpt_of (setAt_AC .loose p n y .loose hn hy) (fun m h => setS_sml p n y m hn hy h)
    unfold nodeA at ps
    rw [nodeL_eq] at ps
    (repeat (first | with_reducible refine AW.seq ?_ | ((first | refine arun_kn 4 rfl (fun C hC => ?_) | refine arunD_kn 4 rfl (fun C hC => ?_)); (repeat ((conv => whnf); simp [tupL])); refine hC _ ?_; clear hC C; simp only [List.drop, Nat.reduceAdd]) | ((first | refine arun_kn 1 rfl (fun C hC => ?_) | refine arunD_kn 1 rfl (fun C hC => ?_)); (repeat ((conv => whnf); simp [tupL])); refine hC _ ?_; clear hC C; simp only [List.drop, Nat.reduceAdd]) | (refine arun_skip ?_ ?_; (focus (simp [awant, tupL]; done))) | (refine arun_c (B) (hR) ?_; (rintro _ ⟨y, hy, rfl⟩)) | (refine arun_c0 (ps y hy) ?_; (rintro _ ⟨m, b, hm, rfl⟩)) | (refine arunD_skip ?_ ?_; (focus (simp [awant, tupL]; done))) | (refine arunD_cE (B) (hR) (by exact rNodeA_ex) ?_; (rintro _ ⟨y, hy, rfl⟩); intro _) | (refine arunD_cE (0) (ps y hy) (by exact rOpt_ex) ?_; (rintro _ ⟨m, b, hm, rfl⟩); intro _) | (refine AW.regionK [] (fun K hK => ?_)) | (refine AW.regionDK [] (pcs [(3, B, rNodeA), (4, 0, rOpt)] []) (by kernel_rfl) (by kernel_rfl) (fun K hK => ?_)) | (refine AW.condT ?_ ?_; (focus (simp [aev, tupL]; done))) | (refine AW.condF ?_ ?_; (focus (simp [aev, tupL]; done))) | with_reducible refine AW.block ?_ | ((first | ((first | refine arun_nil ?_ | refine arunD_nil ?_); refine hK _ ?_; clear hK K) | refine AW.skip ?_ | refine AW.exit ?_ | refine AW.ret ?_); simp only [thenA_exit, inBlockA_exit, if_true, if_false, Nat.reduceEqDiff, thenA_normal, inBlockA_normal, reduceIte, thenA_ret, inBlockA_ret, endQ_ret, endR_ret, endG_ret, endQ_normal, endR_normal, endG_normal])))
    have e9 : Sml n := hn.sml
    cases b
    · (repeat (first | with_reducible refine AW.seq ?_ | ((first | refine arun_kn 4 rfl (fun C hC => ?_) | refine arunD_kn 4 rfl (fun C hC => ?_)); (repeat ((conv => whnf); simp [tupL])); refine hC _ ?_; clear hC C; simp only [List.drop, Nat.reduceAdd]) | ((first | refine arun_kn 1 rfl (fun C hC => ?_) | refine arunD_kn 1 rfl (fun C hC => ?_)); (repeat ((conv => whnf); simp [tupL])); refine hC _ ?_; clear hC C; simp only [List.drop, Nat.reduceAdd]) | (refine arun_skip ?_ ?_; (focus (simp [awant, tupL]; done))) | (refine arun_c0 (copyNode_AC n e9 .loose) ?_; rintro _ rfl) | (refine arunD_skip ?_ ?_; (focus (simp [awant, tupL]; done))) | (refine AW.regionK [] (fun K hK => ?_)) | (refine AW.regionDK [] (pcs [] []) (by kernel_rfl) (by kernel_rfl) (fun K hK => ?_)) | (refine AW.condT ?_ ?_; (focus (simp [aev, tupL]; done))) | (refine AW.condF ?_ ?_; (focus (simp [aev, tupL]; done))) | with_reducible refine AW.block ?_ | ((first | ((first | refine arun_nil ?_ | refine arunD_nil ?_); refine hK _ ?_; clear hK K) | refine AW.skip ?_ | refine AW.exit ?_ | refine AW.ret ?_); simp only [thenA_exit, inBlockA_exit, if_true, if_false, Nat.reduceEqDiff, thenA_normal, inBlockA_normal, reduceIte, thenA_ret, inBlockA_ret, endQ_ret, endR_ret, endG_ret, endQ_normal, endR_normal, endG_normal])))
      exact ⟨nodeA n, by simp [ares, aresL], node_pur n, n, e9, rfl⟩
    · have pv := validNode_AC m .loose
      cases hb : validB m
      · rw [hb] at pv
        (repeat (first | with_reducible refine AW.seq ?_ | ((first | refine arun_kn 4 rfl (fun C hC => ?_) | refine arunD_kn 4 rfl (fun C hC => ?_)); (repeat ((conv => whnf); simp [tupL])); refine hC _ ?_; clear hC C; simp only [List.drop, Nat.reduceAdd]) | ((first | refine arun_kn 1 rfl (fun C hC => ?_) | refine arunD_kn 1 rfl (fun C hC => ?_)); (repeat ((conv => whnf); simp [tupL])); refine hC _ ?_; clear hC C; simp only [List.drop, Nat.reduceAdd]) | (refine arun_skip ?_ ?_; (focus (simp [awant, tupL]; done))) | (refine arun_c0 (pv) ?_; rintro _ rfl) | (refine arun_c0 (copyNode_AC n e9 .loose) ?_; rintro _ rfl) | (refine arunD_skip ?_ ?_; (focus (simp [awant, tupL]; done))) | (refine AW.regionK [] (fun K hK => ?_)) | (refine AW.regionDK [] (pcs [] []) (by kernel_rfl) (by kernel_rfl) (fun K hK => ?_)) | (refine AW.condT ?_ ?_; (focus (simp [aev, tupL]; done))) | (refine AW.condF ?_ ?_; (focus (simp [aev, tupL]; done))) | with_reducible refine AW.block ?_ | ((first | ((first | refine arun_nil ?_ | refine arunD_nil ?_); refine hK _ ?_; clear hK K) | refine AW.skip ?_ | refine AW.exit ?_ | refine AW.ret ?_); simp only [thenA_exit, inBlockA_exit, if_true, if_false, Nat.reduceEqDiff, thenA_normal, inBlockA_normal, reduceIte, thenA_ret, inBlockA_ret, endQ_ret, endR_ret, endG_ret, endQ_normal, endR_normal, endG_normal])))
        exact ⟨nodeA n, by simp [ares, aresL], node_pur n, n, e9, rfl⟩
      · rw [hb] at pv
        (repeat (first | with_reducible refine AW.seq ?_ | ((first | refine arun_kn 4 rfl (fun C hC => ?_) | refine arunD_kn 4 rfl (fun C hC => ?_)); (repeat ((conv => whnf); simp [tupL])); refine hC _ ?_; clear hC C; simp only [List.drop, Nat.reduceAdd]) | ((first | refine arun_kn 1 rfl (fun C hC => ?_) | refine arunD_kn 1 rfl (fun C hC => ?_)); (repeat ((conv => whnf); simp [tupL])); refine hC _ ?_; clear hC C; simp only [List.drop, Nat.reduceAdd]) | (refine arun_skip ?_ ?_; (focus (simp [awant, tupL]; done))) | (refine arun_c0 (pv) ?_; rintro _ rfl) | (refine arunD_skip ?_ ?_; (focus (simp [awant, tupL]; done))) | (refine AW.regionK [] (fun K hK => ?_)) | (refine AW.regionDK [] (pcs [] []) (by kernel_rfl) (by kernel_rfl) (fun K hK => ?_)) | (refine AW.condT ?_ ?_; (focus (simp [aev, tupL]; done))) | (refine AW.condF ?_ ?_; (focus (simp [aev, tupL]; done))) | with_reducible refine AW.block ?_ | ((first | ((first | refine arun_nil ?_ | refine arunD_nil ?_); refine hK _ ?_; clear hK K) | refine AW.skip ?_ | refine AW.exit ?_ | refine AW.ret ?_); simp only [thenA_exit, inBlockA_exit, if_true, if_false, Nat.reduceEqDiff, thenA_normal, inBlockA_normal, reduceIte, thenA_ret, inBlockA_ret, endQ_ret, endR_ret, endG_ret, endQ_normal, endR_normal, endG_normal])))
        exact ⟨nodeA m, by simp [ares, aresL], node_pur m, m, hm, rfl⟩
  · (repeat (first | with_reducible refine AW.seq ?_ | ((first | refine arun_kn 4 rfl (fun C hC => ?_) | refine arunD_kn 4 rfl (fun C hC => ?_)); (repeat ((conv => whnf); simp)); refine hC _ ?_; clear hC C; simp only [List.drop, Nat.reduceAdd]) | ((first | refine arun_kn 1 rfl (fun C hC => ?_) | refine arunD_kn 1 rfl (fun C hC => ?_)); (repeat ((conv => whnf); simp)); refine hC _ ?_; clear hC C; simp only [List.drop, Nat.reduceAdd]) | (refine arun_skip ?_ ?_; (focus (simp [awant]; done))) | (refine arun_c (A) (hS) ?_; (rintro _ ⟨m, hm, rfl⟩)) | (refine arunD_skip ?_ ?_; (focus (simp [awant]; done))) | (refine AW.regionK [] (fun K hK => ?_)) | (refine AW.regionDK [] (pcs [] []) (by kernel_rfl) (by kernel_rfl) (fun K hK => ?_)) | (refine AW.condT ?_ ?_; (focus (simp [aev]; done))) | (refine AW.condF ?_ ?_; (focus (simp [aev]; done))) | with_reducible refine AW.block ?_ | ((first | ((first | refine arun_nil ?_ | refine arunD_nil ?_); refine hK _ ?_; clear hK K) | refine AW.skip ?_ | refine AW.exit ?_ | refine AW.ret ?_); simp only [thenA_exit, inBlockA_exit, if_true, if_false, Nat.reduceEqDiff, thenA_normal, inBlockA_normal, reduceIte, thenA_ret, inBlockA_ret, endQ_ret, endR_ret, endG_ret, endQ_normal, endR_normal, endG_normal])))
    exact ⟨nodeA m, by simp [ares, aresL], node_pur m, m, hm, rfl⟩
  · have pv := validNode_AC n .loose
    rw [hv] at pv
    (repeat (first | with_reducible refine AW.seq ?_ | ((first | refine arun_kn 4 rfl (fun C hC => ?_) | refine arunD_kn 4 rfl (fun C hC => ?_)); (repeat ((conv => whnf); simp [e0, e1, e2, e3])); refine hC _ ?_; clear hC C; simp only [List.drop, Nat.reduceAdd]) | ((first | refine arun_kn 1 rfl (fun C hC => ?_) | refine arunD_kn 1 rfl (fun C hC => ?_)); (repeat ((conv => whnf); simp [e0, e1, e2, e3])); refine hC _ ?_; clear hC C; simp only [List.drop, Nat.reduceAdd]) | (refine arun_skip ?_ ?_; (focus (simp [awant, e0, e1, e2, e3]; done))) | (refine arun_c0 (pv) ?_; rintro _ rfl) | (refine arunD_skip ?_ ?_; (focus (simp [awant, e0, e1, e2, e3]; done))) | (refine AW.regionK [] (fun K hK => ?_)) | (refine AW.regionDK [] (pcs [] []) (by kernel_rfl) (by kernel_rfl) (fun K hK => ?_)) | (refine AW.condT ?_ ?_; (focus (simp [aev, e0, e1, e2, e3]; done))) | (refine AW.condF ?_ ?_; (focus (simp [aev, e0, e1, e2, e3]; done))) | with_reducible refine AW.block ?_ | ((first | ((first | refine arun_nil ?_ | refine arunD_nil ?_); refine hK _ ?_; clear hK K) | refine AW.skip ?_ | refine AW.exit ?_ | refine AW.ret ?_); simp only [thenA_exit, inBlockA_exit, if_true, if_false, Nat.reduceEqDiff, thenA_normal, inBlockA_normal, reduceIte, thenA_ret, inBlockA_ret, endQ_ret, endR_ret, endG_ret, endQ_normal, endR_normal, endG_normal])))
    exact ⟨nodeA n, by simp [ares, aresL], node_pur n, n, hn.sml, rfl⟩
end Go.Proofs.Ytiobnaielfeeaaa.Eng
-- EV: rows skip
namespace Go.Proofs.Ytiobnaielfeeaaa.Eng
open Go Go.RowKit
attribute [local simp] big size_mk ASt.pay Option.map_map Function.comp_def awant aop acall ado aev ofVal ofVal0 ASt.put ASt.add ASt.turn ASt.kill abox aalloc astore aload ASt.at cellsTo afieldAddr afield aindexAddr aindex alen abin aint acmp astr aun apick aextract anil aslice abound abuild afill abuildSlice asCells aps avCells over upd aappend asrc amax amin aconv mkSt slots rowsOf_cons rowsOf_nil usedOf_cons usedOf_nil ZK.av List.replicate ASt.back ASt.addL ASt.killL nodeA nodeT nodeTL_eq nodeL_eq strsE_get strsE_len intsE_get intsE_len strsE_at intsE_at nodeN namesRow nodeO kidsRow tab2 tab3 tab4 tab5 tab6 tab7 tab8 tab9 tab10 tab11 tab12 tab13 tab14 tab15 tab16 tab17 tab18 tab19 tab21 tab22 tab23 tab24 tab25 tab26 tab27 tab28 tab29 tab30 tab48 tab51 tab52 tab59 tab77 tab78 tab79 tab91 tab95 tab96 tab97 tab109 tab116 tab132 tab133 tab138 tab139 tab144 tab145 tab146 tab148 tab149 tab150
def rPair (r : AV) : Prop := ∃ a b : Nd, Sml a ∧ Sml b ∧ r = .tup [nodeA a, nodeA b]
def pC : Nat := cN + 1 + wC + cN
theorem anyPair_AC : AC Try.prog 47 [.rdr] pC rPair := by
  have hN : AC Try.prog 51 [.rdr] cN rNodeA := anyNode_AC
  have hR := near_AC
  have hpC : pC = cN + 1 + wC + cN := rfl
  generalize pC = D at *
  generalize cN = M at *
  generalize wC = W at *
  subst hpC
  refine AC.of tab_ok mixed_ok Try.func47 (by rfl) (by kernel_rfl) ?_; rintro ⟨P, T, hT, hm, w0, S0, rd0, k0⟩ hP hTT; dsimp only at hP hTT; subst hP hTT; unfold initSt; rw [Try.ntmps47]
  (repeat (first | with_reducible refine AW.seq ?_ | ((first | refine arun_kn 4 rfl (fun C hC => ?_) | refine arunD_kn 4 rfl (fun C hC => ?_)); (repeat ((conv => whnf); simp)); refine hC _ ?_; clear hC C; simp only [List.drop, Nat.reduceAdd]) | ((first | refine arun_kn 1 rfl (fun C hC => ?_) | refine arunD_kn 1 rfl (fun C hC => ?_)); (repeat ((conv => whnf); simp)); refine hC _ ?_; clear hC C; simp only [List.drop, Nat.reduceAdd]) | (refine arun_skip ?_ ?_; (focus (simp [awant]; done))) | (refine arun_c (M) (hN) ?_; (rintro _ ⟨a, ha, rfl⟩)) | (refine arunD_skip ?_ ?_; (focus (simp [awant]; done))) | (refine AW.regionK [] (fun K hK => ?_)) | (refine AW.regionDK [] (pcs [] []) (by kernel_rfl) (by kernel_rfl) (fun K hK => ?_)) | (refine AW.condT ?_ ?_; (focus (simp [aev]; done))) | (refine AW.condF ?_ ?_; (focus (simp [aev]; done))) | with_reducible refine AW.block ?_ | ((first | ((first | refine arun_nil ?_ | refine arunD_nil ?_); refine hK _ ?_; clear hK K) | refine AW.skip ?_ | refine AW.exit ?_ | refine AW.ret ?_); simp only [thenA_exit, inBlockA_exit, if_true, if_false, Nat.reduceEqDiff, thenA_normal, inBlockA_normal, reduceIte, thenA_ret, inBlockA_ret, endQ_ret, endR_ret, endG_ret, endQ_normal, endR_normal, endG_normal])))
  have pv := validNode_AC a .loose
  cases hb : validB a
  · rw [hb] at pv
    (repeat (first | with_reducible refine AW.seq ?_ | ((first | refine arun_kn 4 rfl (fun C hC => ?_) | refine arunD_kn 4 rfl (fun C hC => ?_)); (repeat ((conv => whnf); simp)); refine hC _ ?_; clear hC C; simp only [List.drop, Nat.reduceAdd]) | ((first | refine arun_kn 1 rfl (fun C hC => ?_) | refine arunD_kn 1 rfl (fun C hC => ?_)); (repeat ((conv => whnf); simp)); refine hC _ ?_; clear hC C; simp only [List.drop, Nat.reduceAdd]) | (refine arun_skip ?_ ?_; (focus (simp [awant]; done))) | (refine arun_c0 (pv) ?_; rintro _ rfl) | (refine arun_c (M) (hN) ?_; (rintro _ ⟨b, hb, rfl⟩)) | (refine arunD_skip ?_ ?_; (focus (simp [awant]; done))) | (refine arunD_c (0) (pv) ?_; rintro _ rfl; intro _) | (refine arunD_cE (M) (hN) (by exact rNodeA_ex) ?_; (rintro _ ⟨b, hb, rfl⟩); intro _) | (refine AW.regionK [] (fun K hK => ?_)) | (refine AW.regionDK [] (pcs [(2, M, rNodeA)] []) (by kernel_rfl) (by kernel_rfl) (fun K hK => ?_)) | (refine AW.condT ?_ ?_; (focus (simp [aev]; done))) | (refine AW.condF ?_ ?_; (focus (simp [aev]; done))) | with_reducible refine AW.block ?_ | ((first | ((first | refine arun_nil ?_ | refine arunD_nil ?_); refine hK _ ?_; clear hK K) | refine AW.skip ?_ | refine AW.exit ?_ | refine AW.ret ?_); simp only [thenA_exit, inBlockA_exit, if_true, if_false, Nat.reduceEqDiff, thenA_normal, inBlockA_normal, reduceIte, thenA_ret, inBlockA_ret, endQ_ret, endR_ret, endG_ret, endQ_normal, endR_normal, endG_normal])))
    exact ⟨.tup [nodeA a, nodeA b], by simp [ares, aresL, upd, rowsOf_cons], tup2_pur (node_pur a) (node_pur b), a, b, ha, hb, rfl⟩
  · rw [hb] at pv
    have hRa := hR a hb
    unfold nodeA at hRa
    rw [nodeL_eq] at hRa
    (repeat (first | with_reducible refine AW.seq ?_ | ((first | refine arun_kn 4 rfl (fun C hC => ?_) | refine arunD_kn 4 rfl (fun C hC => ?_)); (repeat ((conv => whnf); simp)); refine hC _ ?_; clear hC C; simp only [List.drop, Nat.reduceAdd]) | ((first | refine arun_kn 1 rfl (fun C hC => ?_) | refine arunD_kn 1 rfl (fun C hC => ?_)); (repeat ((conv => whnf); simp)); refine hC _ ?_; clear hC C; simp only [List.drop, Nat.reduceAdd]) | (refine arun_skip ?_ ?_; (focus (simp [awant]; done))) | (refine arun_c0 (pv) ?_; rintro _ rfl) | (refine arun_c (1) (pick_AC 3 (by omega) (by omega)) ?_; (rintro _ ⟨u, rfl, -⟩)) | (refine arunD_skip ?_ ?_; (focus (simp [awant]; done))) | (refine AW.regionK [] (fun K hK => ?_)) | (refine AW.regionDK [] (pcs [] []) (by kernel_rfl) (by kernel_rfl) (fun K hK => ?_)) | (refine AW.condT ?_ ?_; (focus (simp [aev]; done))) | (refine AW.condF ?_ ?_; (focus (simp [aev]; done))) | with_reducible refine AW.block ?_ | ((first | ((first | refine arun_nil ?_ | refine arunD_nil ?_); refine hK _ ?_; clear hK K) | refine AW.skip ?_ | refine AW.exit ?_ | refine AW.ret ?_); simp only [thenA_exit, inBlockA_exit, if_true, if_false, Nat.reduceEqDiff, thenA_normal, inBlockA_normal, reduceIte, thenA_ret, inBlockA_ret, endQ_ret, endR_ret, endG_ret, endQ_normal, endR_normal, endG_normal])))
    rcases Int.lt_or_le 0 u with h0 | h0
    · (repeat (first | with_reducible refine AW.seq ?_ | ((first | refine arun_kn 4 rfl (fun C hC => ?_) | refine arunD_kn 4 rfl (fun C hC => ?_)); (repeat ((conv => whnf); simp [h0])); refine hC _ ?_; clear hC C; simp only [List.drop, Nat.reduceAdd]) | ((first | refine arun_kn 1 rfl (fun C hC => ?_) | refine arunD_kn 1 rfl (fun C hC => ?_)); (repeat ((conv => whnf); simp [h0])); refine hC _ ?_; clear hC C; simp only [List.drop, Nat.reduceAdd]) | (refine arun_skip ?_ ?_; (focus (simp [awant, h0]; done))) | (refine arun_c (W) (hRa) ?_; (rintro _ ⟨b, hb, rfl⟩)) | (refine arunD_skip ?_ ?_; (focus (simp [awant, h0]; done))) | (refine arunD_cE (W) (hRa) (by exact rNodeA_ex) ?_; (rintro _ ⟨b, hb, rfl⟩); intro _) | (refine AW.regionK [] (fun K hK => ?_)) | (refine AW.regionDK [] (pcs [(3, W, rNodeA)] []) (by kernel_rfl) (by kernel_rfl) (fun K hK => ?_)) | (refine AW.condT ?_ ?_; (focus (simp [aev, h0]; done))) | (refine AW.condF ?_ ?_; (focus (simp [aev, h0]; done))) | with_reducible refine AW.block ?_ | ((first | ((first | refine arun_nil ?_ | refine arunD_nil ?_); refine hK _ ?_; clear hK K) | refine AW.skip ?_ | refine AW.exit ?_ | refine AW.ret ?_); simp only [thenA_exit, inBlockA_exit, if_true, if_false, Nat.reduceEqDiff, thenA_normal, inBlockA_normal, reduceIte, thenA_ret, inBlockA_ret, endQ_ret, endR_ret, endG_ret, endQ_normal, endR_normal, endG_normal])))
      exact ⟨.tup [nodeA a, nodeA b], by simp [ares, aresL, upd, rowsOf_cons], tup2_pur (node_pur a) (node_pur b), a, b, ha, hb, rfl⟩
    · have h0' : ¬ 0 < u := by omega
      (repeat (first | with_reducible refine AW.seq ?_ | ((first | refine arun_kn 4 rfl (fun C hC => ?_) | refine arunD_kn 4 rfl (fun C hC => ?_)); (repeat ((conv => whnf); simp [h0'])); refine hC _ ?_; clear hC C; simp only [List.drop, Nat.reduceAdd]) | ((first | refine arun_kn 1 rfl (fun C hC => ?_) | refine arunD_kn 1 rfl (fun C hC => ?_)); (repeat ((conv => whnf); simp [h0'])); refine hC _ ?_; clear hC C; simp only [List.drop, Nat.reduceAdd]) | (refine arun_skip ?_ ?_; (focus (simp [awant, h0']; done))) | (refine arun_c (M) (hN) ?_; (rintro _ ⟨b, hb, rfl⟩)) | (refine arunD_skip ?_ ?_; (focus (simp [awant, h0']; done))) | (refine arunD_cE (M) (hN) (by exact rNodeA_ex) ?_; (rintro _ ⟨b, hb, rfl⟩); intro _) | (refine AW.regionK [] (fun K hK => ?_)) | (refine AW.regionDK [] (pcs [(2, M, rNodeA)] []) (by kernel_rfl) (by kernel_rfl) (fun K hK => ?_)) | (refine AW.condT ?_ ?_; (focus (simp [aev, h0']; done))) | (refine AW.condF ?_ ?_; (focus (simp [aev, h0']; done))) | with_reducible refine AW.block ?_ | ((first | ((first | refine arun_nil ?_ | refine arunD_nil ?_); refine hK _ ?_; clear hK K) | refine AW.skip ?_ | refine AW.exit ?_ | refine AW.ret ?_); simp only [thenA_exit, inBlockA_exit, if_true, if_false, Nat.reduceEqDiff, thenA_normal, inBlockA_normal, reduceIte, thenA_ret, inBlockA_ret, endQ_ret, endR_ret, endG_ret, endQ_normal, endR_normal, endG_normal])))
      exact ⟨.tup [nodeA a, nodeA b], by simp [ares, aresL, upd, rowsOf_cons], tup2_pur (node_pur a) (node_pur b), a, b, ha, hb, rfl⟩
theorem pC_le : pC ≤ 1000000 := by decide +kernel
theorem drawMerge_AC0 (zs : List Int) (hl : zs.length ≤ 1048576) (hb : ByteL zs) : AC0 Try.prog 36 [.view .loose 1 (bytesE zs)] rPair := by
  have hc := pC_le
  have hP := anyPair_AC
  generalize pC = M at *
  refine AC0.of tab_ok mixed_ok Try.func36 (by rfl) (by kernel_rfl) ?_; rintro ⟨P, T, hT, hm, w0, S0, rd0, k0⟩ hP hTT hk0; dsimp only at hP hTT hk0; subst hP hTT hk0; unfold initSt; rw [Try.ntmps36]
  (repeat (first | with_reducible refine AW.seq ?_ | ((first | refine arun_kn 4 rfl (fun C hC => ?_) | refine arunD_kn 4 rfl (fun C hC => ?_)); (repeat ((conv => whnf); simp)); refine hC _ ?_; clear hC C; simp only [List.drop, Nat.reduceAdd]) | ((first | refine arun_kn 1 rfl (fun C hC => ?_) | refine arunD_kn 1 rfl (fun C hC => ?_)); (repeat ((conv => whnf); simp)); refine hC _ ?_; clear hC C; simp only [List.drop, Nat.reduceAdd]) | (refine arun_skip ?_ ?_; (focus (simp [awant]; done))) | (refine arun_cN M (newReader_ACN zs (0 + M) hl (by omega) hb) ?_) | (refine arun_c (M) (hP) ?_; (rintro _ ⟨a, b, ha, hb, rfl⟩)) | (refine arunD_skip ?_ ?_; (focus (simp [awant]; done))) | (refine AW.regionK [] (fun K hK => ?_)) | (refine AW.regionDK [] (pcs [] []) (by kernel_rfl) (by kernel_rfl) (fun K hK => ?_)) | (refine AW.condT ?_ ?_; (focus (simp [aev]; done))) | (refine AW.condF ?_ ?_; (focus (simp [aev]; done))) | with_reducible refine AW.block ?_ | ((first | ((first | refine arun_nil ?_ | refine arunD_nil ?_); refine hK _ ?_; clear hK K) | refine AW.skip ?_ | refine AW.exit ?_ | refine AW.ret ?_); simp only [thenA_exit, inBlockA_exit, if_true, if_false, Nat.reduceEqDiff, thenA_normal, inBlockA_normal, reduceIte, thenA_ret, inBlockA_ret, endQ_ret, endR_ret, endG_ret, endQ_normal, endR_normal, endG_normal])))
  exact ⟨.tup [nodeA a, nodeA b], by simp [ares, aresL, upd, rowsOf_cons], tup2_pur (node_pur a) (node_pur b), a, b, ha, hb, rfl⟩
end Go.Proofs.Ytiobnaielfeeaaa.Eng
-- EV: rows skip
namespace Go.Proofs.Ytiobnaielfeeaaa.Eng
open Go Go.RowKit
attribute [local simp] big size_mk ASt.pay Option.map_map Function.comp_def awant aop acall ado aev ofVal ofVal0 ASt.put ASt.add ASt.turn ASt.kill abox aalloc astore aload ASt.at cellsTo afieldAddr afield aindexAddr aindex alen abin aint acmp astr aun apick aextract anil aslice abound abuild afill abuildSlice asCells aps avCells over upd aappend asrc amax amin aconv mkSt slots rowsOf_cons rowsOf_nil usedOf_cons usedOf_nil ZK.av List.replicate ASt.back ASt.addL ASt.killL nodeA nodeT nodeTL_eq nodeL_eq strsE_get strsE_len intsE_get intsE_len strsE_at intsE_at nodeN namesRow nodeO kidsRow tab2 tab3 tab4 tab5 tab6 tab7 tab8 tab9 tab10 tab11 tab12 tab13 tab14 tab15 tab16 tab17 tab18 tab19 tab21 tab22 tab23 tab24 tab25 tab26 tab27 tab28 tab29 tab30 tab48 tab51 tab52 tab59 tab77 tab78 tab79 tab91 tab95 tab96 tab97 tab109 tab116 tab132 tab133 tab138 tab139 tab144 tab145 tab146 tab148 tab149 tab150
theorem AC.argsW2 {P : Program} {f : FuncId} {a b c : AV} {k : Nat} {Post : AV → Prop} (h : AC P f [c, b] k Post) (hw : Wk a b) : AC P f [c, a] k Post :=
  h.args (fun _ _ _ hr => (WkL.cons (Wk.refl _) (.cons hw .nil)).rep hr)
theorem leaf_wk (k m : Int) (x : ByteArray) : Wk (node0 k m x) (nodeA ⟨k, m, x, [], []⟩) := by
  unfold node0 nodeA
  rw [nodeL_eq]
  exact Wk.agg (.cons (Wk.refl _) (.cons (Wk.refl _) (.cons (Wk.refl _) (.cons (Wk.nil (fun h => by cases h)) (.cons (Wk.nil (fun h => by cases h)) .nil)))))
theorem mgO_some {n p R : Nd} (h : mgO n p = some R) : validB n = true ∧ validB p = true ∧ R = mrg p n ∧ validB R = true := by
  unfold mgO chkN at h
  split at h
  · rename_i h1
    rw [Bool.and_eq_true] at h1
    split at h
    · rename_i h2
      cases h
      exact ⟨h1.1, h1.2, rfl, h2⟩
    · cases h
  · cases h
def emp4 : Nd := ⟨4, 0, ⟨#[]⟩, [], []⟩
theorem emp4_valid : validB emp4 = true := by decide +kernel
theorem mgO_emp {n : Nd} (h : validB n = true) : mgO n emp4 = some (baseM n) := by
  have e : mrg emp4 n = baseM n := by rw [mrg_map (p := emp4) rfl]; rfl
  have hv : validB (baseM n) = true := by
    unfold baseM
    split
    · exact h
    · exact emp4_valid
  unfold mgO chkN
  rw [h, emp4_valid, e, hv]; rfl
theorem mgO_twice {n p R : Nd} (h : mgO n p = some R) : mgO R p = some R := by
  obtain ⟨h1, h2, rfl, h3⟩ := mgO_some h
  unfold mgO chkN
  rw [h3, h2, mrg_twice p (Shp.of h2) n (Shp.of h1) (Shp.of h3), h3]; rfl
theorem eqSelf_AC (n : Nd) (hs : Sml n) : AC Try.prog 24 [nodeA n, nodeA n] 0 (fun r => r = .bool true) := by
  have := equalNodeG_AC n hs n .loose .loose
  rw [eqN_refl, nodeT_loose] at this
  exact this
theorem zz0 : Nd.zero.kind = 0 := rfl
theorem zz1 : Nd.zero.num = 0 := rfl
theorem zz2 : Nd.zero.text = ⟨#[]⟩ := rfl
theorem zz3 : strsE Nd.zero.names = [] := rfl
theorem zz4 : Nd.zero.kids = [] := rfl
theorem lawMrg_AC0 (zs : List Int) (hb : ByteL zs) : AC0 Try.prog 10 [.view .loose 1 (bytesE zs)] (fun r => r = .bool true) := by
  refine AC0.of tab_ok mixed_ok Try.func10 (by rfl) (by kernel_rfl) ?_; rintro ⟨P, T, hT, hm, w0, S0, rd0, k0⟩ hP hTT hk0; dsimp only at hP hTT hk0; subst hP hTT hk0; unfold initSt; rw [Try.ntmps10]
  by_cases hl : zs.length ≤ 1048576
  rotate_left
  · have hl' : (1048576 : Int) < (zs.length : Int) := by omega
    (repeat (first | with_reducible refine AW.seq ?_ | ((first | refine arun_kn 4 rfl (fun C hC => ?_) | refine arunD_kn 4 rfl (fun C hC => ?_)); (repeat ((conv => whnf); simp [bytesE_len, hl'])); refine hC _ ?_; clear hC C; simp only [List.drop, Nat.reduceAdd]) | ((first | refine arun_kn 1 rfl (fun C hC => ?_) | refine arunD_kn 1 rfl (fun C hC => ?_)); (repeat ((conv => whnf); simp [bytesE_len, hl'])); refine hC _ ?_; clear hC C; simp only [List.drop, Nat.reduceAdd]) | (refine arun_skip ?_ ?_; (focus (simp [awant, bytesE_len, hl']; done))) | (refine arunD_skip ?_ ?_; (focus (simp [awant, bytesE_len, hl']; done))) | (refine AW.regionK [] (fun K hK => ?_)) | (refine AW.regionDK [] (pcs [] []) (by kernel_rfl) (by kernel_rfl) (fun K hK => ?_)) | (refine AW.condT ?_ ?_; (focus (simp [aev, bytesE_len, hl']; done))) | (refine AW.condF ?_ ?_; (focus (simp [aev, bytesE_len, hl']; done))) | with_reducible refine AW.block ?_ | ((first | ((first | refine arun_nil ?_ | refine arunD_nil ?_); refine hK _ ?_; clear hK K) | refine AW.skip ?_ | refine AW.exit ?_ | refine AW.ret ?_); simp only [thenA_exit, inBlockA_exit, if_true, if_false, Nat.reduceEqDiff, thenA_normal, inBlockA_normal, reduceIte, thenA_ret, inBlockA_ret, endQ_ret, endR_ret, endG_ret, endQ_normal, endR_normal, endG_normal])))
    exact ⟨.bool true, by simp [ares, aresL], pur_bool, rfl⟩
  have hl' : ¬ ((1048576 : Int) < (zs.length : Int)) := by omega
  (repeat (first | with_reducible refine AW.seq ?_ | ((first | refine arun_kn 4 rfl (fun C hC => ?_) | refine arunD_kn 4 rfl (fun C hC => ?_)); (repeat ((conv => whnf); simp [bytesE_len, hl'])); refine hC _ ?_; clear hC C; simp only [List.drop, Nat.reduceAdd]) | ((first | refine arun_kn 1 rfl (fun C hC => ?_) | refine arunD_kn 1 rfl (fun C hC => ?_)); (repeat ((conv => whnf); simp [bytesE_len, hl'])); refine hC _ ?_; clear hC C; simp only [List.drop, Nat.reduceAdd]) | (refine arun_skip ?_ ?_; (focus (simp [awant, bytesE_len, hl']; done))) | (refine arun_cZ (drawMerge_AC0 zs hl hb) ?_; (rintro _ ⟨a, b, ha, hb, rfl⟩)) | (refine arunD_skip ?_ ?_; (focus (simp [awant, bytesE_len, hl']; done))) | (refine AW.regionK [] (fun K hK => ?_)) | (refine AW.regionDK [] (pcs [] []) (by kernel_rfl) (by kernel_rfl) (fun K hK => ?_)) | (refine AW.condT ?_ ?_; (focus (simp [aev, bytesE_len, hl']; done))) | (refine AW.condF ?_ ?_; (focus (simp [aev, bytesE_len, hl']; done))) | with_reducible refine AW.block ?_ | ((first | ((first | refine arun_nil ?_ | refine arunD_nil ?_); refine hK _ ?_; clear hK K) | refine AW.skip ?_ | refine AW.exit ?_ | refine AW.ret ?_); simp only [thenA_exit, inBlockA_exit, if_true, if_false, Nat.reduceEqDiff, thenA_normal, inBlockA_normal, reduceIte, thenA_ret, inBlockA_ret, endQ_ret, endR_ret, endG_ret, endQ_normal, endR_normal, endG_normal])))
  have c1 := MergeNode_AC a b
  have c2 := specMergeNode_AC a b
  rw [optA_eq] at c1 c2
  unfold nodeA at c1 c2
  rw [nodeL_eq a, nodeL_eq b] at c1 c2
  cases ho : mgO a b with
  | none =>
    rw [ho] at c1 c2
    have c3 := eqSelf_AC Nd.zero (sml_leaf 0 0 ⟨#[]⟩)
    have hcz := node_clo Nd.zero
    unfold nodeA at c3 hcz
    rw [zeroA] at c3 hcz
    (repeat (first | with_reducible refine AW.seq ?_ | ((first | refine arun_kn 4 rfl (fun C hC => ?_) | refine arunD_kn 4 rfl (fun C hC => ?_)); (repeat ((conv => whnf); simp [opt_none, zz0, zz1, zz2, zz3, zz4])); refine hC _ ?_; clear hC C; simp only [List.drop, Nat.reduceAdd]) | ((first | refine arun_kn 1 rfl (fun C hC => ?_) | refine arunD_kn 1 rfl (fun C hC => ?_)); (repeat ((conv => whnf); simp [opt_none, zz0, zz1, zz2, zz3, zz4])); refine hC _ ?_; clear hC C; simp only [List.drop, Nat.reduceAdd]) | (refine arun_skip ?_ ?_; (focus (simp [awant, opt_none, zz0, zz1, zz2, zz3, zz4]; done))) | (refine arun_c0 (c1) ?_; rintro _ rfl) | (refine arun_c0 (c2) ?_; rintro _ rfl) | (refine arun_c0 (c3) ?_; rintro _ rfl) | (refine arunD_skip ?_ ?_; (focus (simp [awant, opt_none, zz0, zz1, zz2, zz3, zz4]; done))) | (refine AW.regionK [] (fun K hK => ?_)) | (refine AW.regionDK [] (pcs [] []) (by kernel_rfl) (by kernel_rfl) (fun K hK => ?_)) | (refine AW.condT ?_ ?_; (focus (simp [aev, opt_none, zz0, zz1, zz2, zz3, zz4]; done))) | (refine AW.condF ?_ ?_; (focus (simp [aev, opt_none, zz0, zz1, zz2, zz3, zz4]; done))) | with_reducible refine AW.block ?_ | ((first | ((first | refine arun_nil ?_ | refine arunD_nil ?_); refine hK _ ?_; clear hK K) | refine AW.skip ?_ | refine AW.exit ?_ | refine AW.ret ?_); simp only [thenA_exit, inBlockA_exit, if_true, if_false, Nat.reduceEqDiff, thenA_normal, inBlockA_normal, reduceIte, thenA_ret, inBlockA_ret, endQ_ret, endR_ret, endG_ret, endQ_normal, endR_normal, endG_normal])))
    exact ⟨.bool true, by simp [ares, aresL], pur_bool, rfl⟩
  | some R =>
  rw [ho] at c1 c2
  obtain ⟨va, vb, hR, vR⟩ := mgO_some ho
  have sa := Shp.of va
  have sb := Shp.of vb
  have sR := (Shp.of vR).sml
  have c3 := eqSelf_AC R sR
  unfold nodeA at c3
  rw [nodeL_eq R] at c3
  have c4 := (MergeNode_AC a emp4).argsW2 (a := node0 4 0 ⟨#[]⟩) (leaf_wk 4 0 ⟨#[]⟩)
  have hc4 : Clo (.agg [.int .i64 4, .int .i64 0, .str ⟨#[]⟩, .view .tight 0 [], .view .tight 0 []]) := (node0_pur 4 0 ⟨#[]⟩).clo
  rw [mgO_emp va, optA_eq] at c4
  unfold nodeA node0 at c4
  rw [nodeL_eq a] at c4
  have hbase : a.kind = 4 → baseM a = a := fun h => by unfold baseM; rw [if_pos h]
  have c5 := eqSelf_AC a sa.sml
  unfold nodeA at c5
  rw [nodeL_eq a] at c5
  have hRb : b.kind ≠ 4 → R = b := fun h => by rw [hR, mrg_no h]
  generalize baseM a = S at *
  cases hb4 : b.kind == 4
  · obtain rfl := hRb (by simpa using hb4)
    cases ha4 : a.kind != 4
    · obtain rfl := hbase (by simpa using ha4)
      (repeat (first | with_reducible refine AW.seq ?_ | ((first | refine arun_kn 4 rfl (fun C hC => ?_) | refine arunD_kn 4 rfl (fun C hC => ?_)); (repeat ((conv => whnf); simp [opt_some, hb4, ha4])); refine hC _ ?_; clear hC C; simp only [List.drop, Nat.reduceAdd]) | ((first | refine arun_kn 1 rfl (fun C hC => ?_) | refine arunD_kn 1 rfl (fun C hC => ?_)); (repeat ((conv => whnf); simp [opt_some, hb4, ha4])); refine hC _ ?_; clear hC C; simp only [List.drop, Nat.reduceAdd]) | (refine arun_skip ?_ ?_; (focus (simp [awant, opt_some, hb4, ha4]; done))) | (refine arun_c0 (c1) ?_; rintro _ rfl) | (refine arun_c0 (c2) ?_; rintro _ rfl) | (refine arun_c0 (c3) ?_; rintro _ rfl) | (refine arun_c0 (c4) ?_; rintro _ rfl) | (refine arun_c0 (c5) ?_; rintro _ rfl) | (refine arunD_skip ?_ ?_; (focus (simp [awant, opt_some, hb4, ha4]; done))) | (refine AW.regionK [] (fun K hK => ?_)) | (refine AW.regionDK [] (pcs [] []) (by kernel_rfl) (by kernel_rfl) (fun K hK => ?_)) | (refine AW.condT ?_ ?_; (focus (simp [aev, opt_some, hb4, ha4]; done))) | (refine AW.condF ?_ ?_; (focus (simp [aev, opt_some, hb4, ha4]; done))) | with_reducible refine AW.block ?_ | ((first | ((first | refine arun_nil ?_ | refine arunD_nil ?_); refine hK _ ?_; clear hK K) | refine AW.skip ?_ | refine AW.exit ?_ | refine AW.ret ?_); simp only [thenA_exit, inBlockA_exit, if_true, if_false, Nat.reduceEqDiff, thenA_normal, inBlockA_normal, reduceIte, thenA_ret, inBlockA_ret, endQ_ret, endR_ret, endG_ret, endQ_normal, endR_normal, endG_normal])))
      exact ⟨.bool true, by simp [ares, aresL], pur_bool, rfl⟩
    · (repeat (first | with_reducible refine AW.seq ?_ | ((first | refine arun_kn 4 rfl (fun C hC => ?_) | refine arunD_kn 4 rfl (fun C hC => ?_)); (repeat ((conv => whnf); simp [opt_some, hb4, ha4])); refine hC _ ?_; clear hC C; simp only [List.drop, Nat.reduceAdd]) | ((first | refine arun_kn 1 rfl (fun C hC => ?_) | refine arunD_kn 1 rfl (fun C hC => ?_)); (repeat ((conv => whnf); simp [opt_some, hb4, ha4])); refine hC _ ?_; clear hC C; simp only [List.drop, Nat.reduceAdd]) | (refine arun_skip ?_ ?_; (focus (simp [awant, opt_some, hb4, ha4]; done))) | (refine arun_c0 (c1) ?_; rintro _ rfl) | (refine arun_c0 (c2) ?_; rintro _ rfl) | (refine arun_c0 (c3) ?_; rintro _ rfl) | (refine arun_c0 (c4) ?_; rintro _ rfl) | (refine arun_c0 (c5) ?_; rintro _ rfl) | (refine arunD_skip ?_ ?_; (focus (simp [awant, opt_some, hb4, ha4]; done))) | (refine AW.regionK [] (fun K hK => ?_)) | (refine AW.regionDK [] (pcs [] []) (by kernel_rfl) (by kernel_rfl) (fun K hK => ?_)) | (refine AW.condT ?_ ?_; (focus (simp [aev, opt_some, hb4, ha4]; done))) | (refine AW.condF ?_ ?_; (focus (simp [aev, opt_some, hb4, ha4]; done))) | with_reducible refine AW.block ?_ | ((first | ((first | refine arun_nil ?_ | refine arunD_nil ?_); refine hK _ ?_; clear hK K) | refine AW.skip ?_ | refine AW.exit ?_ | refine AW.ret ?_); simp only [thenA_exit, inBlockA_exit, if_true, if_false, Nat.reduceEqDiff, thenA_normal, inBlockA_normal, reduceIte, thenA_ret, inBlockA_ret, endQ_ret, endR_ret, endG_ret, endQ_normal, endR_normal, endG_normal])))
      exact ⟨.bool true, by simp [ares, aresL], pur_bool, rfl⟩
  · cases ha4 : a.kind != 4
    · obtain rfl := hbase (by simpa using ha4)
      (repeat (first | with_reducible refine AW.seq ?_ | ((first | refine arun_kn 4 rfl (fun C hC => ?_) | refine arunD_kn 4 rfl (fun C hC => ?_)); (repeat ((conv => whnf); simp [opt_some, hb4, ha4])); refine hC _ ?_; clear hC C; simp only [List.drop, Nat.reduceAdd]) | ((first | refine arun_kn 1 rfl (fun C hC => ?_) | refine arunD_kn 1 rfl (fun C hC => ?_)); (repeat ((conv => whnf); simp [opt_some, hb4, ha4])); refine hC _ ?_; clear hC C; simp only [List.drop, Nat.reduceAdd]) | (refine arun_skip ?_ ?_; (focus (simp [awant, opt_some, hb4, ha4]; done))) | (refine arun_c0 (c1) ?_; rintro _ rfl) | (refine arun_c0 (c2) ?_; rintro _ rfl) | (refine arun_c0 (c3) ?_; rintro _ rfl) | (refine arun_c0 (c4) ?_; rintro _ rfl) | (refine arun_c0 (c5) ?_; rintro _ rfl) | (refine arunD_skip ?_ ?_; (focus (simp [awant, opt_some, hb4, ha4]; done))) | (refine AW.regionK [] (fun K hK => ?_)) | (refine AW.regionDK [] (pcs [] []) (by kernel_rfl) (by kernel_rfl) (fun K hK => ?_)) | (refine AW.condT ?_ ?_; (focus (simp [aev, opt_some, hb4, ha4]; done))) | (refine AW.condF ?_ ?_; (focus (simp [aev, opt_some, hb4, ha4]; done))) | with_reducible refine AW.block ?_ | ((first | ((first | refine arun_nil ?_ | refine arunD_nil ?_); refine hK _ ?_; clear hK K) | refine AW.skip ?_ | refine AW.exit ?_ | refine AW.ret ?_); simp only [thenA_exit, inBlockA_exit, if_true, if_false, Nat.reduceEqDiff, thenA_normal, inBlockA_normal, reduceIte, thenA_ret, inBlockA_ret, endQ_ret, endR_ret, endG_ret, endQ_normal, endR_normal, endG_normal])))
      exact ⟨.bool true, by simp [ares, aresL], pur_bool, rfl⟩
    · (repeat (first | with_reducible refine AW.seq ?_ | ((first | refine arun_kn 4 rfl (fun C hC => ?_) | refine arunD_kn 4 rfl (fun C hC => ?_)); (repeat ((conv => whnf); simp [opt_some, hb4, ha4])); refine hC _ ?_; clear hC C; simp only [List.drop, Nat.reduceAdd]) | ((first | refine arun_kn 1 rfl (fun C hC => ?_) | refine arunD_kn 1 rfl (fun C hC => ?_)); (repeat ((conv => whnf); simp [opt_some, hb4, ha4])); refine hC _ ?_; clear hC C; simp only [List.drop, Nat.reduceAdd]) | (refine arun_skip ?_ ?_; (focus (simp [awant, opt_some, hb4, ha4]; done))) | (refine arun_c0 (c1) ?_; rintro _ rfl) | (refine arun_c0 (c2) ?_; rintro _ rfl) | (refine arun_c0 (c3) ?_; rintro _ rfl) | (refine arun_c0 (c4) ?_; rintro _ rfl) | (refine arun_c0 (c5) ?_; rintro _ rfl) | (refine arunD_skip ?_ ?_; (focus (simp [awant, opt_some, hb4, ha4]; done))) | (refine AW.regionK [] (fun K hK => ?_)) | (refine AW.regionDK [] (pcs [] []) (by kernel_rfl) (by kernel_rfl) (fun K hK => ?_)) | (refine AW.condT ?_ ?_; (focus (simp [aev, opt_some, hb4, ha4]; done))) | (refine AW.condF ?_ ?_; (focus (simp [aev, opt_some, hb4, ha4]; done))) | with_reducible refine AW.block ?_ | ((first | ((first | refine arun_nil ?_ | refine arunD_nil ?_); refine hK _ ?_; clear hK K) | refine AW.skip ?_ | refine AW.exit ?_ | refine AW.ret ?_); simp only [thenA_exit, inBlockA_exit, if_true, if_false, Nat.reduceEqDiff, thenA_normal, inBlockA_normal, reduceIte, thenA_ret, inBlockA_ret, endQ_ret, endR_ret, endG_ret, endQ_normal, endR_normal, endG_normal])))
      exact ⟨.bool true, by simp [ares, aresL], pur_bool, rfl⟩
theorem lawMrgT_AC0 (zs : List Int) (hb : ByteL zs) : AC0 Try.prog 11 [.view .loose 1 (bytesE zs)] (fun r => r = .bool true) := by
  refine AC0.of tab_ok mixed_ok Try.func11 (by rfl) (by kernel_rfl) ?_; rintro ⟨P, T, hT, hm, w0, S0, rd0, k0⟩ hP hTT hk0; dsimp only at hP hTT hk0; subst hP hTT hk0; unfold initSt; rw [Try.ntmps11]
  by_cases hl : zs.length ≤ 1048576
  rotate_left
  · have hl' : (1048576 : Int) < (zs.length : Int) := by omega
    (repeat (first | with_reducible refine AW.seq ?_ | ((first | refine arun_kn 4 rfl (fun C hC => ?_) | refine arunD_kn 4 rfl (fun C hC => ?_)); (repeat ((conv => whnf); simp [bytesE_len, hl'])); refine hC _ ?_; clear hC C; simp only [List.drop, Nat.reduceAdd]) | ((first | refine arun_kn 1 rfl (fun C hC => ?_) | refine arunD_kn 1 rfl (fun C hC => ?_)); (repeat ((conv => whnf); simp [bytesE_len, hl'])); refine hC _ ?_; clear hC C; simp only [List.drop, Nat.reduceAdd]) | (refine arun_skip ?_ ?_; (focus (simp [awant, bytesE_len, hl']; done))) | (refine arunD_skip ?_ ?_; (focus (simp [awant, bytesE_len, hl']; done))) | (refine AW.regionK [] (fun K hK => ?_)) | (refine AW.regionDK [] (pcs [] []) (by kernel_rfl) (by kernel_rfl) (fun K hK => ?_)) | (refine AW.condT ?_ ?_; (focus (simp [aev, bytesE_len, hl']; done))) | (refine AW.condF ?_ ?_; (focus (simp [aev, bytesE_len, hl']; done))) | with_reducible refine AW.block ?_ | ((first | ((first | refine arun_nil ?_ | refine arunD_nil ?_); refine hK _ ?_; clear hK K) | refine AW.skip ?_ | refine AW.exit ?_ | refine AW.ret ?_); simp only [thenA_exit, inBlockA_exit, if_true, if_false, Nat.reduceEqDiff, thenA_normal, inBlockA_normal, reduceIte, thenA_ret, inBlockA_ret, endQ_ret, endR_ret, endG_ret, endQ_normal, endR_normal, endG_normal])))
    exact ⟨.bool true, by simp [ares, aresL], pur_bool, rfl⟩
  have hl' : ¬ ((1048576 : Int) < (zs.length : Int)) := by omega
  (repeat (first | with_reducible refine AW.seq ?_ | ((first | refine arun_kn 4 rfl (fun C hC => ?_) | refine arunD_kn 4 rfl (fun C hC => ?_)); (repeat ((conv => whnf); simp [bytesE_len, hl'])); refine hC _ ?_; clear hC C; simp only [List.drop, Nat.reduceAdd]) | ((first | refine arun_kn 1 rfl (fun C hC => ?_) | refine arunD_kn 1 rfl (fun C hC => ?_)); (repeat ((conv => whnf); simp [bytesE_len, hl'])); refine hC _ ?_; clear hC C; simp only [List.drop, Nat.reduceAdd]) | (refine arun_skip ?_ ?_; (focus (simp [awant, bytesE_len, hl']; done))) | (refine arun_cZ (drawMerge_AC0 zs hl hb) ?_; (rintro _ ⟨a, b, ha, hb, rfl⟩)) | (refine arunD_skip ?_ ?_; (focus (simp [awant, bytesE_len, hl']; done))) | (refine AW.regionK [] (fun K hK => ?_)) | (refine AW.regionDK [] (pcs [] []) (by kernel_rfl) (by kernel_rfl) (fun K hK => ?_)) | (refine AW.condT ?_ ?_; (focus (simp [aev, bytesE_len, hl']; done))) | (refine AW.condF ?_ ?_; (focus (simp [aev, bytesE_len, hl']; done))) | with_reducible refine AW.block ?_ | ((first | ((first | refine arun_nil ?_ | refine arunD_nil ?_); refine hK _ ?_; clear hK K) | refine AW.skip ?_ | refine AW.exit ?_ | refine AW.ret ?_); simp only [thenA_exit, inBlockA_exit, if_true, if_false, Nat.reduceEqDiff, thenA_normal, inBlockA_normal, reduceIte, thenA_ret, inBlockA_ret, endQ_ret, endR_ret, endG_ret, endQ_normal, endR_normal, endG_normal])))
  have c1 := MergeNode_AC a b
  have c2 := specMergeNode_AC a b
  rw [optA_eq] at c1 c2
  unfold nodeA at c1 c2
  rw [nodeL_eq a, nodeL_eq b] at c1 c2
  cases ho : mgO a b with
  | none =>
    rw [ho] at c1 c2
    have c3 := eqSelf_AC Nd.zero (sml_leaf 0 0 ⟨#[]⟩)
    have hcz := node_clo Nd.zero
    unfold nodeA at c3 hcz
    rw [zeroA] at c3 hcz
    (repeat (first | with_reducible refine AW.seq ?_ | ((first | refine arun_kn 4 rfl (fun C hC => ?_) | refine arunD_kn 4 rfl (fun C hC => ?_)); (repeat ((conv => whnf); simp [opt_none, zz0, zz1, zz2, zz3, zz4])); refine hC _ ?_; clear hC C; simp only [List.drop, Nat.reduceAdd]) | ((first | refine arun_kn 1 rfl (fun C hC => ?_) | refine arunD_kn 1 rfl (fun C hC => ?_)); (repeat ((conv => whnf); simp [opt_none, zz0, zz1, zz2, zz3, zz4])); refine hC _ ?_; clear hC C; simp only [List.drop, Nat.reduceAdd]) | (refine arun_skip ?_ ?_; (focus (simp [awant, opt_none, zz0, zz1, zz2, zz3, zz4]; done))) | (refine arun_c0 (c1) ?_; rintro _ rfl) | (refine arun_c0 (c2) ?_; rintro _ rfl) | (refine arun_c0 (c3) ?_; rintro _ rfl) | (refine arunD_skip ?_ ?_; (focus (simp [awant, opt_none, zz0, zz1, zz2, zz3, zz4]; done))) | (refine AW.regionK [] (fun K hK => ?_)) | (refine AW.regionDK [] (pcs [] []) (by kernel_rfl) (by kernel_rfl) (fun K hK => ?_)) | (refine AW.condT ?_ ?_; (focus (simp [aev, opt_none, zz0, zz1, zz2, zz3, zz4]; done))) | (refine AW.condF ?_ ?_; (focus (simp [aev, opt_none, zz0, zz1, zz2, zz3, zz4]; done))) | with_reducible refine AW.block ?_ | ((first | ((first | refine arun_nil ?_ | refine arunD_nil ?_); refine hK _ ?_; clear hK K) | refine AW.skip ?_ | refine AW.exit ?_ | refine AW.ret ?_); simp only [thenA_exit, inBlockA_exit, if_true, if_false, Nat.reduceEqDiff, thenA_normal, inBlockA_normal, reduceIte, thenA_ret, inBlockA_ret, endQ_ret, endR_ret, endG_ret, endQ_normal, endR_normal, endG_normal])))
    exact ⟨.bool true, by simp [ares, aresL], pur_bool, rfl⟩
  | some R =>
  rw [ho] at c1 c2
  obtain ⟨va, vb, hR, vR⟩ := mgO_some ho
  have sa := Shp.of va
  have sb := Shp.of vb
  have sR := (Shp.of vR).sml
  have c3 := eqSelf_AC R sR
  unfold nodeA at c3
  rw [nodeL_eq R] at c3
  have c4 := MergeNode_AC R b
  rw [mgO_twice ho, optA_eq] at c4
  unfold nodeA at c4
  rw [nodeL_eq R, nodeL_eq b] at c4
  (repeat (first | with_reducible refine AW.seq ?_ | ((first | refine arun_kn 4 rfl (fun C hC => ?_) | refine arunD_kn 4 rfl (fun C hC => ?_)); (repeat ((conv => whnf); simp [opt_some])); refine hC _ ?_; clear hC C; simp only [List.drop, Nat.reduceAdd]) | ((first | refine arun_kn 1 rfl (fun C hC => ?_) | refine arunD_kn 1 rfl (fun C hC => ?_)); (repeat ((conv => whnf); simp [opt_some])); refine hC _ ?_; clear hC C; simp only [List.drop, Nat.reduceAdd]) | (refine arun_skip ?_ ?_; (focus (simp [awant, opt_some]; done))) | (refine arun_c0 (c1) ?_; rintro _ rfl) | (refine arun_c0 (c2) ?_; rintro _ rfl) | (refine arun_c0 (c3) ?_; rintro _ rfl) | (refine arun_c0 (c4) ?_; rintro _ rfl) | (refine arunD_skip ?_ ?_; (focus (simp [awant, opt_some]; done))) | (refine AW.regionK [] (fun K hK => ?_)) | (refine AW.regionDK [] (pcs [] []) (by kernel_rfl) (by kernel_rfl) (fun K hK => ?_)) | (refine AW.condT ?_ ?_; (focus (simp [aev, opt_some]; done))) | (refine AW.condF ?_ ?_; (focus (simp [aev, opt_some]; done))) | with_reducible refine AW.block ?_ | ((first | ((first | refine arun_nil ?_ | refine arunD_nil ?_); refine hK _ ?_; clear hK K) | refine AW.skip ?_ | refine AW.exit ?_ | refine AW.ret ?_); simp only [thenA_exit, inBlockA_exit, if_true, if_false, Nat.reduceEqDiff, thenA_normal, inBlockA_normal, reduceIte, thenA_ret, inBlockA_ret, endQ_ret, endR_ret, endG_ret, endQ_normal, endR_normal, endG_normal])))
  exact ⟨.bool true, by simp [ares, aresL], pur_bool, rfl⟩
end Go.Proofs.Ytiobnaielfeeaaa.Eng
