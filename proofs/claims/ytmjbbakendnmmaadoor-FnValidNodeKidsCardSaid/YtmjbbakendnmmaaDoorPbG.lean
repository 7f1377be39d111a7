/-
  Texts of this claim, joined.
-/
import Derived.Test.YtmjbbakendnmmaaDoorPbF

set_option linter.unusedSimpArgs false
set_option linter.unusedVariables false
set_option maxRecDepth 100000
set_option maxHeartbeats 16000000
-- EV: skip
namespace Go.Proofs.YtmjbbakendnmmaaDoor.Eng
open Go Go.RowKit
attribute [local simp] big size_mk ASt.pay Option.map_map Function.comp_def awant aop acall ado aev ofVal ofVal0 ASt.put ASt.add ASt.turn ASt.kill abox aalloc astore aload ASt.at cellsTo afieldAddr afield aindexAddr aindex alen abin aint acmp astr aun apick aextract anil aslice abound abuild afill abuildSlice asCells aps avCells over upd aappend asrc amax amin aconv mkSt slots rowsOf_cons rowsOf_nil usedOf_cons usedOf_nil ZK.av List.replicate ASt.back ASt.addL ASt.killL nodeA nodeT nodeTL_eq nodeL_eq strsE_get strsE_len intsE_get intsE_len strsE_at intsE_at tab2 tab3 tab4 tab5 tab6 tab7 tab8 tab9 tab10 tab11 tab12 tab13 tab14 tab15 tab16 tab17 tab18 tab19 tab21 tab22 tab23 tab24 tab25 tab26 tab28 tab33 tab34 tab35 tab51 tab52 tab55 tab56 tab61 tab78 tab79 tab80 tab98 tab104 tab110 tab117 tab118 tab123 tab124 tab126 tab127 tab128
theorem natS_nil {n : Nd} (h : validB n = true) : natS n [] = some n := by
  unfold natS
  rw [h, getS]; rfl
theorem pathB_app {p q : List ByteArray} : pathB (p ++ q) = true → pathB p = true ∧ pathB q = true := by
  unfold pathB
  simp only [Bool.and_eq_true, decide_eq_true_eq, List.length_append, List.all_append]
  rintro ⟨h1, h2, h3⟩
  exact ⟨⟨by omega, h2⟩, by omega, h3⟩
theorem natS_split {n m : Nd} {p q : List ByteArray} (h : natS n (p ++ q) = some m) : ∃ a, natS n p = some a ∧ natS a q = some m := by
  have hv := natS_valid h
  unfold natS at h
  split at h
  · rename_i hb
    rw [Bool.and_eq_true] at hb
    obtain ⟨h1, h2⟩ := pathB_app hb.2
    rw [getS_append] at h
    cases ha : getS n p with
    | none => rw [ha] at h; cases h
    | some a =>
      rw [ha] at h
      have hva := getS_valid p n a hb.1 ha
      refine ⟨a, ?_, ?_⟩
      · unfold natS; rw [hb.1, h1, ha]; rfl
      · unfold natS; rw [hva, h2]; exact h
  · cases h
theorem optA_some (m : Nd) : optA (some m) = .tup [nodeA m, .bool true] := rfl
theorem zero_sml : Sml Nd.zero := sml_leaf 0 0 ⟨#[]⟩
theorem opt_sml {n : Nd} {p : List ByteArray} : Sml ((natS n p).getD Nd.zero) := by
  cases h : natS n p with
  | none => exact zero_sml
  | some m => exact (Shp.of (natS_valid h).2).sml
theorem lawNodeAt_AC0 (zs : List Int) (hb : ByteL zs) : AC0 Tryd.prog 8 [.view .loose 1 (bytesE zs)] (fun r => r = .bool true) := by
  refine AC0.of tab_ok mixed_ok Tryd.func8 (by rfl) (by kernel_rfl) ?_; rintro ⟨P, T, hT, hm, w0, S0, rd0, k0⟩ hP hTT hk0; dsimp only at hP hTT hk0; subst hP hTT hk0; unfold initSt; rw [Tryd.ntmps8]
  by_cases hl : zs.length ≤ 1048576
  · have hl' : ¬ ((1048576 : Int) < (zs.length : Int)) := by omega
    (repeat (first | with_reducible refine AW.seq ?_ | ((first | refine arun_kn 4 rfl (fun C hC => ?_) | refine arunD_kn 4 rfl (fun C hC => ?_)); (repeat ((conv => whnf); simp [bytesE_len, hl'])); refine hC _ ?_; clear hC C; simp only [List.drop, Nat.reduceAdd]) | ((first | refine arun_kn 1 rfl (fun C hC => ?_) | refine arunD_kn 1 rfl (fun C hC => ?_)); (repeat ((conv => whnf); simp [bytesE_len, hl'])); refine hC _ ?_; clear hC C; simp only [List.drop, Nat.reduceAdd]) | (refine arun_skip ?_ ?_; (focus (simp [awant, bytesE_len, hl']; done))) | (refine arun_cZ (drawNodeAt_AC0 zs hl hb) ?_; (rintro _ ⟨n, p, hn, hpl, rfl⟩)) | (refine arunD_skip ?_ ?_; (focus (simp [awant, bytesE_len, hl']; done))) | (refine AW.regionK [] (fun K hK => ?_)) | (refine AW.regionDK [] (pcs [] []) (by kernel_rfl) (by kernel_rfl) (fun K hK => ?_)) | (refine AW.condT ?_ ?_; (focus (simp [aev, bytesE_len, hl']; done))) | (refine AW.condF ?_ ?_; (focus (simp [aev, bytesE_len, hl']; done))) | with_reducible refine AW.block ?_ | ((first | ((first | refine arun_nil ?_ | refine arunD_nil ?_); refine hK _ ?_; clear hK K) | refine AW.skip ?_ | refine AW.exit ?_ | refine AW.ret ?_); simp only [thenA_exit, inBlockA_exit, if_true, if_false, Nat.reduceEqDiff, thenA_normal, inBlockA_normal, reduceIte, thenA_ret, inBlockA_ret, endQ_ret, endR_ret, endG_ret, endQ_normal, endR_normal, endG_normal])))
    have p1 := NodeAt_AC .loose n p
    have p2 := specNodeAt_AC .loose n p
    cases hg : natS n p with
    | none =>
      rw [hg] at p1 p2
      have p3 := equalNode_AC Nd.zero zero_sml .loose .loose
      rw [nodeT_loose] at p3
      have hz : optA none = .tup [nodeA Nd.zero, .bool false] := rfl
      rw [hz] at p1 p2
      (repeat (first | with_reducible refine AW.seq ?_ | ((first | refine arun_kn 4 rfl (fun C hC => ?_) | refine arunD_kn 4 rfl (fun C hC => ?_)); (repeat ((conv => whnf); simp)); refine hC _ ?_; clear hC C; simp only [List.drop, Nat.reduceAdd]) | ((first | refine arun_kn 1 rfl (fun C hC => ?_) | refine arunD_kn 1 rfl (fun C hC => ?_)); (repeat ((conv => whnf); simp)); refine hC _ ?_; clear hC C; simp only [List.drop, Nat.reduceAdd]) | (refine arun_skip ?_ ?_; (focus (simp [awant]; done))) | (refine arun_c0 (p1) ?_; rintro _ rfl) | (refine arun_c0 (p2) ?_; rintro _ rfl) | (refine arun_c0 (p3) ?_; rintro _ rfl) | (refine arunD_skip ?_ ?_; (focus (simp [awant]; done))) | (refine AW.regionK [] (fun K hK => ?_)) | (refine AW.regionDK [] (pcs [] []) (by kernel_rfl) (by kernel_rfl) (fun K hK => ?_)) | (refine AW.condT ?_ ?_; (focus (simp [aev]; done))) | (refine AW.condF ?_ ?_; (focus (simp [aev]; done))) | with_reducible refine AW.block ?_ | ((first | ((first | refine arun_nil ?_ | refine arunD_nil ?_); refine hK _ ?_; clear hK K) | refine AW.skip ?_ | refine AW.exit ?_ | refine AW.ret ?_); simp only [thenA_exit, inBlockA_exit, if_true, if_false, Nat.reduceEqDiff, thenA_normal, inBlockA_normal, reduceIte, thenA_ret, inBlockA_ret, endQ_ret, endR_ret, endG_ret, endQ_normal, endR_normal, endG_normal])))
      exact ⟨.bool true, by simp [ares, aresL], pur_bool, rfl⟩
    | some m =>
      rw [hg, optA_some] at p1 p2
      obtain ⟨hv, hvm⟩ := natS_valid hg
      have p3 := equalNode_AC m (Shp.of hvm).sml .loose .loose
      have p4 := equalNode_AC n hn .loose .loose
      have p5 : AC Tryd.prog 27 [nodeA n, .view .tight 0 []] 0 (fun r => r = .tup [nodeA n, .bool true]) := by
        have := NodeAt_AC .loose n []
        rw [natS_nil hv, optA_some] at this
        exact this.args (fun w ρ vs => repL_wk (.cons (Wk.refl _) (.cons (Wk.nil (fun h => by cases h)) .nil)))
      rw [nodeT_loose] at p3 p4
      by_cases h0 : p.length = 0
      · have h0' : ((p.length : Int) == 0) = true := by rw [h0]; rfl
        (repeat (first | with_reducible refine AW.seq ?_ | ((first | refine arun_kn 4 rfl (fun C hC => ?_) | refine arunD_kn 4 rfl (fun C hC => ?_)); (repeat ((conv => whnf); simp [strsE_len, h0, h0'])); refine hC _ ?_; clear hC C; simp only [List.drop, Nat.reduceAdd]) | ((first | refine arun_kn 1 rfl (fun C hC => ?_) | refine arunD_kn 1 rfl (fun C hC => ?_)); (repeat ((conv => whnf); simp [strsE_len, h0, h0'])); refine hC _ ?_; clear hC C; simp only [List.drop, Nat.reduceAdd]) | (refine arun_skip ?_ ?_; (focus (simp [awant, strsE_len, h0, h0']; done))) | (refine arun_c0 (p1) ?_; rintro _ rfl) | (refine arun_c0 (p2) ?_; rintro _ rfl) | (refine arun_c0 (p3) ?_; rintro _ rfl) | (refine arun_c0 (p5) ?_; rintro _ rfl) | (refine arun_c0 (p4) ?_; rintro _ rfl) | (refine arunD_skip ?_ ?_; (focus (simp [awant, strsE_len, h0, h0']; done))) | (refine AW.regionK [] (fun K hK => ?_)) | (refine AW.regionDK [] (pcs [] []) (by kernel_rfl) (by kernel_rfl) (fun K hK => ?_)) | (refine AW.condT ?_ ?_; (focus (simp [aev, strsE_len, h0, h0']; done))) | (refine AW.condF ?_ ?_; (focus (simp [aev, strsE_len, h0, h0']; done))) | with_reducible refine AW.block ?_ | ((first | ((first | refine arun_nil ?_ | refine arunD_nil ?_); refine hK _ ?_; clear hK K) | refine AW.skip ?_ | refine AW.exit ?_ | refine AW.ret ?_); simp only [thenA_exit, inBlockA_exit, if_true, if_false, Nat.reduceEqDiff, thenA_normal, inBlockA_normal, reduceIte, thenA_ret, inBlockA_ret, endQ_ret, endR_ret, endG_ret, endQ_normal, endR_normal, endG_normal])))
        exact ⟨.bool true, by simp [ares, aresL], pur_bool, rfl⟩
      · have h0' : ((p.length : Int) == 0) = false := beq_false_of_ne (by omega)
        have hw : IntKind.i64.wrap ((p.length : Int) - 1) = ((p.length - 1 : Nat) : Int) := by
          rw [i64_nat (by omega) (by omega)]; omega
        obtain ⟨k, hk⟩ : ∃ k, p.length = k + 1 := ⟨p.length - 1, by omega⟩
        have hsp : p = p.take k ++ p.drop k := (List.take_append_drop k p).symm
        rw [hsp] at hg
        obtain ⟨a, ha, hm⟩ := natS_split hg
        have p6 := NodeAt_AC .loose n (p.take k)
        have p7 := NodeAt_AC .loose a (p.drop k)
        rw [ha, optA_some] at p6
        rw [hm, optA_some] at p7
        have hk1 : p.length - 1 = k := by omega
        rw [hk1] at hw
        (repeat (first | with_reducible refine AW.seq ?_ | ((first | refine arun_kn 4 rfl (fun C hC => ?_) | refine arunD_kn 4 rfl (fun C hC => ?_)); (repeat ((conv => whnf); simp [strsE_len, h0, h0', hw])); refine hC _ ?_; clear hC C; simp only [List.drop, Nat.reduceAdd]) | ((first | refine arun_kn 1 rfl (fun C hC => ?_) | refine arunD_kn 1 rfl (fun C hC => ?_)); (repeat ((conv => whnf); simp [strsE_len, h0, h0', hw])); refine hC _ ?_; clear hC C; simp only [List.drop, Nat.reduceAdd]) | (refine arun_skip ?_ ?_; (focus (simp [awant, strsE_len, h0, h0', hw]; done))) | (refine arun_c0 (p1) ?_; rintro _ rfl) | (refine arun_c0 (p2) ?_; rintro _ rfl) | (refine arun_c0 (p3) ?_; rintro _ rfl) | (refine arun_c0 (p5) ?_; rintro _ rfl) | (refine arun_c0 (p4) ?_; rintro _ rfl) | (refine arunD_skip ?_ ?_; (focus (simp [awant, strsE_len, h0, h0', hw]; done))) | (refine AW.regionK [] (fun K hK => ?_)) | (refine AW.condT ?_ ?_; (focus (simp [aev, strsE_len, h0, h0', hw]; done))) | (refine AW.condF ?_ ?_; (focus (simp [aev, strsE_len, h0, h0', hw]; done))) | with_reducible refine AW.block ?_ | ((first | ((first | refine arun_nil ?_ | refine arunD_nil ?_); refine hK _ ?_; clear hK K) | refine AW.skip ?_ | refine AW.exit ?_ | refine AW.ret ?_); simp only [thenA_exit, inBlockA_exit, if_true, if_false, Nat.reduceEqDiff, thenA_normal, inBlockA_normal, reduceIte, thenA_ret, inBlockA_ret, endQ_ret, endR_ret, endG_ret, endQ_normal, endR_normal, endG_normal])))
        have htk : (strsE p).take k = strsE (p.take k) := by simp [strsE, List.map_take]
        have hdk : (strsE p).drop k = strsE (p.drop k) := by simp [strsE, List.map_drop]
        have hkl : k ≤ p.length := by omega
        have hfull : (strsE p).take p.length = strsE p := List.take_of_length_le (by rw [strsE_len]; exact Nat.le_refl _)
        refine AW.regionDK [] (pcs [(4, 0, fun r => r = .tup [nodeA a, .bool true])] []) (by kernel_rfl) (by kernel_rfl) (fun K hK => ?_)
        (repeat (first | with_reducible refine AW.seq ?_ | ((first | refine arun_kn 4 rfl (fun C hC => ?_) | refine arunD_kn 4 rfl (fun C hC => ?_)); (repeat ((conv => whnf); simp [strsE_len, htk, hkl, VC.cut])); refine hC _ ?_; clear hC C; simp only [List.drop, Nat.reduceAdd]) | ((first | refine arun_kn 1 rfl (fun C hC => ?_) | refine arunD_kn 1 rfl (fun C hC => ?_)); (repeat ((conv => whnf); simp [strsE_len, htk, hkl, VC.cut])); refine hC _ ?_; clear hC C; simp only [List.drop, Nat.reduceAdd]) | (refine arun_skip ?_ ?_; (focus (simp [awant, strsE_len, htk, hkl, VC.cut]; done))) | (refine arun_c0 (hx := by (simp [strsE_len, htk, hkl, VC.cut] <;> fail)) (p6) ?_; rintro _ rfl) | (refine arunD_skip ?_ ?_; (focus (simp [awant, strsE_len, htk, hkl, VC.cut]; done))) | (refine arunD_c (0) (p6) ?_; rintro _ rfl; intro _) | (refine AW.regionK [] (fun K hK => ?_)) | (refine AW.condT ?_ ?_; (focus (simp [aev, strsE_len, htk, hkl, VC.cut]; done))) | (refine AW.condF ?_ ?_; (focus (simp [aev, strsE_len, htk, hkl, VC.cut]; done))) | with_reducible refine AW.block ?_ | ((first | ((first | refine arun_nil ?_ | refine arunD_nil ?_); refine hK _ ?_; clear hK K) | refine AW.skip ?_ | refine AW.exit ?_ | refine AW.ret ?_); simp only [thenA_exit, inBlockA_exit, if_true, if_false, Nat.reduceEqDiff, thenA_normal, inBlockA_normal, reduceIte, thenA_ret, inBlockA_ret, endQ_ret, endR_ret, endG_ret, endQ_normal, endR_normal, endG_normal])))
        refine AW.regionDK [] (pcs [(4, 0, fun r => r = .tup [nodeA m, .bool true])] []) (by kernel_rfl) (by kernel_rfl) (fun K hK => ?_)
        (repeat (first | with_reducible refine AW.seq ?_ | ((first | refine arun_kn 4 rfl (fun C hC => ?_) | refine arunD_kn 4 rfl (fun C hC => ?_)); (repeat ((conv => whnf); simp [strsE_len, hdk, hfull, hkl, VC.cut])); refine hC _ ?_; clear hC C; simp only [List.drop, Nat.reduceAdd]) | ((first | refine arun_kn 1 rfl (fun C hC => ?_) | refine arunD_kn 1 rfl (fun C hC => ?_)); (repeat ((conv => whnf); simp [strsE_len, hdk, hfull, hkl, VC.cut])); refine hC _ ?_; clear hC C; simp only [List.drop, Nat.reduceAdd]) | (refine arun_skip ?_ ?_; (focus (simp [awant, strsE_len, hdk, hfull, hkl, VC.cut]; done))) | (refine arun_c0 (hx := by (simp [strsE_len, hdk, hfull, hkl, VC.cut] <;> fail)) (p7) ?_; rintro _ rfl) | (refine arun_c0 (p3) ?_; rintro _ rfl) | (refine arunD_skip ?_ ?_; (focus (simp [awant, strsE_len, hdk, hfull, hkl, VC.cut]; done))) | (refine arunD_c (0) (p7) ?_; rintro _ rfl; intro _) | (refine arunD_c (0) (p3) ?_; rintro _ rfl; intro _) | (refine AW.regionK [] (fun K hK => ?_)) | (refine AW.condT ?_ ?_; (focus (simp [aev, strsE_len, hdk, hfull, hkl, VC.cut]; done))) | (refine AW.condF ?_ ?_; (focus (simp [aev, strsE_len, hdk, hfull, hkl, VC.cut]; done))) | with_reducible refine AW.block ?_ | ((first | ((first | refine arun_nil ?_ | refine arunD_nil ?_); refine hK _ ?_; clear hK K) | refine AW.skip ?_ | refine AW.exit ?_ | refine AW.ret ?_); simp only [thenA_exit, inBlockA_exit, if_true, if_false, Nat.reduceEqDiff, thenA_normal, inBlockA_normal, reduceIte, thenA_ret, inBlockA_ret, endQ_ret, endR_ret, endG_ret, endQ_normal, endR_normal, endG_normal])))
        exact ⟨.bool true, by simp [ares, aresL], pur_bool, rfl⟩
  · have hl' : (1048576 : Int) < (zs.length : Int) := by omega
    (repeat (first | with_reducible refine AW.seq ?_ | ((first | refine arun_kn 4 rfl (fun C hC => ?_) | refine arunD_kn 4 rfl (fun C hC => ?_)); (repeat ((conv => whnf); simp [bytesE_len, hl'])); refine hC _ ?_; clear hC C; simp only [List.drop, Nat.reduceAdd]) | ((first | refine arun_kn 1 rfl (fun C hC => ?_) | refine arunD_kn 1 rfl (fun C hC => ?_)); (repeat ((conv => whnf); simp [bytesE_len, hl'])); refine hC _ ?_; clear hC C; simp only [List.drop, Nat.reduceAdd]) | (refine arun_skip ?_ ?_; (focus (simp [awant, bytesE_len, hl']; done))) | (refine arunD_skip ?_ ?_; (focus (simp [awant, bytesE_len, hl']; done))) | (refine AW.regionK [] (fun K hK => ?_)) | (refine AW.regionDK [] (pcs [] []) (by kernel_rfl) (by kernel_rfl) (fun K hK => ?_)) | (refine AW.condT ?_ ?_; (focus (simp [aev, bytesE_len, hl']; done))) | (refine AW.condF ?_ ?_; (focus (simp [aev, bytesE_len, hl']; done))) | with_reducible refine AW.block ?_ | ((first | ((first | refine arun_nil ?_ | refine arunD_nil ?_); refine hK _ ?_; clear hK K) | refine AW.skip ?_ | refine AW.exit ?_ | refine AW.ret ?_); simp only [thenA_exit, inBlockA_exit, if_true, if_false, Nat.reduceEqDiff, thenA_normal, inBlockA_normal, reduceIte, thenA_ret, inBlockA_ret, endQ_ret, endR_ret, endG_ret, endQ_normal, endR_normal, endG_normal])))
    exact ⟨.bool true, by simp [ares, aresL], pur_bool, rfl⟩
end Go.Proofs.YtmjbbakendnmmaaDoor.Eng
namespace Go.Proofs.YtmjbbakendnmmaaDoor.Eng
open Go Go.RowKit
theorem allL_iff {k : Int} {ns : List ByteArray} {b : List ByteArray} : ∀ {ks : List Nd} {i : Nat}, b ∈ allL k ns ks i ↔ ∃ (j : Nat) (h : j < ks.length), ∃ c ∈ allS ks[j], b = stp k ns (i + j) :: c
  | [], i => by
    rw [allL]
    constructor
    · intro h; cases h
    · rintro ⟨j, h, _⟩; simp at h
  | x :: xs, i => by
    rw [allL, List.mem_append, List.mem_map, allL_iff]
    constructor
    · rintro (⟨c, hc, rfl⟩ | ⟨j, h, c, hc, rfl⟩)
      · exact ⟨0, by simp, c, hc, rfl⟩
      · exact ⟨j + 1, by simpa using h, c, hc, by rw [show i + (j + 1) = i + 1 + j by omega]⟩
    · rintro ⟨j, h, c, hc, rfl⟩
      cases j with
      | zero => exact .inl ⟨c, hc, rfl⟩
      | succ j => exact .inr ⟨j, by simpa using h, c, hc, by rw [show i + (j + 1) = i + 1 + j by omega]⟩
theorem hit_stp {n : Nd} (h : Shp n) {j : Nat} (hj : j < n.kids.length) {s : ByteArray} : hitP n s j = true ↔ stp n.kind n.names j = s := by
  unfold stp
  by_cases h4 : n.kind = 4
  · have hl := (h.map h4).2
    have hn : j < n.names.length := by omega
    rw [hit_map h4 hn, eqs_iff, if_pos h4, List.getElem?_eq_getElem hn]
    exact Iff.rfl
  · by_cases h3 : n.kind = 3
    · rw [hit_list h3, eqs_iff, if_neg h4]
    · have := h.leaf h4 h3
      omega
theorem Shp.dst {n : Nd} (h : Shp n) : Dst n := shape_dst n _ h.choose_spec
theorem mem_all : ∀ (p : List ByteArray) (n : Nd), Shp n → (p ∈ allS n ↔ (getS n p).isSome = true)
  | [], n, h => by
    rw [allS_eq, getS]
    simp
  | s :: p, n, h => by
    rw [allS_eq, List.mem_cons, allL_iff]
    constructor
    · rintro (h1 | ⟨j, hj, c, hc, e⟩)
      · cases h1
      · rw [Nat.zero_add] at e
        obtain ⟨rfl, rfl⟩ := List.cons.inj e
        have hh := (hit_stp h hj).2 rfl
        rcases placeI_cases n (stp n.kind n.names j) with ⟨_, h2⟩ | ⟨k, hk, h2, h3⟩
        · rw [h2 j hj] at hh; cases hh
        · have e2 := (hit_stp h hk).1 h3
          have hjk : j = k := by
            rcases Nat.lt_trichotomy j k with hl | hl | hl
            · exact absurd e2.symm (h.dst.step j k hl hk)
            · exact hl
            · exact absurd e2 (h.dst.step k j hl hj)
          subst hjk
          rw [getS_yes _ hk h2]
          exact (mem_all p _ (h.kid (List.getElem_mem hk))).1 hc
    · intro e
      rcases placeI_cases n s with ⟨h1, _⟩ | ⟨k, hk, h2, h3⟩
      · rw [getS_no _ h1] at e; cases e
      · rw [getS_yes _ hk h2] at e
        exact .inr ⟨k, hk, p, (mem_all p _ (h.kid (List.getElem_mem hk))).2 e, by rw [Nat.zero_add, (hit_stp h hk).1 h3]⟩
theorem namesFrom_plain : ∀ (q : Option ByteArray) (xs : List ByteArray), namesFrom q xs = true → ∀ x ∈ xs, plainT x = true
  | _, [], _, x, hx => by cases hx
  | q, y :: ys, h, x, hx => by
    simp only [namesFrom, Bool.and_eq_true] at h
    rcases List.mem_cons.1 hx with rfl | hx
    · exact h.1.1
    · exact namesFrom_plain _ ys h.2 x hx
theorem dig_plain : ∀ i, i < 6 → plainT (txt (dig1 i)) = true := by
  have h : ∀ i : Fin 6, plainT (txt (dig1 i.1)) = true := by decide +kernel
  exact fun i hi => h ⟨i, hi⟩
theorem stp_plain {n : Nd} (h : Shp n) {j : Nat} (hj : j < n.kids.length) : plainT (stp n.kind n.names j) = true := by
  unfold stp
  by_cases h4 : n.kind = 4
  · have hl := h.map h4
    have hn : j < n.names.length := by omega
    rw [if_pos h4, List.getElem?_eq_getElem hn]
    have := hl.1
    simp only [areNamesB, Bool.and_eq_true] at this
    exact namesFrom_plain none n.names this.2 _ (List.getElem_mem hn)
  · rw [if_neg h4]
    have := h.kids
    exact dig_plain j (by omega)
theorem all_plain : ∀ (p : List ByteArray) (n : Nd), Shp n → p ∈ allS n → p.all plainT = true
  | [], _, _, _ => rfl
  | s :: p, n, h, hp => by
    rw [allS_eq, List.mem_cons, allL_iff] at hp
    rcases hp with h1 | ⟨j, hj, c, hc, e⟩
    · cases h1
    · rw [Nat.zero_add] at e
      obtain ⟨rfl, rfl⟩ := List.cons.inj e
      rw [List.all_cons, stp_plain h hj, all_plain p _ (h.kid (List.getElem_mem hj)) hc]; rfl
theorem mem_nat {n : Nd} (hv : validB n = true) (p : List ByteArray) : p ∈ allS n ↔ (natS n p).isSome = true := by
  unfold natS
  rw [hv, Bool.true_and]
  constructor
  · intro h
    have h1 := allS_short n p h
    have h2 := (valid_way hv).2.1
    have h3 : pathB p = true := by
      unfold pathB
      rw [all_plain p n (Shp.of hv) h]
      simp; omega
    rw [if_pos h3]
    exact (mem_all p n (Shp.of hv)).1 h
  · intro h
    split at h
    · exact (mem_all p n (Shp.of hv)).2 h
    · cases h
theorem any_eqT {l : List (List ByteArray)} {p : List ByteArray} : l.any (fun q => eqT q p) = true ↔ p ∈ l := by
  rw [List.any_eq_true]
  constructor
  · rintro ⟨q, hq, e⟩
    rw [← eqT_eq e]; exact hq
  · intro h
    exact ⟨p, h, eqT_refl p⟩
theorem any_nat (n : Nd) (p : List ByteArray) : (wayS n).any (fun q => eqT q p) = (natS n p).isSome := by
  cases hv : validB n
  · unfold wayS natS
    rw [hv]; rfl
  · have h1 := mem_nat hv p
    have h2 := any_eqT (l := wayS n) (p := p)
    have e : wayS n = allS n := by unfold wayS; rw [hv]; rfl
    rw [e] at h2 ⊢
    rw [← h2] at h1
    cases h3 : (allS n).any (fun q => eqT q p) <;> cases h4 : (natS n p).isSome <;> rw [h3, h4] at h1 <;> simp at h1 <;> rfl
end Go.Proofs.YtmjbbakendnmmaaDoor.Eng
-- EV: skip
namespace Go.Proofs.YtmjbbakendnmmaaDoor.Eng
open Go Go.RowKit
attribute [local simp] big size_mk ASt.pay Option.map_map Function.comp_def awant aop acall ado aev ofVal ofVal0 ASt.put ASt.add ASt.turn ASt.kill abox aalloc astore aload ASt.at cellsTo afieldAddr afield aindexAddr aindex alen abin aint acmp astr aun apick aextract anil aslice abound abuild afill abuildSlice asCells aps avCells over upd aappend asrc amax amin aconv mkSt slots rowsOf_cons rowsOf_nil usedOf_cons usedOf_nil ZK.av List.replicate ASt.back ASt.addL ASt.killL nodeA nodeT nodeTL_eq nodeL_eq strsE_get strsE_len intsE_get intsE_len strsE_at intsE_at tab2 tab3 tab4 tab5 tab6 tab7 tab8 tab9 tab10 tab11 tab12 tab13 tab14 tab15 tab16 tab17 tab18 tab19 tab21 tab22 tab23 tab24 tab25 tab26 tab28 tab33 tab34 tab35 tab51 tab52 tab55 tab56 tab61 tab78 tab79 tab80 tab98 tab104 tab110 tab117 tab118 tab123 tab124 tab126 tab127 tab128
theorem way_small {n : Nd} : (wayS n).length ≤ 40 ∧ ∀ q ∈ wayS n, q.length ≤ 1000000 := by
  unfold wayS
  split
  · rename_i hv
    obtain ⟨hw, hd, hc⟩ := valid_way hv
    refine ⟨by rw [allS_len]; exact hc, fun q hq => ?_⟩
    have := allS_short n q hq
    omega
  · exact ⟨by simp, fun q hq => by cases hq⟩
theorem lawNodeAtAll_AC0 (zs : List Int) (hb : ByteL zs) : AC0 Tryd.prog 10 [.view .loose 1 (bytesE zs)] (fun r => r = .bool true) := by
  refine AC0.of tab_ok mixed_ok Tryd.func10 (by rfl) (by kernel_rfl) ?_; rintro ⟨P, T, hT, hm, w0, S0, rd0, k0⟩ hP hTT hk0; dsimp only at hP hTT hk0; subst hP hTT hk0; unfold initSt; rw [Tryd.ntmps10]
  by_cases hl : zs.length ≤ 1048576
  · have hl' : ¬ ((1048576 : Int) < (zs.length : Int)) := by omega
    (repeat (first | with_reducible refine AW.seq ?_ | ((first | refine arun_kn 4 rfl (fun C hC => ?_) | refine arunD_kn 4 rfl (fun C hC => ?_)); (repeat ((conv => whnf); simp [bytesE_len, hl'])); refine hC _ ?_; clear hC C; simp only [List.drop, Nat.reduceAdd]) | ((first | refine arun_kn 1 rfl (fun C hC => ?_) | refine arunD_kn 1 rfl (fun C hC => ?_)); (repeat ((conv => whnf); simp [bytesE_len, hl'])); refine hC _ ?_; clear hC C; simp only [List.drop, Nat.reduceAdd]) | (refine arun_skip ?_ ?_; (focus (simp [awant, bytesE_len, hl']; done))) | (refine arun_cZ (drawNodeAt_AC0 zs hl hb) ?_; (rintro _ ⟨n, p, hn, hpl, rfl⟩)) | (refine arunD_skip ?_ ?_; (focus (simp [awant, bytesE_len, hl']; done))) | (refine AW.regionK [] (fun K hK => ?_)) | (refine AW.regionDK [] (pcs [] []) (by kernel_rfl) (by kernel_rfl) (fun K hK => ?_)) | (refine AW.condT ?_ ?_; (focus (simp [aev, bytesE_len, hl']; done))) | (refine AW.condF ?_ ?_; (focus (simp [aev, bytesE_len, hl']; done))) | with_reducible refine AW.block ?_ | ((first | ((first | refine arun_nil ?_ | refine arunD_nil ?_); refine hK _ ?_; clear hK K) | refine AW.skip ?_ | refine AW.exit ?_ | refine AW.ret ?_); simp only [thenA_exit, inBlockA_exit, if_true, if_false, Nat.reduceEqDiff, thenA_normal, inBlockA_normal, reduceIte, thenA_ret, inBlockA_ret, endQ_ret, endR_ret, endG_ret, endQ_normal, endR_normal, endG_normal])))
    have p1 := NodeAt_AC .loose n p
    have p2 := specNodeAt_AC .loose n p
    have hany := any_nat n p
    have hms := opt_sml (n := n) (p := p)
    unfold optA at p1 p2
    generalize (natS n p).getD Nd.zero = m at *
    generalize (natS n p).isSome = b at *
    have p3 := equalNode_AC m hms .loose .loose
    rw [nodeT_loose] at p3
    have p4 := AllPaths_AC n
    obtain ⟨hs1, hs2⟩ := way_small (n := n)
    have hclo : Clo (.view .loose 1 (pathsE (wayS n))) := paths_clo (wayS n)
    generalize wayS n = P at *
    have hbb : (b != b) = false := by cases b <;> rfl
    (repeat (first | with_reducible refine AW.seq ?_ | ((first | refine arun_kn 4 rfl (fun C hC => ?_) | refine arunD_kn 4 rfl (fun C hC => ?_)); (repeat ((conv => whnf); simp [hbb])); refine hC _ ?_; clear hC C; simp only [List.drop, Nat.reduceAdd]) | ((first | refine arun_kn 1 rfl (fun C hC => ?_) | refine arunD_kn 1 rfl (fun C hC => ?_)); (repeat ((conv => whnf); simp [hbb])); refine hC _ ?_; clear hC C; simp only [List.drop, Nat.reduceAdd]) | (refine arun_skip ?_ ?_; (focus (simp [awant, hbb]; done))) | (refine arun_c0 (p1) ?_; rintro _ rfl) | (refine arun_c0 (p2) ?_; rintro _ rfl) | (refine arun_c0 (p3) ?_; rintro _ rfl) | (refine arun_c0 (p4) ?_; rintro _ rfl) | (refine arunD_skip ?_ ?_; (focus (simp [awant, hbb]; done))) | (refine AW.regionK [] (fun K hK => ?_)) | (refine AW.regionDK [] (pcs [] []) (by kernel_rfl) (by kernel_rfl) (fun K hK => ?_)) | (refine AW.condT ?_ ?_; (focus (simp [aev, hbb]; done))) | (refine AW.condF ?_ ?_; (focus (simp [aev, hbb]; done))) | with_reducible refine AW.block ?_ | ((first | ((first | refine arun_nil ?_ | refine arunD_nil ?_); refine hK _ ?_; clear hK K) | refine AW.skip ?_ | refine AW.exit ?_ | refine AW.ret ?_); simp only [thenA_exit, inBlockA_exit, if_true, if_false, Nat.reduceEqDiff, thenA_normal, inBlockA_normal, reduceIte, thenA_ret, inBlockA_ret, endQ_ret, endR_ret, endG_ret, endQ_normal, endR_normal, endG_normal])))
    refine AW.loopS (fun (x : Nat × Bool) => mkSt (slots 0 61 [(4, .view .loose 1 (strsE p)), (6, .bool b), (9, .view .loose 1 (pathsE P)), (10, .bool x.2), (11, .int .i64 x.1)]) [] [] none) (fun x => P.length - x.1) (fun x => x.1 ≤ P.length ∧ (x.2 || (P.drop x.1).any (fun q => eqT q p)) = b) (0, false) ?_ ⟨Nat.zero_le _, by rw [← hany]; rfl⟩ ?_
    · exact (less_of (by simp [lessL, mkSt, slots, in_paths]) (by simp [upd, mkSt, rowsOf_cons, in_paths]) (by simp [upd, mkSt, usedOf_cons, in_paths]) (by first | exact rd_less (by omega) | simp [mkSt, in_paths]) (by simp [slots, in_any, in_int, in_bool, in_str, in_ptr, in_own, in_agg, in_vnil, in_rdr, usedOf_cons, usedOf_nil, strs_in, ints_in, nodes_in, in_tup, in_paths]) (by simp only [List.forall_mem_cons, List.not_mem_nil, false_implies, implies_true, and_true, true_and, in_paths]; (repeat (first | with_reducible exact trivial | with_reducible refine And.intro ?_ ?_ | with_reducible exact in_int | with_reducible exact in_str | with_reducible exact in_bool | with_reducible exact strs_in _ | with_reducible exact nodes_in _ | with_reducible exact items_in _ | with_reducible exact in_vnil | with_reducible exact in_any | exact hin _ | with_reducible refine take_in ?_ | with_reducible exact strsE_in _ | with_reducible exact nodesE_in _ | with_reducible exact nodeL_in _ | with_reducible exact itemsE_in _ | with_reducible exact itemL_in _ | with_reducible refine app_in ?_ ?_ | with_reducible refine sing_in ?_ | (focus (simp [in_any, in_int, in_bool, in_str, in_ptr, in_own, in_agg, in_vnil, in_rdr, usedOf_cons, usedOf_nil, strs_in, ints_in, nodes_in, in_paths]; done)))); done))
    · rintro ⟨i, c⟩ ⟨hi, hf⟩
      dsimp only at hi hf ⊢
      by_cases hlt : i < P.length
      · have hw1 : IntKind.i64.wrap ((i : Int) + 1) = (i : Int) + 1 := i64_nat (by omega) (by omega)
        have hp := equalTexts_AC .loose .loose P[i] p (hs2 _ (List.getElem_mem hlt))
        rw [List.drop_eq_getElem_cons hlt, List.any_cons] at hf
        cases c
        · (repeat (first | with_reducible refine AW.seq ?_ | ((first | refine arun_kn 4 rfl (fun C hC => ?_) | refine arunD_kn 4 rfl (fun C hC => ?_)); (repeat ((conv => whnf); simp [hlt, hw1, pathsE_len, pathsE_get, pathsE_at])); refine hC _ ?_; clear hC C; simp only [List.drop, Nat.reduceAdd]) | ((first | refine arun_kn 1 rfl (fun C hC => ?_) | refine arunD_kn 1 rfl (fun C hC => ?_)); (repeat ((conv => whnf); simp [hlt, hw1, pathsE_len, pathsE_get, pathsE_at])); refine hC _ ?_; clear hC C; simp only [List.drop, Nat.reduceAdd]) | (refine arun_skip ?_ ?_; (focus (simp [awant, hlt, hw1, pathsE_len, pathsE_get, pathsE_at]; done))) | (refine arun_c0 (hp) ?_; rintro _ rfl) | (refine arunD_skip ?_ ?_; (focus (simp [awant, hlt, hw1, pathsE_len, pathsE_get, pathsE_at]; done))) | (refine AW.regionK [] (fun K hK => ?_)) | (refine AW.regionDK [] (pcs [] []) (by kernel_rfl) (by kernel_rfl) (fun K hK => ?_)) | (refine AW.condT ?_ ?_; (focus (simp [aev, hlt, hw1, pathsE_len, pathsE_get, pathsE_at]; done))) | (refine AW.condF ?_ ?_; (focus (simp [aev, hlt, hw1, pathsE_len, pathsE_get, pathsE_at]; done))) | with_reducible refine AW.block ?_ | ((first | ((first | refine arun_nil ?_ | refine arunD_nil ?_); refine hK _ ?_; clear hK K) | refine AW.skip ?_ | refine AW.exit ?_ | refine AW.ret ?_); simp only [thenA_exit, inBlockA_exit, if_true, if_false, Nat.reduceEqDiff, thenA_normal, inBlockA_normal, reduceIte, thenA_ret, inBlockA_ret, endQ_ret, endR_ret, endG_ret, endQ_normal, endR_normal, endG_normal])))
          refine ⟨(i + 1, eqT P[i] p), by dsimp only; omega, ⟨by dsimp only; omega, by simpa using hf⟩, ?_⟩
          dsimp only
          exact (less_of (by simp [lessL, mkSt, slots, in_paths]) (by simp [upd, mkSt, rowsOf_cons, in_paths]) (by simp [upd, mkSt, usedOf_cons, in_paths]) (by first | exact rd_less (by omega) | simp [mkSt, in_paths]) (by simp [slots, in_any, in_int, in_bool, in_str, in_ptr, in_own, in_agg, in_vnil, in_rdr, usedOf_cons, usedOf_nil, strs_in, ints_in, nodes_in, in_tup, in_paths]) (by simp only [List.forall_mem_cons, List.not_mem_nil, false_implies, implies_true, and_true, true_and, in_paths]; (repeat (first | with_reducible exact trivial | with_reducible refine And.intro ?_ ?_ | with_reducible exact in_int | with_reducible exact in_str | with_reducible exact in_bool | with_reducible exact strs_in _ | with_reducible exact nodes_in _ | with_reducible exact items_in _ | with_reducible exact in_vnil | with_reducible exact in_any | exact hin _ | with_reducible refine take_in ?_ | with_reducible exact strsE_in _ | with_reducible exact nodesE_in _ | with_reducible exact nodeL_in _ | with_reducible exact itemsE_in _ | with_reducible exact itemL_in _ | with_reducible refine app_in ?_ ?_ | with_reducible refine sing_in ?_ | (focus (simp [in_any, in_int, in_bool, in_str, in_ptr, in_own, in_agg, in_vnil, in_rdr, usedOf_cons, usedOf_nil, strs_in, ints_in, nodes_in, in_paths]; done)))); done))
        · (repeat (first | with_reducible refine AW.seq ?_ | ((first | refine arun_kn 4 rfl (fun C hC => ?_) | refine arunD_kn 4 rfl (fun C hC => ?_)); (repeat ((conv => whnf); simp [hlt, hw1, pathsE_len, pathsE_get, pathsE_at])); refine hC _ ?_; clear hC C; simp only [List.drop, Nat.reduceAdd]) | ((first | refine arun_kn 1 rfl (fun C hC => ?_) | refine arunD_kn 1 rfl (fun C hC => ?_)); (repeat ((conv => whnf); simp [hlt, hw1, pathsE_len, pathsE_get, pathsE_at])); refine hC _ ?_; clear hC C; simp only [List.drop, Nat.reduceAdd]) | (refine arun_skip ?_ ?_; (focus (simp [awant, hlt, hw1, pathsE_len, pathsE_get, pathsE_at]; done))) | (refine arunD_skip ?_ ?_; (focus (simp [awant, hlt, hw1, pathsE_len, pathsE_get, pathsE_at]; done))) | (refine AW.regionK [] (fun K hK => ?_)) | (refine AW.regionDK [] (pcs [] []) (by kernel_rfl) (by kernel_rfl) (fun K hK => ?_)) | (refine AW.condT ?_ ?_; (focus (simp [aev, hlt, hw1, pathsE_len, pathsE_get, pathsE_at]; done))) | (refine AW.condF ?_ ?_; (focus (simp [aev, hlt, hw1, pathsE_len, pathsE_get, pathsE_at]; done))) | with_reducible refine AW.block ?_ | ((first | ((first | refine arun_nil ?_ | refine arunD_nil ?_); refine hK _ ?_; clear hK K) | refine AW.skip ?_ | refine AW.exit ?_ | refine AW.ret ?_); simp only [thenA_exit, inBlockA_exit, if_true, if_false, Nat.reduceEqDiff, thenA_normal, inBlockA_normal, reduceIte, thenA_ret, inBlockA_ret, endQ_ret, endR_ret, endG_ret, endQ_normal, endR_normal, endG_normal])))
          refine ⟨(i + 1, true), by dsimp only; omega, ⟨by dsimp only; omega, by simpa using hf⟩, ?_⟩
          dsimp only
          exact (less_of (by simp [lessL, mkSt, slots, in_paths]) (by simp [upd, mkSt, rowsOf_cons, in_paths]) (by simp [upd, mkSt, usedOf_cons, in_paths]) (by first | exact rd_less (by omega) | simp [mkSt, in_paths]) (by simp [slots, in_any, in_int, in_bool, in_str, in_ptr, in_own, in_agg, in_vnil, in_rdr, usedOf_cons, usedOf_nil, strs_in, ints_in, nodes_in, in_tup, in_paths]) (by simp only [List.forall_mem_cons, List.not_mem_nil, false_implies, implies_true, and_true, true_and, in_paths]; (repeat (first | with_reducible exact trivial | with_reducible refine And.intro ?_ ?_ | with_reducible exact in_int | with_reducible exact in_str | with_reducible exact in_bool | with_reducible exact strs_in _ | with_reducible exact nodes_in _ | with_reducible exact items_in _ | with_reducible exact in_vnil | with_reducible exact in_any | exact hin _ | with_reducible refine take_in ?_ | with_reducible exact strsE_in _ | with_reducible exact nodesE_in _ | with_reducible exact nodeL_in _ | with_reducible exact itemsE_in _ | with_reducible exact itemL_in _ | with_reducible refine app_in ?_ ?_ | with_reducible refine sing_in ?_ | (focus (simp [in_any, in_int, in_bool, in_str, in_ptr, in_own, in_agg, in_vnil, in_rdr, usedOf_cons, usedOf_nil, strs_in, ints_in, nodes_in, in_paths]; done)))); done))
      · rw [List.drop_eq_nil_of_le (by omega), List.any_nil, Bool.or_false] at hf
        subst hf
        have hcc : (c == c) = true := by cases c <;> rfl
        (repeat (first | with_reducible refine AW.seq ?_ | ((first | refine arun_kn 4 rfl (fun C hC => ?_) | refine arunD_kn 4 rfl (fun C hC => ?_)); (repeat ((conv => whnf); simp [hlt, pathsE_len, hcc])); refine hC _ ?_; clear hC C; simp only [List.drop, Nat.reduceAdd]) | ((first | refine arun_kn 1 rfl (fun C hC => ?_) | refine arunD_kn 1 rfl (fun C hC => ?_)); (repeat ((conv => whnf); simp [hlt, pathsE_len, hcc])); refine hC _ ?_; clear hC C; simp only [List.drop, Nat.reduceAdd]) | (refine arun_skip ?_ ?_; (focus (simp [awant, hlt, pathsE_len, hcc]; done))) | (refine arunD_skip ?_ ?_; (focus (simp [awant, hlt, pathsE_len, hcc]; done))) | (refine AW.regionK [] (fun K hK => ?_)) | (refine AW.regionDK [] (pcs [] []) (by kernel_rfl) (by kernel_rfl) (fun K hK => ?_)) | (refine AW.condT ?_ ?_; (focus (simp [aev, hlt, pathsE_len, hcc]; done))) | (refine AW.condF ?_ ?_; (focus (simp [aev, hlt, pathsE_len, hcc]; done))) | with_reducible refine AW.block ?_ | ((first | ((first | refine arun_nil ?_ | refine arunD_nil ?_); refine hK _ ?_; clear hK K) | refine AW.skip ?_ | refine AW.exit ?_ | refine AW.ret ?_); simp only [thenA_exit, inBlockA_exit, if_true, if_false, Nat.reduceEqDiff, thenA_normal, inBlockA_normal, reduceIte, thenA_ret, inBlockA_ret, endQ_ret, endR_ret, endG_ret, endQ_normal, endR_normal, endG_normal])))
        exact ⟨.bool true, by simp [ares, aresL], pur_bool, rfl⟩
  · have hl' : (1048576 : Int) < (zs.length : Int) := by omega
    (repeat (first | with_reducible refine AW.seq ?_ | ((first | refine arun_kn 4 rfl (fun C hC => ?_) | refine arunD_kn 4 rfl (fun C hC => ?_)); (repeat ((conv => whnf); simp [bytesE_len, hl'])); refine hC _ ?_; clear hC C; simp only [List.drop, Nat.reduceAdd]) | ((first | refine arun_kn 1 rfl (fun C hC => ?_) | refine arunD_kn 1 rfl (fun C hC => ?_)); (repeat ((conv => whnf); simp [bytesE_len, hl'])); refine hC _ ?_; clear hC C; simp only [List.drop, Nat.reduceAdd]) | (refine arun_skip ?_ ?_; (focus (simp [awant, bytesE_len, hl']; done))) | (refine arunD_skip ?_ ?_; (focus (simp [awant, bytesE_len, hl']; done))) | (refine AW.regionK [] (fun K hK => ?_)) | (refine AW.regionDK [] (pcs [] []) (by kernel_rfl) (by kernel_rfl) (fun K hK => ?_)) | (refine AW.condT ?_ ?_; (focus (simp [aev, bytesE_len, hl']; done))) | (refine AW.condF ?_ ?_; (focus (simp [aev, bytesE_len, hl']; done))) | with_reducible refine AW.block ?_ | ((first | ((first | refine arun_nil ?_ | refine arunD_nil ?_); refine hK _ ?_; clear hK K) | refine AW.skip ?_ | refine AW.exit ?_ | refine AW.ret ?_); simp only [thenA_exit, inBlockA_exit, if_true, if_false, Nat.reduceEqDiff, thenA_normal, inBlockA_normal, reduceIte, thenA_ret, inBlockA_ret, endQ_ret, endR_ret, endG_ret, endQ_normal, endR_normal, endG_normal])))
    exact ⟨.bool true, by simp [ares, aresL], pur_bool, rfl⟩
theorem lawValidKids_AC0 (zs : List Int) (hb : ByteL zs) : AC0 Tryd.prog 6 [.view .loose 1 (bytesE zs)] (fun r => r = .bool true) := by
  refine AC0.of tab_ok mixed_ok Tryd.func6 (by rfl) (by kernel_rfl) ?_; rintro ⟨P, T, hT, hm, w0, S0, rd0, k0⟩ hP hTT hk0; dsimp only at hP hTT hk0; subst hP hTT hk0; unfold initSt; rw [Tryd.ntmps6]
  by_cases hl : zs.length ≤ 1048576
  · have hl' : ¬ ((1048576 : Int) < (zs.length : Int)) := by omega
    (repeat (first | with_reducible refine AW.seq ?_ | ((first | refine arun_kn 4 rfl (fun C hC => ?_) | refine arunD_kn 4 rfl (fun C hC => ?_)); (repeat ((conv => whnf); simp [bytesE_len, hl'])); refine hC _ ?_; clear hC C; simp only [List.drop, Nat.reduceAdd]) | ((first | refine arun_kn 1 rfl (fun C hC => ?_) | refine arunD_kn 1 rfl (fun C hC => ?_)); (repeat ((conv => whnf); simp [bytesE_len, hl'])); refine hC _ ?_; clear hC C; simp only [List.drop, Nat.reduceAdd]) | (refine arun_skip ?_ ?_; (focus (simp [awant, bytesE_len, hl']; done))) | (refine arun_cZ (drawValidNode_AC0 zs hl hb) ?_; (rintro _ ⟨n, hn, rfl⟩)) | (refine arunD_skip ?_ ?_; (focus (simp [awant, bytesE_len, hl']; done))) | (refine AW.regionK [] (fun K hK => ?_)) | (refine AW.regionDK [] (pcs [] []) (by kernel_rfl) (by kernel_rfl) (fun K hK => ?_)) | (refine AW.condT ?_ ?_; (focus (simp [aev, bytesE_len, hl']; done))) | (refine AW.condF ?_ ?_; (focus (simp [aev, bytesE_len, hl']; done))) | with_reducible refine AW.block ?_ | ((first | ((first | refine arun_nil ?_ | refine arunD_nil ?_); refine hK _ ?_; clear hK K) | refine AW.skip ?_ | refine AW.exit ?_ | refine AW.ret ?_); simp only [thenA_exit, inBlockA_exit, if_true, if_false, Nat.reduceEqDiff, thenA_normal, inBlockA_normal, reduceIte, thenA_ret, inBlockA_ret, endQ_ret, endR_ret, endG_ret, endQ_normal, endR_normal, endG_normal])))
    have p1 := ValidNode_AC n .loose
    have p2 := specValidNode_AC n
    rw [nodeT_loose] at p1
    cases hv : validB n
    · rw [hv] at p1 p2
      (repeat (first | with_reducible refine AW.seq ?_ | ((first | refine arun_kn 4 rfl (fun C hC => ?_) | refine arunD_kn 4 rfl (fun C hC => ?_)); (repeat ((conv => whnf); simp)); refine hC _ ?_; clear hC C; simp only [List.drop, Nat.reduceAdd]) | ((first | refine arun_kn 1 rfl (fun C hC => ?_) | refine arunD_kn 1 rfl (fun C hC => ?_)); (repeat ((conv => whnf); simp)); refine hC _ ?_; clear hC C; simp only [List.drop, Nat.reduceAdd]) | (refine arun_skip ?_ ?_; (focus (simp [awant]; done))) | (refine arun_c0 (p1) ?_; rintro _ rfl) | (refine arun_c0 (p2) ?_; rintro _ rfl) | (refine arunD_skip ?_ ?_; (focus (simp [awant]; done))) | (refine AW.regionK [] (fun K hK => ?_)) | (refine AW.regionDK [] (pcs [] []) (by kernel_rfl) (by kernel_rfl) (fun K hK => ?_)) | (refine AW.condT ?_ ?_; (focus (simp [aev]; done))) | (refine AW.condF ?_ ?_; (focus (simp [aev]; done))) | with_reducible refine AW.block ?_ | ((first | ((first | refine arun_nil ?_ | refine arunD_nil ?_); refine hK _ ?_; clear hK K) | refine AW.skip ?_ | refine AW.exit ?_ | refine AW.ret ?_); simp only [thenA_exit, inBlockA_exit, if_true, if_false, Nat.reduceEqDiff, thenA_normal, inBlockA_normal, reduceIte, thenA_ret, inBlockA_ret, endQ_ret, endR_ret, endG_ret, endQ_normal, endR_normal, endG_normal])))
      exact ⟨.bool true, by simp [ares, aresL], pur_bool, rfl⟩
    · rw [hv] at p1 p2
      have p4 := AllPaths_AC n
      have p5 := NodeCount_AC n
      have e : wayS n = allS n := by unfold wayS; rw [hv]; rfl
      have hok : okN true n.count = (n.count : Int) := rfl
      rw [e] at p4
      rw [hv, hok, ← allS_len n] at p5
      have hmem := fun q (hq : q ∈ allS n) => (mem_nat hv q).1 hq
      have hlen := allS_len n
      have hc := (valid_way hv).2.2
      have hclo : Clo (.view .loose 1 (pathsE (allS n))) := paths_clo (allS n)
      generalize allS n = P at *
      (repeat (first | with_reducible refine AW.seq ?_ | ((first | refine arun_kn 4 rfl (fun C hC => ?_) | refine arunD_kn 4 rfl (fun C hC => ?_)); (repeat ((conv => whnf); simp)); refine hC _ ?_; clear hC C; simp only [List.drop, Nat.reduceAdd]) | ((first | refine arun_kn 1 rfl (fun C hC => ?_) | refine arunD_kn 1 rfl (fun C hC => ?_)); (repeat ((conv => whnf); simp)); refine hC _ ?_; clear hC C; simp only [List.drop, Nat.reduceAdd]) | (refine arun_skip ?_ ?_; (focus (simp [awant]; done))) | (refine arun_c0 (p1) ?_; rintro _ rfl) | (refine arun_c0 (p2) ?_; rintro _ rfl) | (refine arun_c0 (p4) ?_; rintro _ rfl) | (refine arunD_skip ?_ ?_; (focus (simp [awant]; done))) | (refine AW.regionK [] (fun K hK => ?_)) | (refine AW.regionDK [] (pcs [] []) (by kernel_rfl) (by kernel_rfl) (fun K hK => ?_)) | (refine AW.condT ?_ ?_; (focus (simp [aev]; done))) | (refine AW.condF ?_ ?_; (focus (simp [aev]; done))) | with_reducible refine AW.block ?_ | ((first | ((first | refine arun_nil ?_ | refine arunD_nil ?_); refine hK _ ?_; clear hK K) | refine AW.skip ?_ | refine AW.exit ?_ | refine AW.ret ?_); simp only [thenA_exit, inBlockA_exit, if_true, if_false, Nat.reduceEqDiff, thenA_normal, inBlockA_normal, reduceIte, thenA_ret, inBlockA_ret, endQ_ret, endR_ret, endG_ret, endQ_normal, endR_normal, endG_normal])))
      refine AW.loopS (fun (x : Nat) => mkSt (slots 0 57 [(3, .ptr true 5 1 3 0 0), (5, .view .loose 1 (pathsE P)), (6, .int .i64 x)]) [(3, ⟨true, 26, 5, [nodeL n]⟩)] [3] none) (fun x => P.length - x) (fun x => x ≤ P.length) 0 ?_ (Nat.zero_le _) ?_
      · rw [nodeL_eq]
        exact (less_of (by simp [lessL, mkSt, slots, in_paths]) (by simp [upd, mkSt, rowsOf_cons, in_paths]) (by simp [upd, mkSt, usedOf_cons, in_paths]) (by first | exact rd_less (by omega) | simp [mkSt, in_paths]) (by simp [slots, in_any, in_int, in_bool, in_str, in_ptr, in_own, in_agg, in_vnil, in_rdr, usedOf_cons, usedOf_nil, strs_in, ints_in, nodes_in, in_tup, in_paths]) (by simp only [List.forall_mem_cons, List.not_mem_nil, false_implies, implies_true, and_true, true_and, in_paths]; (repeat (first | with_reducible exact trivial | with_reducible refine And.intro ?_ ?_ | with_reducible exact in_int | with_reducible exact in_str | with_reducible exact in_bool | with_reducible exact strs_in _ | with_reducible exact nodes_in _ | with_reducible exact items_in _ | with_reducible exact in_vnil | with_reducible exact in_any | exact hin _ | with_reducible refine take_in ?_ | with_reducible exact strsE_in _ | with_reducible exact nodesE_in _ | with_reducible exact nodeL_in _ | with_reducible exact itemsE_in _ | with_reducible exact itemL_in _ | with_reducible refine app_in ?_ ?_ | with_reducible refine sing_in ?_ | (focus (simp [in_any, in_int, in_bool, in_str, in_ptr, in_own, in_agg, in_vnil, in_rdr, usedOf_cons, usedOf_nil, strs_in, ints_in, nodes_in, in_paths]; done)))); done))
      · intro i hi
        rw [nodeL_eq]
        by_cases hlt : i < P.length
        · have hw1 : IntKind.i64.wrap ((i : Int) + 1) = (i : Int) + 1 := i64_nat (by omega) (by omega)
          obtain ⟨m, hm⟩ := Option.isSome_iff_exists.1 (hmem _ (List.getElem_mem hlt))
          have p6 := NodeAt_AC .loose n P[i]
          rw [hm, optA_some] at p6
          have p7 := ValidNode_AC m .loose
          rw [(natS_valid hm).2, nodeT_loose] at p7
          (repeat (first | with_reducible refine AW.seq ?_ | ((first | refine arun_kn 4 rfl (fun C hC => ?_) | refine arunD_kn 4 rfl (fun C hC => ?_)); (repeat ((conv => whnf); simp [hlt, hw1, pathsE_len, pathsE_get, pathsE_at])); refine hC _ ?_; clear hC C; simp only [List.drop, Nat.reduceAdd]) | ((first | refine arun_kn 1 rfl (fun C hC => ?_) | refine arunD_kn 1 rfl (fun C hC => ?_)); (repeat ((conv => whnf); simp [hlt, hw1, pathsE_len, pathsE_get, pathsE_at])); refine hC _ ?_; clear hC C; simp only [List.drop, Nat.reduceAdd]) | (refine arun_skip ?_ ?_; (focus (simp [awant, hlt, hw1, pathsE_len, pathsE_get, pathsE_at]; done))) | (refine arun_c0 (p6) ?_; rintro _ rfl) | (refine arun_c0 (p7) ?_; rintro _ rfl) | (refine arunD_skip ?_ ?_; (focus (simp [awant, hlt, hw1, pathsE_len, pathsE_get, pathsE_at]; done))) | (refine arunD_c (0) (p6) ?_; rintro _ rfl; intro _) | (refine arunD_c (0) (p7) ?_; rintro _ rfl; intro _) | (refine AW.regionK [] (fun K hK => ?_)) | (refine AW.regionDK [] (pcs [(5, 0, fun r => r = .tup [nodeA m, .bool true])] []) (by kernel_rfl) (by kernel_rfl) (fun K hK => ?_)) | (refine AW.condT ?_ ?_; (focus (simp [aev, hlt, hw1, pathsE_len, pathsE_get, pathsE_at]; done))) | (refine AW.condF ?_ ?_; (focus (simp [aev, hlt, hw1, pathsE_len, pathsE_get, pathsE_at]; done))) | with_reducible refine AW.block ?_ | ((first | ((first | refine arun_nil ?_ | refine arunD_nil ?_); refine hK _ ?_; clear hK K) | refine AW.skip ?_ | refine AW.exit ?_ | refine AW.ret ?_); simp only [thenA_exit, inBlockA_exit, if_true, if_false, Nat.reduceEqDiff, thenA_normal, inBlockA_normal, reduceIte, thenA_ret, inBlockA_ret, endQ_ret, endR_ret, endG_ret, endQ_normal, endR_normal, endG_normal])))
          exact ⟨i + 1, by omega, by omega, (less_of (by simp [lessL, mkSt, slots, in_paths]) (by simp [upd, mkSt, rowsOf_cons, in_paths]) (by simp [upd, mkSt, usedOf_cons, in_paths]) (by first | exact rd_less (by omega) | simp [mkSt, in_paths]) (by simp [slots, in_any, in_int, in_bool, in_str, in_ptr, in_own, in_agg, in_vnil, in_rdr, usedOf_cons, usedOf_nil, strs_in, ints_in, nodes_in, in_tup, in_paths]) (by simp only [List.forall_mem_cons, List.not_mem_nil, false_implies, implies_true, and_true, true_and, in_paths]; (repeat (first | with_reducible exact trivial | with_reducible refine And.intro ?_ ?_ | with_reducible exact in_int | with_reducible exact in_str | with_reducible exact in_bool | with_reducible exact strs_in _ | with_reducible exact nodes_in _ | with_reducible exact items_in _ | with_reducible exact in_vnil | with_reducible exact in_any | exact hin _ | with_reducible refine take_in ?_ | with_reducible exact strsE_in _ | with_reducible exact nodesE_in _ | with_reducible exact nodeL_in _ | with_reducible exact itemsE_in _ | with_reducible exact itemL_in _ | with_reducible refine app_in ?_ ?_ | with_reducible refine sing_in ?_ | (focus (simp [in_any, in_int, in_bool, in_str, in_ptr, in_own, in_agg, in_vnil, in_rdr, usedOf_cons, usedOf_nil, strs_in, ints_in, nodes_in, in_paths]; done)))); done))⟩
        · (repeat (first | with_reducible refine AW.seq ?_ | ((first | refine arun_kn 4 rfl (fun C hC => ?_) | refine arunD_kn 4 rfl (fun C hC => ?_)); (repeat ((conv => whnf); simp [hlt, pathsE_len])); refine hC _ ?_; clear hC C; simp only [List.drop, Nat.reduceAdd]) | ((first | refine arun_kn 1 rfl (fun C hC => ?_) | refine arunD_kn 1 rfl (fun C hC => ?_)); (repeat ((conv => whnf); simp [hlt, pathsE_len])); refine hC _ ?_; clear hC C; simp only [List.drop, Nat.reduceAdd]) | (refine arun_skip ?_ ?_; (focus (simp [awant, hlt, pathsE_len]; done))) | (refine arun_c0 (p5) ?_; rintro _ rfl) | (refine arunD_skip ?_ ?_; (focus (simp [awant, hlt, pathsE_len]; done))) | (refine AW.regionK [] (fun K hK => ?_)) | (refine AW.regionDK [] (pcs [] []) (by kernel_rfl) (by kernel_rfl) (fun K hK => ?_)) | (refine AW.condT ?_ ?_; (focus (simp [aev, hlt, pathsE_len]; done))) | (refine AW.condF ?_ ?_; (focus (simp [aev, hlt, pathsE_len]; done))) | with_reducible refine AW.block ?_ | ((first | ((first | refine arun_nil ?_ | refine arunD_nil ?_); refine hK _ ?_; clear hK K) | refine AW.skip ?_ | refine AW.exit ?_ | refine AW.ret ?_); simp only [thenA_exit, inBlockA_exit, if_true, if_false, Nat.reduceEqDiff, thenA_normal, inBlockA_normal, reduceIte, thenA_ret, inBlockA_ret, endQ_ret, endR_ret, endG_ret, endQ_normal, endR_normal, endG_normal])))
          exact ⟨.bool true, by simp [ares, aresL], pur_bool, rfl⟩
  · have hl' : (1048576 : Int) < (zs.length : Int) := by omega
    (repeat (first | with_reducible refine AW.seq ?_ | ((first | refine arun_kn 4 rfl (fun C hC => ?_) | refine arunD_kn 4 rfl (fun C hC => ?_)); (repeat ((conv => whnf); simp [bytesE_len, hl'])); refine hC _ ?_; clear hC C; simp only [List.drop, Nat.reduceAdd]) | ((first | refine arun_kn 1 rfl (fun C hC => ?_) | refine arunD_kn 1 rfl (fun C hC => ?_)); (repeat ((conv => whnf); simp [bytesE_len, hl'])); refine hC _ ?_; clear hC C; simp only [List.drop, Nat.reduceAdd]) | (refine arun_skip ?_ ?_; (focus (simp [awant, bytesE_len, hl']; done))) | (refine arunD_skip ?_ ?_; (focus (simp [awant, bytesE_len, hl']; done))) | (refine AW.regionK [] (fun K hK => ?_)) | (refine AW.regionDK [] (pcs [] []) (by kernel_rfl) (by kernel_rfl) (fun K hK => ?_)) | (refine AW.condT ?_ ?_; (focus (simp [aev, bytesE_len, hl']; done))) | (refine AW.condF ?_ ?_; (focus (simp [aev, bytesE_len, hl']; done))) | with_reducible refine AW.block ?_ | ((first | ((first | refine arun_nil ?_ | refine arunD_nil ?_); refine hK _ ?_; clear hK K) | refine AW.skip ?_ | refine AW.exit ?_ | refine AW.ret ?_); simp only [thenA_exit, inBlockA_exit, if_true, if_false, Nat.reduceEqDiff, thenA_normal, inBlockA_normal, reduceIte, thenA_ret, inBlockA_ret, endQ_ret, endR_ret, endG_ret, endQ_normal, endR_normal, endG_normal])))
    exact ⟨.bool true, by simp [ares, aresL], pur_bool, rfl⟩
end Go.Proofs.YtmjbbakendnmmaaDoor.Eng
