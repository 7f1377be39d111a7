/-
  Texts of this claim, joined.
-/
import Derived.Test.YtoedpagdklagdaaDoorRows
import Derived.Lib.LaidTab
import Derived.LaidSub
import Derived.LaidMore
import Derived.MakeChecks
import Derived.Test.YtoedpagdklagdaaDoorPaF

set_option linter.unusedSimpArgs false
set_option linter.unusedVariables false
set_option linter.unnecessarySimpa false
set_option maxRecDepth 100000
set_option maxHeartbeats 16000000
namespace Go.Proofs.YtoedpagdklagdaaDoor.Eng
open Go Go.RowKit
attribute [local simp] big size_mk ASt.pay Option.map_map Function.comp_def awant aop acall ado aev ofVal ofVal0 ASt.put ASt.add ASt.turn ASt.kill abox aalloc astore aload ASt.at cellsTo afieldAddr afield aindexAddr aindex alen abin aint acmp astr aun apick aextract anil aslice abound abuild afill abuildSlice asCells aps avCells over upd aappend asrc amax amin aconv mkSt slots rowsOf_cons rowsOf_nil usedOf_cons usedOf_nil ZK.av List.replicate ASt.back ASt.addL ASt.killL nodeA nodeT nodeTL_eq nodeL_eq strsE_get strsE_len intsE_get intsE_len strsE_at intsE_at tab2 tab3 tab4 tab5 tab6 tab7 tab8 tab9 tab10 tab11 tab12 tab13 tab14 tab15 tab16 tab17 tab18 tab19 tab21 tab22 tab23 tab24 tab25 tab28 tab29 tab30 tab35 tab40 tab41 tab42 tab45 tab46 tab47 tab55 tab56 tab57 tab63 tab73 tab74 tab84 tab87 tab89 tab90 tab93 tab94 tab109 tab120 tab123 tab128 tab129 tab134 tab135 tab137 tab138
theorem drawTextSize_AC0 (zs : List Int) (hl : zs.length ≤ 1048576) (hb : ByteL zs) : AC0 Tryd.prog 26 [.view .loose 1 (bytesE zs)] (fun r => ∃ n : Nd, Sml n ∧ r = nodeA n) := by
  have hc := cN_le
  have hN : AC Tryd.prog 44 [.rdr] cN rNodeA := anyNode_AC
  generalize cN = M at *
  refine AC0.of tab_ok mixed_ok Tryd.func26 (by rfl) (by kernel_rfl) ?_; rintro ⟨P, T, hT, hm, w0, S0, rd0, k0⟩ hP hTT hk0; dsimp only at hP hTT hk0; subst hP hTT hk0; unfold initSt; rw [Tryd.ntmps26]
  (repeat (first | with_reducible refine AW.seq ?_ | ((first | refine arun_kn 4 rfl (fun C hC => ?_) | refine arunD_kn 4 rfl (fun C hC => ?_)); (repeat ((conv => whnf); simp)); refine hC _ ?_; clear hC C; simp only [List.drop, Nat.reduceAdd]) | ((first | refine arun_kn 1 rfl (fun C hC => ?_) | refine arunD_kn 1 rfl (fun C hC => ?_)); (repeat ((conv => whnf); simp)); refine hC _ ?_; clear hC C; simp only [List.drop, Nat.reduceAdd]) | (refine arun_skip ?_ ?_; (focus (simp [awant]; done))) | (refine arun_cN M (newReader_ACN zs (0 + M) hl (by omega) hb) ?_) | (refine arun_c (M) (hN) ?_; (rintro _ ⟨n, hn, rfl⟩)) | (refine AW.regionK [] (fun K hK => ?_)) | (refine AW.regionDK [] (pcs [] []) (by kernel_rfl) (by kernel_rfl) (fun K hK => ?_)) | (refine AW.condT ?_ ?_; (focus (simp [aev]; done))) | (refine AW.condF ?_ ?_; (focus (simp [aev]; done))) | with_reducible refine AW.block ?_ | ((first | ((first | refine arun_nil ?_ | refine arunD_nil ?_); refine hK _ ?_; clear hK K) | refine AW.skip ?_ | refine AW.exit ?_ | refine AW.ret ?_); simp only [thenA_exit, inBlockA_exit, if_true, if_false, Nat.reduceEqDiff, thenA_normal, inBlockA_normal, reduceIte, thenA_ret, inBlockA_ret, endQ_ret, endR_ret, endG_ret, endQ_normal, endR_normal, endG_normal])))
  exact ⟨nodeA n, by simp [ares, aresL, upd, rowsOf_cons], node_pur n, n, hn, rfl⟩
theorem drawFormatNode_AC0 (zs : List Int) (hl : zs.length ≤ 1048576) (hb : ByteL zs) : AC0 Tryd.prog 25 [.view .loose 1 (bytesE zs)] (fun r => ∃ n : Nd, Sml n ∧ r = nodeA n) := by
  have hc := cN_le
  have hN : AC Tryd.prog 44 [.rdr] cN rNodeA := anyNode_AC
  generalize cN = M at *
  refine AC0.of tab_ok mixed_ok Tryd.func25 (by rfl) (by kernel_rfl) ?_; rintro ⟨P, T, hT, hm, w0, S0, rd0, k0⟩ hP hTT hk0; dsimp only at hP hTT hk0; subst hP hTT hk0; unfold initSt; rw [Tryd.ntmps25]
  (repeat (first | with_reducible refine AW.seq ?_ | ((first | refine arun_kn 4 rfl (fun C hC => ?_) | refine arunD_kn 4 rfl (fun C hC => ?_)); (repeat ((conv => whnf); simp)); refine hC _ ?_; clear hC C; simp only [List.drop, Nat.reduceAdd]) | ((first | refine arun_kn 1 rfl (fun C hC => ?_) | refine arunD_kn 1 rfl (fun C hC => ?_)); (repeat ((conv => whnf); simp)); refine hC _ ?_; clear hC C; simp only [List.drop, Nat.reduceAdd]) | (refine arun_skip ?_ ?_; (focus (simp [awant]; done))) | (refine arun_cN M (newReader_ACN zs (0 + M) hl (by omega) hb) ?_) | (refine arun_c (M) (hN) ?_; (rintro _ ⟨n, hn, rfl⟩)) | (refine AW.regionK [] (fun K hK => ?_)) | (refine AW.regionDK [] (pcs [] []) (by kernel_rfl) (by kernel_rfl) (fun K hK => ?_)) | (refine AW.condT ?_ ?_; (focus (simp [aev]; done))) | (refine AW.condF ?_ ?_; (focus (simp [aev]; done))) | with_reducible refine AW.block ?_ | ((first | ((first | refine arun_nil ?_ | refine arunD_nil ?_); refine hK _ ?_; clear hK K) | refine AW.skip ?_ | refine AW.exit ?_ | refine AW.ret ?_); simp only [thenA_exit, inBlockA_exit, if_true, if_false, Nat.reduceEqDiff, thenA_normal, inBlockA_normal, reduceIte, thenA_ret, inBlockA_ret, endQ_ret, endR_ret, endG_ret, endQ_normal, endR_normal, endG_normal])))
  exact ⟨nodeA n, by simp [ares, aresL, upd, rowsOf_cons], node_pur n, n, hn, rfl⟩
end Go.Proofs.YtoedpagdklagdaaDoor.Eng
namespace Go.Proofs.YtoedpagdklagdaaDoor
open Go.RowKit
theorem itoa_pos (m : Int) : 1 ≤ (Lib.itoa m).length := by
  have hd : ∀ u, 1 ≤ (Lib.decDigits u).length := by
    intro u
    rw [Lib.decDigits]
    split
    · simp
    · simp
  unfold Lib.itoa
  split
  · simp
  · exact hd _
theorem shape_leaf {n : Nd} {d : Nat} (h : shapeB n d = true) (h4 : n.kind ≠ 4) (h3 : n.kind ≠ 3) : n.kids.length = 0 := by
  rw [shapeB_eq] at h
  simp only [Bool.and_eq_true] at h
  have hp := h.1.2
  unfold partsB at hp
  simp only [Bool.and_eq_true] at hp
  have hp := hp.2
  split at hp
  · simpa using hp
  · split at hp
    · simp at hp; simp [hp]
    · split at hp
      · simp at hp; simp [hp]
      · simp [h3, h4] at hp
theorem fmt_lo : ∀ n, ∀ d, shapeB n d = true → 2 * n.count ≤ (fmtT n).length + 1 := Nd.ind' _ (fun n ih d h => by
  have key : ∀ (map : Bool) (ks : List Nd) (i : Nat), (∀ x ∈ ks, 2 * x.count ≤ (fmtT x).length + 1) → 2 * countL ks ≤ (fmtL map n.names ks i).length + (if 0 < i then 0 else 1) := by
    intro map ks
    induction ks with
    | nil => intro i _; rw [fmtL, countL]; simp
    | cons x xs ihx =>
      intro i hx
      have h1 := ihx (i + 1) (fun y hy => hx y (by simp [hy]))
      rw [if_pos (by omega)] at h1
      have h2 := hx x (by simp)
      rw [fmtL, countL]
      simp only [List.length_append]
      have h3 : (if 0 < i then [(44 : UInt8)] else []).length + (if 0 < i then 0 else 1) = 1 := by split <;> simp
      omega
  have hc := n.count_eq
  have hk := (shape_wr n d h).kind
  have hleaf := shape_leaf h
  have h2 := h
  rw [shapeB_eq] at h2
  simp only [Bool.and_eq_true] at h2
  have hih := fun x hx => ih x hx (d - 1) (by
    have h3 := h2.2
    rw [shapeL_all, List.all_eq_true] at h3
    exact h3 x hx)
  have hz : n.kids.length = 0 → n.count = 1 := fun h0 => by rw [hc, List.length_eq_zero_iff.1 h0]; rfl
  rw [fmtT_eq]
  by_cases h0 : n.kind = 0
  · rw [if_pos h0, hz (hleaf (by omega) (by omega))]; simp
  rw [if_neg h0]
  by_cases h1 : n.kind = 1
  · rw [if_pos h1, hz (hleaf (by omega) (by omega))]; have := itoa_pos n.num; omega
  rw [if_neg h1]
  by_cases h2 : n.kind = 2
  · rw [if_pos h2, hz (hleaf (by omega) (by omega))]; unfold quoT; simp
  rw [if_neg h2]
  by_cases h3 : n.kind = 3
  · rw [if_pos h3]
    have := key false n.kids 0 hih
    simp only [List.cons_append, List.length_cons, List.length_append, List.length_nil]
    simp at this
    omega
  · rw [if_neg h3]
    have := key true n.kids 0 hih
    simp only [List.cons_append, List.length_cons, List.length_append, List.length_nil]
    simp at this
    omega)
theorem lawTextSize_w (zs : List Int) (v : Value) (W : World) (hv : BytesR W zs v) (ht : TW W) :
    Calls Tryd.prog 8 #[v] W fun e W' => e = .returned (.bool true) ∧ Grow W W' := by
  have Hv := Lib.hid hv
  have Ht := Lib.hid ht
  obtain ⟨a, c, rfl, hl1, hl2, hx1, hx2⟩ := hv
  clear ht hx1 hx2
  unfold big at hl2
  by_cases hl : 1048576 < zs.length
  · go_enter Tryd.func8, Tryd.ntmps8
    go_wp2_with fail
    go_ret
    exact ⟨rfl, Ext.refl _ _⟩
  · go_enter Tryd.func8, Tryd.ntmps8
    go_wp2_with (go_at_call 26; refine (draw_node (fun hb => Eng.drawTextSize_AC0 zs (by omega) hb) _ _ Hv.out).mono ?_; rintro e w1 ⟨n, na, nc, ka, kc, rfl, hg1, hn1, hs⟩; have H1 := Lib.hid (NB.new hn1); have G1 := Lib.hid (hg1.alloc (.cells #[.int .i64 n.kind, .int .i64 n.num, .string n.text, .slice na n.names.length nc, .slice ka n.kids.length kc] 30)); clear hg1 hn1 hs; unfold nodeV)
    cases hv : validB n
    · have hz : fmtZ n = -1 := by unfold fmtZ; rw [hv]; rfl
      go_wp2_with (go_at_call 17; refine (TextSize_ok n _ _ H1.out.node (Ht.out.grow G1.out)).mono ?_; rintro e w2 ⟨rfl, hg⟩; have H2 := Lib.hid (H1.out.grow hg); have G2 := Lib.hid (G1.out.trans hg); obtain ⟨c20, c21, c22, c23, c24⟩ := H2.out.cells; clear hg)
      go_wp2_with (go_at_call 16; refine (ac_int (Eng.specTextSize_AC n).zero _ _ H2.out.node).mono ?_; rintro e w3 ⟨rfl, hg⟩; have H3 := Lib.hid (H2.out.grow hg); have G3 := Lib.hid (G2.out.trans hg); obtain ⟨c30, c31, c32, c33, c34⟩ := H3.out.cells; clear hg)
      go_wp2_with (go_at_call 16; refine (ac_int (Eng.specTextSize_AC n).zero _ _ H3.out.node).mono ?_; rintro e w4 ⟨rfl, hg⟩; have H4 := Lib.hid (H3.out.grow hg); have G4 := Lib.hid (G3.out.trans hg); obtain ⟨c40, c41, c42, c43, c44⟩ := H4.out.cells; clear hg)
      go_ret
      exact ⟨by simp, G4.out⟩
    · obtain ⟨hwr, hll, hfs⟩ := Eng.fmt_ok hv
      have hlo := fmt_lo n 5 (by unfold validB at hv; rw [Bool.and_eq_true] at hv; exact hv.1)
      have hcnt : n.count ≤ 40 := by unfold validB at hv; rw [Bool.and_eq_true] at hv; simpa using hv.2
      have hc1 : 1 ≤ n.count := by rw [n.count_eq]; omega
      have hz : fmtZ n = ((fmtT n).length : Int) := by unfold fmtZ; rw [hv]; rfl
      have hsz : (fmtS n).size = (fmtT n).length := by rw [hfs, Eng.txt_size]
      clear hfs
      generalize (fmtT n).length = L at *
      generalize hC : n.count = C at *
      go_wp2_with (go_at_call 17; refine (TextSize_ok n _ _ H1.out.node (Ht.out.grow G1.out)).mono ?_; rintro e w2 ⟨rfl, hg⟩; have H2 := Lib.hid (H1.out.grow hg); have G2 := Lib.hid (G1.out.trans hg); obtain ⟨c20, c21, c22, c23, c24⟩ := H2.out.cells; clear hg)
      go_wp2_with (go_at_call 16; refine (ac_int (Eng.specTextSize_AC n).zero _ _ H2.out.node).mono ?_; rintro e w3 ⟨rfl, hg⟩; have H3 := Lib.hid (H2.out.grow hg); have G3 := Lib.hid (G2.out.trans hg); obtain ⟨c30, c31, c32, c33, c34⟩ := H3.out.cells; clear hg)
      go_wp2_with (go_at_call 14; refine (FormatNode_ok n _ _ H3.out.node (Ht.out.grow G3.out)).mono ?_; rintro e w4 ⟨rfl, hg⟩; have H4 := Lib.hid (H3.out.grow hg); have G4 := Lib.hid (G3.out.trans hg); obtain ⟨c40, c41, c42, c43, c44⟩ := H4.out.cells; clear hg)
      go_wp2_with (go_at_call 21; refine (ac_int (Eng.NodeCount_AC n).zero _ _ H4.out.node).mono ?_; rintro e w5 ⟨rfl, hg⟩; have H5 := Lib.hid (H4.out.grow hg); have G5 := Lib.hid (G4.out.trans hg); obtain ⟨c50, c51, c52, c53, c54⟩ := H5.out.cells; clear hg)
      have hok2 : Eng.okN true C = (C : Int) := rfl
      have hw1 : wrap64 (2 * (C : Int)) = 2 * (C : Int) := IntWalk.wrap64_in _ (by omega)
      have hw2 : wrap64 (2 * (C : Int) - 1) = 2 * (C : Int) - 1 := IntWalk.wrap64_in _ (by omega)
      go_ret
      exact ⟨by simp [hok2, hw1, hw2]; omega, G5.out⟩
theorem size_pos {n : Nd} (h : validB n = true) : 1 ≤ (fmtT n).length := by
  have h1 := fmt_lo n 5 (by unfold validB at h; rw [Bool.and_eq_true] at h; exact h.1)
  have := n.count_eq
  omega
theorem fmtS_ne {n : Nd} (h : validB n = true) : (fmtS n).toList.isEmpty = false := by
  have h1 := size_pos h
  have h2 := (Eng.fmt_ok h).2.2
  rw [h2, ByteArray.toList_eq]
  show (fmtT n).toArray.toList.isEmpty = false
  rw [List.toList_toArray]
  cases hf : fmtT n with
  | nil => rw [hf] at h1; simp at h1
  | cons a l => rfl
theorem lawValidNode_w (zs : List Int) (v : Value) (W : World) (hv : BytesR W zs v) (ht : TW W) :
    Calls Tryd.prog 5 #[v] W fun e W' => e = .returned (.bool true) ∧ Grow W W' := by
  have Hv := Lib.hid hv
  have Ht := Lib.hid ht
  obtain ⟨a, c, rfl, hl1, hl2, hx1, hx2⟩ := hv
  clear ht hx1 hx2
  unfold big at hl2
  by_cases hl : 1048576 < zs.length
  · go_enter Tryd.func5, Tryd.ntmps5
    go_wp2_with fail
    go_ret
    exact ⟨rfl, Ext.refl _ _⟩
  · go_enter Tryd.func5, Tryd.ntmps5
    go_wp2_with (go_at_call 18; refine (draw_node (fun hb => Eng.drawValidNode_AC0 zs (by omega) hb) _ _ Hv.out).mono ?_; rintro e w1 ⟨n, na, nc, ka, kc, rfl, hg1, hn1, hs⟩; have H1 := Lib.hid (NB.new hn1); have G1 := Lib.hid (hg1.alloc (.cells #[.int .i64 n.kind, .int .i64 n.num, .string n.text, .slice na n.names.length nc, .slice ka n.kids.length kc] 30)); clear hg1 hn1 hs; unfold nodeV)
    cases hv : validB n
    · have hz : fmtS n = ⟨#[]⟩ := by unfold fmtS; rw [hv]; rfl
      have hk : Eng.okN false n.count = -1 := rfl
      have hk2 : Eng.okN false n.depth = -1 := rfl
      go_wp2_with (go_at_call 19; refine (ValidNode_ok n _ _ H1.out.node).mono ?_; rintro e w2 ⟨rfl, hg⟩; have H2 := Lib.hid (H1.out.grow hg); have G2 := Lib.hid (G1.out.trans hg); obtain ⟨c20, c21, c22, c23, c24⟩ := H2.out.cells; clear hg)
      go_wp2_with (go_at_call 20; refine (ac_bool (Eng.specValidNode_AC n).zero _ _ H2.out.node).mono ?_; rintro e w3 ⟨rfl, hg⟩; have H3 := Lib.hid (H2.out.grow hg); have G3 := Lib.hid (G2.out.trans hg); obtain ⟨c30, c31, c32, c33, c34⟩ := H3.out.cells; clear hg)
      go_wp2_with (go_at_call 14; refine (FormatNode_ok n _ _ H3.out.node (Ht.out.grow G3.out)).mono ?_; rintro e w4 ⟨rfl, hg⟩; have H4 := Lib.hid (H3.out.grow hg); have G4 := Lib.hid (G3.out.trans hg); obtain ⟨c40, c41, c42, c43, c44⟩ := H4.out.cells; clear hg)
      go_wp2_with (go_at_call 21; refine (ac_int (Eng.NodeCount_AC n).zero _ _ H4.out.node).mono ?_; rintro e w5 ⟨rfl, hg⟩; have H5 := Lib.hid (H4.out.grow hg); have G5 := Lib.hid (G4.out.trans hg); obtain ⟨c50, c51, c52, c53, c54⟩ := H5.out.cells; clear hg)
      go_wp2_with (go_at_call 22; refine (ac_int (Eng.NodeDepth_AC n).zero _ _ H5.out.node).mono ?_; rintro e w6 ⟨rfl, hg⟩; have H6 := Lib.hid (H5.out.grow hg); have G6 := Lib.hid (G5.out.trans hg); obtain ⟨c60, c61, c62, c63, c64⟩ := H6.out.cells; clear hg)
      go_ret
      exact ⟨by simp [hk, hk2], G6.out⟩
    · have hz := fmtS_ne hv
      have hk : Eng.okN true n.count = (n.count : Int) := rfl
      have hk2 : Eng.okN true n.depth = (n.depth : Int) := rfl
      have hc1 : (1 : Int) ≤ (n.count : Int) := by have := n.count_eq; omega
      have hd1 : (1 : Int) ≤ (n.depth : Int) := by have := n.depth_eq; omega
      go_wp2_with (go_at_call 19; refine (ValidNode_ok n _ _ H1.out.node).mono ?_; rintro e w2 ⟨rfl, hg⟩; have H2 := Lib.hid (H1.out.grow hg); have G2 := Lib.hid (G1.out.trans hg); obtain ⟨c20, c21, c22, c23, c24⟩ := H2.out.cells; clear hg)
      go_wp2_with (go_at_call 20; refine (ac_bool (Eng.specValidNode_AC n).zero _ _ H2.out.node).mono ?_; rintro e w3 ⟨rfl, hg⟩; have H3 := Lib.hid (H2.out.grow hg); have G3 := Lib.hid (G2.out.trans hg); obtain ⟨c30, c31, c32, c33, c34⟩ := H3.out.cells; clear hg)
      go_wp2_with (go_at_call 14; refine (FormatNode_ok n _ _ H3.out.node (Ht.out.grow G3.out)).mono ?_; rintro e w4 ⟨rfl, hg⟩; have H4 := Lib.hid (H3.out.grow hg); have G4 := Lib.hid (G3.out.trans hg); obtain ⟨c40, c41, c42, c43, c44⟩ := H4.out.cells; clear hg)
      go_wp2_with (go_at_call 21; refine (ac_int (Eng.NodeCount_AC n).zero _ _ H4.out.node).mono ?_; rintro e w5 ⟨rfl, hg⟩; have H5 := Lib.hid (H4.out.grow hg); have G5 := Lib.hid (G4.out.trans hg); obtain ⟨c50, c51, c52, c53, c54⟩ := H5.out.cells; clear hg)
      go_wp2_with (go_at_call 22; refine (ac_int (Eng.NodeDepth_AC n).zero _ _ H5.out.node).mono ?_; rintro e w6 ⟨rfl, hg⟩; have H6 := Lib.hid (H5.out.grow hg); have G6 := Lib.hid (G5.out.trans hg); obtain ⟨c60, c61, c62, c63, c64⟩ := H6.out.cells; clear hg)
      go_ret
      exact ⟨by simp [hk, hk2, hz, hd1], G6.out⟩
def oneL (n : Nd) : Nd := ⟨3, 0, ⟨#[]⟩, [], [n]⟩
theorem one_node {w : World} {n : Nd} {na : Option Addr} {nc : Nat} {ka : Option Addr} {kc : Nat} (h : NodeR w any n (nodeV n na nc ka kc)) :
    NodeR (w.alloc (.cells #[.int .i64 n.kind, .int .i64 n.num, .string n.text, .slice na n.names.length nc, .slice ka n.kids.length kc] 30)) any (oneL n) (.agg #[.int .i64 3, .int .i64 0, .string ⟨#[]⟩, .slice none 0 0, .slice (some ⟨w.heap.size, 0, none⟩) 1 1]) := by
  have hb := NB.new h
  obtain ⟨c0, c1, c2, c3, c4⟩ := hb.cells
  obtain ⟨na', nc', ka', kc', e, hc⟩ := hb.node
  unfold nodeV at e
  simp only [Value.agg.injEq, Array.mk.injEq, List.cons.injEq, Value.slice.injEq, true_and, and_true] at e
  obtain ⟨⟨rfl, rfl⟩, rfl, rfl⟩ := e
  refine ⟨none, 0, some ⟨w.heap.size, 0, none⟩, 1, rfl, NodeC.mk (Nat.zero_le _) ⟨Nat.le_refl _, Nat.zero_le _, by simp [oneL], .inl rfl⟩ ⟨Nat.le_refl _, by simp [oneL, big], .inr ⟨_, 0, rfl, trivial, ?_⟩⟩⟩
  show KidsR _ any w.heap.size 0 [n]
  unfold KidsR
  refine ⟨⟨na, nc, ka, kc, c0, c1, c2, c3, c4, hc⟩, ?_⟩
  unfold KidsR
  trivial
theorem fmt_one (n : Nd) : fmtT (oneL n) = 91 :: fmtT n ++ [93] := by
  unfold oneL
  rw [fmtT_eq]
  simp [fmtL]
theorem lawTextParts_w (zs : List Int) (v : Value) (W : World) (hv : BytesR W zs v) (ht : TW W) :
    Calls Tryd.prog 7 #[v] W fun e W' => e = .returned (.bool true) ∧ Grow W W' := by
  have Hv := Lib.hid hv
  have Ht := Lib.hid ht
  obtain ⟨a, c, rfl, hl1, hl2, hx1, hx2⟩ := hv
  clear ht hx1 hx2
  unfold big at hl2
  by_cases hl : 1048576 < zs.length
  · go_enter Tryd.func7, Tryd.ntmps7
    go_wp2_with fail
    go_ret
    exact ⟨rfl, Ext.refl _ _⟩
  · go_enter Tryd.func7, Tryd.ntmps7
    go_wp2_with (go_at_call 25; refine (draw_node (fun hb => Eng.drawFormatNode_AC0 zs (by omega) hb) _ _ Hv.out).mono ?_; rintro e w1 ⟨n, na, nc, ka, kc, rfl, hg1, hn1, hs⟩; have H1 := Lib.hid (NB.new hn1); have G1 := Lib.hid (hg1.alloc (.cells #[.int .i64 n.kind, .int .i64 n.num, .string n.text, .slice na n.names.length nc, .slice ka n.kids.length kc] 30)); clear hg1 hn1 hs; unfold nodeV)
    cases hv : validB n
    · have hz : fmtS n = ⟨#[]⟩ := by unfold fmtS; rw [hv]; rfl
      go_wp2_with (go_at_call 14; refine (FormatNode_ok n _ _ H1.out.node (Ht.out.grow G1.out)).mono ?_; rintro e w2 ⟨rfl, hg⟩; have H2 := Lib.hid (H1.out.grow hg); have G2 := Lib.hid (G1.out.trans hg); obtain ⟨c20, c21, c22, c23, c24⟩ := H2.out.cells; clear hg)
      go_wp2_with (go_at_call 12; refine (ac_str (Eng.specFormatNode_AC n).zero _ _ H2.out.node).mono ?_; rintro e w3 ⟨rfl, hg⟩; have H3 := Lib.hid (H2.out.grow hg); have G3 := Lib.hid (G2.out.trans hg); obtain ⟨c30, c31, c32, c33, c34⟩ := H3.out.cells; clear hg)
      go_wp2_with (go_at_call 12; refine (ac_str (Eng.specFormatNode_AC n).zero _ _ H3.out.node).mono ?_; rintro e w4 ⟨rfl, hg⟩; have H4 := Lib.hid (H3.out.grow hg); have G4 := Lib.hid (G3.out.trans hg); obtain ⟨c40, c41, c42, c43, c44⟩ := H4.out.cells; clear hg)
      go_ret
      exact ⟨by simp, G4.out⟩
    · have hz := fmtS_ne hv
      have hS := (Eng.fmt_ok hv).2.2
      have hzl := (Eng.fmt_ok hv).2.1
      have hsz : (fmtS n).size ≤ 2800 := by rw [hS, Eng.txt_size]; exact hzl
      have HS := Lib.hid hS
      clear hzl hS
      go_wp2_with (go_at_call 14; refine (FormatNode_ok n _ _ H1.out.node (Ht.out.grow G1.out)).mono ?_; rintro e w2 ⟨rfl, hg⟩; have H2 := Lib.hid (H1.out.grow hg); have G2 := Lib.hid (G1.out.trans hg); obtain ⟨c20, c21, c22, c23, c24⟩ := H2.out.cells; clear hg)
      go_wp2_with (go_at_call 12; refine (ac_str (Eng.specFormatNode_AC n).zero _ _ H2.out.node).mono ?_; rintro e w3 ⟨rfl, hg⟩; have H3 := Lib.hid (H2.out.grow hg); have G3 := Lib.hid (G2.out.trans hg); obtain ⟨c30, c31, c32, c33, c34⟩ := H3.out.cells; clear hg)
      cases hvl : validB (oneL n)
      · have hzl : fmtS (oneL n) = ⟨#[]⟩ := by unfold fmtS; rw [hvl]; rfl
        go_wp2_with (go_at_call 14; refine (FormatNode_ok (oneL n) _ _ (one_node H3.out.node) (Ht.out.grow (G3.out.alloc _))).mono ?_; rintro e w4 ⟨rfl, hg⟩; have G4 := Lib.hid ((G3.out.alloc _).trans hg); clear hg)
        all_goals (go_ret; exact ⟨by simp, G4.out⟩)
      · have hzl := fmtS_ne hvl
        have hL : fmtS (oneL n) = ⟨#[91]⟩ ++ fmtS n ++ ⟨#[93]⟩ := by
          rw [(Eng.fmt_ok hvl).2.2, fmt_one, HS.out]
          exact ((congrArg (· ++ (⟨#[93]⟩ : ByteArray)) (Eng.txt_app [91] (fmtT n))).trans (Eng.txt_app _ [93])).symm
        go_wp2_with (go_at_call 14; refine (FormatNode_ok (oneL n) _ _ (one_node H3.out.node) (Ht.out.grow (G3.out.alloc _))).mono ?_; rintro e w4 ⟨rfl, hg⟩; have G4 := Lib.hid ((G3.out.alloc _).trans hg); clear hg)
        all_goals (go_ret; exact ⟨by simp, G4.out⟩)
end Go.Proofs.YtoedpagdklagdaaDoor
namespace Go.Proofs.YtoedpagdklagdaaDoor
open Go Go.RowKit
theorem tw_of {W : World} (h : laidMetH Tryd.prog [("math/bits.deBruijn32tab", Rows.laid_math_bits_deBruijn32tab), ("math/bits.deBruijn64tab", Rows.laid_math_bits_deBruijn64tab), ("internal/strconv.uint64pow10", Rows.laid_internal_strconv_uint64pow10)] W) : TW W := by
  have h1 := h.filter (fun x => x.1 == "internal/strconv.uint64pow10")
  rw [Go.MakeChecks.laidMetH_plain _ _ _ (by kernel_rfl)] at h1
  have e : ([("math/bits.deBruijn32tab", Rows.laid_math_bits_deBruijn32tab), ("math/bits.deBruijn64tab", Rows.laid_math_bits_deBruijn64tab), ("internal/strconv.uint64pow10", Rows.laid_internal_strconv_uint64pow10)] : List (String × DataW Unit)).filter (fun x => x.1 == "internal/strconv.uint64pow10") = [("internal/strconv.uint64pow10", Lib.tabData .u64 Lib.pow10Tab)] := by kernel_rfl
  rw [e] at h1
  have hT : ∀ g, Tryd.prog.globalNamed "internal/strconv.uint64pow10" = some g → ((Tryd.prog.globals[g]?).map (·.type) = some 119) → g < W.heap.size → TW W := fun g h2 h3 h4 =>
    ⟨g, h2, h4, Lib.tabIs_of_head h2 h3 Tryd.underlying119 Tryd.underlying109 (by kernel_rfl) (by kernel_rfl) h1⟩
  have hlt : ∀ g, Tryd.prog.globalNamed "internal/strconv.uint64pow10" = some g → ((Tryd.prog.globals[g]?).map (·.type) = some 119) → g < W.heap.size := fun g h2 h3 => by
    have := Lib.tabIs_of_head h2 h3 Tryd.underlying119 Tryd.underlying109 (by kernel_rfl) (by kernel_rfl) h1
    unfold Lib.TabIs World.var? at this
    rw [h2] at this
    simp only [Option.bind_some] at this
    split at this
    · rename_i hh; exact (Array.getElem?_eq_some_iff.1 hh).1
    · cases this
  first
    | exact hT 0 (by kernel_rfl) (by kernel_rfl) (hlt 0 (by kernel_rfl) (by kernel_rfl))
    | exact hT 1 (by kernel_rfl) (by kernel_rfl) (hlt 1 (by kernel_rfl) (by kernel_rfl))
    | exact hT 2 (by kernel_rfl) (by kernel_rfl) (hlt 2 (by kernel_rfl) (by kernel_rfl))
end Go.Proofs.YtoedpagdklagdaaDoor
namespace Go.Proofs.YtoedpagdklagdaaDoor
open Go.RowKit
theorem toNode_any (n : Nd) (v : Value) (w : World) (hc : costN n ≤ 1048576) (hn : NodeR w any n v) :
    Calls Tryd.prog 13 #[v] w fun e w' => ∃ v', e = .returned v' ∧ Grow w w' ∧ NodeR w' any n v' :=
  (toNode_ok n v w hc hn).mono fun _ _ ⟨v', _, he, hg, ho, _⟩ => ⟨v', he, hg, ho.toR (fun _ _ => trivial)⟩
theorem eqNode_self (n : Nd) (v u : Value) (w : World) (ha : NodeR w any n v) (hb : NodeR w any n u) :
    Calls Tryd.prog 15 #[v, u] w fun e w' => e = .returned (.bool true) ∧ Grow w w' :=
  (eqNode_ok n n v u w ha hb).mono fun e w' ⟨he, hg⟩ => ⟨by rw [he, eqN_refl], hg⟩
structure NL (w : World) (k : Nat) (n : Nd) (na : Option Addr) (nc : Nat) (ka : Option Addr) (kc : Nat) : Prop where
  box : w.heap[k]? = some (.cells #[.int .i64 n.kind, .int .i64 n.num, .string n.text, .slice na n.names.length nc, .slice ka n.kids.length kc] 25 (0, 0))
  node : NodeR w any n (nodeV n na nc ka kc)
theorem NL.grow {w w' : World} {k : Nat} {n : Nd} {na : Option Addr} {nc : Nat} {ka : Option Addr} {kc : Nat} (h : NL w k n na nc ka kc) (hg : Grow w w') : NL w' k n na nc ka kc :=
  ⟨(hg.block k (Array.getElem?_eq_some_iff.1 h.box).1 (fun h => h)).trans h.box, h.node.grow hg⟩
theorem NL.new {w : World} {n : Nd} {na : Option Addr} {nc : Nat} {ka : Option Addr} {kc : Nat} (h : NodeR w any n (nodeV n na nc ka kc)) :
    NL (w.alloc (.cells #[.int .i64 n.kind, .int .i64 n.num, .string n.text, .slice na n.names.length nc, .slice ka n.kids.length kc] 25)) w.heap.size n na nc ka kc :=
  ⟨heap_alloc_new w _, h.grow ((Ext.refl _ _).alloc _)⟩
theorem NL.cells {w : World} {k : Nat} {n : Nd} {na : Option Addr} {nc : Nat} {ka : Option Addr} {kc : Nat} (h : NL w k n na nc ka kc) :
    w.cell? ⟨k, 0, none⟩ = some (.int .i64 n.kind) ∧ w.cell? ⟨k, 1, none⟩ = some (.int .i64 n.num) ∧ w.cell? ⟨k, 2, none⟩ = some (.string n.text) ∧ w.cell? ⟨k, 3, none⟩ = some (.slice na n.names.length nc) ∧ w.cell? ⟨k, 4, none⟩ = some (.slice ka n.kids.length kc) := by
  refine ⟨?_, ?_, ?_, ?_, ?_⟩ <;> (rw [Lib.cell_of_heap h.box]; rfl)
theorem lawExFormatNode_ok (n : Nd) (v : Value) (w : World) (hn : NodeR w any n v) (ht : TW w) :
    Calls Tryd.prog 3 #[v] w fun e w' => e = .returned (.bool true) ∧ Grow w w' := by
  have Ht := Lib.hid ht
  obtain ⟨na, nc, ka, kc, rfl, hx⟩ := hn
  have A1 := Lib.hid (NL.new ⟨na, nc, ka, kc, rfl, hx⟩)
  clear hx ht
  unfold nodeV at *
  have G1 := Lib.hid (((Ext.refl nil w).alloc (.cells #[.int .i64 n.kind, .int .i64 n.num, .string n.text, .slice na n.names.length nc, .slice ka n.kids.length kc] 25)))
  by_cases hc : costN n ≤ 1048576
  rotate_left
  · have Hs := Lib.hid (szR_neg (c := costN n) (left := 1048576) (by omega))
    clear hc
    go_enter Tryd.func3, Tryd.ntmps3
    go_wp2_with (go_at_call 11; refine (szNode_ok n _ _ _ (by omega) (by omega) A1.out.node).mono ?_; rintro e w2 ⟨rfl, hg⟩; simp only [Hs.out]; have G2 := Lib.hid (G1.out.trans hg); clear hg)
    go_ret
    exact ⟨by simp, G2.out⟩
  have Hs := Lib.hid (szR_pos (c := costN n) (left := 1048576) (by omega))
  have Hc := Lib.hid hc
  have hge : (costN n : Int) ≤ 1048576 := by omega
  clear hc
  skip
  go_enter Tryd.func3, Tryd.ntmps3
  go_wp2_with (go_at_call 11; refine (szNode_ok n _ _ _ (by omega) (by omega) A1.out.node).mono ?_; rintro e w2 ⟨rfl, hg⟩; simp only [Hs.out]; have A2 := Lib.hid (A1.out.grow hg); have G2 := Lib.hid (G1.out.trans hg); obtain ⟨a20, a21, a22, a23, a24⟩ := A2.out.cells; clear hg)
  go_wp2_with (go_at_call 13; refine (toNode_any n _ _ Hc.out A2.out.node).mono ?_; rintro e w3 ⟨v3, rfl, hg, hr⟩; have Hr3 := Lib.hid hr; have A3 := Lib.hid (A2.out.grow hg); have G3 := Lib.hid (G2.out.trans hg); clear hg hr a20 a21 a22 a23 a24)
  go_wp2_with (go_at_call 12; refine (ac_str (Eng.specFormatNode_AC n).zero _ _ Hr3.out).mono ?_; rintro e w4 ⟨rfl, hg⟩; have A4 := Lib.hid (A3.out.grow hg); have G4 := Lib.hid (G3.out.trans hg); obtain ⟨a40, a41, a42, a43, a44⟩ := A4.out.cells; clear hg)
  go_wp2_with (go_at_call 13; refine (toNode_any n _ _ Hc.out A4.out.node).mono ?_; rintro e w5 ⟨v5, rfl, hg, hr⟩; obtain ⟨na5, nc5, ka5, kc5, rfl, hr⟩ := hr; have B5 := Lib.hid (NB.new ⟨na5, nc5, ka5, kc5, rfl, hr⟩); have A5 := Lib.hid ((A4.out.grow hg).grow ((Ext.refl nil _).alloc (.cells #[.int .i64 n.kind, .int .i64 n.num, .string n.text, .slice na5 n.names.length nc5, .slice ka5 n.kids.length kc5] 30))); have G5 := Lib.hid ((G4.out.trans hg).alloc (.cells #[.int .i64 n.kind, .int .i64 n.num, .string n.text, .slice na5 n.names.length nc5, .slice ka5 n.kids.length kc5] 30)); clear hg hr a40 a41 a42 a43 a44; unfold nodeV)
  go_wp2_with (go_at_call 14; refine (FormatNode_ok n _ _ B5.out.node (Ht.out.grow G5.out)).mono ?_; rintro e w6 ⟨rfl, hg⟩; have A6 := Lib.hid (A5.out.grow hg); have B6 := Lib.hid (B5.out.grow hg); have G6 := Lib.hid (G5.out.trans hg); obtain ⟨a60, a61, a62, a63, a64⟩ := A6.out.cells; obtain ⟨b60, b61, b62, b63, b64⟩ := B6.out.cells; clear hg)
  refine wp_region_stab Grow (fun i => if i = 2 then some (fun v w' => NodeR w' any n v) else if i = 3 then some (fun v _ => v = .bool true) else none) (by kernel_rfl) (by kernel_rfl) ⟨Ext.refl nil, fun _ _ h1 h2 => h2.trans h1, ?_⟩ ?_
  · intro i V hV v w1 w2 hr hv
    by_cases h2 : i = 2
    · simp only [h2, if_true, Option.some.injEq] at hV; subst hV; exact NodeR.grow hv hr
    · by_cases h3 : i = 3
      · simp [h3] at hV; subst hV; exact hv
      · simp [h2, h3] at hV
  refine wpStab_read ?c0 ?_ ?_ ?_ ?_
  rotate_left
  · go_simp
  · simp
  · intro x
    refine valAt_of ?_
    go_simp
    exact rfl
  refine wpStab_read ?c1 ?_ ?_ ?_ ?_
  rotate_left
  · go_simp
  · simp
  · intro x
    refine valAt_of ?_
    go_simp
    exact rfl
  refine wpStab_made (fun v w' => NodeR w' any n v) ?_ ?_ ?_ ?_
  · go_simp
  · simp
  · intro x _
    refine stabAt_call (f := 13) (args := #[.agg #[.int .i64 n.kind, .int .i64 n.num, .string n.text, .slice na n.names.length nc, .slice ka n.kids.length kc]]) ?_ ?_
    · go_simp
    · exact toNode_any n _ _ Hc.out (A6.out.node.grow (later_grow _ x))
  intro v7
  refine wpStab_const (.bool true) ?_ ?_ ?_ ?_
  · go_simp
  · simp
  · intro x hE
    have hr7 : NodeR (later w6 x) any n v7 := (hE ⟨2, .data⟩ (by simp) (by decide)).2 rfl
    have Hr7 := Lib.hid hr7
    clear hr7 hE
    refine stabAt_call (f := 15) (args := #[.agg #[.int .i64 n.kind, .int .i64 n.num, .string n.text, .slice na5 n.names.length nc5, .slice ka5 n.kids.length kc5], v7]) ?_ ?_
    · go_simp
    · refine (eqNode_self n _ _ _ (B6.out.node.grow (later_grow _ x)) Hr7.out).mono ?_
      rintro e w' ⟨rfl, hg⟩
      exact ⟨_, rfl, hg, rfl⟩
  refine wpStab_read ?c4 ?_ ?_ ?_ ?_
  rotate_left
  · go_simp
  · simp
  · intro x
    refine valAt_of ?_
    go_simp
    exact rfl
  refine wpStab_end ?_
  intro w8 hg8
  go_wp2_with fail
  go_ret
  exact ⟨by simp, G6.out.trans hg8⟩
theorem lawExTextSize_ok (n : Nd) (v : Value) (w : World) (hn : NodeR w any n v) (ht : TW w) :
    Calls Tryd.prog 4 #[v] w fun e w' => e = .returned (.bool true) ∧ Grow w w' := by
  have Ht := Lib.hid ht
  obtain ⟨na, nc, ka, kc, rfl, hx⟩ := hn
  have A1 := Lib.hid (NL.new ⟨na, nc, ka, kc, rfl, hx⟩)
  clear hx ht
  unfold nodeV at *
  have G1 := Lib.hid (((Ext.refl nil w).alloc (.cells #[.int .i64 n.kind, .int .i64 n.num, .string n.text, .slice na n.names.length nc, .slice ka n.kids.length kc] 25)))
  by_cases hc : costN n ≤ 1048576
  rotate_left
  · have Hs := Lib.hid (szR_neg (c := costN n) (left := 1048576) (by omega))
    clear hc
    go_enter Tryd.func4, Tryd.ntmps4
    go_wp2_with (go_at_call 11; refine (szNode_ok n _ _ _ (by omega) (by omega) A1.out.node).mono ?_; rintro e w2 ⟨rfl, hg⟩; simp only [Hs.out]; have G2 := Lib.hid (G1.out.trans hg); clear hg)
    go_ret
    exact ⟨by simp, G2.out⟩
  have Hs := Lib.hid (szR_pos (c := costN n) (left := 1048576) (by omega))
  have Hc := Lib.hid hc
  have hge : (costN n : Int) ≤ 1048576 := by omega
  clear hc
  skip
  go_enter Tryd.func4, Tryd.ntmps4
  go_wp2_with (go_at_call 11; refine (szNode_ok n _ _ _ (by omega) (by omega) A1.out.node).mono ?_; rintro e w2 ⟨rfl, hg⟩; simp only [Hs.out]; have A2 := Lib.hid (A1.out.grow hg); have G2 := Lib.hid (G1.out.trans hg); obtain ⟨a20, a21, a22, a23, a24⟩ := A2.out.cells; clear hg)
  go_wp2_with (go_at_call 13; refine (toNode_any n _ _ Hc.out A2.out.node).mono ?_; rintro e w3 ⟨v3, rfl, hg, hr⟩; have Hr3 := Lib.hid hr; have A3 := Lib.hid (A2.out.grow hg); have G3 := Lib.hid (G2.out.trans hg); clear hg hr a20 a21 a22 a23 a24)
  go_wp2_with (go_at_call 16; refine (ac_int (Eng.specTextSize_AC n).zero _ _ Hr3.out).mono ?_; rintro e w4 ⟨rfl, hg⟩; have A4 := Lib.hid (A3.out.grow hg); have G4 := Lib.hid (G3.out.trans hg); obtain ⟨a40, a41, a42, a43, a44⟩ := A4.out.cells; clear hg)
  go_wp2_with (go_at_call 13; refine (toNode_any n _ _ Hc.out A4.out.node).mono ?_; rintro e w5 ⟨v5, rfl, hg, hr⟩; obtain ⟨na5, nc5, ka5, kc5, rfl, hr⟩ := hr; have B5 := Lib.hid (NB.new ⟨na5, nc5, ka5, kc5, rfl, hr⟩); have A5 := Lib.hid ((A4.out.grow hg).grow ((Ext.refl nil _).alloc (.cells #[.int .i64 n.kind, .int .i64 n.num, .string n.text, .slice na5 n.names.length nc5, .slice ka5 n.kids.length kc5] 30))); have G5 := Lib.hid ((G4.out.trans hg).alloc (.cells #[.int .i64 n.kind, .int .i64 n.num, .string n.text, .slice na5 n.names.length nc5, .slice ka5 n.kids.length kc5] 30)); clear hg hr a40 a41 a42 a43 a44; unfold nodeV)
  go_wp2_with (go_at_call 17; refine (TextSize_ok n _ _ B5.out.node (Ht.out.grow G5.out)).mono ?_; rintro e w6 ⟨rfl, hg⟩; have A6 := Lib.hid (A5.out.grow hg); have B6 := Lib.hid (B5.out.grow hg); have G6 := Lib.hid (G5.out.trans hg); obtain ⟨a60, a61, a62, a63, a64⟩ := A6.out.cells; obtain ⟨b60, b61, b62, b63, b64⟩ := B6.out.cells; clear hg)
  refine wp_region_stab Grow (fun i => if i = 2 then some (fun v w' => NodeR w' any n v) else if i = 3 then some (fun v _ => v = .bool true) else none) (by kernel_rfl) (by kernel_rfl) ⟨Ext.refl nil, fun _ _ h1 h2 => h2.trans h1, ?_⟩ ?_
  · intro i V hV v w1 w2 hr hv
    by_cases h2 : i = 2
    · simp only [h2, if_true, Option.some.injEq] at hV; subst hV; exact NodeR.grow hv hr
    · by_cases h3 : i = 3
      · simp [h3] at hV; subst hV; exact hv
      · simp [h2, h3] at hV
  refine wpStab_read ?c0 ?_ ?_ ?_ ?_
  rotate_left
  · go_simp
  · simp
  · intro x
    refine valAt_of ?_
    go_simp
    exact rfl
  refine wpStab_read ?c1 ?_ ?_ ?_ ?_
  rotate_left
  · go_simp
  · simp
  · intro x
    refine valAt_of ?_
    go_simp
    exact rfl
  refine wpStab_made (fun v w' => NodeR w' any n v) ?_ ?_ ?_ ?_
  · go_simp
  · simp
  · intro x _
    refine stabAt_call (f := 13) (args := #[.agg #[.int .i64 n.kind, .int .i64 n.num, .string n.text, .slice na n.names.length nc, .slice ka n.kids.length kc]]) ?_ ?_
    · go_simp
    · exact toNode_any n _ _ Hc.out (A6.out.node.grow (later_grow _ x))
  intro v7
  refine wpStab_const (.bool true) ?_ ?_ ?_ ?_
  · go_simp
  · simp
  · intro x hE
    have hr7 : NodeR (later w6 x) any n v7 := (hE ⟨2, .data⟩ (by simp) (by decide)).2 rfl
    have Hr7 := Lib.hid hr7
    clear hr7 hE
    refine stabAt_call (f := 15) (args := #[.agg #[.int .i64 n.kind, .int .i64 n.num, .string n.text, .slice na5 n.names.length nc5, .slice ka5 n.kids.length kc5], v7]) ?_ ?_
    · go_simp
    · refine (eqNode_self n _ _ _ (B6.out.node.grow (later_grow _ x)) Hr7.out).mono ?_
      rintro e w' ⟨rfl, hg⟩
      exact ⟨_, rfl, hg, rfl⟩
  refine wpStab_read ?c4 ?_ ?_ ?_ ?_
  rotate_left
  · go_simp
  · simp
  · intro x
    refine valAt_of ?_
    go_simp
    exact rfl
  refine wpStab_end ?_
  intro w8 hg8
  go_wp2_with fail
  go_ret
  exact ⟨by simp, G6.out.trans hg8⟩
end Go.Proofs.YtoedpagdklagdaaDoor
