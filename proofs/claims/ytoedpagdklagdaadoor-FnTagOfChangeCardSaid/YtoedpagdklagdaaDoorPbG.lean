/-
  Texts of this claim, joined.
-/
import Derived.Deep.LoopGhost
import Derived.Test.YtoedpagdklagdaaDoorRows
import Derived.Lib.LaidTab
import Derived.LaidSub
import Derived.LaidMore
import Derived.MakeChecks
import Derived.Test.YtoedpagdklagdaaDoorPbF

set_option linter.unusedSimpArgs false
set_option linter.unusedVariables false
set_option linter.unnecessarySimpa false
set_option maxRecDepth 100000
set_option maxHeartbeats 16000000
namespace Go.Proofs.YtoedpagdklagdaaDoor
open Go.RowKit
theorem conv4 (a b c d : UInt8) (T : TypeId) (w : World) : (convert 35 9 (.slice (some ⟨w.heap.size, 0, none⟩) 4 4)).run Tryd.prog (w.alloc (.cells #[.int .u8 (a.toNat : Int), .int .u8 (b.toNat : Int), .int .u8 (c.toNat : Int), .int .u8 (d.toNat : Int)] T)) =
    .ok (.string (txt [a, b, c, d])) (w.alloc (.cells #[.int .u8 (a.toNat : Int), .int .u8 (b.toNat : Int), .int .u8 (c.toNat : Int), .int .u8 (d.toNat : Int)] T)) := by
  refine run_convert_bytes_back (P := Tryd.prog) _ 35 9 5 ⟨w.heap.size, 0, none⟩ 4 [a, b, c, d] Tryd.underlying35 Tryd.underlying5 Tryd.underlying9 ?_
  intro j hj
  simp only [List.length_cons, List.length_nil] at hj
  obtain rfl | rfl | rfl | rfl : j = 0 ∨ j = 1 ∨ j = 2 ∨ j = 3 := by omega
  · show (w.alloc _).cell? ⟨w.heap.size, 0, none⟩ = _
    rw [World.cell?_alloc_new]; rfl
  · show (w.alloc _).cell? ⟨w.heap.size, 1, none⟩ = _
    rw [World.cell?_alloc_new]; rfl
  · show (w.alloc _).cell? ⟨w.heap.size, 2, none⟩ = _
    rw [World.cell?_alloc_new]; rfl
  · show (w.alloc _).cell? ⟨w.heap.size, 3, none⟩ = _
    rw [World.cell?_alloc_new]; rfl
theorem hx_get (k : Nat) (h : k < (⟨#[48, 49, 50, 51, 52, 53, 54, 55, 56, 57, 97, 98, 99, 100, 101, 102]⟩ : ByteArray).size) : (⟨#[48, 49, 50, 51, 52, 53, 54, 55, 56, 57, 97, 98, 99, 100, 101, 102]⟩ : ByteArray)[k] = hx k := by
  have h1 := hx_at k h
  have h2 : (⟨#[48, 49, 50, 51, 52, 53, 54, 55, 56, 57, 97, 98, 99, 100, 101, 102]⟩ : ByteArray)[k]? = some ((⟨#[48, 49, 50, 51, 52, 53, 54, 55, 56, 57, 97, 98, 99, 100, 101, 102]⟩ : ByteArray)[k]) := getElem?_pos _ k h
  unfold hexs at h1
  rw [h1] at h2
  exact (Option.some.inj h2).symm
theorem sumText_ok (s : ByteArray) (w : World) (hs : s.size ≤ 1000000) :
    Calls Tryd.prog 49 #[.string s] w fun e w' => e = .returned (.string (hexT (tagN s.data.toList))) ∧ Grow w w' := by
  have hsl : s.data.toList.length = s.size := by simp
  go_enter Tryd.func49, Tryd.ntmps49
  go_wp2
  go_loop [3, 4] (fun u i => ∃ k : Nat, k ≤ s.size ∧ i = .int .i64 k ∧ u = .int .i64 ((tagN (s.data.toList.take k) : Nat) : Int)) (fun _ i => s.size - (intOf i).toNat)
  case atStart => exact ⟨0, Nat.zero_le _, rfl, rfl⟩
  case round =>
    obtain ⟨k, hk, rfl, rfl⟩ := hrel
    have hSl := tagN_le (s.data.toList.take k)
    by_cases hlt : k < s.size
    · have hst : tagN (s.data.toList.take (k + 1)) = (131 * tagN (s.data.toList.take k) + s[k].toNat) % 65521 := by
        rw [take_snoc' _ k (by omega), tagN_snoc]; rfl
      have Hst := Lib.hid hst
      clear hst
      have hcb := s[k].toNat_lt
      generalize tagN (s.data.toList.take k) = S at *
      go_wp2
      go_round
      case rel => exact ⟨k + 1, by omega, by go_num, by rw [Hst.out]; go_num⟩
      case measure => simp [intOf]; omega
    · have hall : s.data.toList.take k = s.data.toList := List.take_of_length_le (by omega)
      rw [hall] at hSl ⊢
      generalize hSe : tagN s.data.toList = S at *
      have HSe := Lib.hid hSe
      clear hSe
      have hcv := conv4 (hx (S / 4096)) (hx (S / 256 % 16)) (hx (S / 16 % 16)) (hx (S % 16)) 91 w
      have Hcv := Lib.hid hcv
      clear hcv hsl hall
      go_wp2
      go_loopw [3, 6] (fun u i wr => ((i = .int .i64 3 ∧ u = .int .i64 (S : Int) ∧ wr = w.alloc (.cells #[.int .u8 0, .int .u8 0, .int .u8 0, .int .u8 0] 91)) ∨
        (i = .int .i64 2 ∧ u = .int .i64 ((S / 16 : Nat) : Int) ∧ wr = w.alloc (.cells #[.int .u8 0, .int .u8 0, .int .u8 0, .int .u8 ((hx (S % 16)).toNat : Int)] 91)) ∨
        (i = .int .i64 1 ∧ u = .int .i64 ((S / 256 : Nat) : Int) ∧ wr = w.alloc (.cells #[.int .u8 0, .int .u8 0, .int .u8 ((hx (S / 16 % 16)).toNat : Int), .int .u8 ((hx (S % 16)).toNat : Int)] 91)) ∨
        (i = .int .i64 0 ∧ u = .int .i64 ((S / 4096 : Nat) : Int) ∧ wr = w.alloc (.cells #[.int .u8 0, .int .u8 ((hx (S / 256 % 16)).toNat : Int), .int .u8 ((hx (S / 16 % 16)).toNat : Int), .int .u8 ((hx (S % 16)).toNat : Int)] 91)) ∨
        (i = .int .i64 (-1) ∧ wr = w.alloc (.cells #[.int .u8 ((hx (S / 4096)).toNat : Int), .int .u8 ((hx (S / 256 % 16)).toNat : Int), .int .u8 ((hx (S / 16 % 16)).toNat : Int), .int .u8 ((hx (S % 16)).toNat : Int)] 91)))) (fun _ i _ => (intOf i + 1).toNat)
      case atStart => exact .inl ⟨rfl, rfl, rfl⟩
      case round =>
        rcases hrel with ⟨rfl, rfl, rfl⟩ | ⟨rfl, rfl, rfl⟩ | ⟨rfl, rfl, rfl⟩ | ⟨rfl, rfl, rfl⟩ | ⟨rfl, rfl⟩
        · go_wp2
          go_roundw
          case rel => exact .inr (.inl ⟨rfl, by go_num, by rw [hx_get]⟩)
          case measure => simp [intOf]
        · generalize hq : S / 16 = q at *
          have hq2 : S / 256 = q / 16 := by rw [← hq, Nat.div_div_eq_div_mul]
          have Hq2 := Lib.hid hq2
          clear hq2
          go_wp2
          go_roundw
          case rel => exact .inr (.inr (.inl ⟨rfl, by rw [Hq2.out]; go_num, by rw [hx_get]⟩))
          case measure => simp [intOf]
        · generalize hq : S / 256 = q at *
          have hq2 : S / 4096 = q / 16 := by rw [← hq, Nat.div_div_eq_div_mul]
          have Hq2 := Lib.hid hq2
          clear hq2
          go_wp2
          go_roundw
          case rel => exact .inr (.inr (.inr (.inl ⟨rfl, by rw [Hq2.out]; go_num, by rw [hx_get]⟩)))
          case measure => simp [intOf]
        · generalize hq : S / 4096 = q at *
          have hq2 : q % 16 = q := by omega
          have Hq2 := Lib.hid hq2
          clear hq2
          go_wp2
          go_roundw
          case rel => exact .inr (.inr (.inr (.inr ⟨rfl, by rw [hx_get, Hq2.out]⟩)))
          case measure => simp [intOf]
        · have hcv := Hcv.out
          go_wp2
          go_ret
          exact ⟨by rw [HSe.out]; rfl, (by repeat (first | with_reducible exact Ext.refl _ _ | with_reducible refine Ext.trans ?_ (by assumption) | with_reducible refine Ext.drew ?_ | with_reducible refine Ext.drewN ?_ _ | with_reducible refine Ext.alloc ?_ _ | with_reducible refine Ext.setNew ?_ (by simp; done) _ | with_reducible refine Ext.setNew ?_ (by simp; omega) _))⟩
theorem TagOf_ok (n : Nd) (v : Value) (w : World) (hn : NodeR w any n v) (ht : Tb w.heap.size w) :
    Calls Tryd.prog 24 #[v] w fun e w' => e = .returned (.string (Eng.tagS n)) ∧ Grow w w' := by
  have Hn := Lib.hid hn
  have Ht := Lib.hid ht
  obtain ⟨na, nc, ka, kc, rfl, hc⟩ := hn
  clear hc ht
  unfold nodeV at *
  cases hv : validB n
  · have Hf : Hid (Eng.tagS n = ⟨#[]⟩) := Lib.hid (by unfold Eng.tagS; rw [hv]; rfl)
    go_enter Tryd.func24, Tryd.ntmps24
    go_wp2_with (go_at_call 19; refine (ValidNode_ok n _ _ ((Hn.out).ext ((Ext.refl nil w).alloc _) (fun _ _ h => h))).mono ?_; rintro e w1 ⟨rfl, hg1⟩; simp only [hv])
    go_ret
    exact ⟨by rw [Hf.out]; rfl, ((Ext.refl _ _).alloc _).trans hg1⟩
  · have hfo := Eng.fmt_ok hv
    have hsz : (fmtS n).size ≤ 1000000 := by rw [hfo.2.2, Eng.txt_size]; omega
    have Hf : Hid (Eng.tagS n = hexT (tagN (fmtS n).data.toList)) := Lib.hid (by unfold Eng.tagS; rw [hv, hfo.2.2]; simp [txt])
    clear hfo
    go_enter Tryd.func24, Tryd.ntmps24
    go_wp2_with (go_at_call 19; refine (ValidNode_ok n _ _ ((Hn.out).ext ((Ext.refl nil w).alloc _) (fun _ _ h => h))).mono ?_; rintro e w1 ⟨rfl, hg1⟩; simp only [hv]; have G1 := Lib.hid (((Ext.refl nil w).alloc _).trans hg1); have hcc := bcell hg1; have hz1 : w.heap.size < w1.heap.size := by have := hg1.size; simp at this; omega)
    clear hcc hg1
    have Ht1 := Lib.hid ((Ht.out.below (below_of G1.out)).mono (Nat.le_of_lt hz1))
    go_wp2_with (go_at_call 14; refine (FormatNode_ok n _ _ ((Hn.out).ext G1.out (fun _ _ h => h)) Ht1.out).mono ?_; rintro e w2 ⟨rfl, hg2⟩)
    go_wp2_with (go_at_call 49; refine (sumText_ok (fmtS n) _ hsz).mono ?_; rintro e w3 ⟨rfl, hg3⟩)
    go_ret
    exact ⟨by rw [Hf.out]; rfl, (G1.out.trans hg2).trans hg3⟩
end Go.Proofs.YtoedpagdklagdaaDoor
namespace Go.Proofs.YtoedpagdklagdaaDoor.Eng
open Go Go.RowKit
attribute [local simp] big size_mk ASt.pay Option.map_map Function.comp_def awant aop acall ado aev ofVal ofVal0 ASt.put ASt.add ASt.turn ASt.kill abox aalloc astore aload ASt.at cellsTo afieldAddr afield aindexAddr aindex alen abin aint acmp astr aun apick aextract anil aslice abound abuild afill abuildSlice asCells aps avCells over upd aappend asrc amax amin aconv mkSt slots rowsOf_cons rowsOf_nil usedOf_cons usedOf_nil ZK.av List.replicate ASt.back ASt.addL ASt.killL nodeA nodeT nodeTL_eq nodeL_eq strsE_get strsE_len intsE_get intsE_len strsE_at intsE_at tab2 tab3 tab4 tab5 tab6 tab7 tab8 tab9 tab10 tab11 tab12 tab13 tab14 tab15 tab16 tab17 tab18 tab19 tab21 tab22 tab23 tab24 tab25 tab28 tab29 tab30 tab35 tab40 tab41 tab42 tab45 tab46 tab47 tab55 tab56 tab57 tab63 tab73 tab74 tab84 tab87 tab89 tab90 tab93 tab94 tab109 tab120 tab123 tab128 tab129 tab134 tab135 tab137 tab138
theorem numberN_AC (k : Int) : AC Tryd.prog 28 [.int .i64 k] 0 (fun r => r = nodeA ⟨1, k, ⟨#[]⟩, [], []⟩) := by
  refine AC.weak ?_
  refine AC.of tab_ok mixed_ok Tryd.func28 (by rfl) (by kernel_rfl) ?_; rintro ⟨P, T, hT, hm, w0, S0, rd0, k0⟩ hP hTT; dsimp only at hP hTT; subst hP hTT; unfold initSt; rw [Tryd.ntmps28]
  (repeat (first | with_reducible refine AW.seq ?_ | ((first | refine arun_kn 4 rfl (fun C hC => ?_) | refine arunD_kn 4 rfl (fun C hC => ?_)); (repeat ((conv => whnf); simp)); refine hC _ ?_; clear hC C; simp only [List.drop, Nat.reduceAdd]) | ((first | refine arun_kn 1 rfl (fun C hC => ?_) | refine arunD_kn 1 rfl (fun C hC => ?_)); (repeat ((conv => whnf); simp)); refine hC _ ?_; clear hC C; simp only [List.drop, Nat.reduceAdd]) | (refine arun_skip ?_ ?_; (focus (simp [awant]; done))) | (refine AW.regionK [] (fun K hK => ?_)) | (refine AW.regionDK [] (pcs [] []) (by kernel_rfl) (by kernel_rfl) (fun K hK => ?_)) | (refine AW.condT ?_ ?_; (focus (simp [aev]; done))) | (refine AW.condF ?_ ?_; (focus (simp [aev]; done))) | with_reducible refine AW.block ?_ | ((first | ((first | refine arun_nil ?_ | refine arunD_nil ?_); refine hK _ ?_; clear hK K) | refine AW.skip ?_ | refine AW.exit ?_ | refine AW.ret ?_); simp only [thenA_exit, inBlockA_exit, if_true, if_false, Nat.reduceEqDiff, thenA_normal, inBlockA_normal, reduceIte, thenA_ret, inBlockA_ret, endQ_ret, endR_ret, endG_ret, endQ_normal, endR_normal, endG_normal])))
  refine ⟨.agg [.int .i64 1, .int .i64 k, .str ⟨#[]⟩, .view .tight 0 [], .view .tight 0 []], by simp [ares, aresL, upd, rowsOf_cons], node0_pur 1 k ⟨#[]⟩, nodeA ⟨1, k, ⟨#[]⟩, [], []⟩, ?_, rfl⟩
  unfold nodeA
  rw [nodeL_eq]
  exact Wk.agg (.cons (Wk.refl _) (.cons (Wk.refl _) (.cons (Wk.refl _) (.cons (Wk.nil (fun h => by cases h)) (.cons (Wk.nil (fun h => by cases h)) .nil)))))
end Go.Proofs.YtoedpagdklagdaaDoor.Eng
namespace Go.Proofs.YtoedpagdklagdaaDoor
open Go.RowKit
theorem lawExTagOf_ok (n : Nd) (v : Value) (w : World) (hn : NodeR w any n v) (ht : TW w) :
    Calls Tryd.prog 6 #[v] w fun e w' => e = .returned (.bool true) ∧ Grow w w' := by
  have Ht := Lib.hid ht
  obtain ⟨na, nc, ka, kc, rfl, hx⟩ := hn
  have A1 := Lib.hid (NL.new ⟨na, nc, ka, kc, rfl, hx⟩)
  clear hx ht
  unfold nodeV at *
  have G1 := Lib.hid (((Ext.refl nil w).alloc (.cells #[.int .i64 n.kind, .int .i64 n.num, .string n.text, .slice na n.names.length nc, .slice ka n.kids.length kc] 25)))
  by_cases hc : costN n ≤ 1048576
  rotate_left
  · have Hs := Lib.hid (szR_neg (c := costN n) (left := 1048576) (by omega))
    clear hc
    go_enter Tryd.func6, Tryd.ntmps6
    go_wp2_with (go_at_call 11; refine (szNode_ok n _ _ _ (by omega) (by omega) A1.out.node).mono ?_; rintro e w2 ⟨rfl, hg⟩; simp only [Hs.out]; have G2 := Lib.hid (G1.out.trans hg); clear hg)
    go_ret
    exact ⟨by simp, G2.out⟩
  have Hs := Lib.hid (szR_pos (c := costN n) (left := 1048576) (by omega))
  have Hc := Lib.hid hc
  have hge : (costN n : Int) ≤ 1048576 := by omega
  clear hc
  skip
  go_enter Tryd.func6, Tryd.ntmps6
  go_wp2_with (go_at_call 11; refine (szNode_ok n _ _ _ (by omega) (by omega) A1.out.node).mono ?_; rintro e w2 ⟨rfl, hg⟩; simp only [Hs.out]; have A2 := Lib.hid (A1.out.grow hg); have G2 := Lib.hid (G1.out.trans hg); obtain ⟨a20, a21, a22, a23, a24⟩ := A2.out.cells; clear hg)
  go_wp2_with (go_at_call 13; refine (toNode_any n _ _ Hc.out A2.out.node).mono ?_; rintro e w3 ⟨v3, rfl, hg, hr⟩; have Hr3 := Lib.hid hr; have A3 := Lib.hid (A2.out.grow hg); have G3 := Lib.hid (G2.out.trans hg); clear hg hr a20 a21 a22 a23 a24)
  go_wp2_with (go_at_call 23; refine (ac_str (Eng.specTagOf_AC n).zero _ _ Hr3.out).mono ?_; rintro e w4 ⟨rfl, hg⟩; have A4 := Lib.hid (A3.out.grow hg); have G4 := Lib.hid (G3.out.trans hg); obtain ⟨a40, a41, a42, a43, a44⟩ := A4.out.cells; clear hg)
  go_wp2_with (go_at_call 13; refine (toNode_any n _ _ Hc.out A4.out.node).mono ?_; rintro e w5 ⟨v5, rfl, hg, hr⟩; obtain ⟨na5, nc5, ka5, kc5, rfl, hr⟩ := hr; have B5 := Lib.hid (NB.new ⟨na5, nc5, ka5, kc5, rfl, hr⟩); have A5 := Lib.hid ((A4.out.grow hg).grow ((Ext.refl nil _).alloc (.cells #[.int .i64 n.kind, .int .i64 n.num, .string n.text, .slice na5 n.names.length nc5, .slice ka5 n.kids.length kc5] 30))); have G5 := Lib.hid ((G4.out.trans hg).alloc (.cells #[.int .i64 n.kind, .int .i64 n.num, .string n.text, .slice na5 n.names.length nc5, .slice ka5 n.kids.length kc5] 30)); clear hg hr a40 a41 a42 a43 a44; unfold nodeV)
  go_wp2_with (go_at_call 24; refine (TagOf_ok n _ _ B5.out.node (Ht.out.grow G5.out)).mono ?_; rintro e w6 ⟨rfl, hg⟩; have A6 := Lib.hid (A5.out.grow hg); have B6 := Lib.hid (B5.out.grow hg); have G6 := Lib.hid (G5.out.trans hg); obtain ⟨a60, a61, a62, a63, a64⟩ := A6.out.cells; obtain ⟨b60, b61, b62, b63, b64⟩ := B6.out.cells; clear hg)
  refine wp_region_stab Grow (fun i => if i = 2 then some (fun v w' => NodeR w' any n v) else if i = 3 then some (fun v _ => v = .bool true) else none) (by kernel_rfl) (by kernel_rfl) ⟨Ext.refl nil, fun _ _ h1 h2 => h2.trans h1, ?_⟩ ?_
  · intro i V hV v w1 w2 hr hv
    by_cases h2 : i = 2
    · simp only [h2, if_true, Option.some.injEq] at hV; subst hV; exact NodeR.grow hv hr
    · by_cases h3 : i = 3
      · simp [h3] at hV; subst hV; exact hv
      · simp [h2, h3] at hV
  refine wpStab_read ?c0 ?_ ?_ ?_ ?_
  rotate_left
  · go_simp
  · simp
  · intro x
    refine valAt_of ?_
    go_simp
    exact rfl
  refine wpStab_read ?c1 ?_ ?_ ?_ ?_
  rotate_left
  · go_simp
  · simp
  · intro x
    refine valAt_of ?_
    go_simp
    exact rfl
  refine wpStab_made (fun v w' => NodeR w' any n v) ?_ ?_ ?_ ?_
  · go_simp
  · simp
  · intro x _
    refine stabAt_call (f := 13) (args := #[.agg #[.int .i64 n.kind, .int .i64 n.num, .string n.text, .slice na n.names.length nc, .slice ka n.kids.length kc]]) ?_ ?_
    · go_simp
    · exact toNode_any n _ _ Hc.out (A6.out.node.grow (later_grow _ x))
  intro v7
  refine wpStab_const (.bool true) ?_ ?_ ?_ ?_
  · go_simp
  · simp
  · intro x hE
    have hr7 : NodeR (later w6 x) any n v7 := (hE ⟨2, .data⟩ (by simp) (by decide)).2 rfl
    have Hr7 := Lib.hid hr7
    clear hr7 hE
    refine stabAt_call (f := 15) (args := #[.agg #[.int .i64 n.kind, .int .i64 n.num, .string n.text, .slice na5 n.names.length nc5, .slice ka5 n.kids.length kc5], v7]) ?_ ?_
    · go_simp
    · refine (eqNode_self n _ _ _ (B6.out.node.grow (later_grow _ x)) Hr7.out).mono ?_
      rintro e w' ⟨rfl, hg⟩
      exact ⟨_, rfl, hg, rfl⟩
  refine wpStab_read ?c4 ?_ ?_ ?_ ?_
  rotate_left
  · go_simp
  · simp
  · intro x
    refine valAt_of ?_
    go_simp
    exact rfl
  refine wpStab_end ?_
  intro w8 hg8
  go_wp2_with fail
  go_ret
  exact ⟨by simp, G6.out.trans hg8⟩
theorem hx_inj {a b : Nat} (ha : a < 16) (hb : b < 16) (h : hx a = hx b) : a = b := by
  have : ∀ a b : Fin 16, hx a.1 = hx b.1 → a = b := by decide +kernel
  exact congrArg Fin.val (this ⟨a, ha⟩ ⟨b, hb⟩ h)
theorem hexT_inj {a b : Nat} (ha : a ≤ 65520) (hb : b ≤ 65520) (h : hexT a = hexT b) : a = b := by
  unfold hexT txt at h
  have h2 := congrArg (fun x : ByteArray => x.data.toList) h
  simp only [List.cons.injEq, and_true] at h2
  have e1 := hx_inj (by omega) (by omega) h2.1
  have e2 := hx_inj (by omega) (by omega) h2.2.1
  have e3 := hx_inj (by omega) (by omega) h2.2.2.1
  have e4 := hx_inj (by omega) (by omega) h2.2.2.2
  omega
def numN (k : Int) : Nd := ⟨1, k, ⟨#[]⟩, [], []⟩
theorem dig_step (u : Nat) (h : u % 10 ≠ 9) : ∃ p d, d ≤ 8 ∧ Lib.decDigits u = p ++ [UInt8.ofNat (48 + d)] ∧ Lib.decDigits (u + 1) = p ++ [UInt8.ofNat (48 + (d + 1))] := by
  by_cases h10 : u < 10
  · exact ⟨[], u, by omega, Eng.digs_one h10, Eng.digs_one (by omega)⟩
  · refine ⟨Lib.decDigits (u / 10), u % 10, by omega, Eng.digs_more h10, ?_⟩
    rw [Eng.digs_more (by omega), show (u + 1) / 10 = u / 10 by omega, show (u + 1) % 10 = u % 10 + 1 by omega]
theorem tagN_step (u : Nat) (h : u % 10 ≠ 9) : tagN (Lib.decDigits (u + 1)) ≠ tagN (Lib.decDigits u) := by
  obtain ⟨p, d, hd, e1, e2⟩ := dig_step u h
  rw [e1, e2, tagN_snoc, tagN_snoc]
  have t1 : (UInt8.ofNat (48 + d)).toNat = 48 + d := by rw [UInt8.toNat_ofNat']; exact Nat.mod_eq_of_lt (by omega)
  have t2 : (UInt8.ofNat (48 + (d + 1))).toNat = 48 + (d + 1) := by rw [UInt8.toNat_ofNat']; exact Nat.mod_eq_of_lt (by omega)
  rw [t1, t2]
  omega
theorem hexT_ne (s : Nat) : (hexT s).toList.isEmpty = false := by unfold hexT txt; rw [ByteArray.toList_eq]; rfl
theorem tag_step {n : Nd} (hv : validB n = true) (hk : n.kind = 1) (h0 : 0 ≤ n.num) (h9 : n.num.tmod 10 ≠ 9) : ((Eng.tagS (numN (n.num + 1))).toList == (Eng.tagS n).toList) = false := by
  rw [beq_toList]
  simp only [decide_eq_false_iff_not]
  intro e
  have e1 : Eng.tagS n = hexT (tagN (fmtT n)) := by unfold Eng.tagS; rw [hv]; rfl
  have f1 : fmtT n = Lib.itoa n.num := by rw [fmtT_eq, hk]; rfl
  have f2 : fmtT (numN (n.num + 1)) = Lib.itoa (n.num + 1) := by rw [fmtT_eq]; rfl
  rw [e1, f1] at e
  obtain ⟨u, hu⟩ := Int.eq_ofNat_of_zero_le h0
  have i1 : Lib.itoa n.num = Lib.decDigits u := by rw [hu]; unfold Lib.itoa; rw [if_neg (by omega)]; rfl
  have i2 : Lib.itoa (n.num + 1) = Lib.decDigits (u + 1) := by rw [hu]; unfold Lib.itoa; rw [if_neg (by omega)]; rfl
  have hu9 : u % 10 ≠ 9 := by
    intro hh; apply h9; rw [hu]
    show ((u % 10 : Nat) : Int) = 9
    omega
  cases hv2 : validB (numN (n.num + 1))
  · have e2 : Eng.tagS (numN (n.num + 1)) = ⟨#[]⟩ := by unfold Eng.tagS; rw [hv2]; rfl
    rw [e2] at e
    have h1 := hexT_ne (tagN (Lib.itoa n.num))
    rw [← e] at h1
    rw [ByteArray.toList_eq] at h1
    cases h1
  · have e2 : Eng.tagS (numN (n.num + 1)) = hexT (tagN (fmtT (numN (n.num + 1)))) := by unfold Eng.tagS; rw [hv2]; rfl
    rw [e2, f2, i1, i2] at e
    exact tagN_step u hu9 (hexT_inj (tagN_le _) (tagN_le _) e)
theorem number_ok (k : Int) (w : World) : Calls Tryd.prog 28 #[.int .i64 k] w fun e w' => ∃ na nc ka kc, e = .returned (nodeV (numN k) na nc ka kc) ∧ Grow w w' ∧ NodeR w' any (numN k) (nodeV (numN k) na nc ka kc) := by
  refine ((Eng.numberN_AC k).zero.2 w nil (fun _ => False) [.int .i64 k] (fun b hb => hb.elim) (fun b hb => hb.elim) ?_).mono ?_
  · unfold Eng.RepL
    exact ⟨_, _, rfl, Eng.rep_int.2 rfl, by unfold Eng.RepL; rfl⟩
  · rintro e W' ⟨u, r, S', rfl, hg, _, _, hr, rfl⟩
    obtain ⟨na, nc, ka, kc, rfl, hc⟩ := Eng.nodeA_of_rep hr
    exact ⟨na, nc, ka, kc, rfl, hg, ⟨na, nc, ka, kc, rfl, hc⟩⟩
end Go.Proofs.YtoedpagdklagdaaDoor
namespace Go.Proofs.YtoedpagdklagdaaDoor
open Go Go.RowKit
theorem tw_of {W : World} (h : laidMetH Tryd.prog [("math/bits.deBruijn32tab", Rows.laid_math_bits_deBruijn32tab), ("math/bits.deBruijn64tab", Rows.laid_math_bits_deBruijn64tab), ("internal/strconv.uint64pow10", Rows.laid_internal_strconv_uint64pow10)] W) : TW W := by
  have h1 := h.filter (fun x => x.1 == "internal/strconv.uint64pow10")
  rw [Go.MakeChecks.laidMetH_plain _ _ _ (by kernel_rfl)] at h1
  have e : ([("math/bits.deBruijn32tab", Rows.laid_math_bits_deBruijn32tab), ("math/bits.deBruijn64tab", Rows.laid_math_bits_deBruijn64tab), ("internal/strconv.uint64pow10", Rows.laid_internal_strconv_uint64pow10)] : List (String × DataW Unit)).filter (fun x => x.1 == "internal/strconv.uint64pow10") = [("internal/strconv.uint64pow10", Lib.tabData .u64 Lib.pow10Tab)] := by kernel_rfl
  rw [e] at h1
  have hT : ∀ g, Tryd.prog.globalNamed "internal/strconv.uint64pow10" = some g → ((Tryd.prog.globals[g]?).map (·.type) = some 119) → g < W.heap.size → TW W := fun g h2 h3 h4 =>
    ⟨g, h2, h4, Lib.tabIs_of_head h2 h3 Tryd.underlying119 Tryd.underlying109 (by kernel_rfl) (by kernel_rfl) h1⟩
  have hlt : ∀ g, Tryd.prog.globalNamed "internal/strconv.uint64pow10" = some g → ((Tryd.prog.globals[g]?).map (·.type) = some 119) → g < W.heap.size := fun g h2 h3 => by
    have := Lib.tabIs_of_head h2 h3 Tryd.underlying119 Tryd.underlying109 (by kernel_rfl) (by kernel_rfl) h1
    unfold Lib.TabIs World.var? at this
    rw [h2] at this
    simp only [Option.bind_some] at this
    split at this
    · rename_i hh; exact (Array.getElem?_eq_some_iff.1 hh).1
    · cases this
  first
    | exact hT 0 (by kernel_rfl) (by kernel_rfl) (hlt 0 (by kernel_rfl) (by kernel_rfl))
    | exact hT 1 (by kernel_rfl) (by kernel_rfl) (hlt 1 (by kernel_rfl) (by kernel_rfl))
    | exact hT 2 (by kernel_rfl) (by kernel_rfl) (hlt 2 (by kernel_rfl) (by kernel_rfl))
end Go.Proofs.YtoedpagdklagdaaDoor
namespace Go.Proofs.YtoedpagdklagdaaDoor
open Go.RowKit
theorem lawTagChange_w (zs : List Int) (v : Value) (W : World) (hv : BytesR W zs v) (ht : TW W) :
    Calls Tryd.prog 9 #[v] W fun e W' => e = .returned (.bool true) ∧ Grow W W' := by
  have Hv := Lib.hid hv
  have Ht := Lib.hid ht
  obtain ⟨a, c, rfl, hl1, hl2, hx1, hx2⟩ := hv
  clear ht hx1 hx2
  unfold big at hl2
  by_cases hl : 1048576 < zs.length
  · go_enter Tryd.func9, Tryd.ntmps9
    go_wp2_with fail
    go_ret
    exact ⟨rfl, Ext.refl _ _⟩
  · go_enter Tryd.func9, Tryd.ntmps9
    go_wp2_with (go_at_call 27; refine (draw_node (fun hb => Eng.drawTagOf_AC0 zs (by omega) hb) _ _ Hv.out).mono ?_; rintro e w1 ⟨n, na, nc, ka, kc, rfl, hg1, hn1, hs⟩; have H1 := Lib.hid (NB.new hn1); have G1 := Lib.hid (hg1.alloc (.cells #[.int .i64 n.kind, .int .i64 n.num, .string n.text, .slice na n.names.length nc, .slice ka n.kids.length kc] 30)); clear hg1 hn1 hs; unfold nodeV)
    by_cases hk : n.kind = 1
    rotate_left
    · have hkb : (n.kind == 1) = false := by simpa using hk
      go_wp2_with (go_at_call 24; refine (TagOf_ok n _ _ H1.out.node (Ht.out.grow G1.out)).mono ?_; rintro e w2 ⟨rfl, hg⟩; have H2 := Lib.hid (H1.out.grow hg); have G2 := Lib.hid (G1.out.trans hg); obtain ⟨c20, c21, c22, c23, c24⟩ := H2.out.cells; clear hg)
      go_wp2_with (go_at_call 23; have K := ac_str (Eng.specTagOf_AC n).zero _ _ H2.out.node; unfold nodeV at K; (first | with_reducible refine K.mono ?_ | (rw [Hk.out] at K; with_reducible refine K.mono ?_)); clear K; rintro e w3 ⟨rfl, hg⟩; have H3 := Lib.hid (H2.out.grow hg); have G3 := Lib.hid (G2.out.trans hg); obtain ⟨c30, c31, c32, c33, c34⟩ := H3.out.cells; clear hg)
      go_wp2_with (go_at_call 23; have K := ac_str (Eng.specTagOf_AC n).zero _ _ H3.out.node; unfold nodeV at K; (first | with_reducible refine K.mono ?_ | (rw [Hk.out] at K; with_reducible refine K.mono ?_)); clear K; rintro e w4 ⟨rfl, hg⟩; have H4 := Lib.hid (H3.out.grow hg); have G4 := Lib.hid (G3.out.trans hg); obtain ⟨c40, c41, c42, c43, c44⟩ := H4.out.cells; clear hg)
      go_ret
      exact ⟨by simp, G4.out⟩
    have hkb : (n.kind == 1) = true := by simpa using hk
    have Hk := Lib.hid hk
    clear hk
    cases hvn : validB n
    · have hz : Eng.tagS n = ⟨#[]⟩ := by unfold Eng.tagS; rw [hvn]; rfl
      go_wp2_with (go_at_call 24; refine (TagOf_ok n _ _ H1.out.node (Ht.out.grow G1.out)).mono ?_; rintro e w2 ⟨rfl, hg⟩; have H2 := Lib.hid (H1.out.grow hg); have G2 := Lib.hid (G1.out.trans hg); obtain ⟨c20, c21, c22, c23, c24⟩ := H2.out.cells; clear hg)
      go_wp2_with (go_at_call 23; have K := ac_str (Eng.specTagOf_AC n).zero _ _ H2.out.node; unfold nodeV at K; (first | with_reducible refine K.mono ?_ | (rw [Hk.out] at K; with_reducible refine K.mono ?_)); clear K; rintro e w3 ⟨rfl, hg⟩; have H3 := Lib.hid (H2.out.grow hg); have G3 := Lib.hid (G2.out.trans hg); obtain ⟨c30, c31, c32, c33, c34⟩ := H3.out.cells; clear hg)
      go_wp2_with (go_at_call 23; have K := ac_str (Eng.specTagOf_AC n).zero _ _ H3.out.node; unfold nodeV at K; (first | with_reducible refine K.mono ?_ | (rw [Hk.out] at K; with_reducible refine K.mono ?_)); clear K; rintro e w4 ⟨rfl, hg⟩; have H4 := Lib.hid (H3.out.grow hg); have G4 := Lib.hid (G3.out.trans hg); obtain ⟨c40, c41, c42, c43, c44⟩ := H4.out.cells; clear hg)
      go_ret
      exact ⟨by simp, G4.out⟩
    have hne : (Eng.tagS n).toList.isEmpty = false := by unfold Eng.tagS; rw [hvn]; exact hexT_ne _
    have hnum := (Eng.fmt_ok hvn).1.num
    by_cases h0 : n.num < 0
    · have hk' := Lib.hid hvn
      clear hvn
      go_wp2_with (go_at_call 24; refine (TagOf_ok n _ _ H1.out.node (Ht.out.grow G1.out)).mono ?_; rintro e w2 ⟨rfl, hg⟩; have H2 := Lib.hid (H1.out.grow hg); have G2 := Lib.hid (G1.out.trans hg); obtain ⟨c20, c21, c22, c23, c24⟩ := H2.out.cells; clear hg)
      go_wp2_with (go_at_call 23; have K := ac_str (Eng.specTagOf_AC n).zero _ _ H2.out.node; unfold nodeV at K; (first | with_reducible refine K.mono ?_ | (rw [Hk.out] at K; with_reducible refine K.mono ?_)); clear K; rintro e w3 ⟨rfl, hg⟩; have H3 := Lib.hid (H2.out.grow hg); have G3 := Lib.hid (G2.out.trans hg); obtain ⟨c30, c31, c32, c33, c34⟩ := H3.out.cells; clear hg)
      all_goals
        go_wp2_with (go_at_call 23; have K := ac_str (Eng.specTagOf_AC n).zero _ _ H3.out.node; unfold nodeV at K; (first | with_reducible refine K.mono ?_ | (rw [Hk.out] at K; with_reducible refine K.mono ?_)); clear K; rintro e w4 ⟨rfl, hg⟩; have H4 := Lib.hid (H3.out.grow hg); have G4 := Lib.hid (G3.out.trans hg); obtain ⟨c40, c41, c42, c43, c44⟩ := H4.out.cells; clear hg)
        go_ret
        exact ⟨by simp, G4.out⟩
    by_cases h9 : n.num % 10 = 9
    · clear hvn
      go_wp2_with (go_at_call 24; refine (TagOf_ok n _ _ H1.out.node (Ht.out.grow G1.out)).mono ?_; rintro e w2 ⟨rfl, hg⟩; have H2 := Lib.hid (H1.out.grow hg); have G2 := Lib.hid (G1.out.trans hg); obtain ⟨c20, c21, c22, c23, c24⟩ := H2.out.cells; clear hg)
      go_wp2_with (go_at_call 23; have K := ac_str (Eng.specTagOf_AC n).zero _ _ H2.out.node; unfold nodeV at K; (first | with_reducible refine K.mono ?_ | (rw [Hk.out] at K; with_reducible refine K.mono ?_)); clear K; rintro e w3 ⟨rfl, hg⟩; have H3 := Lib.hid (H2.out.grow hg); have G3 := Lib.hid (G2.out.trans hg); obtain ⟨c30, c31, c32, c33, c34⟩ := H3.out.cells; clear hg)
      go_wp2_with (go_at_call 23; have K := ac_str (Eng.specTagOf_AC n).zero _ _ H3.out.node; unfold nodeV at K; (first | with_reducible refine K.mono ?_ | (rw [Hk.out] at K; with_reducible refine K.mono ?_)); clear K; rintro e w4 ⟨rfl, hg⟩; have H4 := Lib.hid (H3.out.grow hg); have G4 := Lib.hid (G3.out.trans hg); obtain ⟨c40, c41, c42, c43, c44⟩ := H4.out.cells; clear hg)
      go_ret
      exact ⟨by simp, G4.out⟩
    have hw : wrap64 (n.num + 1) = n.num + 1 := IntWalk.wrap64_in _ (by omega)
    have hst := tag_step hvn Hk.out (by omega) (by rw [Int.tmod_eq_emod_of_nonneg (by omega)]; exact h9)
    have Hst := Lib.hid hst
    have h9b : (n.num % 10 == 9) = false := by simpa using h9
    have h0b : ¬ n.num < 0 := h0
    have hvn' := Lib.hid hvn
    clear hvn hst
    go_wp2_with (go_at_call 24; refine (TagOf_ok n _ _ H1.out.node (Ht.out.grow G1.out)).mono ?_; rintro e w2 ⟨rfl, hg⟩; have H2 := Lib.hid (H1.out.grow hg); have G2 := Lib.hid (G1.out.trans hg); obtain ⟨c20, c21, c22, c23, c24⟩ := H2.out.cells; clear hg)
    go_wp2_with (go_at_call 23; have K := ac_str (Eng.specTagOf_AC n).zero _ _ H2.out.node; unfold nodeV at K; (first | with_reducible refine K.mono ?_ | (rw [Hk.out] at K; with_reducible refine K.mono ?_)); clear K; rintro e w3 ⟨rfl, hg⟩; have H3 := Lib.hid (H2.out.grow hg); have G3 := Lib.hid (G2.out.trans hg); obtain ⟨c30, c31, c32, c33, c34⟩ := H3.out.cells; clear hg)
    go_wp2_with (go_at_call 28; refine (number_ok _ _).mono ?_; rintro e w4 ⟨na4, nc4, ka4, kc4, rfl, hg, hn4⟩; have N4 := Lib.hid hn4; have G4 := Lib.hid (G3.out.trans hg); clear hg hn4)
    go_wp2_with (go_at_call 24; refine (TagOf_ok (numN (n.num + 1)) _ _ N4.out (Ht.out.grow G4.out)).mono ?_; rintro e w5 ⟨rfl, hg⟩; have G5 := Lib.hid (G4.out.trans hg); clear hg; have hst := Hst.out)
    go_ret
    exact ⟨by simp, G5.out⟩
end Go.Proofs.YtoedpagdklagdaaDoor
