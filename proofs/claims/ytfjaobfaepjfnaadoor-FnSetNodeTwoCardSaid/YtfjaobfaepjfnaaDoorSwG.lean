/-
  Texts of this claim, joined.
-/
import Derived.Laws.CopyRow
import Derived.Laws.CopyOwn
import Derived.Laws.IdiomCopy
import Derived.Laws.AppendOwn
import Derived.Lib.AppendZerosOnto
import Derived.Lib.Overlaps
import Derived.Deep.RegionLaw
import Derived.Shelf.RegionOpenPlain
import Derived.Test.YtfjaobfaepjfnaaDoorSwF

set_option linter.unusedSimpArgs false
set_option linter.unusedVariables false
set_option linter.unnecessarySimpa false
set_option maxRecDepth 100000
set_option maxHeartbeats 16000000
namespace Go.Proofs.YtfjaobfaepjfnaaDoor.Eng
open Go Go.RowKit
def setK (n : Nd) (k : Nat) (v : Nd) : Nd := ⟨n.kind, n.num, n.text, n.names, n.kids.set k v⟩
def setS : Nd → List ByteArray → Nd → Option Nd
  | _, [], v => some v
  | n, s :: p, v => if 0 ≤ placeI n s then (setS ((n.kids[(placeI n s).toNat]?).getD Nd.zero) p v).map (setK n (placeI n s).toNat) else none
theorem setS_no {n v : Nd} {s : ByteArray} (p : List ByteArray) (h : placeI n s = -1) : setS n (s :: p) v = none := by
  rw [setS, if_neg (by omega)]
theorem setS_yes {n v : Nd} {s : ByteArray} (p : List ByteArray) {k : Nat} (hk : k < n.kids.length) (h : placeI n s = (k : Int)) : setS n (s :: p) v = (setS n.kids[k] p v).map (setK n k) := by
  rw [setS, h, if_pos (by omega)]
  simp [hk]
theorem setK_sml {n v : Nd} {k : Nat} (hn : Sml n) (hv : Sml v) : Sml (setK n k v) :=
  .mk _ hn.names (by simp only [setK, List.length_set]; exact hn.kids) (fun x hx => by
    rcases List.mem_or_eq_of_mem_set hx with h | rfl
    · exact hn.kid h
    · exact hv)
theorem setS_sml : ∀ (p : List ByteArray) (n v m : Nd), Shp n → Sml v → setS n p v = some m → Sml m
  | [], n, v, m, _, hv, h => by rw [setS] at h; cases h; exact hv
  | s :: p, n, v, m, hn, hv, h => by
    rcases placeI_cases n s with ⟨h1, _⟩ | ⟨k, h1, h2, _⟩
    · rw [setS_no p h1] at h; cases h
    · rw [setS_yes p h1 h2] at h
      obtain ⟨x, hx, rfl⟩ := Option.map_eq_some_iff.1 h
      exact setK_sml hn.sml (setS_sml p _ v x (hn.kid (List.getElem_mem h1)) hv hx)
structure Slt (n : Nd) : Prop where
  map : n.kind = 4 → n.names.length = n.kids.length
  lst : n.kind = 3 → n.kids.length ≤ 6
  sml : Sml n
theorem Slt.plc {n : Nd} (h : Slt n) : Plc n := ⟨fun h4 => by have := h.map h4; omega, fun h3 => by have := h.lst h3; omega⟩
end Go.Proofs.YtfjaobfaepjfnaaDoor.Eng
-- EV: fresh
namespace Go.Proofs.YtfjaobfaepjfnaaDoor.Eng
open Go Go.RowKit
attribute [local simp] big size_mk ASt.pay Option.map_map Function.comp_def awant aop acall ado aev ofVal ofVal0 ASt.put ASt.add ASt.turn ASt.kill abox aalloc astore aload aloadD astoreD idOf ASt.at cellsTo afieldAddr afield aindexAddr aindex alen abin aint acmp astr aun apick aextract anil aslice abound abuild afill abuildSlice asCells aps avCells over upd aappend asrc amax amin aconv mkSt slots rowsOf_cons rowsOf_nil usedOf_cons usedOf_nil ZK.av List.replicate ASt.back ASt.addL ASt.killL nodeA nodeT nodeTL_eq nodeL_eq strsE_get strsE_len intsE_get intsE_len strsE_at intsE_at tab2 tab3 tab4 tab5 tab6 tab7 tab8 tab9 tab10 tab11 tab12 tab13 tab14 tab15 tab16 tab17 tab18 tab19 tab21 tab22 tab23 tab24 tab25 tab26 tab28 tab29 tab30 tab31 tab42 tab43 tab44 tab46 tab63 tab64 tab67 tab68 tab75 tab98 tab100 tab101 tab105 tab106 tab107 tab122 tab123 tab125 tab128 tab138 tab144 tab151 tab152 tab157 tab158 tab160 tab161 tab162
def chgS : Nd → List ByteArray → (Nd → Option Nd) → Option Nd
  | n, [], g => g n
  | n, s :: p, g => if 0 ≤ placeI n s then (chgS ((n.kids[(placeI n s).toNat]?).getD Nd.zero) p g).map (setK n (placeI n s).toNat) else none
theorem chgS_no {n : Nd} {s : ByteArray} (p : List ByteArray) (g : Nd → Option Nd) (h : placeI n s = -1) : chgS n (s :: p) g = none := by
  rw [chgS, if_neg (by omega)]
theorem chgS_yes {n : Nd} {s : ByteArray} (p : List ByteArray) (g : Nd → Option Nd) {k : Nat} (hk : k < n.kids.length) (h : placeI n s = (k : Int)) : chgS n (s :: p) g = (chgS n.kids[k] p g).map (setK n k) := by
  rw [chgS, h, if_pos (by omega)]
  simp [hk]
theorem chgS_set : ∀ (p : List ByteArray) (n v : Nd), chgS n p (fun _ => some v) = setS n p v
  | [], n, v => by rw [chgS, setS]
  | s :: p, n, v => by
    rw [chgS, setS]
    split
    · rw [chgS_set p]
    · rfl
theorem cloL_mem : ∀ {l : List AV}, cloL l → ∀ x ∈ l, Clo x
  | [], _, x, hx => by cases hx
  | y :: l, h, x, hx => by
    rcases List.mem_cons.1 hx with rfl | hx
    · exact h.1
    · exact cloL_mem h.2 x hx
def rNBX (m : Nd) (b : Bool) (r : AV) : Prop := ∃ l : Lb, l.nd = m ∧ l.fp.Nodup ∧ r = .tup [.agg [.int .i64 l.kind, .int .i64 l.num, .str l.text, .view (.fr l.nb) 1 (strsE l.names), .view (.fr l.kb) 5 (l.kids.map labL)], .bool b]
theorem rNB_X {m : Nd} {b : Bool} {r : AV} (h : rNB m b r) : rNBX m b r := by
  obtain ⟨l, h1, h2, rfl⟩ := h
  exact ⟨l, h1, h2, by unfold labA; rw [labL_eq]⟩
theorem rNBX_ex (m : Nd) (b : Bool) {A : Nat → Prop} {N : Nat} (hN : ∀ b, A b → b < N) : ∃ r, (rNBX m b r ∧ ∀ b ∈ atB r, ¬ A b) ∧ NoId r := by
  obtain ⟨l, M, h1, h2, _, h4⟩ := lab_ex m N
  have hr : rNB m b (.tup [labA l, .bool b]) := ⟨l, h1, h2, rfl⟩
  exact ⟨_, ⟨rNB_X hr, fun b hb ha => by rw [at_tup2] at hb; have := (h4 b hb).1; have := hN b ha; omega⟩, in_tup.2 (by
    simp only [List.forall_mem_cons, List.not_mem_nil, false_implies, implies_true, and_true]
    exact ⟨lab_in l, in_bool⟩)⟩
theorem back_copyF {s : ASt} {n : Nd} {ks : List Lb} {A B : Nat} (hAB : A ≠ B) (uA : s.used A = false) (uB : s.used B = false) : Back s [] (fun _ => 0) (fun k => if k = 20 then A else B) [(20, namesR n.names), (34, labsR ks)] [(A, namesR n.names), (B, labsR ks)] (nodeRR n 20 34) (nodeRR n A B) := by
  refine ⟨?_, ?_, ?_, ?_⟩
  · intro k hk k' hk'
    simp only [List.map_cons, List.map_nil, List.mem_cons, List.not_mem_nil, or_false] at hk hk'
    rcases hk with rfl | rfl <;> rcases hk' with rfl | rfl <;> simp <;> intro h <;> first | exact absurd h hAB | exact absurd h.symm hAB
  · intro k R hk
    right
    show s.used (if k = 20 then A else B) = false
    split
    · exact uA
    · exact uB
  · exact .cons (es := (namesR n.names).es) rfl (.refl (strsE_pur _)) (.cons (es := (labsR ks).es) rfl (.refl (labsE_pur _)) .nil)
  · exact .base (.agg (.cons (.pur pur_int) (.cons (.pur pur_int) (.cons (.pur pur_str) (.cons (.own (by simp) rfl) (.cons (.own (by simp) rfl) .nil))))))
theorem fp_set {ks : List Lb} {l : Lb} (k : Nat) (h : (ks.flatMap Lb.fp).Nodup) (hl : l.fp.Nodup) (ha : ∀ b ∈ l.fp, ¬ b ∈ ks.flatMap Lb.fp) : ((ks.set k l).flatMap Lb.fp).Nodup := by
  induction ks generalizing k with
  | nil => simp
  | cons x ks ih =>
    rw [List.flatMap_cons] at h ha
    obtain ⟨h1, h2, h3⟩ := List.nodup_append.1 h
    cases k with
    | zero =>
      rw [List.set_cons_zero, List.flatMap_cons]
      exact List.nodup_append.2 ⟨hl, h2, fun a ha1 b hb e => ha a ha1 (List.mem_append_right _ (e ▸ hb))⟩
    | succ k =>
      rw [List.set_cons_succ, List.flatMap_cons]
      refine List.nodup_append.2 ⟨h1, ih k h2 (fun b hb hm => ha b hb (List.mem_append_right _ hm)), fun a ha1 b hb e => ?_⟩
      subst e
      obtain ⟨y, hy, hb⟩ := List.mem_flatMap.1 hb
      rcases List.mem_or_eq_of_mem_set hy with hy | hy
      · exact h3 a ha1 a (List.mem_flatMap.2 ⟨y, hy, hb⟩) rfl
      · exact ha a (hy ▸ hb) (List.mem_append_left _ ha1)
theorem fp_set_mem {ks : List Lb} {l : Lb} {k b : Nat} (h : b ∈ (ks.set k l).flatMap Lb.fp) : b ∈ ks.flatMap Lb.fp ∨ b ∈ l.fp := by
  obtain ⟨y, hy, hb⟩ := List.mem_flatMap.1 h
  rcases List.mem_or_eq_of_mem_set hy with hy | rfl
  · exact .inl (List.mem_flatMap.2 ⟨y, hy, hb⟩)
  · exact .inr hb
theorem changeAt_ACF (f : FuncId) (cs : List AV) (hcs : cloL cs) (hci : ∀ c ∈ cs, NoId c) (g : Nd → Option Nd) : ∀ (p : List ByteArray) (n : Nd) (t : VC), Shp n → (∀ m, getS n p = some m → ACF Tryd.prog f (nodeA m :: cs) 0 (rNB ((g m).getD Nd.zero) (g m).isSome)) →
    ACF Tryd.prog 57 [nodeA n, .view t 1 (strsE p), .fn f cs] 0 (rNB ((chgS n p g).getD Nd.zero) (chgS n p g).isSome)
  | [], n, t, hn, hg => by
    have hgn := (hg n rfl).mono (fun r h => rNB_X h)
    have hcn := node_clo n
    refine ACF.weak ?_
    unfold nodeA at hgn hcn ⊢
    rw [nodeL_eq] at hgn hcn ⊢
    refine ACF.of tab_ok mixed_ok Tryd.func57 (by rfl) (by kernel_rfl) ?_; rintro ⟨P, T, hT, hm, w0, S0, rd0, k0⟩ hP hTT hN; dsimp only at hP hTT hN; subst hP hTT; dsimp only; unfold initSt; rw [Tryd.ntmps57]
    (repeat (first | with_reducible refine AW.seq ?_ | ((first | refine arun_kn 4 rfl (fun C hC => ?_) | refine arunD_kn 4 rfl (fun C hC => ?_)); (repeat ((conv => whnf); simp [strsE_len])); refine hC _ ?_; clear hC C; simp only [List.drop, Nat.reduceAdd]) | ((first | refine arun_kn 1 rfl (fun C hC => ?_) | refine arunD_kn 1 rfl (fun C hC => ?_)); (repeat ((conv => whnf); simp [strsE_len])); refine hC _ ?_; clear hC C; simp only [List.drop, Nat.reduceAdd]) | (refine arun_skip ?_ ?_; (focus (simp [awant, strsE_len]; done))) | (refine AW.regionK [] (fun K hK => ?_)) | (refine AW.regionDK [] (pcs [] []) (by kernel_rfl) (by kernel_rfl) (fun K hK => ?_)) | (refine AW.condT ?_ ?_; (focus (simp [aev, strsE_len]; done))) | (refine AW.condF ?_ ?_; (focus (simp [aev, strsE_len]; done))) | with_reducible refine AW.block ?_ | ((first | ((first | refine arun_nil ?_ | refine arunD_nil ?_); refine hK _ ?_; clear hK K) | refine AW.skip ?_ | refine AW.exit ?_ | refine AW.ret ?_); simp only [thenA_exit, inBlockA_exit, if_true, if_false, Nat.reduceEqDiff, thenA_normal, inBlockA_normal, reduceIte, thenA_ret, inBlockA_ret, endQ_ret, endR_ret, endG_ret, endQ_normal, endR_normal, endG_normal, endF_ret, endF_normal])))
    refine arun_callFn rfl (by rfl) (by simp [awant]) (by simp [aev]) hgn ⟨hcn, hcs⟩ (can_of (Nat.le_refl _)) ?_
    rintro _ ⟨l, hl, hlp, rfl⟩ hA
    (repeat (first | with_reducible refine AW.seq ?_ | ((first | refine arun_kn 4 rfl (fun C hC => ?_) | refine arunD_kn 4 rfl (fun C hC => ?_)); (repeat ((conv => whnf); simp [strsE_len])); refine hC _ ?_; clear hC C; simp only [List.drop, Nat.reduceAdd]) | ((first | refine arun_kn 1 rfl (fun C hC => ?_) | refine arunD_kn 1 rfl (fun C hC => ?_)); (repeat ((conv => whnf); simp [strsE_len])); refine hC _ ?_; clear hC C; simp only [List.drop, Nat.reduceAdd]) | (refine arun_skip ?_ ?_; (focus (simp [awant, strsE_len]; done))) | (refine AW.regionK [] (fun K hK => ?_)) | (refine AW.regionDK [] (pcs [] []) (by kernel_rfl) (by kernel_rfl) (fun K hK => ?_)) | (refine AW.condT ?_ ?_; (focus (simp [aev, strsE_len]; done))) | (refine AW.condF ?_ ?_; (focus (simp [aev, strsE_len]; done))) | with_reducible refine AW.block ?_ | ((first | ((first | refine arun_nil ?_ | refine arunD_nil ?_); refine hK _ ?_; clear hK K) | refine AW.skip ?_ | refine AW.exit ?_ | refine AW.ret ?_); simp only [thenA_exit, inBlockA_exit, if_true, if_false, Nat.reduceEqDiff, thenA_normal, inBlockA_normal, reduceIte, thenA_ret, inBlockA_ret, endQ_ret, endR_ret, endG_ret, endQ_normal, endR_normal, endG_normal, endF_ret, endF_normal])))
    have hA' : ∀ b ∈ l.fp, ¬ w0.A b := fun b hb => hA b (by rw [at_tup, atL_cons, at_agg, ← labL_eq]; exact List.mem_append_left _ hb)
    rw [chgS]
    exact ⟨.tup [labA l, .bool (g n).isSome], by simp [labA, labL_eq, ares, aresL, upd, rowsOf_cons], tup2_pur (lab_pur l) pur_bool, fun b hb => by rw [at_tup2] at hb; exact hN.ge (hA' b hb), _, Wk.refl _, fun _ h => h, l, hl, hlp, rfl⟩
  | s :: q, n, t, hn, hg => by
    have e1 : strsE (s :: q) = [.str s] :: strsE q := rfl
    have pk := kidIndex_AC n s hn
    have hki := kidI_eq (st := s) hn
    have hcf : Clo (.fn f cs) := clo_fn (cloL_mem hcs)
    have p5 := implCopyF_ACM n hn.sml
    have hcn := node_clo n
    refine ACF.weak ?_
    unfold nodeA at pk p5 hcn ⊢
    rw [nodeL_eq] at pk p5 hcn ⊢
    rw [e1]
    have hlz : ((q.length + 1 : Nat) : Int) ≠ 0 := by omega
    have htk : (strsE q).take q.length = strsE q := List.take_of_length_le (by rw [strsE_len]; exact Nat.le_refl _)
    have hlo1 : ¬ (q.length : Int) + 1 < 1 := by omega
    have hlo2 : 1 ≤ q.length + 1 := by omega
    have hlo3 : (1 : Int) ≤ (q.length : Int) + 1 := by omega
    have hlz' : (((q.length : Int) + 1) == 0) = false := beq_false_of_ne (by omega)
    refine ACF.of tab_ok mixed_ok Tryd.func57 (by rfl) (by kernel_rfl) ?_; rintro ⟨P, T, hT, hm, w0, S0, rd0, k0⟩ hP hTT hN; dsimp only at hP hTT hN; subst hP hTT; dsimp only; unfold initSt; rw [Tryd.ntmps57]
    rcases placeI_cases n s with ⟨h1, _⟩ | ⟨k, h1, h2, _⟩
    · have hd : decide (0 ≤ placeI n s) = false := by rw [h1]; rfl
      rw [hd] at pk
      rw [chgS_no q g h1]
      generalize kidI n s = ki at pk
      (repeat (first | with_reducible refine AW.seq ?_ | ((first | refine arun_kn 4 rfl (fun C hC => ?_) | refine arunD_kn 4 rfl (fun C hC => ?_)); (repeat ((conv => whnf); simp [strsE_len, hlz, hlz'])); refine hC _ ?_; clear hC C; simp only [List.drop, Nat.reduceAdd]) | ((first | refine arun_kn 1 rfl (fun C hC => ?_) | refine arunD_kn 1 rfl (fun C hC => ?_)); (repeat ((conv => whnf); simp [strsE_len, hlz, hlz'])); refine hC _ ?_; clear hC C; simp only [List.drop, Nat.reduceAdd]) | (refine arun_skip ?_ ?_; (focus (simp [awant, strsE_len, hlz, hlz']; done))) | (refine arun_c0 (pk) ?_; rintro _ rfl) | (refine arunD_c (0) (pk) ?_; rintro _ rfl; intro _) | (refine AW.regionK [] (fun K hK => ?_)) | (refine AW.regionDK [] (pcs [(4, 0, fun r => r = .tup [.int .i64 ki, .bool false])] []) (by kernel_rfl) (by kernel_rfl) (fun K hK => ?_)) | (refine AW.condT ?_ ?_; (focus (simp [aev, strsE_len, hlz, hlz']; done))) | (refine AW.condF ?_ ?_; (focus (simp [aev, strsE_len, hlz, hlz']; done))) | with_reducible refine AW.block ?_ | ((first | ((first | refine arun_nil ?_ | refine arunD_nil ?_); refine hK _ ?_; clear hK K) | refine AW.skip ?_ | refine AW.exit ?_ | refine AW.ret ?_); simp only [thenA_exit, inBlockA_exit, if_true, if_false, Nat.reduceEqDiff, thenA_normal, inBlockA_normal, reduceIte, thenA_ret, inBlockA_ret, endQ_ret, endR_ret, endG_ret, endQ_normal, endR_normal, endG_normal, endF_ret, endF_normal])))
      obtain ⟨z1, z2, z3⟩ := rNB_none (r := .tup [node0 0 0 ⟨#[]⟩, .bool false]) rfl
      exact ⟨.tup [node0 0 0 ⟨#[]⟩, .bool false], by simp [node0, ares, aresL, upd, rowsOf_cons], z1, z2 _, z3⟩
    · have hd : decide (0 ≤ placeI n s) = true := by rw [h2]; simp
      rw [hd, hki (by omega), h2] at pk
      rw [chgS_yes q g h1 h2]
      have hk0 : ¬ ((k : Int) < 0) := by omega
      have hkid := hn.kid (List.getElem_mem h1)
      have ih := (changeAt_ACF f cs hcs hci g q n.kids[k] t.cut hkid (fun m hm => hg m (by rw [getS_yes q h1 h2]; exact hm))).mono (fun r h => rNB_X h)
      unfold nodeA at ih
      rw [nodeL_eq] at ih
      generalize chgS n.kids[k] q g = o at ih ⊢
      obtain ⟨bb, hbb⟩ : ∃ bb, bb = o.isSome := ⟨_, rfl⟩
      rw [← hbb] at ih
      refine AW.bound (fun N hNb => ?_)
      (repeat (first | with_reducible refine AW.seq ?_ | ((first | refine arun_kn 4 rfl (fun C hC => ?_) | refine arunD_kn 4 rfl (fun C hC => ?_)); (repeat ((conv => whnf); simp [strsE_len, hlz, hlz', h1, hk0, hlo1, hlo2, hlo3, htk])); refine hC _ ?_; clear hC C; simp only [List.drop, Nat.reduceAdd]) | ((first | refine arun_kn 1 rfl (fun C hC => ?_) | refine arunD_kn 1 rfl (fun C hC => ?_)); (repeat ((conv => whnf); simp [strsE_len, hlz, hlz', h1, hk0, hlo1, hlo2, hlo3, htk])); refine hC _ ?_; clear hC C; simp only [List.drop, Nat.reduceAdd]) | (refine arun_skip ?_ ?_; (focus (simp [awant, strsE_len, hlz, hlz', h1, hk0, hlo1, hlo2, hlo3, htk]; done))) | (refine arun_c0 (pk) ?_; rintro _ rfl) | (refine arun_cF (0) (ih) ?_; (rintro _ ⟨l, hl, hlp, rfl⟩ hA)) | (refine arunD_c (0) (pk) ?_; rintro _ rfl; intro _) | (refine arunD_cF (0) (ih) (by exact rNBX_ex _ _ hNb) ?_; (rintro _ ⟨l, hl, hlp, rfl⟩ hA); intro _) | (refine AW.regionK [] (fun K hK => ?_)) | (refine AW.regionDK [] (pcs [(4, 0, fun r => r = .tup [.int .i64 (k : Int), .bool true]), (8, 0, fun r => rNBX (o.getD Nd.zero) bb r ∧ ∀ b ∈ atB r, ¬ w0.A b)] []) (by kernel_rfl) (by kernel_rfl) (fun K hK => ?_)) | (refine AW.condT ?_ ?_; (focus (simp [aev, strsE_len, hlz, hlz', h1, hk0, hlo1, hlo2, hlo3, htk]; done))) | (refine AW.condF ?_ ?_; (focus (simp [aev, strsE_len, hlz, hlz', h1, hk0, hlo1, hlo2, hlo3, htk]; done))) | with_reducible refine AW.block ?_ | ((first | ((first | refine arun_nil ?_ | refine arunD_nil ?_); refine hK _ ?_; clear hK K) | refine AW.skip ?_ | refine AW.exit ?_ | refine AW.ret ?_); simp only [thenA_exit, inBlockA_exit, if_true, if_false, Nat.reduceEqDiff, thenA_normal, inBlockA_normal, reduceIte, thenA_ret, inBlockA_ret, endQ_ret, endR_ret, endG_ret, endQ_normal, endR_normal, endG_normal, endF_ret, endF_normal])))
      cases o with
      | none =>
        rw [Option.isSome_none] at hbb
        subst hbb
        (repeat (first | with_reducible refine AW.seq ?_ | ((first | refine arun_kn 4 rfl (fun C hC => ?_) | refine arunD_kn 4 rfl (fun C hC => ?_)); (repeat ((conv => whnf); simp)); refine hC _ ?_; clear hC C; simp only [List.drop, Nat.reduceAdd]) | ((first | refine arun_kn 1 rfl (fun C hC => ?_) | refine arunD_kn 1 rfl (fun C hC => ?_)); (repeat ((conv => whnf); simp)); refine hC _ ?_; clear hC C; simp only [List.drop, Nat.reduceAdd]) | (refine arun_skip ?_ ?_; (focus (simp [awant]; done))) | (refine AW.regionK [] (fun K hK => ?_)) | (refine AW.regionDK [] (pcs [] []) (by kernel_rfl) (by kernel_rfl) (fun K hK => ?_)) | (refine AW.condT ?_ ?_; (focus (simp [aev]; done))) | (refine AW.condF ?_ ?_; (focus (simp [aev]; done))) | with_reducible refine AW.block ?_ | ((first | ((first | refine arun_nil ?_ | refine arunD_nil ?_); refine hK _ ?_; clear hK K) | refine AW.skip ?_ | refine AW.exit ?_ | refine AW.ret ?_); simp only [thenA_exit, inBlockA_exit, if_true, if_false, Nat.reduceEqDiff, thenA_normal, inBlockA_normal, reduceIte, thenA_ret, inBlockA_ret, endQ_ret, endR_ret, endG_ret, endQ_normal, endR_normal, endG_normal, endF_ret, endF_normal])))
        obtain ⟨z1, z2, z3⟩ := rNB_none (r := .tup [node0 0 0 ⟨#[]⟩, .bool false]) rfl
        exact ⟨.tup [node0 0 0 ⟨#[]⟩, .bool false], by simp [node0, ares, aresL, upd, rowsOf_cons], z1, z2 _, z3⟩
      | some m =>
        rw [Option.isSome_some] at hbb
        subst hbb
        have hA' : ∀ b ∈ l.fp, ¬ w0.A b := fun b hb => hA b (by rw [at_tup, atL_cons, at_agg, ← labL_eq]; exact List.mem_append_left _ hb)
        (repeat (first | with_reducible refine AW.seq ?_ | ((first | refine arun_kn 4 rfl (fun C hC => ?_) | refine arunD_kn 4 rfl (fun C hC => ?_)); (repeat ((conv => whnf); simp)); refine hC _ ?_; clear hC C; simp only [List.drop, Nat.reduceAdd]) | ((first | refine arun_kn 1 rfl (fun C hC => ?_) | refine arunD_kn 1 rfl (fun C hC => ?_)); (repeat ((conv => whnf); simp)); refine hC _ ?_; clear hC C; simp only [List.drop, Nat.reduceAdd]) | (refine arun_skip ?_ ?_; (focus (simp [awant]; done))) | (refine AW.condT ?_ ?_; (focus (simp [aev]; done))) | (refine AW.condF ?_ ?_; (focus (simp [aev]; done))) | with_reducible refine AW.block ?_ | ((first | ((first | refine arun_nil ?_ | refine arunD_nil ?_); refine hK _ ?_; clear hK K) | refine AW.skip ?_ | refine AW.exit ?_ | refine AW.ret ?_); simp only [thenA_exit, inBlockA_exit, if_true, if_false, Nat.reduceEqDiff, thenA_normal, inBlockA_normal, reduceIte, thenA_ret, inBlockA_ret, endQ_ret, endR_ret, endG_ret, endQ_normal, endR_normal, endG_normal, endF_ret, endF_normal])))
        refine AW.noteR 10 (r := ⟨true, 26, 5, [[.int .i64 l.kind, .int .i64 l.num, .str l.text, .view (.fr l.nb) 1 (strsE l.names), .view (.fr l.kb) 5 (l.kids.map labL)]]⟩) (by simp [upd, rowsOf_cons]) ?_
        refine AW.regionK [] (fun K hK => ?_)
        (repeat (first | with_reducible refine AW.seq ?_ | ((first | refine arun_kn 4 rfl (fun C hC => ?_) | refine arunD_kn 4 rfl (fun C hC => ?_)); (repeat ((conv => whnf); simp)); refine hC _ ?_; clear hC C; simp only [List.drop, Nat.reduceAdd]) | ((first | refine arun_kn 1 rfl (fun C hC => ?_) | refine arunD_kn 1 rfl (fun C hC => ?_)); (repeat ((conv => whnf); simp)); refine hC _ ?_; clear hC C; simp only [List.drop, Nat.reduceAdd]) | (refine arun_skip ?_ ?_; (focus (simp [awant]; done))) | (refine AW.regionK [] (fun K hK => ?_)) | (refine AW.regionDK [] (pcs [] []) (by kernel_rfl) (by kernel_rfl) (fun K hK => ?_)) | (refine AW.condT ?_ ?_; (focus (simp [aev]; done))) | (refine AW.condF ?_ ?_; (focus (simp [aev]; done))) | with_reducible refine AW.block ?_ | ((first | ((first | refine arun_nil ?_ | refine arunD_nil ?_); refine hK _ ?_; clear hK K) | refine AW.skip ?_ | refine AW.exit ?_ | refine AW.ret ?_); simp only [thenA_exit, inBlockA_exit, if_true, if_false, Nat.reduceEqDiff, thenA_normal, inBlockA_normal, reduceIte, thenA_ret, inBlockA_ret, endQ_ret, endR_ret, endG_ret, endQ_normal, endR_normal, endG_normal, endF_ret, endF_normal])))
        refine arun_callM (hw := by simp [awant]) (ha := rfl) p5 (hargs := .cons (.base (.clo hcn.cloTo)) .nil) (hcan := can_of (Nat.le_refl _)) ?_
        rintro r l' ⟨ks, hks, hkn, rfl, rfl⟩ hA2
        refine ⟨_, _, _, back_copyF (A := 100) (B := 101) (by decide) (by simp [usedOf_cons, usedOf_nil, upd]) (by simp [usedOf_cons, usedOf_nil, upd]), ?_⟩
        have hlk : ks.length = n.kids.length := by rw [← hks, List.length_map]
        have hA3 : ∀ b ∈ l.fp, ¬ b ∈ ks.flatMap Lb.fp := fun b hb hm => hA2 b (.inr ⟨(34, labsR ks), by simp, by rw [show (labsR ks).es = ks.map labL from rfl, atE_labs]; exact hm⟩) (.inr (by rw [atE_cons, atE_nil, List.append_nil, ← labL_eq]; exact hb))
        have hA4 : ∀ b ∈ ks.flatMap Lb.fp, w0.wd.heap.size ≤ b := fun b hb => hN.ge (fun h => hA2 b (.inr ⟨(34, labsR ks), by simp, by rw [show (labsR ks).es = ks.map labL from rfl, atE_labs]; exact hb⟩) (.inl h))
        (repeat (first | with_reducible refine AW.seq ?_ | ((first | refine arun_kn 4 rfl (fun C hC => ?_) | refine arunD_kn 4 rfl (fun C hC => ?_)); (repeat ((conv => whnf); simp [nodeRR])); refine hC _ ?_; clear hC C; simp only [List.drop, Nat.reduceAdd]) | ((first | refine arun_kn 1 rfl (fun C hC => ?_) | refine arunD_kn 1 rfl (fun C hC => ?_)); (repeat ((conv => whnf); simp [nodeRR])); refine hC _ ?_; clear hC C; simp only [List.drop, Nat.reduceAdd]) | (refine arun_skip ?_ ?_; (focus (simp [awant, nodeRR]; done))) | (refine AW.condT ?_ ?_; (focus (simp [aev, nodeRR]; done))) | (refine AW.condF ?_ ?_; (focus (simp [aev, nodeRR]; done))) | with_reducible refine AW.block ?_ | ((first | ((first | refine arun_nil ?_ | refine arunD_nil ?_); refine hK _ ?_; clear hK K) | refine AW.skip ?_ | refine AW.exit ?_ | refine AW.ret ?_); simp only [thenA_exit, inBlockA_exit, if_true, if_false, Nat.reduceEqDiff, thenA_normal, inBlockA_normal, reduceIte, thenA_ret, inBlockA_ret, endQ_ret, endR_ret, endG_ret, endQ_normal, endR_normal, endG_normal, endF_ret, endF_normal])))
        refine AW.regionK [] (fun K hK => ?_)
        obtain ⟨ks', hks'⟩ : ∃ ks', ks' = ks.set k l := ⟨_, rfl⟩
        have hset : (ks.map labL).set k [.int .i64 l.kind, .int .i64 l.num, .str l.text, .view (.fr l.nb) 1 (strsE l.names), .view (.fr l.kb) 5 (l.kids.map labL)] = ks'.map labL := by rw [hks', List.map_set, labL_eq l]
        have hlk2 : ks'.length = n.kids.length := by rw [hks', List.length_set, hlk]
        have hdr : ∀ x : Lb, (labL x).drop 5 = [] := fun x => List.drop_of_length_le (by rw [labL_len]; exact Nat.le_refl _)
        (repeat (first | with_reducible refine AW.seq ?_ | ((first | refine arun_kn 4 rfl (fun C hC => ?_) | refine arunD_kn 4 rfl (fun C hC => ?_)); (repeat ((conv => whnf); simp [hlk, h1, hk0, labsR, namesR, hlo1, hdr, hset])); refine hC _ ?_; clear hC C; simp only [List.drop, Nat.reduceAdd]) | ((first | refine arun_kn 1 rfl (fun C hC => ?_) | refine arunD_kn 1 rfl (fun C hC => ?_)); (repeat ((conv => whnf); simp [hlk, h1, hk0, labsR, namesR, hlo1, hdr, hset])); refine hC _ ?_; clear hC C; simp only [List.drop, Nat.reduceAdd]) | (refine arun_skip ?_ ?_; (focus (simp [awant, hlk, h1, hk0, labsR, namesR, hlo1, hdr, hset]; done))) | (refine AW.condT ?_ ?_; (focus (simp [aev, hlk, h1, hk0, labsR, namesR, hlo1, hdr, hset]; done))) | (refine AW.condF ?_ ?_; (focus (simp [aev, hlk, h1, hk0, labsR, namesR, hlo1, hdr, hset]; done))) | with_reducible refine AW.block ?_ | ((first | ((first | refine arun_nil ?_ | refine arunD_nil ?_); refine hK _ ?_; clear hK K) | refine AW.skip ?_ | refine AW.exit ?_ | refine AW.ret ?_); simp only [thenA_exit, inBlockA_exit, if_true, if_false, Nat.reduceEqDiff, thenA_normal, inBlockA_normal, reduceIte, thenA_ret, inBlockA_ret, endQ_ret, endR_ret, endG_ret, endQ_normal, endR_normal, endG_normal, endF_ret, endF_normal])))
        refine AW.holdF 100 hN (fun g1 hg1 ht1 hr1 => ?_)
        have f1 := hr1 101 ⟨false, 26, 5, ks'.map labL⟩ (by simp [hset, upd, rowsOf_cons])
        refine AW.holdF 101 hN (fun g2 hg2 ht2 hr2 => ?_)
        have f2 := hr2 101 ⟨false, 26, 5, ks'.map labL⟩ (by simp [hset, ASt.holdF, rowsOf_cons, upd, Row.sub, labsE_sub]; exact fun a _ => labL_sub a)
        have f3 := hr2 11 ⟨true, 26, 5, [[.int .i64 n.kind, .int .i64 n.num, .str n.text, .view (.fr g1) 1 (strsE n.names), .own 101 n.kids.length]]⟩ (by simp [ASt.holdF, rowsOf_cons, upd, AV.subL, AV.sub, Row.sub, strsE_len])
        clear ht1 hr1 ht2 hr2
        (repeat (first | with_reducible refine AW.seq ?_ | ((first | refine arun_kn 4 rfl (fun C hC => ?_) | refine arunD_kn 4 rfl (fun C hC => ?_)); (repeat ((conv => whnf); simp [hset, ASt.holdF, AV.subL, AV.sub, Row.sub, rowsOf_cons, upd, labsE_sub, strsE_len, hlk2, hlk])); refine hC _ ?_; clear hC C; simp only [List.drop, Nat.reduceAdd]) | ((first | refine arun_kn 1 rfl (fun C hC => ?_) | refine arunD_kn 1 rfl (fun C hC => ?_)); (repeat ((conv => whnf); simp [hset, ASt.holdF, AV.subL, AV.sub, Row.sub, rowsOf_cons, upd, labsE_sub, strsE_len, hlk2, hlk])); refine hC _ ?_; clear hC C; simp only [List.drop, Nat.reduceAdd]) | (refine arun_skip ?_ ?_; (focus (simp [awant, hset, ASt.holdF, AV.subL, AV.sub, Row.sub, rowsOf_cons, upd, labsE_sub, strsE_len, hlk2, hlk]; done))) | (refine AW.regionK [] (fun K hK => ?_)) | (refine AW.regionDK [] (pcs [] []) (by kernel_rfl) (by kernel_rfl) (fun K hK => ?_)) | (refine AW.condT ?_ ?_; (focus (simp [aev, hset, ASt.holdF, AV.subL, AV.sub, Row.sub, rowsOf_cons, upd, labsE_sub, strsE_len, hlk2, hlk]; done))) | (refine AW.condF ?_ ?_; (focus (simp [aev, hset, ASt.holdF, AV.subL, AV.sub, Row.sub, rowsOf_cons, upd, labsE_sub, strsE_len, hlk2, hlk]; done))) | with_reducible refine AW.block ?_ | ((first | ((first | refine arun_nil ?_ | refine arunD_nil ?_); refine hK _ ?_; clear hK K) | refine AW.skip ?_ | refine AW.exit ?_ | refine AW.ret ?_); simp only [thenA_exit, inBlockA_exit, if_true, if_false, Nat.reduceEqDiff, thenA_normal, inBlockA_normal, reduceIte, thenA_ret, inBlockA_ret, endQ_ret, endR_ret, endG_ret, endQ_normal, endR_normal, endG_normal, endF_ret, endF_normal])))
        rw [atE_labs] at f1 f2
        refine ⟨.tup [labA ⟨n.kind, n.num, n.text, n.names, g1, ks', g2⟩, .bool true], by unfold labA; rw [labL_eq]; simp [ares, aresL, upd, rowsOf_cons, labL_sub], tup2_pur (lab_pur _) pur_bool, fun b hb => ?_, _, Wk.refl _, fun _ h => h, ⟨_, _, _, _, _, _, _⟩, ?_, fp_nodup (by dsimp only; rw [hks']; exact fp_set k hkn hlp hA3) f1 f2 (fun h1 _ => f3 g1 ?_), rfl⟩
        · rw [at_tup2] at hb
          refine fp_ge (l := ⟨n.kind, n.num, n.text, n.names, g1, ks', g2⟩) (fun b hb => ?_) hg1 hg2 b hb
          rw [hks'] at hb
          rcases fp_set_mem hb with hb | hb
          · exact hA4 b hb
          · exact hN.ge (hA' b hb)
        · rw [nd_eq]; dsimp only; rw [hks', List.map_set, hks, hl]; rfl
        · dsimp only at h1
          have : (strsE n.names).isEmpty = false := by unfold strsE; cases hh : n.names with | nil => exact absurd hh h1 | cons _ _ => rfl
          simp [atE_cons, atE_nil, atL_cons, atL_nil, at_int, at_str, at_own, at_view, frB_fr, this]
end Go.Proofs.YtfjaobfaepjfnaaDoor.Eng
-- EV: rows
namespace Go.Proofs.YtfjaobfaepjfnaaDoor.Eng
open Go Go.RowKit
attribute [local simp] big size_mk ASt.pay Option.map_map Function.comp_def awant aop acall ado aev ofVal ofVal0 ASt.put ASt.add ASt.turn ASt.kill abox aalloc astore aload aloadD astoreD idOf ASt.at cellsTo afieldAddr afield aindexAddr aindex alen abin aint acmp astr aun apick aextract anil aslice abound abuild afill abuildSlice asCells aps avCells over upd aappend asrc amax amin aconv mkSt slots rowsOf_cons rowsOf_nil usedOf_cons usedOf_nil ZK.av List.replicate ASt.back ASt.addL ASt.killL nodeA nodeT nodeTL_eq nodeL_eq strsE_get strsE_len intsE_get intsE_len strsE_at intsE_at nodeN namesRow nodeO kidsRow tab2 tab3 tab4 tab5 tab6 tab7 tab8 tab9 tab10 tab11 tab12 tab13 tab14 tab15 tab16 tab17 tab18 tab19 tab21 tab22 tab23 tab24 tab25 tab26 tab28 tab29 tab30 tab31 tab42 tab43 tab44 tab46 tab63 tab64 tab67 tab68 tab75 tab98 tab100 tab101 tab105 tab106 tab107 tab122 tab123 tab125 tab128 tab138 tab144 tab151 tab152 tab157 tab158 tab160 tab161 tab162
theorem nodeO_res (n : Nd) (id0 : Nat) : Res1 id0 (nodeO n) := Res1.agg [fun _ => .int .i64 n.kind, fun _ => .int .i64 n.num, fun _ => .str n.text, fun _ => .view .loose 1 (strsE n.names), fun id => .own id n.kids.length] (by
  simp only [List.forall_mem_cons, List.not_mem_nil, false_implies, implies_true, and_true]
  exact ⟨Res1.pur _ pur_int, Res1.pur _ pur_int, Res1.pur _ pur_str, Res1.pur _ (strs_pur _ (by decide)), Res1.own _ _⟩)
theorem optA_in (o : Option Nd) : NoId (optA o) := by
  unfold optA NoId
  have h := node_in (U := fun _ => false) (o.getD Nd.zero)
  unfold nodeA at h
  rw [nodeL_eq] at h
  simp [in_tup, in_bool]
  exact h
def optL (o : Option Nd) : AV := .tup [.agg [.int .i64 (o.getD Nd.zero).kind, .int .i64 (o.getD Nd.zero).num, .str (o.getD Nd.zero).text, .view .loose 1 (strsE (o.getD Nd.zero).names), .view .loose 5 ((o.getD Nd.zero).kids.map nodeL)], .bool o.isSome]
theorem optA_eq (o : Option Nd) : optA o = optL o := by unfold optA optL nodeA; rw [nodeL_eq]
theorem optA_pur (o : Option Nd) : Pur (optA o) := tup2_pur (node_pur _) pur_bool
theorem optN_in : NoId (.tup [.agg [.int .i64 0, .int .i64 0, .str ⟨#[]⟩, .view .loose 1 [], .view .loose 5 []], .bool false]) := by
  have h := optA_in none
  unfold optA nodeA at h
  rw [show nodeL ((none : Option Nd).getD Nd.zero) = nodeL Nd.zero from rfl, zeroA] at h
  exact h
theorem optS_in (m : Nd) : NoId (.tup [.agg [.int .i64 m.kind, .int .i64 m.num, .str m.text, .view .loose 1 (strsE m.names), .view .loose 5 (m.kids.map nodeL)], .bool true]) := by
  have h := optA_in (some m)
  unfold optA nodeA at h
  rw [show nodeL ((some m : Option Nd).getD Nd.zero) = nodeL m from rfl, nodeL_eq] at h
  exact h
theorem kids_set (n v : Nd) (k : Nat) : (setK n k v).kids.map nodeL = (n.kids.map nodeL).set k (nodeL v) := by simp [setK, List.map_set]
theorem withKid_ACR (n v : Nd) (k : Nat) (hn : Sml n) (hv : Sml v) (hk : k < n.kids.length) : ACR Tryd.prog 108 [nodeA n, .int .i64 k, nodeA v] 0 (fun _ => False) (fun f R => f = nodeO (setK n k v) ∧ R = kidsRow (setK n k v)) := by
  unfold nodeA
  rw [nodeL_eq n, nodeL_eq v]
  refine ACR.of tab_ok mixed_ok Tryd.func108 (by rfl) (by kernel_rfl) ?_; rintro ⟨P, T, hT, hm, w0, S0, rd0, k0⟩ hP hTT; dsimp only at hP hTT; subst hP hTT; unfold initSt; rw [Tryd.ntmps108]
  (repeat (first | with_reducible refine AW.seq ?_ | ((first | refine arun_kn 4 rfl (fun C hC => ?_) | refine arunD_kn 4 rfl (fun C hC => ?_)); (repeat ((conv => whnf); simp [hk])); refine hC _ ?_; clear hC C; simp only [List.drop, Nat.reduceAdd]) | ((first | refine arun_kn 1 rfl (fun C hC => ?_) | refine arunD_kn 1 rfl (fun C hC => ?_)); (repeat ((conv => whnf); simp [hk])); refine hC _ ?_; clear hC C; simp only [List.drop, Nat.reduceAdd]) | (refine arun_skip ?_ ?_; (focus (simp [awant, hk]; done))) | (refine arun_cR (0) 30 (copyNode_ACR n hn .loose) ?_; (rintro _ _ ⟨rfl, rfl⟩; unfold nodeO kidsRow)) | (refine arun_c0 (copyNode_AC v hv .loose) ?_; rintro _ rfl) | (refine arunD_c (0) (copyNode_AC v hv .loose) ?_; rintro _ rfl; intro _) | (refine AW.regionK [] (fun K hK => ?_)) | (refine AW.regionDK [] (pcs [(4, 0, fun r => r = nodeA v)] []) (by kernel_rfl) (by kernel_rfl) (fun K hK => ?_)) | (refine AW.condT ?_ ?_; (focus (simp [aev, hk]; done))) | (refine AW.condF ?_ ?_; (focus (simp [aev, hk]; done))) | with_reducible refine AW.block ?_ | ((first | ((first | refine arun_nil ?_ | refine arunD_nil ?_); refine hK _ ?_; clear hK K) | refine AW.skip ?_ | refine AW.exit ?_ | refine AW.ret ?_); simp only [thenA_exit, inBlockA_exit, if_true, if_false, Nat.reduceEqDiff, thenA_normal, inBlockA_normal, reduceIte, thenA_ret, inBlockA_ret, endQ_ret, endR_ret, endG_ret, endQ_normal, endR_normal, endG_normal])))
  exact ⟨nodeO (setK n k v) 30, by simp [nodeO, setK, ares, aresL, upd, rowsOf_cons], .inr ⟨nodeO (setK n k v), 30, kidsRow (setK n k v), rfl, by unfold kidsRow; rw [kids_set]; simp [upd, kidsRow, nodeL_eq], nodeO_res _ 30, nodesE_pur _, rfl, rfl⟩⟩
theorem withKid_AC (n v : Nd) (k : Nat) (hn : Sml n) (hv : Sml v) (hk : k < n.kids.length) : AC Tryd.prog 108 [nodeA n, .int .i64 k, nodeA v] 0 (fun r => r = nodeA (setK n k v)) := by
  refine (AC.ofR (withKid_ACR n v k hn hv hk) ?_).mono ?_
  · rintro r R ⟨rfl, rfl⟩
    rw [nodeO_sub]
    exact node_in _
  · rintro r (h | ⟨f, R, ⟨rfl, rfl⟩, rfl⟩)
    · exact h.elim
    · exact nodeO_sub _
theorem setAt_AC (t' : VC) : ∀ (p : List ByteArray) (n v : Nd) (t : VC), Shp n → Sml v → AC Tryd.prog 78 [nodeA n, .view t 1 (strsE p), nodeT t' v] 0 (fun r => r = optA (setS n p v))
  | [], n, v, t, hn, hv => by
    have p1 := copyNode_AC v hv t'
    refine AC.weak ?_
    unfold nodeA
    unfold nodeT at p1 ⊢
    rw [nodeTL_eq] at p1 ⊢
    rw [nodeL_eq]
    refine AC.of tab_ok mixed_ok Tryd.func78 (by rfl) (by kernel_rfl) ?_; rintro ⟨P, T, hT, hm, w0, S0, rd0, k0⟩ hP hTT; dsimp only at hP hTT; subst hP hTT; unfold initSt; rw [Tryd.ntmps78]
    (repeat (first | with_reducible refine AW.seq ?_ | ((first | refine arun_kn 4 rfl (fun C hC => ?_) | refine arunD_kn 4 rfl (fun C hC => ?_)); (repeat ((conv => whnf); simp [strsE_len])); refine hC _ ?_; clear hC C; simp only [List.drop, Nat.reduceAdd]) | ((first | refine arun_kn 1 rfl (fun C hC => ?_) | refine arunD_kn 1 rfl (fun C hC => ?_)); (repeat ((conv => whnf); simp [strsE_len])); refine hC _ ?_; clear hC C; simp only [List.drop, Nat.reduceAdd]) | (refine arun_skip ?_ ?_; (focus (simp [awant, strsE_len]; done))) | (refine arun_c0 (p1) ?_; rintro _ rfl) | (refine AW.regionK [] (fun K hK => ?_)) | (refine AW.regionDK [] (pcs [] []) (by kernel_rfl) (by kernel_rfl) (fun K hK => ?_)) | (refine AW.condT ?_ ?_; (focus (simp [aev, strsE_len]; done))) | (refine AW.condF ?_ ?_; (focus (simp [aev, strsE_len]; done))) | with_reducible refine AW.block ?_ | ((first | ((first | refine arun_nil ?_ | refine arunD_nil ?_); refine hK _ ?_; clear hK K) | refine AW.skip ?_ | refine AW.exit ?_ | refine AW.ret ?_); simp only [thenA_exit, inBlockA_exit, if_true, if_false, Nat.reduceEqDiff, thenA_normal, inBlockA_normal, reduceIte, thenA_ret, inBlockA_ret, endQ_ret, endR_ret, endG_ret, endQ_normal, endR_normal, endG_normal])))
    exact ⟨.tup [nodeA v, .bool true], by simp [ares, aresL, upd, rowsOf_cons], tup2_pur (node_pur v) pur_bool, _, Wk.refl _, rfl⟩
  | s :: q, n, v, t, hn, hv => by
    have e1 : strsE (s :: q) = [.str s] :: strsE q := rfl
    have pk := place_ok .loose n s hn.plc
    refine AC.weak ?_
    unfold nodeT at pk
    rw [nodeTL_eq] at pk
    unfold nodeA nodeT
    rw [nodeL_eq, nodeTL_eq, e1]
    have hlz : ((q.length + 1 : Nat) : Int) ≠ 0 := by omega
    have htk : (strsE q).take q.length = strsE q := List.take_of_length_le (by rw [strsE_len]; exact Nat.le_refl _)
    have hlo1 : ¬ (q.length : Int) + 1 < 1 := by omega
    have hlo2 : 1 ≤ q.length + 1 := by omega
    have hlo3 : (1 : Int) ≤ (q.length : Int) + 1 := by omega
    have hlz' : (((q.length : Int) + 1) == 0) = false := beq_false_of_ne (by omega)
    refine AC.of tab_ok mixed_ok Tryd.func78 (by rfl) (by kernel_rfl) ?_; rintro ⟨P, T, hT, hm, w0, S0, rd0, k0⟩ hP hTT; dsimp only at hP hTT; subst hP hTT; unfold initSt; rw [Tryd.ntmps78]
    rcases placeI_cases n s with ⟨h1, _⟩ | ⟨k, h1, h2, _⟩
    · rw [h1] at pk
      rw [setS_no q h1]
      (repeat (first | with_reducible refine AW.seq ?_ | ((first | refine arun_kn 4 rfl (fun C hC => ?_) | refine arunD_kn 4 rfl (fun C hC => ?_)); (repeat ((conv => whnf); simp [strsE_len, hlz, hlz'])); refine hC _ ?_; clear hC C; simp only [List.drop, Nat.reduceAdd]) | ((first | refine arun_kn 1 rfl (fun C hC => ?_) | refine arunD_kn 1 rfl (fun C hC => ?_)); (repeat ((conv => whnf); simp [strsE_len, hlz, hlz'])); refine hC _ ?_; clear hC C; simp only [List.drop, Nat.reduceAdd]) | (refine arun_skip ?_ ?_; (focus (simp [awant, strsE_len, hlz, hlz']; done))) | (refine arun_c0 (pk) ?_; rintro _ rfl) | (refine arunD_c (0) (pk) ?_; rintro _ rfl; intro _) | (refine AW.regionK [] (fun K hK => ?_)) | (refine AW.regionDK [] (pcs [(4, 0, fun r => r = .int .i64 (-1))] []) (by kernel_rfl) (by kernel_rfl) (fun K hK => ?_)) | (refine AW.condT ?_ ?_; (focus (simp [aev, strsE_len, hlz, hlz']; done))) | (refine AW.condF ?_ ?_; (focus (simp [aev, strsE_len, hlz, hlz']; done))) | with_reducible refine AW.block ?_ | ((first | ((first | refine arun_nil ?_ | refine arunD_nil ?_); refine hK _ ?_; clear hK K) | refine AW.skip ?_ | refine AW.exit ?_ | refine AW.ret ?_); simp only [thenA_exit, inBlockA_exit, if_true, if_false, Nat.reduceEqDiff, thenA_normal, inBlockA_normal, reduceIte, thenA_ret, inBlockA_ret, endQ_ret, endR_ret, endG_ret, endQ_normal, endR_normal, endG_normal])))
      refine ⟨.tup [node0 0 0 ⟨#[]⟩, .bool false], by simp [node0, ares, aresL, upd, rowsOf_cons], none_end.1, _, none_end.2, rfl⟩
    · rw [h2] at pk
      rw [setS_yes q h1 h2]
      have hk0 : ¬ ((k : Int) < 0) := by omega
      have hkid := hn.kid (List.getElem_mem h1)
      have ih := setAt_AC t' q n.kids[k] v t.cut hkid hv
      cases hg : setS n.kids[k] q v with
      | none =>
        rw [hg] at ih
        unfold optA nodeT nodeA at ih
        have hz : nodeL ((none : Option Nd).getD Nd.zero) = nodeL Nd.zero := rfl
        rw [hz, zeroA, nodeTL_eq, nodeL_eq, Option.isSome_none] at ih
        (repeat (first | with_reducible refine AW.seq ?_ | ((first | refine arun_kn 4 rfl (fun C hC => ?_) | refine arunD_kn 4 rfl (fun C hC => ?_)); (repeat ((conv => whnf); simp [strsE_len, hlz, hlz', h1, hk0, hlo1, hlo2, hlo3, htk])); refine hC _ ?_; clear hC C; simp only [List.drop, Nat.reduceAdd]) | ((first | refine arun_kn 1 rfl (fun C hC => ?_) | refine arunD_kn 1 rfl (fun C hC => ?_)); (repeat ((conv => whnf); simp [strsE_len, hlz, hlz', h1, hk0, hlo1, hlo2, hlo3, htk])); refine hC _ ?_; clear hC C; simp only [List.drop, Nat.reduceAdd]) | (refine arun_skip ?_ ?_; (focus (simp [awant, strsE_len, hlz, hlz', h1, hk0, hlo1, hlo2, hlo3, htk]; done))) | (refine arun_c0 (pk) ?_; rintro _ rfl) | (refine arun_c0 (ih) ?_; rintro _ rfl) | (refine arunD_c (0) (pk) ?_; rintro _ rfl; intro _) | (refine arunD_cE (0) (ih) (by exact ⟨_, rfl, optN_in⟩) ?_; rintro _ rfl; intro _) | (refine AW.regionK [] (fun K hK => ?_)) | (refine AW.regionDK [] (pcs [(4, 0, fun r => r = .int .i64 (k : Int)), (8, 0, fun r => r = .tup [.agg [.int .i64 0, .int .i64 0, .str ⟨#[]⟩, .view .loose 1 [], .view .loose 5 []], .bool false])] []) (by kernel_rfl) (by kernel_rfl) (fun K hK => ?_)) | (refine AW.condT ?_ ?_; (focus (simp [aev, strsE_len, hlz, hlz', h1, hk0, hlo1, hlo2, hlo3, htk]; done))) | (refine AW.condF ?_ ?_; (focus (simp [aev, strsE_len, hlz, hlz', h1, hk0, hlo1, hlo2, hlo3, htk]; done))) | with_reducible refine AW.block ?_ | ((first | ((first | refine arun_nil ?_ | refine arunD_nil ?_); refine hK _ ?_; clear hK K) | refine AW.skip ?_ | refine AW.exit ?_ | refine AW.ret ?_); simp only [thenA_exit, inBlockA_exit, if_true, if_false, Nat.reduceEqDiff, thenA_normal, inBlockA_normal, reduceIte, thenA_ret, inBlockA_ret, endQ_ret, endR_ret, endG_ret, endQ_normal, endR_normal, endG_normal])))
        refine ⟨.tup [node0 0 0 ⟨#[]⟩, .bool false], by simp [node0, ares, aresL, upd, rowsOf_cons], none_end.1, _, none_end.2, rfl⟩
      | some m =>
        rw [hg] at ih
        have hm := setS_sml _ _ _ _ hkid hv hg
        have pw := withKid_AC n m k hn.sml hm h1
        unfold optA nodeT nodeA at ih
        unfold nodeA at pw
        have hz : nodeL ((some m : Option Nd).getD Nd.zero) = nodeL m := rfl
        rw [hz, nodeTL_eq, nodeL_eq n.kids[k], nodeL_eq m, Option.isSome_some] at ih
        rw [nodeL_eq n, nodeL_eq m] at pw
        (repeat (first | with_reducible refine AW.seq ?_ | ((first | refine arun_kn 4 rfl (fun C hC => ?_) | refine arunD_kn 4 rfl (fun C hC => ?_)); (repeat ((conv => whnf); simp [strsE_len, hlz, hlz', h1, hk0, hlo1, hlo2, hlo3, htk])); refine hC _ ?_; clear hC C; simp only [List.drop, Nat.reduceAdd]) | ((first | refine arun_kn 1 rfl (fun C hC => ?_) | refine arunD_kn 1 rfl (fun C hC => ?_)); (repeat ((conv => whnf); simp [strsE_len, hlz, hlz', h1, hk0, hlo1, hlo2, hlo3, htk])); refine hC _ ?_; clear hC C; simp only [List.drop, Nat.reduceAdd]) | (refine arun_skip ?_ ?_; (focus (simp [awant, strsE_len, hlz, hlz', h1, hk0, hlo1, hlo2, hlo3, htk]; done))) | (refine arun_c0 (pk) ?_; rintro _ rfl) | (refine arun_c0 (ih) ?_; rintro _ rfl) | (refine arun_c0 (pw) ?_; rintro _ rfl) | (refine arunD_c (0) (pk) ?_; rintro _ rfl; intro _) | (refine arunD_cE (0) (ih) (by exact ⟨_, rfl, optS_in m⟩) ?_; rintro _ rfl; intro _) | (refine arunD_c (0) (pw) ?_; rintro _ rfl; intro _) | (refine AW.regionK [] (fun K hK => ?_)) | (refine AW.regionDK [] (pcs [(4, 0, fun r => r = .int .i64 (k : Int)), (8, 0, fun r => r = .tup [.agg [.int .i64 m.kind, .int .i64 m.num, .str m.text, .view .loose 1 (strsE m.names), .view .loose 5 (m.kids.map nodeL)], .bool true])] []) (by kernel_rfl) (by kernel_rfl) (fun K hK => ?_)) | (refine AW.condT ?_ ?_; (focus (simp [aev, strsE_len, hlz, hlz', h1, hk0, hlo1, hlo2, hlo3, htk]; done))) | (refine AW.condF ?_ ?_; (focus (simp [aev, strsE_len, hlz, hlz', h1, hk0, hlo1, hlo2, hlo3, htk]; done))) | with_reducible refine AW.block ?_ | ((first | ((first | refine arun_nil ?_ | refine arunD_nil ?_); refine hK _ ?_; clear hK K) | refine AW.skip ?_ | refine AW.exit ?_ | refine AW.ret ?_); simp only [thenA_exit, inBlockA_exit, if_true, if_false, Nat.reduceEqDiff, thenA_normal, inBlockA_normal, reduceIte, thenA_ret, inBlockA_ret, endQ_ret, endR_ret, endG_ret, endQ_normal, endR_normal, endG_normal])))
        exact ⟨.tup [nodeA (setK n k m), .bool true], by simp [setK, ares, aresL, upd, rowsOf_cons], tup2_pur (node_pur _) pur_bool, _, Wk.refl _, rfl⟩
end Go.Proofs.YtfjaobfaepjfnaaDoor.Eng
-- EV: rows
namespace Go.Proofs.YtfjaobfaepjfnaaDoor.Eng
open Go Go.RowKit
attribute [local simp] big size_mk ASt.pay Option.map_map Function.comp_def awant aop acall ado aev ofVal ofVal0 ASt.put ASt.add ASt.turn ASt.kill abox aalloc astore aload aloadD astoreD idOf ASt.at cellsTo afieldAddr afield aindexAddr aindex alen abin aint acmp astr aun apick aextract anil aslice abound abuild afill abuildSlice asCells aps avCells over upd aappend asrc amax amin aconv mkSt slots rowsOf_cons rowsOf_nil usedOf_cons usedOf_nil ZK.av List.replicate ASt.back ASt.addL ASt.killL nodeA nodeT nodeTL_eq nodeL_eq strsE_get strsE_len intsE_get intsE_len strsE_at intsE_at nodeN namesRow nodeO kidsRow tab2 tab3 tab4 tab5 tab6 tab7 tab8 tab9 tab10 tab11 tab12 tab13 tab14 tab15 tab16 tab17 tab18 tab19 tab21 tab22 tab23 tab24 tab25 tab26 tab28 tab29 tab30 tab31 tab42 tab43 tab44 tab46 tab63 tab64 tab67 tab68 tab75 tab98 tab100 tab101 tab105 tab106 tab107 tab122 tab123 tab125 tab128 tab138 tab144 tab151 tab152 tab157 tab158 tab160 tab161 tab162
end Go.Proofs.YtfjaobfaepjfnaaDoor.Eng
namespace Go.Proofs.YtfjaobfaepjfnaaDoor
open Go Go.RowKit
def Row0 (w : World) (g : Nat) (L : List Value) (e : TypeId) : Prop := Hid (w.heap[g]? = some (.cells L.toArray e (0, 0)))
theorem Row0.out {w : World} {g : Nat} {L : List Value} {e : TypeId} (h : Row0 w g L e) : w.heap[g]? = some (.cells L.toArray e (0, 0)) := h
theorem Row0.lt {w : World} {g : Nat} {L : List Value} {e : TypeId} (h : Row0 w g L e) : g < w.heap.size := (Array.getElem?_eq_some_iff.1 h.out).1
theorem Row0.ext {X : Nat → Prop} {w w' : World} {g : Nat} {L : List Value} {e : TypeId} (h : Row0 w g L e) (hx : Ext X w w') (hg : ¬ X g) : Row0 w' g L e := by
  show w'.heap[g]? = _
  rw [hx.block g h.lt hg]; exact h
theorem Row0.cell {w : World} {g : Nat} {L : List Value} {e : TypeId} (h : Row0 w g L e) {j : Nat} {v : Value} (hj : L[j]? = some v) : w.cell? ⟨g, j, none⟩ = some v := by
  unfold World.cell?
  rw [h.out]
  simpa using hj
variable {P : Program}
theorem Row0.set {w : World} {g : Nat} {L L' : List Value} {e : TypeId} (h : Row0 w g L e) : Row0 (w.setRow g L'.toArray) g L' e := setRow_heap w g _ _ e _ h.out
end Go.Proofs.YtfjaobfaepjfnaaDoor
namespace Go.Proofs.YtfjaobfaepjfnaaDoor
open Go Go.RowKit Go.Proofs.YtfjaobfaepjfnaaDoor.Eng
end Go.Proofs.YtfjaobfaepjfnaaDoor
namespace Go.Proofs.YtfjaobfaepjfnaaDoor
open Go Go.RowKit Go.Proofs.YtfjaobfaepjfnaaDoor.Eng
end Go.Proofs.YtfjaobfaepjfnaaDoor
namespace Go.Proofs.YtfjaobfaepjfnaaDoor.Eng
open Go Go.RowKit
attribute [local simp] big size_mk ASt.pay Option.map_map Function.comp_def awant aop acall ado aev ofVal ofVal0 ASt.put ASt.add ASt.turn ASt.kill abox aalloc astore aload aloadD astoreD idOf ASt.at cellsTo afieldAddr afield aindexAddr aindex alen abin aint acmp astr aun apick aextract anil aslice abound abuild afill abuildSlice asCells aps avCells over upd aappend asrc amax amin aconv mkSt slots rowsOf_cons rowsOf_nil usedOf_cons usedOf_nil ZK.av List.replicate ASt.back ASt.addL ASt.killL nodeA nodeT nodeTL_eq nodeL_eq strsE_get strsE_len intsE_get intsE_len strsE_at intsE_at tab2 tab3 tab4 tab5 tab6 tab7 tab8 tab9 tab10 tab11 tab12 tab13 tab14 tab15 tab16 tab17 tab18 tab19 tab21 tab22 tab23 tab24 tab25 tab26 tab28 tab29 tab30 tab31 tab42 tab43 tab44 tab46 tab63 tab64 tab67 tab68 tab75 tab98 tab100 tab101 tab105 tab106 tab107 tab122 tab123 tab125 tab128 tab138 tab144 tab151 tab152 tab157 tab158 tab160 tab161 tab162
def putK (n : Nd) (nm : ByteArray) (v : Nd) : Nd :=
  if mem n.names nm then ⟨n.kind, n.num, n.text, n.names, n.kids.set (lbound n.names nm) v⟩
  else ⟨n.kind, n.num, n.text, n.names.take (lbound n.names nm) ++ (nm :: n.names.drop (lbound n.names nm)), n.kids.take (lbound n.names nm) ++ (v :: n.kids.drop (lbound n.names nm))⟩
def dropK (n : Nd) (nm : ByteArray) : Nd :=
  if mem n.names nm then ⟨n.kind, n.num, n.text, n.names.take (lbound n.names nm) ++ n.names.drop (lbound n.names nm + 1), n.kids.take (lbound n.names nm) ++ n.kids.drop (lbound n.names nm + 1)⟩ else n
theorem lbn_le (xs : List ByteArray) (nm : ByteArray) : lbound xs nm ≤ xs.length := List.countP_le_length
theorem putK_yes {n v : Nd} {nm : ByteArray} (h : mem n.names nm = true) : putK n nm v = ⟨n.kind, n.num, n.text, n.names, n.kids.set (lbound n.names nm) v⟩ := by unfold putK; rw [if_pos h]
theorem putK_no {n v : Nd} {nm : ByteArray} (h : mem n.names nm = false) : putK n nm v = ⟨n.kind, n.num, n.text, n.names.take (lbound n.names nm) ++ (nm :: n.names.drop (lbound n.names nm)), n.kids.take (lbound n.names nm) ++ (v :: n.kids.drop (lbound n.names nm))⟩ := by unfold putK; rw [h]; rfl
theorem dropK_yes {n : Nd} {nm : ByteArray} (h : mem n.names nm = true) : dropK n nm = ⟨n.kind, n.num, n.text, n.names.take (lbound n.names nm) ++ n.names.drop (lbound n.names nm + 1), n.kids.take (lbound n.names nm) ++ n.kids.drop (lbound n.names nm + 1)⟩ := by unfold dropK; rw [if_pos h]
theorem dropK_no {n : Nd} {nm : ByteArray} (h : mem n.names nm = false) : dropK n nm = n := by unfold dropK; rw [h]; rfl
end Go.Proofs.YtfjaobfaepjfnaaDoor.Eng
namespace Go.Proofs.YtfjaobfaepjfnaaDoor.Eng
open Go Go.RowKit
section
variable {P : Program} {T : Tab} {k0 : Nat} {md : List Nat} {Av : Nat → Prop} {pc : Pc} {ops : Array Oper} {K : ASt → Prop} {o : Oper} {l : List Oper} {s : ASt} {f : FuncId} {xs : List Operand} {args : List AV}
end
end Go.Proofs.YtfjaobfaepjfnaaDoor.Eng
namespace Go.Proofs.YtfjaobfaepjfnaaDoor.Eng
open Go Go.RowKit
theorem asc_pw {xs : List ByteArray} : Asc xs ↔ xs.Pairwise (fun a b => lt a b = true) := by
  rw [List.pairwise_iff_getElem]
  exact ⟨fun h i j hi hj hij => h i j hi hj hij, fun h i j hi hj hij => h i j hi hj hij⟩
theorem lt_tot {a b : ByteArray} (h : lt a b = false) (hn : a ≠ b) : lt b a = true := by
  rcases bl_cases a b with ⟨h1, h2, _, _, h3⟩ | ⟨h1, h2, _, _, h3⟩ | h'
  · exact absurd (show lt a b = true from h1) (by rw [h]; simp)
  · exact h2
  · exact absurd h' hn
theorem lb_split : ∀ {xs : List ByteArray} {s : ByteArray}, xs.Pairwise (fun a b => lt a b = true) → (∀ a ∈ xs.take (lbound xs s), lt a s = true) ∧ (∀ b ∈ xs.drop (lbound xs s), lt b s = false)
  | [], s, _ => ⟨fun a h => by simp at h, fun a h => by simp at h⟩
  | x :: t, s, h => by
    rw [List.pairwise_cons] at h
    have hlb : lbound (x :: t) s = lbound t s + if lt x s then 1 else 0 := by unfold lbound; rw [List.countP_cons]
    obtain ⟨i1, i2⟩ := lb_split (s := s) h.2
    cases hx : lt x s
    · have h0 : lbound t s = 0 := by
        unfold lbound
        rw [List.countP_eq_zero]
        intro y hy hys
        have := bl_trans _ _ _ (h.1 y hy) hys
        exact absurd (show lt x s = true from this) (by rw [hx]; simp)
      rw [hlb, hx, h0]
      rw [h0] at i2
      refine ⟨fun a ha => by simp at ha, fun b hb => ?_⟩
      simp at hb
      rcases hb with rfl | hb
      · exact hx
      · exact i2 b (by simpa using hb)
    · rw [hlb, hx]
      simp only [if_true, List.take_succ_cons, List.drop_succ_cons, List.mem_cons, forall_eq_or_imp]
      exact ⟨⟨hx, i1⟩, i2⟩
structure MapW (r : Nd) : Prop where
  kd : r.kind = 4
  nz : r.num = 0
  tz : r.text = ⟨#[]⟩
  asc : Asc r.names
  len : r.names.length = r.kids.length
def zK (r : Nd) : List (ByteArray × Nd) := r.names.zip r.kids
theorem zK_len {r : Nd} (h : MapW r) : (zK r).length = r.kids.length := by unfold zK; rw [List.length_zip, h.len, Nat.min_self]
theorem zK_in {r : Nd} (h : MapW r) {x : ByteArray} {v : Nd} (hm : (x, v) ∈ zK r) : mem r.names x = true ∧ kidOf r x = v := by
  obtain ⟨i, he⟩ := List.getElem?_of_mem hm
  unfold zK at he
  rw [List.getElem?_zip_eq_some] at he
  obtain ⟨e3, e4⟩ := he
  obtain ⟨h1, e1⟩ := List.getElem?_eq_some_iff.1 e3
  obtain ⟨h2, e2⟩ := List.getElem?_eq_some_iff.1 e4
  clear e3 e4
  dsimp only at e1 e2
  subst e1 e2
  have hlb := lb_at h.asc h1
  have hmm : mem r.names r.names[i] = true := mem_iff.2 (List.getElem_mem h1)
  refine ⟨hmm, ?_⟩
  rw [kidOf_yes hmm (by rw [hlb]; exact h2)]
  simp only [hlb]
theorem zK_of {r : Nd} (h : MapW r) {x : ByteArray} (hm : mem r.names x = true) : (x, kidOf r x) ∈ zK r := by
  obtain ⟨h1, h2⟩ := Go.Proofs.YtfjaobfaepjfnaaDoor.lb_lt h.asc hm
  have h3 : lbound r.names x < r.kids.length := by rw [← h.len]; exact h1
  rw [kidOf_yes hm h3]
  have : (zK r)[lbound r.names x]? = some (x, r.kids[lbound r.names x]) := by
    unfold zK
    rw [List.getElem?_zip_eq_some]
    exact ⟨by rw [List.getElem?_eq_getElem h1, h2], List.getElem?_eq_getElem h3⟩
  exact List.mem_of_getElem? this
theorem putK_w {r : Nd} (h : MapW r) (nm : ByteArray) (v : Nd) : MapW (putK r nm v) ∧ (nm, v) ∈ zK (putK r nm v) ∧ (∀ x w, x ≠ nm → (x, w) ∈ zK r → (x, w) ∈ zK (putK r nm v)) ∧ (∀ x, mem (putK r nm v).names x = true → x = nm ∨ mem r.names x = true) := by
  cases hm : mem r.names nm
  · rw [putK_no hm]
    have hle := lbn_le r.names nm
    have hl := h.len
    obtain ⟨s1, s2⟩ := lb_split (s := nm) (asc_pw.1 h.asc)
    have hz : zK ⟨r.kind, r.num, r.text, r.names.take (lbound r.names nm) ++ (nm :: r.names.drop (lbound r.names nm)), r.kids.take (lbound r.names nm) ++ (v :: r.kids.drop (lbound r.names nm))⟩ = (zK r).take (lbound r.names nm) ++ ((nm, v) :: (zK r).drop (lbound r.names nm)) := by
      unfold zK
      dsimp only
      rw [List.zip_append (by rw [List.length_take, List.length_take]; omega), List.zip_cons_cons]
      congr 1
      · exact (List.take_zipWith ..).symm
      · congr 1; exact (List.drop_zipWith ..).symm
    refine ⟨⟨h.kd, h.nz, h.tz, ?_, by dsimp only; simp only [List.length_append, List.length_cons, List.length_take, List.length_drop]; omega⟩, ?_, fun x w hx hxw => ?_, fun x hx => ?_⟩
    · rw [asc_pw]
      dsimp only
      have hp := asc_pw.1 h.asc
      rw [← List.take_append_drop (lbound r.names nm) r.names, List.pairwise_append] at hp
      rw [List.pairwise_append, List.pairwise_cons]
      have hb : ∀ b ∈ r.names.drop (lbound r.names nm), lt nm b = true := fun b hb => lt_tot (s2 b hb) (fun e => by
        subst e
        have := mem_iff.2 (List.mem_of_mem_drop hb)
        rw [hm] at this; cases this)
      refine ⟨hp.1, ⟨hb, hp.2.1⟩, fun a ha b hb' => ?_⟩
      rcases List.mem_cons.1 hb' with rfl | hb'
      · exact s1 a ha
      · exact hp.2.2 a ha b hb'
    · rw [hz]; simp
    · rw [hz]
      rw [← List.take_append_drop (lbound r.names nm) (zK r)] at hxw
      rcases List.mem_append.1 hxw with h | h
      · exact List.mem_append.2 (.inl h)
      · exact List.mem_append.2 (.inr (List.mem_cons.2 (.inr h)))
    · rw [mem_iff] at hx
      dsimp only at hx
      rw [List.mem_append, List.mem_cons] at hx
      rcases hx with hx | rfl | hx
      · exact .inr (mem_iff.2 (List.mem_of_mem_take hx))
      · exact .inl rfl
      · exact .inr (mem_iff.2 (List.mem_of_mem_drop hx))
  · rw [putK_yes hm]
    obtain ⟨h1, h2⟩ := Go.Proofs.YtfjaobfaepjfnaaDoor.lb_lt h.asc hm
    have h3 : lbound r.names nm < r.kids.length := by rw [← h.len]; exact h1
    have hW : MapW ⟨r.kind, r.num, r.text, r.names, r.kids.set (lbound r.names nm) v⟩ := ⟨h.kd, h.nz, h.tz, h.asc, by dsimp only; rw [List.length_set]; exact h.len⟩
    refine ⟨hW, ?_, fun x w hx hxw => ?_, fun x hx => .inr hx⟩
    · have : (zK ⟨r.kind, r.num, r.text, r.names, r.kids.set (lbound r.names nm) v⟩)[lbound r.names nm]? = some (nm, v) := by
        unfold zK
        rw [List.getElem?_zip_eq_some]
        exact ⟨by dsimp only; rw [List.getElem?_eq_getElem h1, h2], by dsimp only; rw [List.getElem?_set_self h3]⟩
      exact List.mem_of_getElem? this
    · obtain ⟨i, hi⟩ := List.getElem?_of_mem hxw
      unfold zK at hi
      rw [List.getElem?_zip_eq_some] at hi
      have hne : lbound r.names nm ≠ i := fun e => by
        subst e
        have := hi.1
        dsimp only at this
        rw [List.getElem?_eq_getElem h1, h2] at this
        exact hx (Option.some.inj this).symm
      have : (zK ⟨r.kind, r.num, r.text, r.names, r.kids.set (lbound r.names nm) v⟩)[i]? = some (x, w) := by
        unfold zK
        rw [List.getElem?_zip_eq_some]
        exact ⟨hi.1, by dsimp only; rw [List.getElem?_set_ne hne]; exact hi.2⟩
      exact List.mem_of_getElem? this
theorem dropK_w {r : Nd} (h : MapW r) (nm : ByteArray) : MapW (dropK r nm) ∧ mem (dropK r nm).names nm = false ∧ (∀ x w, x ≠ nm → (x, w) ∈ zK r → (x, w) ∈ zK (dropK r nm)) ∧ (∀ x, mem (dropK r nm).names x = true → x ≠ nm ∧ mem r.names x = true) := by
  cases hm : mem r.names nm
  · rw [dropK_no hm]
    exact ⟨h, hm, fun x w _ hx => hx, fun x hx => ⟨(fun e => by subst e; rw [hm] at hx; cases hx), hx⟩⟩
  · rw [dropK_yes hm]
    obtain ⟨h1, h2⟩ := Go.Proofs.YtfjaobfaepjfnaaDoor.lb_lt h.asc hm
    have h3 : lbound r.names nm < r.kids.length := by rw [← h.len]; exact h1
    have hl := h.len
    have hp := asc_pw.1 h.asc
    have hsp : r.names = r.names.take (lbound r.names nm) ++ (nm :: r.names.drop (lbound r.names nm + 1)) := by
      conv => lhs; rw [← List.take_append_drop (lbound r.names nm) r.names, List.drop_eq_getElem_cons h1, h2]
    have hp2 := hp
    rw [hsp, List.pairwise_append, List.pairwise_cons] at hp2
    obtain ⟨p1, ⟨p2, p3⟩, p4⟩ := hp2
    have hin : ∀ x, x ∈ r.names.take (lbound r.names nm) ++ r.names.drop (lbound r.names nm + 1) → x ≠ nm ∧ x ∈ r.names := fun x hx => by
      rcases List.mem_append.1 hx with hx | hx
      · refine ⟨fun e => ?_, List.mem_of_mem_take hx⟩
        subst e
        have := p4 x hx x (by simp)
        rw [lt_irr] at this; cases this
      · refine ⟨fun e => ?_, List.mem_of_mem_drop hx⟩
        subst e
        have := p2 x hx
        rw [lt_irr] at this; cases this
    refine ⟨⟨h.kd, h.nz, h.tz, ?_, by dsimp only; simp only [List.length_append, List.length_take, List.length_drop]; omega⟩, ?_, fun x w hx hxw => ?_, fun x hx => ?_⟩
    · rw [asc_pw]
      dsimp only
      rw [List.pairwise_append]
      exact ⟨p1, p3, fun a ha b hb => p4 a ha b (by simp [hb])⟩
    · exact mem_no (fun hx => (hin nm hx).1 rfl)
    · have hz : zK ⟨r.kind, r.num, r.text, r.names.take (lbound r.names nm) ++ r.names.drop (lbound r.names nm + 1), r.kids.take (lbound r.names nm) ++ r.kids.drop (lbound r.names nm + 1)⟩ = (zK r).take (lbound r.names nm) ++ (zK r).drop (lbound r.names nm + 1) := by
        unfold zK
        dsimp only
        rw [List.zip_append (by rw [List.length_take, List.length_take]; omega)]
        congr 1
        · exact (List.take_zipWith ..).symm
        · exact (List.drop_zipWith ..).symm
      rw [hz]
      have hzl : lbound r.names nm < (zK r).length := by rw [zK_len h]; exact h3
      have hzg : (zK r)[lbound r.names nm] = (nm, r.kids[lbound r.names nm]) := by
        have : (zK r)[lbound r.names nm]? = some (nm, r.kids[lbound r.names nm]) := by
          unfold zK
          rw [List.getElem?_zip_eq_some]
          exact ⟨by rw [List.getElem?_eq_getElem h1, h2], List.getElem?_eq_getElem h3⟩
        rw [List.getElem?_eq_getElem hzl] at this
        exact Option.some.inj this
      rw [← List.take_append_drop (lbound r.names nm) (zK r), List.drop_eq_getElem_cons hzl, hzg] at hxw
      rcases List.mem_append.1 hxw with hq | hq
      · exact List.mem_append.2 (.inl hq)
      · rcases List.mem_cons.1 hq with hq | hq
        · exact absurd (congrArg Prod.fst hq) hx
        · exact List.mem_append.2 (.inr hq)
    · have := hin x (mem_iff.1 hx)
      exact ⟨this.1, mem_iff.2 this.2⟩
theorem kidOf_put {r : Nd} (h : MapW r) (nm : ByteArray) (v : Nd) (x : ByteArray) : kidOf (putK r nm v) x = if x = nm then v else kidOf r x := by
  obtain ⟨h1, h2, h3, h4⟩ := putK_w h nm v
  by_cases e : x = nm
  · subst e; rw [if_pos rfl]; exact (zK_in h1 h2).2
  · rw [if_neg e]
    cases hm : mem r.names x
    · have : mem (putK r nm v).names x = false := by
        cases hq : mem (putK r nm v).names x
        · rfl
        · rcases h4 x hq with h | h
          · exact absurd h e
          · rw [hm] at h; cases h
      rw [kidOf_no this, kidOf_no hm]
    · exact (zK_in h1 (h3 x _ e (zK_of h hm))).2
theorem kidOf_drop {r : Nd} (h : MapW r) (nm : ByteArray) (x : ByteArray) : kidOf (dropK r nm) x = if x = nm then Nd.zero else kidOf r x := by
  obtain ⟨h1, h2, h3, h4⟩ := dropK_w h nm
  by_cases e : x = nm
  · subst e; rw [if_pos rfl]; exact kidOf_no h2
  · rw [if_neg e]
    cases hm : mem r.names x
    · have : mem (dropK r nm).names x = false := by
        cases hq : mem (dropK r nm).names x
        · rfl
        · rw [(h4 x hq).2] at hm; cases hm
      rw [kidOf_no this, kidOf_no hm]
    · exact (zK_in h1 (h3 x _ e (zK_of h hm))).2
theorem putK_kids {r v k : Nd} {nm : ByteArray} (h : k ∈ (putK r nm v).kids) : k = v ∨ k ∈ r.kids := by
  cases hm : mem r.names nm
  · rw [putK_no hm] at h
    rcases List.mem_append.1 h with h | h
    · exact .inr (List.mem_of_mem_take h)
    · rcases List.mem_cons.1 h with h | h
      · exact .inl h
      · exact .inr (List.mem_of_mem_drop h)
  · rw [putK_yes hm] at h
    exact (List.mem_or_eq_of_mem_set h).symm
theorem dropK_kids {r k : Nd} {nm : ByteArray} (h : k ∈ (dropK r nm).kids) : k ∈ r.kids := by
  cases hm : mem r.names nm
  · rw [dropK_no hm] at h; exact h
  · rw [dropK_yes hm] at h
    rcases List.mem_append.1 h with h | h
    · exact List.mem_of_mem_take h
    · exact List.mem_of_mem_drop h
theorem putK_klen {r v : Nd} {nm : ByteArray} : (putK r nm v).kids.length ≤ r.kids.length + 1 := by
  cases hm : mem r.names nm
  · rw [putK_no hm]; simp; omega
  · rw [putK_yes hm]; simp
theorem dropK_klen {r : Nd} {nm : ByteArray} : (dropK r nm).kids.length ≤ r.kids.length := by
  cases hm : mem r.names nm
  · rw [dropK_no hm]; exact Nat.le_refl _
  · rw [dropK_yes hm]; simp; omega
def baseM (n : Nd) : Nd := if n.kind = 4 then n else ⟨4, 0, ⟨#[]⟩, [], []⟩
mutual
def mrg : Nd → Nd → Nd
  | ⟨kind, num, text, names, kids⟩, n => if kind = 4 then mrgL names kids (baseM n) else ⟨kind, num, text, names, kids⟩
def mrgL : List ByteArray → List Nd → Nd → Nd
  | _, [], r => r
  | ns, k :: ks, r => mrgL ns.tail ks (if k.kind = 0 then dropK r (ns.headD ⟨#[]⟩) else putK r (ns.headD ⟨#[]⟩) (mrg k (kidOf r (ns.headD ⟨#[]⟩))))
end
def stepN (r : Nd) (nm : ByteArray) (k : Nd) : Nd := if k.kind = 0 then dropK r nm else putK r nm (mrg k (kidOf r nm))
theorem mrg_map {p : Nd} (h : p.kind = 4) (n : Nd) : mrg p n = mrgL p.names p.kids (baseM n) := by cases p; rw [mrg, if_pos h]
theorem mrg_no {p : Nd} (h : p.kind ≠ 4) (n : Nd) : mrg p n = p := by cases p; rw [mrg, if_neg h]
theorem mrgL_step {ns : List ByteArray} {ks : List Nd} {i : Nat} (h1 : i < ns.length) (h2 : i < ks.length) (r : Nd) : mrgL (ns.drop i) (ks.drop i) r = mrgL (ns.drop (i + 1)) (ks.drop (i + 1)) (stepN r ns[i] ks[i]) := by
  rw [List.drop_eq_getElem_cons h1, List.drop_eq_getElem_cons h2, mrgL]
  rfl
theorem shp_zero : Shp Nd.zero := ⟨1, by simp [shapeB_eq, partsB, Nd.zero, shapeL]⟩
theorem base_w {n : Nd} (h : Shp n) : MapW (baseM n) := by
  unfold baseM
  split
  · rename_i h4
    have hp := h.parts
    unfold partsB at hp
    simp only [Bool.and_eq_true, Bool.or_eq_true, decide_eq_true_eq] at hp
    obtain ⟨⟨⟨h1, h2⟩, h3⟩, _⟩ := hp
    refine ⟨h4, by rcases h1 with h | h <;> omega, ?_, h.asc h4, ((h.map h4).2).symm⟩
    rcases h2 with h | h
    · omega
    · have ht : n.text.toList = [] := by simpa using h
      exact of_decide_eq_true (by rw [← beq_toList, ht]; decide +kernel)
  · exact ⟨rfl, rfl, rfl, fun i j hi => by simp at hi, rfl⟩
theorem base_kids {n : Nd} (h : Shp n) : (baseM n).kids.length ≤ 6 ∧ ∀ k ∈ (baseM n).kids, Shp k := by
  unfold baseM
  split
  · exact ⟨h.kids, fun k hk => h.kid hk⟩
  · exact ⟨by simp, fun k hk => by cases hk⟩
theorem base_old {n : Nd} (h : Shp n) (x : ByteArray) : Shp (kidOf (baseM n) x) := by
  have hw := base_w h
  cases hm : mem (baseM n).names x
  · rw [kidOf_no hm]; exact shp_zero
  · exact (base_kids h).2 _ (kidOf_mem hw.asc (by rw [hw.len]; exact Nat.le_refl _) hm)
structure Mid (n p : Nd) (i : Nat) (r : Nd) : Prop where
  w : MapW r
  wide : r.kids.length ≤ 6 + i
  sml : ∀ k ∈ r.kids, Sml k
  old : ∀ x, x ∉ p.names.take i → kidOf r x = kidOf (baseM n) x
theorem Mid.start {n : Nd} (h : Shp n) (p : Nd) : Mid n p 0 (baseM n) := ⟨base_w h, (base_kids h).1, fun k hk => ((base_kids h).2 k hk).sml, fun _ _ => rfl⟩
theorem fresh_name {p : Nd} (hp : Shp p) (h4 : p.kind = 4) {i : Nat} (hi : i < p.names.length) : p.names[i] ∉ p.names.take i := fun hm => by
  obtain ⟨j, hj, he⟩ := List.getElem_of_mem hm
  rw [List.length_take] at hj
  rw [List.getElem_take] at he
  have := hp.asc h4 j i (by omega) hi (by omega)
  rw [he, lt_irr] at this; cases this
theorem Mid.kid {n p r : Nd} {i : Nat} (h : Mid n p i r) (hp : Shp p) (h4 : p.kind = 4) (hn : Shp n) (hi : i < p.names.length) : kidOf r p.names[i] = kidOf (baseM n) p.names[i] := h.old _ (fresh_name hp h4 hi)
theorem Mid.step {n p r : Nd} {i : Nat} (h : Mid n p i r) (hi : i < p.names.length) (hk : i < p.kids.length) (hs : p.kids[i].kind ≠ 0 → Sml (mrg p.kids[i] (kidOf r p.names[i]))) : Mid n p (i + 1) (stepN r p.names[i] p.kids[i]) := by
  have hx : ∀ x, x ∉ p.names.take (i + 1) → x ≠ p.names[i] ∧ x ∉ p.names.take i := fun x hx => by
    rw [List.take_add_one, List.getElem?_eq_getElem hi, Option.toList_some, List.mem_append, List.mem_singleton] at hx
    exact ⟨fun e => hx (.inr e), fun e => hx (.inl e)⟩
  unfold stepN
  split
  · exact ⟨(dropK_w h.w _).1, by have := h.wide; have := dropK_klen (r := r) (nm := p.names[i]); omega, fun k hk => h.sml k (dropK_kids hk), fun x hxn => by
      rw [kidOf_drop h.w, if_neg (hx x hxn).1]; exact h.old x (hx x hxn).2⟩
  · rename_i h0
    exact ⟨(putK_w h.w _ _).1, by have := h.wide; have := putK_klen (r := r) (nm := p.names[i]) (v := mrg p.kids[i] (kidOf r p.names[i])); omega, fun k hk => by
      rcases putK_kids hk with rfl | hk
      · exact hs h0
      · exact h.sml k hk, fun x hxn => by
      rw [kidOf_put h.w, if_neg (hx x hxn).1]; exact h.old x (hx x hxn).2⟩
theorem Mid.smlR {n p r : Nd} {i : Nat} (h : Mid n p i r) (hi : i ≤ 6) : Sml r := .mk _ (by rw [h.w.len]; have := h.wide; omega) (by have := h.wide; omega) h.sml
theorem mrg_loop {n p : Nd} (hp : Shp p) (h4 : p.kind = 4) (I : Nat → Nd → Prop) (h0 : I 0 (baseM n)) (hs : ∀ i (hi : i < p.names.length) (hk : i < p.kids.length) r, I i r → I (i + 1) (stepN r p.names[i] p.kids[i])) : I p.kids.length (mrg p n) := by
  have hl := (hp.map h4).2
  have key : ∀ j, j ≤ p.kids.length → ∃ r, I j r ∧ mrgL (p.names.drop j) (p.kids.drop j) r = mrg p n := fun j => by
    induction j with
    | zero => exact fun _ => ⟨_, h0, by rw [mrg_map h4]; rfl⟩
    | succ j ih =>
      intro hj
      obtain ⟨r, h1, h2⟩ := ih (by omega)
      rw [mrgL_step (by omega) (by omega)] at h2
      exact ⟨_, hs j (by omega) (by omega) r h1, h2⟩
  obtain ⟨r, h1, h2⟩ := key _ (Nat.le_refl _)
  rw [List.drop_of_length_le (Nat.le_refl _), List.drop_of_length_le (by omega), mrgL] at h2
  rw [← h2]; exact h1
theorem mrg_sml : ∀ p, Shp p → ∀ n, Shp n → Sml (mrg p n) := Nd.ind' _ (fun p ih hp n hn => by
  by_cases h4 : p.kind = 4
  · have h6 := hp.kids
    refine Mid.smlR (n := n) (p := p) (mrg_loop hp h4 (Mid n p) (Mid.start hn p) (fun i hi hk r h => h.step hi hk (fun _ => ?_))) h6
    rw [h.kid hp h4 hn hi]
    exact ih _ (List.getElem_mem hk) (hp.kid (List.getElem_mem hk)) _ (base_old hn _)
  · rw [mrg_no h4]; exact hp.sml)
theorem Mid.next {n p r : Nd} {i : Nat} (h : Mid n p i r) (hp : Shp p) (h4 : p.kind = 4) (hn : Shp n) (hi : i < p.names.length) (hk : i < p.kids.length) : Mid n p (i + 1) (stepN r p.names[i] p.kids[i]) := h.step hi hk (fun _ => by
  rw [h.kid hp h4 hn hi]
  exact mrg_sml _ (hp.kid (List.getElem_mem hk)) _ (base_old hn _))
end Go.Proofs.YtfjaobfaepjfnaaDoor.Eng
-- EV: rows
namespace Go.Proofs.YtfjaobfaepjfnaaDoor.Eng
open Go Go.RowKit
attribute [local simp] big size_mk ASt.pay Option.map_map Function.comp_def awant aop acall ado aev ofVal ofVal0 ASt.put ASt.add ASt.turn ASt.kill abox aalloc astore aload aloadD astoreD idOf ASt.at cellsTo afieldAddr afield aindexAddr aindex alen abin aint acmp astr aun apick aextract anil aslice abound abuild afill abuildSlice asCells aps avCells over upd aappend asrc amax amin aconv mkSt slots rowsOf_cons rowsOf_nil usedOf_cons usedOf_nil ZK.av List.replicate ASt.back ASt.addL ASt.killL nodeA nodeT nodeTL_eq nodeL_eq strsE_get strsE_len intsE_get intsE_len strsE_at intsE_at nodeN namesRow nodeO kidsRow tab2 tab3 tab4 tab5 tab6 tab7 tab8 tab9 tab10 tab11 tab12 tab13 tab14 tab15 tab16 tab17 tab18 tab19 tab21 tab22 tab23 tab24 tab25 tab26 tab28 tab29 tab30 tab31 tab42 tab43 tab44 tab46 tab63 tab64 tab67 tab68 tab75 tab98 tab100 tab101 tab105 tab106 tab107 tab122 tab123 tab125 tab128 tab138 tab144 tab151 tab152 tab157 tab158 tab160 tab161 tab162
end Go.Proofs.YtfjaobfaepjfnaaDoor.Eng
-- EV: rows skip
namespace Go.Proofs.YtfjaobfaepjfnaaDoor.Eng
open Go Go.RowKit
attribute [local simp] big size_mk ASt.pay Option.map_map Function.comp_def awant aop acall ado aev ofVal ofVal0 ASt.put ASt.add ASt.turn ASt.kill abox aalloc astore aload aloadD astoreD idOf ASt.at cellsTo afieldAddr afield aindexAddr aindex alen abin aint acmp astr aun apick aextract anil aslice abound abuild afill abuildSlice asCells aps avCells over upd aappend asrc amax amin aconv mkSt slots rowsOf_cons rowsOf_nil usedOf_cons usedOf_nil ZK.av List.replicate ASt.back ASt.addL ASt.killL nodeA nodeT nodeTL_eq nodeL_eq strsE_get strsE_len intsE_get intsE_len strsE_at intsE_at nodeN namesRow nodeO kidsRow tab2 tab3 tab4 tab5 tab6 tab7 tab8 tab9 tab10 tab11 tab12 tab13 tab14 tab15 tab16 tab17 tab18 tab19 tab21 tab22 tab23 tab24 tab25 tab26 tab28 tab29 tab30 tab31 tab42 tab43 tab44 tab46 tab63 tab64 tab67 tab68 tab75 tab98 tab100 tab101 tab105 tab106 tab107 tab122 tab123 tab125 tab128 tab138 tab144 tab151 tab152 tab157 tab158 tab160 tab161 tab162
end Go.Proofs.YtfjaobfaepjfnaaDoor.Eng
-- EV: rows
namespace Go.Proofs.YtfjaobfaepjfnaaDoor.Eng
open Go Go.RowKit
attribute [local simp] big size_mk ASt.pay Option.map_map Function.comp_def awant aop acall ado aev ofVal ofVal0 ASt.put ASt.add ASt.turn ASt.kill abox aalloc astore aload aloadD astoreD idOf ASt.at cellsTo afieldAddr afield aindexAddr aindex alen abin aint acmp astr aun apick aextract anil aslice abound abuild afill abuildSlice asCells aps avCells over upd aappend asrc amax amin aconv mkSt slots rowsOf_cons rowsOf_nil usedOf_cons usedOf_nil ZK.av List.replicate ASt.back ASt.addL ASt.killL nodeA nodeT nodeTL_eq nodeL_eq strsE_get strsE_len intsE_get intsE_len strsE_at intsE_at nodeN namesRow nodeO kidsRow tab2 tab3 tab4 tab5 tab6 tab7 tab8 tab9 tab10 tab11 tab12 tab13 tab14 tab15 tab16 tab17 tab18 tab19 tab21 tab22 tab23 tab24 tab25 tab26 tab28 tab29 tab30 tab31 tab42 tab43 tab44 tab46 tab63 tab64 tab67 tab68 tab75 tab98 tab100 tab101 tab105 tab106 tab107 tab122 tab123 tab125 tab128 tab138 tab144 tab151 tab152 tab157 tab158 tab160 tab161 tab162
end Go.Proofs.YtfjaobfaepjfnaaDoor.Eng
-- EV: rows skip
namespace Go.Proofs.YtfjaobfaepjfnaaDoor.Eng
open Go Go.RowKit
attribute [local simp] big size_mk ASt.pay Option.map_map Function.comp_def awant aop acall ado aev ofVal ofVal0 ASt.put ASt.add ASt.turn ASt.kill abox aalloc astore aload aloadD astoreD idOf ASt.at cellsTo afieldAddr afield aindexAddr aindex alen abin aint acmp astr aun apick aextract anil aslice abound abuild afill abuildSlice asCells aps avCells over upd aappend asrc amax amin aconv mkSt slots rowsOf_cons rowsOf_nil usedOf_cons usedOf_nil ZK.av List.replicate ASt.back ASt.addL ASt.killL nodeA nodeT nodeTL_eq nodeL_eq strsE_get strsE_len intsE_get intsE_len strsE_at intsE_at nodeN namesRow nodeO kidsRow tab2 tab3 tab4 tab5 tab6 tab7 tab8 tab9 tab10 tab11 tab12 tab13 tab14 tab15 tab16 tab17 tab18 tab19 tab21 tab22 tab23 tab24 tab25 tab26 tab28 tab29 tab30 tab31 tab42 tab43 tab44 tab46 tab63 tab64 tab67 tab68 tab75 tab98 tab100 tab101 tab105 tab106 tab107 tab122 tab123 tab125 tab128 tab138 tab144 tab151 tab152 tab157 tab158 tab160 tab161 tab162
end Go.Proofs.YtfjaobfaepjfnaaDoor.Eng
namespace Go.Proofs.YtfjaobfaepjfnaaDoor.Eng
open Go Go.RowKit
attribute [local simp] big size_mk ASt.pay Option.map_map Function.comp_def awant aop acall ado aev ofVal ofVal0 ASt.put ASt.add ASt.turn ASt.kill abox aalloc astore aload aloadD astoreD idOf ASt.at cellsTo afieldAddr afield aindexAddr aindex alen abin aint acmp astr aun apick aextract anil aslice abound abuild afill abuildSlice asCells aps avCells over upd aappend asrc amax amin aconv mkSt slots rowsOf_cons rowsOf_nil usedOf_cons usedOf_nil ZK.av List.replicate ASt.back ASt.addL ASt.killL nodeA nodeT nodeTL_eq nodeL_eq strsE_get strsE_len intsE_get intsE_len strsE_at intsE_at tab2 tab3 tab4 tab5 tab6 tab7 tab8 tab9 tab10 tab11 tab12 tab13 tab14 tab15 tab16 tab17 tab18 tab19 tab21 tab22 tab23 tab24 tab25 tab26 tab28 tab29 tab30 tab31 tab42 tab43 tab44 tab46 tab63 tab64 tab67 tab68 tab75 tab98 tab100 tab101 tab105 tab106 tab107 tab122 tab123 tab125 tab128 tab138 tab144 tab151 tab152 tab157 tab158 tab160 tab161 tab162
theorem equalNodes_step (t t' : VC) (ks : List Nd) (hn : ks.length ≤ 1000000) (ih : ∀ k ∈ ks, AC Tryd.prog 40 [nodeA k, nodeA k] 0 (fun r => r = .bool true)) : AC Tryd.prog 82 [.view t 5 (ks.map nodeL), .view t' 5 (ks.map nodeL)] 0 (fun r => r = .bool true) := by
  refine AC.of tab_ok mixed_ok Tryd.func82 (by rfl) (by kernel_rfl) ?_; rintro ⟨P, T, hT, hm, w0, S0, rd0, k0⟩ hP hTT; dsimp only at hP hTT; subst hP hTT; unfold initSt; rw [Tryd.ntmps82]
  (repeat (first | with_reducible refine AW.seq ?_ | ((first | refine arun_kn 4 rfl (fun C hC => ?_) | refine arunD_kn 4 rfl (fun C hC => ?_)); (repeat ((conv => whnf); simp [List.length_map])); refine hC _ ?_; clear hC C; simp only [List.drop, Nat.reduceAdd]) | ((first | refine arun_kn 1 rfl (fun C hC => ?_) | refine arunD_kn 1 rfl (fun C hC => ?_)); (repeat ((conv => whnf); simp [List.length_map])); refine hC _ ?_; clear hC C; simp only [List.drop, Nat.reduceAdd]) | (refine arun_skip ?_ ?_; (focus (simp [awant, List.length_map]; done))) | (refine AW.regionK [] (fun K hK => ?_)) | (refine AW.regionDK [] (pcs [] []) (by kernel_rfl) (by kernel_rfl) (fun K hK => ?_)) | (refine AW.condT ?_ ?_; (focus (simp [aev, List.length_map]; done))) | (refine AW.condF ?_ ?_; (focus (simp [aev, List.length_map]; done))) | with_reducible refine AW.block ?_ | ((first | ((first | refine arun_nil ?_ | refine arunD_nil ?_); refine hK _ ?_; clear hK K) | refine AW.skip ?_ | refine AW.exit ?_ | refine AW.ret ?_); simp only [thenA_exit, inBlockA_exit, if_true, if_false, Nat.reduceEqDiff, thenA_normal, inBlockA_normal, reduceIte, thenA_ret, inBlockA_ret, endQ_ret, endR_ret, endG_ret, endQ_normal, endR_normal, endG_normal])))
  refine AW.loopS (fun (i : Nat) => mkSt (slots 0 27 [(0, .view t 5 (ks.map nodeL)), (1, .view t' 5 (ks.map nodeL)), (5, .int .i64 i)]) [] [] (rd0.map fun _ => 0)) (fun i => ks.length - i) (fun i => i ≤ ks.length) 0 ?_ (Nat.zero_le _) ?_
  · exact less_a
  · intro i hi
    by_cases hlt : i < ks.length
    · have hw : IntKind.i64.wrap ((i : Int) + 1) = (i : Int) + 1 := i64_nat (by omega) (by omega)
      have hik := ih ks[i] (List.getElem_mem hlt)
      (repeat (first | with_reducible refine AW.seq ?_ | ((first | refine arun_kn 4 rfl (fun C hC => ?_) | refine arunD_kn 4 rfl (fun C hC => ?_)); (repeat ((conv => whnf); simp [hlt, hw, List.length_map])); refine hC _ ?_; clear hC C; simp only [List.drop, Nat.reduceAdd]) | ((first | refine arun_kn 1 rfl (fun C hC => ?_) | refine arunD_kn 1 rfl (fun C hC => ?_)); (repeat ((conv => whnf); simp [hlt, hw, List.length_map])); refine hC _ ?_; clear hC C; simp only [List.drop, Nat.reduceAdd]) | (refine arun_skip ?_ ?_; (focus (simp [awant, hlt, hw, List.length_map]; done))) | (refine arun_c0 (hik) ?_; rintro _ rfl) | (refine arunD_c (0) (hik) ?_; rintro _ rfl; intro _) | (refine AW.regionK [] (fun K hK => ?_)) | (refine AW.regionDK [] (pcs [(8, 0, fun r => r = .bool true)] []) (by kernel_rfl) (by kernel_rfl) (fun K hK => ?_)) | (refine AW.condT ?_ ?_; (focus (simp [aev, hlt, hw, List.length_map]; done))) | (refine AW.condF ?_ ?_; (focus (simp [aev, hlt, hw, List.length_map]; done))) | with_reducible refine AW.block ?_ | ((first | ((first | refine arun_nil ?_ | refine arunD_nil ?_); refine hK _ ?_; clear hK K) | refine AW.skip ?_ | refine AW.exit ?_ | refine AW.ret ?_); simp only [thenA_exit, inBlockA_exit, if_true, if_false, Nat.reduceEqDiff, thenA_normal, inBlockA_normal, reduceIte, thenA_ret, inBlockA_ret, endQ_ret, endR_ret, endG_ret, endQ_normal, endR_normal, endG_normal])))
      exact ⟨i + 1, by omega, by omega, less_a⟩
    · (repeat (first | with_reducible refine AW.seq ?_ | ((first | refine arun_kn 4 rfl (fun C hC => ?_) | refine arunD_kn 4 rfl (fun C hC => ?_)); (repeat ((conv => whnf); simp [hlt, List.length_map])); refine hC _ ?_; clear hC C; simp only [List.drop, Nat.reduceAdd]) | ((first | refine arun_kn 1 rfl (fun C hC => ?_) | refine arunD_kn 1 rfl (fun C hC => ?_)); (repeat ((conv => whnf); simp [hlt, List.length_map])); refine hC _ ?_; clear hC C; simp only [List.drop, Nat.reduceAdd]) | (refine arun_skip ?_ ?_; (focus (simp [awant, hlt, List.length_map]; done))) | (refine AW.regionK [] (fun K hK => ?_)) | (refine AW.regionDK [] (pcs [] []) (by kernel_rfl) (by kernel_rfl) (fun K hK => ?_)) | (refine AW.condT ?_ ?_; (focus (simp [aev, hlt, List.length_map]; done))) | (refine AW.condF ?_ ?_; (focus (simp [aev, hlt, List.length_map]; done))) | with_reducible refine AW.block ?_ | ((first | ((first | refine arun_nil ?_ | refine arunD_nil ?_); refine hK _ ?_; clear hK K) | refine AW.skip ?_ | refine AW.exit ?_ | refine AW.ret ?_); simp only [thenA_exit, inBlockA_exit, if_true, if_false, Nat.reduceEqDiff, thenA_normal, inBlockA_normal, reduceIte, thenA_ret, inBlockA_ret, endQ_ret, endR_ret, endG_ret, endQ_normal, endR_normal, endG_normal])))
      exact ⟨.bool true, by simp [ares, aresL], pur_bool, rfl⟩
theorem equalNode_step (n : Nd) (hs : Sml n) (t t' : VC) (ih : ∀ k ∈ n.kids, AC Tryd.prog 40 [nodeA k, nodeA k] 0 (fun r => r = .bool true)) : AC Tryd.prog 40 [nodeT t n, nodeT t' n] 0 (fun r => r = .bool true) := by
  have hs1 := hs.names
  have hs2 := hs.kids
  have p1 := equalTexts_AC t t' n.names n.names (by omega)
  have p2 := equalNodes_step .loose .loose n.kids (by omega) ih
  rw [eqT_refl] at p1
  refine AC.of tab_ok mixed_ok Tryd.func40 (by rfl) (by kernel_rfl) ?_; rintro ⟨P, T, hT, hm, w0, S0, rd0, k0⟩ hP hTT; dsimp only at hP hTT; subst hP hTT; unfold initSt; rw [Tryd.ntmps40]
  unfold nodeT
  rw [nodeTL_eq, nodeTL_eq]
  (repeat (first | with_reducible refine AW.seq ?_ | ((first | refine arun_kn 4 rfl (fun C hC => ?_) | refine arunD_kn 4 rfl (fun C hC => ?_)); (repeat ((conv => whnf); simp [eqs_self', nodeTL_eq])); refine hC _ ?_; clear hC C; simp only [List.drop, Nat.reduceAdd]) | ((first | refine arun_kn 1 rfl (fun C hC => ?_) | refine arunD_kn 1 rfl (fun C hC => ?_)); (repeat ((conv => whnf); simp [eqs_self', nodeTL_eq])); refine hC _ ?_; clear hC C; simp only [List.drop, Nat.reduceAdd]) | (refine arun_skip ?_ ?_; (focus (simp [awant, eqs_self', nodeTL_eq]; done))) | (refine arun_c0 (p1) ?_; rintro _ rfl) | (refine arun_c0 (p2) ?_; rintro _ rfl) | (refine AW.regionK [] (fun K hK => ?_)) | (refine AW.regionDK [] (pcs [] []) (by kernel_rfl) (by kernel_rfl) (fun K hK => ?_)) | (refine AW.condT ?_ ?_; (focus (simp [aev, eqs_self', nodeTL_eq]; done))) | (refine AW.condF ?_ ?_; (focus (simp [aev, eqs_self', nodeTL_eq]; done))) | with_reducible refine AW.block ?_ | ((first | ((first | refine arun_nil ?_ | refine arunD_nil ?_); refine hK _ ?_; clear hK K) | refine AW.skip ?_ | refine AW.exit ?_ | refine AW.ret ?_); simp only [thenA_exit, inBlockA_exit, if_true, if_false, Nat.reduceEqDiff, thenA_normal, inBlockA_normal, reduceIte, thenA_ret, inBlockA_ret, endQ_ret, endR_ret, endG_ret, endQ_normal, endR_normal, endG_normal])))
  exact ⟨.bool true, by simp [ares, aresL], pur_bool, rfl⟩
theorem equalNode_AC : ∀ n, Sml n → ∀ t t', AC Tryd.prog 40 [nodeT t n, nodeT t' n] 0 (fun r => r = .bool true) := Nd.ind' _ (fun n ih hs t t' =>
  equalNode_step n hs t t' (fun k hk => by have := ih k hk (hs.kid hk) .loose .loose; rwa [nodeT_loose] at this))
end Go.Proofs.YtfjaobfaepjfnaaDoor.Eng
-- EV: rows skip
namespace Go.Proofs.YtfjaobfaepjfnaaDoor.Eng
open Go Go.RowKit
attribute [local simp] big size_mk ASt.pay Option.map_map Function.comp_def awant aop acall ado aev ofVal ofVal0 ASt.put ASt.add ASt.turn ASt.kill abox aalloc astore aload aloadD astoreD idOf ASt.at cellsTo afieldAddr afield aindexAddr aindex alen abin aint acmp astr aun apick aextract anil aslice abound abuild afill abuildSlice asCells aps avCells over upd aappend asrc amax amin aconv mkSt slots rowsOf_cons rowsOf_nil usedOf_cons usedOf_nil ZK.av List.replicate ASt.back ASt.addL ASt.killL nodeA nodeT nodeTL_eq nodeL_eq strsE_get strsE_len intsE_get intsE_len strsE_at intsE_at nodeN namesRow nodeO kidsRow tab2 tab3 tab4 tab5 tab6 tab7 tab8 tab9 tab10 tab11 tab12 tab13 tab14 tab15 tab16 tab17 tab18 tab19 tab21 tab22 tab23 tab24 tab25 tab26 tab28 tab29 tab30 tab31 tab42 tab43 tab44 tab46 tab63 tab64 tab67 tab68 tab75 tab98 tab100 tab101 tab105 tab106 tab107 tab122 tab123 tab125 tab128 tab138 tab144 tab151 tab152 tab157 tab158 tab160 tab161 tab162
end Go.Proofs.YtfjaobfaepjfnaaDoor.Eng
namespace Go.Proofs.YtfjaobfaepjfnaaDoor.Eng
open Go Go.RowKit
theorem countL_take {l : List Nd} {i : Nat} (h : i < l.length) : countL (l.take (i + 1)) = countL (l.take i) + l[i].count := by
  rw [List.take_add_one, List.getElem?_eq_getElem h, Option.toList_some, countL_snoc]
theorem namesFrom_plain : ∀ (xs : List ByteArray) (p : Option ByteArray), namesFrom p xs = true → ∀ x ∈ xs, plainT x = true
  | [], _, _ => by simp
  | x :: xs, p, h => by
    simp only [namesFrom, Bool.and_eq_true] at h
    intro y hy
    rcases List.mem_cons.1 hy with rfl | hy
    · exact h.1.1
    · exact namesFrom_plain xs _ h.2 y hy
end Go.Proofs.YtfjaobfaepjfnaaDoor.Eng
namespace Go.Proofs.YtfjaobfaepjfnaaDoor.Eng
open Go Go.RowKit
theorem Shp.kd {m : Nd} (h : Shp m) {k : Nat} (hk : k < m.kids.length) : m.kind = 4 ∨ m.kind = 3 := by
  by_cases h4 : m.kind = 4
  · exact .inl h4
  · by_cases h3 : m.kind = 3
    · exact .inr h3
    · have := h.leaf h4 h3; omega
theorem countL_set : ∀ (l : List Nd) (k : Nat) (y : Nd) (hk : k < l.length), y.count ≤ l[k].count → countL (l.set k y) ≤ countL l
  | [], _, _, hk, _ => by cases hk
  | a :: l, 0, y, _, h => by rw [List.set_cons_zero]; simp only [countL]; simp at h; omega
  | a :: l, k + 1, y, hk, h => by
    rw [List.set_cons_succ]
    simp only [countL]
    have := countL_set l k y (by simpa using hk) (by simpa using h)
    omega
end Go.Proofs.YtfjaobfaepjfnaaDoor.Eng
-- EV: fresh
namespace Go.Proofs.YtfjaobfaepjfnaaDoor.Eng
open Go Go.RowKit
attribute [local simp] big size_mk ASt.pay Option.map_map Function.comp_def awant aop acall ado aev ofVal ofVal0 ASt.put ASt.add ASt.turn ASt.kill abox aalloc astore aload aloadD astoreD idOf ASt.at cellsTo afieldAddr afield aindexAddr aindex alen abin aint acmp astr aun apick aextract anil aslice abound abuild afill abuildSlice asCells aps avCells over upd aappend asrc amax amin aconv mkSt slots rowsOf_cons rowsOf_nil usedOf_cons usedOf_nil ZK.av List.replicate ASt.back ASt.addL ASt.killL nodeA nodeT nodeTL_eq nodeL_eq strsE_get strsE_len intsE_get intsE_len strsE_at intsE_at tab2 tab3 tab4 tab5 tab6 tab7 tab8 tab9 tab10 tab11 tab12 tab13 tab14 tab15 tab16 tab17 tab18 tab19 tab21 tab22 tab23 tab24 tab25 tab26 tab28 tab29 tab30 tab31 tab42 tab43 tab44 tab46 tab63 tab64 tab67 tab68 tab75 tab98 tab100 tab101 tab105 tab106 tab107 tab122 tab123 tab125 tab128 tab138 tab144 tab151 tab152 tab157 tab158 tab160 tab161 tab162
def ckN (m : Nd) : Option Nd := if validB m then some m else none
def setO (n : Nd) (p : List ByteArray) (v : Nd) : Option Nd := if validB n && pathB p && validB v then (setS n p v).bind ckN else none
set_option maxRecDepth 100000
set_option maxHeartbeats 8000000
theorem setKF (v m : Nd) (hv : Sml v) : ACF Tryd.prog 80 [nodeA m, .eptr .loose (nodeL v)] 0 (rNB v true) := by
  have p4 := implCopyF_ACF v hv
  refine ACF.weak ?_
  unfold nodeA at p4 ⊢
  rw [nodeL_eq] at p4
  rw [nodeL_eq m, nodeL_eq v]
  refine ACF.of tab_ok mixed_ok Tryd.func80 (by rfl) (by kernel_rfl) ?_; rintro ⟨P, T, hT, hm, w0, S0, rd0, k0⟩ hP hTT hN; dsimp only at hP hTT hN; subst hP hTT; dsimp only; unfold initSt; rw [Tryd.ntmps80]
  (repeat (first | with_reducible refine AW.seq ?_ | ((first | refine arun_kn 4 rfl (fun C hC => ?_) | refine arunD_kn 4 rfl (fun C hC => ?_)); (repeat ((conv => whnf); simp)); refine hC _ ?_; clear hC C; simp only [List.drop, Nat.reduceAdd]) | ((first | refine arun_kn 1 rfl (fun C hC => ?_) | refine arunD_kn 1 rfl (fun C hC => ?_)); (repeat ((conv => whnf); simp)); refine hC _ ?_; clear hC C; simp only [List.drop, Nat.reduceAdd]) | (refine arun_skip ?_ ?_; (focus (simp [awant]; done))) | (refine arun_cF (0) (p4) ?_; (rintro _ ⟨l, hl, hlp, rfl⟩ hA)) | (refine arunD_cF (0) (p4) (by refine ⟨_, rfl, ?_⟩; first | exact node_in _ | exact storeA_in _ | exact item_in _ | exact in_int | exact in_bool | exact in_str | (simp [NoId, in_tup, in_agg, in_int, in_bool, in_str, node_in, nodes_in, strs_in]; done)) ?_; (rintro _ ⟨l, hl, hlp, rfl⟩ hA); intro _) | (refine AW.regionK [] (fun K hK => ?_)) | (refine AW.regionDK [] (pcs [] []) (by kernel_rfl) (by kernel_rfl) (fun K hK => ?_)) | (refine AW.condT ?_ ?_; (focus (simp [aev]; done))) | (refine AW.condF ?_ ?_; (focus (simp [aev]; done))) | with_reducible refine AW.block ?_ | ((first | ((first | refine arun_nil ?_ | refine arunD_nil ?_); refine hK _ ?_; clear hK K) | refine AW.skip ?_ | refine AW.exit ?_ | refine AW.ret ?_); simp only [thenA_exit, inBlockA_exit, if_true, if_false, Nat.reduceEqDiff, thenA_normal, inBlockA_normal, reduceIte, thenA_ret, inBlockA_ret, endQ_ret, endR_ret, endG_ret, endQ_normal, endR_normal, endG_normal, endF_ret, endF_normal])))
  have hA' : ∀ b ∈ l.fp, ¬ w0.A b := fun b hb => hA b (by rw [at_agg, ← labL_eq]; exact hb)
  exact ⟨.tup [labA l, .bool true], by simp [labA, labL_eq, ares, aresL, upd, rowsOf_cons], tup2_pur (lab_pur l) pur_bool, fun b hb => by rw [at_tup2] at hb; exact hN.ge (hA' b hb), _, Wk.refl _, fun _ h => h, l, hl, hlp, rfl⟩
theorem checkedF_no (l : Lb) (b : Bool) (h : (b && validB l.nd) = false) : AC Tryd.prog 79 [.agg [.int .i64 l.kind, .int .i64 l.num, .str l.text, .view (.fr l.nb) 1 (strsE l.names), .view (.fr l.kb) 5 (l.kids.map labL)], .bool b] 0 (fun r => r = .tup [.agg [.int .i64 0, .int .i64 0, .str ⟨#[]⟩, .view .tight 0 [], .view .tight 0 []], .bool false]) := by
  have p1 : AC Tryd.prog 41 [labA l] 0 (fun r => r = .bool (validB l.nd)) := AC.arg (ValidNode_AC l.nd .loose) (.cons (by rw [nodeT_loose]; exact .agg (labL_wk l)) .nil)
  have hc := lab_clo l
  unfold labA at p1 hc
  rw [labL_eq] at p1 hc
  refine AC.of tab_ok mixed_ok Tryd.func79 (by rfl) (by kernel_rfl) ?_; rintro ⟨P, T, hT, hm, w0, S0, rd0, k0⟩ hP hTT; dsimp only at hP hTT; subst hP hTT; unfold initSt; rw [Tryd.ntmps79]
  cases b
  · (repeat (first | with_reducible refine AW.seq ?_ | ((first | refine arun_kn 4 rfl (fun C hC => ?_) | refine arunD_kn 4 rfl (fun C hC => ?_)); (repeat ((conv => whnf); simp)); refine hC _ ?_; clear hC C; simp only [List.drop, Nat.reduceAdd]) | ((first | refine arun_kn 1 rfl (fun C hC => ?_) | refine arunD_kn 1 rfl (fun C hC => ?_)); (repeat ((conv => whnf); simp)); refine hC _ ?_; clear hC C; simp only [List.drop, Nat.reduceAdd]) | (refine arun_skip ?_ ?_; (focus (simp [awant]; done))) | (refine AW.regionK [] (fun K hK => ?_)) | (refine AW.regionDK [] (pcs [] []) (by kernel_rfl) (by kernel_rfl) (fun K hK => ?_)) | (refine AW.condT ?_ ?_; (focus (simp [aev]; done))) | (refine AW.condF ?_ ?_; (focus (simp [aev]; done))) | with_reducible refine AW.block ?_ | ((first | ((first | refine arun_nil ?_ | refine arunD_nil ?_); refine hK _ ?_; clear hK K) | refine AW.skip ?_ | refine AW.exit ?_ | refine AW.ret ?_); simp only [thenA_exit, inBlockA_exit, if_true, if_false, Nat.reduceEqDiff, thenA_normal, inBlockA_normal, reduceIte, thenA_ret, inBlockA_ret, endQ_ret, endR_ret, endG_ret, endQ_normal, endR_normal, endG_normal, endF_ret, endF_normal])))
    exact ⟨.tup [.agg [.int .i64 0, .int .i64 0, .str ⟨#[]⟩, .view .tight 0 [], .view .tight 0 []], .bool false], by simp [ares, aresL, upd, rowsOf_cons], none_end.1, rfl⟩
  · rw [Bool.true_and] at h
    rw [h] at p1
    (repeat (first | with_reducible refine AW.seq ?_ | ((first | refine arun_kn 4 rfl (fun C hC => ?_) | refine arunD_kn 4 rfl (fun C hC => ?_)); (repeat ((conv => whnf); simp)); refine hC _ ?_; clear hC C; simp only [List.drop, Nat.reduceAdd]) | ((first | refine arun_kn 1 rfl (fun C hC => ?_) | refine arunD_kn 1 rfl (fun C hC => ?_)); (repeat ((conv => whnf); simp)); refine hC _ ?_; clear hC C; simp only [List.drop, Nat.reduceAdd]) | (refine arun_skip ?_ ?_; (focus (simp [awant]; done))) | (refine arun_c0 (p1) ?_; rintro _ rfl) | (refine AW.regionK [] (fun K hK => ?_)) | (refine AW.regionDK [] (pcs [] []) (by kernel_rfl) (by kernel_rfl) (fun K hK => ?_)) | (refine AW.condT ?_ ?_; (focus (simp [aev]; done))) | (refine AW.condF ?_ ?_; (focus (simp [aev]; done))) | with_reducible refine AW.block ?_ | ((first | ((first | refine arun_nil ?_ | refine arunD_nil ?_); refine hK _ ?_; clear hK K) | refine AW.skip ?_ | refine AW.exit ?_ | refine AW.ret ?_); simp only [thenA_exit, inBlockA_exit, if_true, if_false, Nat.reduceEqDiff, thenA_normal, inBlockA_normal, reduceIte, thenA_ret, inBlockA_ret, endQ_ret, endR_ret, endG_ret, endQ_normal, endR_normal, endG_normal, endF_ret, endF_normal])))
    exact ⟨.tup [.agg [.int .i64 0, .int .i64 0, .str ⟨#[]⟩, .view .tight 0 [], .view .tight 0 []], .bool false], by simp [ares, aresL, upd, rowsOf_cons], none_end.1, rfl⟩
theorem checkedF_yes (l : Lb) (h : validB l.nd = true) : AC Tryd.prog 79 [.agg [.int .i64 l.kind, .int .i64 l.num, .str l.text, .view (.fr l.nb) 1 (strsE l.names), .view (.fr l.kb) 5 (l.kids.map labL)], .bool true] 0 (fun r => r = .tup [.agg [.int .i64 l.kind, .int .i64 l.num, .str l.text, .view (.fr l.nb) 1 (strsE l.names), .view (.fr l.kb) 5 (l.kids.map labL)], .bool true]) := by
  have p1 : AC Tryd.prog 41 [labA l] 0 (fun r => r = .bool (validB l.nd)) := AC.arg (ValidNode_AC l.nd .loose) (.cons (by rw [nodeT_loose]; exact .agg (labL_wk l)) .nil)
  have hc := lab_clo l
  have hp := lab_pur l
  unfold labA at p1 hc hp
  rw [labL_eq] at p1 hc hp
  rw [h] at p1
  refine AC.of tab_ok mixed_ok Tryd.func79 (by rfl) (by kernel_rfl) ?_; rintro ⟨P, T, hT, hm, w0, S0, rd0, k0⟩ hP hTT; dsimp only at hP hTT; subst hP hTT; unfold initSt; rw [Tryd.ntmps79]
  (repeat (first | with_reducible refine AW.seq ?_ | ((first | refine arun_kn 4 rfl (fun C hC => ?_) | refine arunD_kn 4 rfl (fun C hC => ?_)); (repeat ((conv => whnf); simp)); refine hC _ ?_; clear hC C; simp only [List.drop, Nat.reduceAdd]) | ((first | refine arun_kn 1 rfl (fun C hC => ?_) | refine arunD_kn 1 rfl (fun C hC => ?_)); (repeat ((conv => whnf); simp)); refine hC _ ?_; clear hC C; simp only [List.drop, Nat.reduceAdd]) | (refine arun_skip ?_ ?_; (focus (simp [awant]; done))) | (refine arun_c0 (p1) ?_; rintro _ rfl) | (refine AW.regionK [] (fun K hK => ?_)) | (refine AW.regionDK [] (pcs [] []) (by kernel_rfl) (by kernel_rfl) (fun K hK => ?_)) | (refine AW.condT ?_ ?_; (focus (simp [aev]; done))) | (refine AW.condF ?_ ?_; (focus (simp [aev]; done))) | with_reducible refine AW.block ?_ | ((first | ((first | refine arun_nil ?_ | refine arunD_nil ?_); refine hK _ ?_; clear hK K) | refine AW.skip ?_ | refine AW.exit ?_ | refine AW.ret ?_); simp only [thenA_exit, inBlockA_exit, if_true, if_false, Nat.reduceEqDiff, thenA_normal, inBlockA_normal, reduceIte, thenA_ret, inBlockA_ret, endQ_ret, endR_ret, endG_ret, endQ_normal, endR_normal, endG_normal, endF_ret, endF_normal])))
  exact ⟨.tup [.agg [.int .i64 l.kind, .int .i64 l.num, .str l.text, .view (.fr l.nb) 1 (strsE l.names), .view (.fr l.kb) 5 (l.kids.map labL)], .bool true], by simp [ares, aresL, upd, rowsOf_cons], tup2_pur hp pur_bool, rfl⟩
theorem SetNode_ACF (t : VC) (n : Nd) (p : List ByteArray) (v : Nd) : ACF Tryd.prog 38 [nodeA n, .view t 1 (strsE p), nodeA v] 0 (rNB ((setO n p v).getD Nd.zero) (setO n p v).isSome) := by
  refine ACF.weak ?_
  have p1 := ValidNode_AC n .loose
  have p2 := isPath_AC p t
  have p3 := ValidNode_AC v .loose
  have hcn := node_clo n
  have hcv : Clo (.fn 80 [.eptr .loose (nodeL v)]) := clo_fn (fun c hc => by
    rw [List.mem_singleton.1 hc]
    exact clo_eptr (fun c hc => (nodeL_pur v c hc).clo))
  unfold nodeA at hcn ⊢
  rw [nodeL_eq n] at hcn ⊢
  rw [nodeL_eq v] at hcv ⊢
  refine ACF.of tab_ok mixed_ok Tryd.func38 (by rfl) (by kernel_rfl) ?_; rintro ⟨P, T, hT, hm, w0, S0, rd0, k0⟩ hP hTT hN; dsimp only at hP hTT hN; subst hP hTT; dsimp only; unfold initSt; rw [Tryd.ntmps38]
  (repeat (first | with_reducible refine AW.seq ?_ | ((first | refine arun_kn 4 rfl (fun C hC => ?_) | refine arunD_kn 4 rfl (fun C hC => ?_)); (repeat ((conv => whnf); simp)); refine hC _ ?_; clear hC C; simp only [List.drop, Nat.reduceAdd]) | ((first | refine arun_kn 1 rfl (fun C hC => ?_) | refine arunD_kn 1 rfl (fun C hC => ?_)); (repeat ((conv => whnf); simp)); refine hC _ ?_; clear hC C; simp only [List.drop, Nat.reduceAdd]) | (refine arun_skip ?_ ?_; (focus (simp [awant]; done))) | (refine AW.condT ?_ ?_; (focus (simp [aev]; done))) | (refine AW.condF ?_ ?_; (focus (simp [aev]; done))) | with_reducible refine AW.block ?_ | ((first | ((first | refine arun_nil ?_ | refine arunD_nil ?_); refine hK _ ?_; clear hK K) | refine AW.skip ?_ | refine AW.exit ?_ | refine AW.ret ?_); simp only [thenA_exit, inBlockA_exit, if_true, if_false, Nat.reduceEqDiff, thenA_normal, inBlockA_normal, reduceIte, thenA_ret, inBlockA_ret, endQ_ret, endR_ret, endG_ret, endQ_normal, endR_normal, endG_normal, endF_ret, endF_normal])))
  refine AW.regionK [] (fun K hK => ?_)
  (repeat (first | with_reducible refine AW.seq ?_ | ((first | refine arun_kn 4 rfl (fun C hC => ?_) | refine arunD_kn 4 rfl (fun C hC => ?_)); (repeat ((conv => whnf); simp)); refine hC _ ?_; clear hC C; simp only [List.drop, Nat.reduceAdd]) | ((first | refine arun_kn 1 rfl (fun C hC => ?_) | refine arunD_kn 1 rfl (fun C hC => ?_)); (repeat ((conv => whnf); simp)); refine hC _ ?_; clear hC C; simp only [List.drop, Nat.reduceAdd]) | (refine arun_skip ?_ ?_; (focus (simp [awant]; done))) | (refine AW.condT ?_ ?_; (focus (simp [aev]; done))) | (refine AW.condF ?_ ?_; (focus (simp [aev]; done))) | with_reducible refine AW.block ?_ | ((first | ((first | refine arun_nil ?_ | refine arunD_nil ?_); refine hK _ ?_; clear hK K) | refine AW.skip ?_ | refine AW.exit ?_ | refine AW.ret ?_); simp only [thenA_exit, inBlockA_exit, if_true, if_false, Nat.reduceEqDiff, thenA_normal, inBlockA_normal, reduceIte, thenA_ret, inBlockA_ret, endQ_ret, endR_ret, endG_ret, endQ_normal, endR_normal, endG_normal, endF_ret, endF_normal])))
  refine AW.holdBox 5 5 (r := ⟨true, 26, 5, [[.int .i64 v.kind, .int .i64 v.num, .str v.text, .view .loose 1 (strsE v.names), .view .loose 5 (v.kids.map nodeL)]]⟩) rfl (by simp [upd, rowsOf_cons]) rfl ?_
  unfold ASt.holdBox
  cases h1 : validB n <;> rw [h1] at p1
  · have e : setO n p v = none := by unfold setO; rw [h1]; rfl
    rw [e]
    (repeat (first | with_reducible refine AW.seq ?_ | ((first | refine arun_kn 4 rfl (fun C hC => ?_) | refine arunD_kn 4 rfl (fun C hC => ?_)); (repeat ((conv => whnf); simp)); refine hC _ ?_; clear hC C; simp only [List.drop, Nat.reduceAdd]) | ((first | refine arun_kn 1 rfl (fun C hC => ?_) | refine arunD_kn 1 rfl (fun C hC => ?_)); (repeat ((conv => whnf); simp)); refine hC _ ?_; clear hC C; simp only [List.drop, Nat.reduceAdd]) | (refine arun_skip ?_ ?_; (focus (simp [awant]; done))) | (refine arun_c0 (p1) ?_; rintro _ rfl) | (refine arun_c0 (p2) ?_; rintro _ rfl) | (refine arun_c0 (p3) ?_; rintro _ rfl) | (refine AW.regionK [] (fun K hK => ?_)) | (refine AW.regionDK [] (pcs [] []) (by kernel_rfl) (by kernel_rfl) (fun K hK => ?_)) | (refine AW.condT ?_ ?_; (focus (simp [aev]; done))) | (refine AW.condF ?_ ?_; (focus (simp [aev]; done))) | with_reducible refine AW.block ?_ | ((first | ((first | refine arun_nil ?_ | refine arunD_nil ?_); refine hK _ ?_; clear hK K) | refine AW.skip ?_ | refine AW.exit ?_ | refine AW.ret ?_); simp only [thenA_exit, inBlockA_exit, if_true, if_false, Nat.reduceEqDiff, thenA_normal, inBlockA_normal, reduceIte, thenA_ret, inBlockA_ret, endQ_ret, endR_ret, endG_ret, endQ_normal, endR_normal, endG_normal, endF_ret, endF_normal])))
    obtain ⟨z1, z2, z3⟩ := rNB_none (r := .tup [node0 0 0 ⟨#[]⟩, .bool false]) rfl
    exact ⟨.tup [node0 0 0 ⟨#[]⟩, .bool false], by simp [node0, ares, aresL, upd, rowsOf_cons], z1, z2 _, z3⟩
  cases h2 : pathB p <;> rw [h2] at p2
  · have e : setO n p v = none := by unfold setO; rw [h1, h2]; rfl
    rw [e]
    (repeat (first | with_reducible refine AW.seq ?_ | ((first | refine arun_kn 4 rfl (fun C hC => ?_) | refine arunD_kn 4 rfl (fun C hC => ?_)); (repeat ((conv => whnf); simp)); refine hC _ ?_; clear hC C; simp only [List.drop, Nat.reduceAdd]) | ((first | refine arun_kn 1 rfl (fun C hC => ?_) | refine arunD_kn 1 rfl (fun C hC => ?_)); (repeat ((conv => whnf); simp)); refine hC _ ?_; clear hC C; simp only [List.drop, Nat.reduceAdd]) | (refine arun_skip ?_ ?_; (focus (simp [awant]; done))) | (refine arun_c0 (p1) ?_; rintro _ rfl) | (refine arun_c0 (p2) ?_; rintro _ rfl) | (refine arun_c0 (p3) ?_; rintro _ rfl) | (refine AW.regionK [] (fun K hK => ?_)) | (refine AW.regionDK [] (pcs [] []) (by kernel_rfl) (by kernel_rfl) (fun K hK => ?_)) | (refine AW.condT ?_ ?_; (focus (simp [aev]; done))) | (refine AW.condF ?_ ?_; (focus (simp [aev]; done))) | with_reducible refine AW.block ?_ | ((first | ((first | refine arun_nil ?_ | refine arunD_nil ?_); refine hK _ ?_; clear hK K) | refine AW.skip ?_ | refine AW.exit ?_ | refine AW.ret ?_); simp only [thenA_exit, inBlockA_exit, if_true, if_false, Nat.reduceEqDiff, thenA_normal, inBlockA_normal, reduceIte, thenA_ret, inBlockA_ret, endQ_ret, endR_ret, endG_ret, endQ_normal, endR_normal, endG_normal, endF_ret, endF_normal])))
    obtain ⟨z1, z2, z3⟩ := rNB_none (r := .tup [node0 0 0 ⟨#[]⟩, .bool false]) rfl
    exact ⟨.tup [node0 0 0 ⟨#[]⟩, .bool false], by simp [node0, ares, aresL, upd, rowsOf_cons], z1, z2 _, z3⟩
  cases h3 : validB v <;> rw [h3] at p3
  · have e : setO n p v = none := by unfold setO; rw [h1, h2, h3]; rfl
    rw [e]
    (repeat (first | with_reducible refine AW.seq ?_ | ((first | refine arun_kn 4 rfl (fun C hC => ?_) | refine arunD_kn 4 rfl (fun C hC => ?_)); (repeat ((conv => whnf); simp)); refine hC _ ?_; clear hC C; simp only [List.drop, Nat.reduceAdd]) | ((first | refine arun_kn 1 rfl (fun C hC => ?_) | refine arunD_kn 1 rfl (fun C hC => ?_)); (repeat ((conv => whnf); simp)); refine hC _ ?_; clear hC C; simp only [List.drop, Nat.reduceAdd]) | (refine arun_skip ?_ ?_; (focus (simp [awant]; done))) | (refine arun_c0 (p1) ?_; rintro _ rfl) | (refine arun_c0 (p2) ?_; rintro _ rfl) | (refine arun_c0 (p3) ?_; rintro _ rfl) | (refine AW.regionK [] (fun K hK => ?_)) | (refine AW.regionDK [] (pcs [] []) (by kernel_rfl) (by kernel_rfl) (fun K hK => ?_)) | (refine AW.condT ?_ ?_; (focus (simp [aev]; done))) | (refine AW.condF ?_ ?_; (focus (simp [aev]; done))) | with_reducible refine AW.block ?_ | ((first | ((first | refine arun_nil ?_ | refine arunD_nil ?_); refine hK _ ?_; clear hK K) | refine AW.skip ?_ | refine AW.exit ?_ | refine AW.ret ?_); simp only [thenA_exit, inBlockA_exit, if_true, if_false, Nat.reduceEqDiff, thenA_normal, inBlockA_normal, reduceIte, thenA_ret, inBlockA_ret, endQ_ret, endR_ret, endG_ret, endQ_normal, endR_normal, endG_normal, endF_ret, endF_normal])))
    obtain ⟨z1, z2, z3⟩ := rNB_none (r := .tup [node0 0 0 ⟨#[]⟩, .bool false]) rfl
    exact ⟨.tup [node0 0 0 ⟨#[]⟩, .bool false], by simp [node0, ares, aresL, upd, rowsOf_cons], z1, z2 _, z3⟩
  have e : setO n p v = (setS n p v).bind ckN := by unfold setO; rw [h1, h2, h3]; rfl
  rw [e]
  have hch := changeAt_ACF 80 [.eptr .loose (nodeL v)] ⟨clo_eptr (fun c hc => (nodeL_pur v c hc).clo), trivial⟩ (fun c hc => by
    rw [List.mem_singleton.1 hc]
    exact in_eptr.2 (nodeL_in v)) (fun _ => some v) p n t (Shp.of h1) (fun m _ => setKF v m (Shp.of h3).sml)
  rw [chgS_set] at hch
  unfold nodeA at hch
  rw [nodeL_eq n, nodeL_eq v] at hch
  cases hs : setS n p v with
  | none =>
    rw [hs] at hch
    replace hch := hch.mono (fun r h => rNB_X h)
    rw [Option.bind_none]
    (repeat (first | with_reducible refine AW.seq ?_ | ((first | refine arun_kn 4 rfl (fun C hC => ?_) | refine arunD_kn 4 rfl (fun C hC => ?_)); (repeat ((conv => whnf); simp)); refine hC _ ?_; clear hC C; simp only [List.drop, Nat.reduceAdd]) | ((first | refine arun_kn 1 rfl (fun C hC => ?_) | refine arunD_kn 1 rfl (fun C hC => ?_)); (repeat ((conv => whnf); simp)); refine hC _ ?_; clear hC C; simp only [List.drop, Nat.reduceAdd]) | (refine arun_skip ?_ ?_; (focus (simp [awant]; done))) | (refine arun_c0 (p1) ?_; rintro _ rfl) | (refine arun_c0 (p2) ?_; rintro _ rfl) | (refine arun_c0 (p3) ?_; rintro _ rfl) | (refine arun_cF (0) (hch) ?_; (rintro _ ⟨l, hl, hlp, rfl⟩ hA)) | (refine arunD_cF (0) (hch) (by refine ⟨_, rfl, ?_⟩; first | exact node_in _ | exact storeA_in _ | exact item_in _ | exact in_int | exact in_bool | exact in_str | (simp [NoId, in_tup, in_agg, in_int, in_bool, in_str, node_in, nodes_in, strs_in]; done)) ?_; (rintro _ ⟨l, hl, hlp, rfl⟩ hA); intro _) | (refine AW.regionK [] (fun K hK => ?_)) | (refine AW.regionDK [] (pcs [] []) (by kernel_rfl) (by kernel_rfl) (fun K hK => ?_)) | (refine AW.condT ?_ ?_; (focus (simp [aev]; done))) | (refine AW.condF ?_ ?_; (focus (simp [aev]; done))) | with_reducible refine AW.block ?_ | ((first | ((first | refine arun_nil ?_ | refine arunD_nil ?_); refine hK _ ?_; clear hK K) | refine AW.skip ?_ | refine AW.exit ?_ | refine AW.ret ?_); simp only [thenA_exit, inBlockA_exit, if_true, if_false, Nat.reduceEqDiff, thenA_normal, inBlockA_normal, reduceIte, thenA_ret, inBlockA_ret, endQ_ret, endR_ret, endG_ret, endQ_normal, endR_normal, endG_normal, endF_ret, endF_normal])))
    have hcl := lab_clo l
    unfold labA at hcl
    rw [labL_eq] at hcl
    have p4 := checkedF_no l false rfl
    (repeat (first | with_reducible refine AW.seq ?_ | ((first | refine arun_kn 4 rfl (fun C hC => ?_) | refine arunD_kn 4 rfl (fun C hC => ?_)); (repeat ((conv => whnf); simp)); refine hC _ ?_; clear hC C; simp only [List.drop, Nat.reduceAdd]) | ((first | refine arun_kn 1 rfl (fun C hC => ?_) | refine arunD_kn 1 rfl (fun C hC => ?_)); (repeat ((conv => whnf); simp)); refine hC _ ?_; clear hC C; simp only [List.drop, Nat.reduceAdd]) | (refine arun_skip ?_ ?_; (focus (simp [awant]; done))) | (refine arun_c0 (p4) ?_; rintro _ rfl) | (refine AW.regionK [] (fun K hK => ?_)) | (refine AW.regionDK [] (pcs [] []) (by kernel_rfl) (by kernel_rfl) (fun K hK => ?_)) | (refine AW.condT ?_ ?_; (focus (simp [aev]; done))) | (refine AW.condF ?_ ?_; (focus (simp [aev]; done))) | with_reducible refine AW.block ?_ | ((first | ((first | refine arun_nil ?_ | refine arunD_nil ?_); refine hK _ ?_; clear hK K) | refine AW.skip ?_ | refine AW.exit ?_ | refine AW.ret ?_); simp only [thenA_exit, inBlockA_exit, if_true, if_false, Nat.reduceEqDiff, thenA_normal, inBlockA_normal, reduceIte, thenA_ret, inBlockA_ret, endQ_ret, endR_ret, endG_ret, endQ_normal, endR_normal, endG_normal, endF_ret, endF_normal])))
    obtain ⟨z1, z2, z3⟩ := rNB_none (r := .tup [node0 0 0 ⟨#[]⟩, .bool false]) rfl
    exact ⟨.tup [node0 0 0 ⟨#[]⟩, .bool false], by simp [node0, ares, aresL, upd, rowsOf_cons], z1, z2 _, z3⟩
  | some m =>
    rw [hs] at hch
    replace hch := hch.mono (fun r h => rNB_X h)
    rw [Option.bind_some]
    cases hm : validB m
    · have e : ckN m = none := by unfold ckN; rw [hm]; rfl
      rw [e]
      (repeat (first | with_reducible refine AW.seq ?_ | ((first | refine arun_kn 4 rfl (fun C hC => ?_) | refine arunD_kn 4 rfl (fun C hC => ?_)); (repeat ((conv => whnf); simp)); refine hC _ ?_; clear hC C; simp only [List.drop, Nat.reduceAdd]) | ((first | refine arun_kn 1 rfl (fun C hC => ?_) | refine arunD_kn 1 rfl (fun C hC => ?_)); (repeat ((conv => whnf); simp)); refine hC _ ?_; clear hC C; simp only [List.drop, Nat.reduceAdd]) | (refine arun_skip ?_ ?_; (focus (simp [awant]; done))) | (refine arun_c0 (p1) ?_; rintro _ rfl) | (refine arun_c0 (p2) ?_; rintro _ rfl) | (refine arun_c0 (p3) ?_; rintro _ rfl) | (refine arun_cF (0) (hch) ?_; (rintro _ ⟨l, hl, hlp, rfl⟩ hA)) | (refine arunD_cF (0) (hch) (by refine ⟨_, rfl, ?_⟩; first | exact node_in _ | exact storeA_in _ | exact item_in _ | exact in_int | exact in_bool | exact in_str | (simp [NoId, in_tup, in_agg, in_int, in_bool, in_str, node_in, nodes_in, strs_in]; done)) ?_; (rintro _ ⟨l, hl, hlp, rfl⟩ hA); intro _) | (refine AW.regionK [] (fun K hK => ?_)) | (refine AW.regionDK [] (pcs [] []) (by kernel_rfl) (by kernel_rfl) (fun K hK => ?_)) | (refine AW.condT ?_ ?_; (focus (simp [aev]; done))) | (refine AW.condF ?_ ?_; (focus (simp [aev]; done))) | with_reducible refine AW.block ?_ | ((first | ((first | refine arun_nil ?_ | refine arunD_nil ?_); refine hK _ ?_; clear hK K) | refine AW.skip ?_ | refine AW.exit ?_ | refine AW.ret ?_); simp only [thenA_exit, inBlockA_exit, if_true, if_false, Nat.reduceEqDiff, thenA_normal, inBlockA_normal, reduceIte, thenA_ret, inBlockA_ret, endQ_ret, endR_ret, endG_ret, endQ_normal, endR_normal, endG_normal, endF_ret, endF_normal])))
      have hcl := lab_clo l
      unfold labA at hcl
      rw [labL_eq] at hcl
      have hl' : l.nd = m := hl
      have p4 := checkedF_no l true (by rw [hl', hm]; rfl)
      (repeat (first | with_reducible refine AW.seq ?_ | ((first | refine arun_kn 4 rfl (fun C hC => ?_) | refine arunD_kn 4 rfl (fun C hC => ?_)); (repeat ((conv => whnf); simp)); refine hC _ ?_; clear hC C; simp only [List.drop, Nat.reduceAdd]) | ((first | refine arun_kn 1 rfl (fun C hC => ?_) | refine arunD_kn 1 rfl (fun C hC => ?_)); (repeat ((conv => whnf); simp)); refine hC _ ?_; clear hC C; simp only [List.drop, Nat.reduceAdd]) | (refine arun_skip ?_ ?_; (focus (simp [awant]; done))) | (refine arun_c0 (p4) ?_; rintro _ rfl) | (refine AW.regionK [] (fun K hK => ?_)) | (refine AW.regionDK [] (pcs [] []) (by kernel_rfl) (by kernel_rfl) (fun K hK => ?_)) | (refine AW.condT ?_ ?_; (focus (simp [aev]; done))) | (refine AW.condF ?_ ?_; (focus (simp [aev]; done))) | with_reducible refine AW.block ?_ | ((first | ((first | refine arun_nil ?_ | refine arunD_nil ?_); refine hK _ ?_; clear hK K) | refine AW.skip ?_ | refine AW.exit ?_ | refine AW.ret ?_); simp only [thenA_exit, inBlockA_exit, if_true, if_false, Nat.reduceEqDiff, thenA_normal, inBlockA_normal, reduceIte, thenA_ret, inBlockA_ret, endQ_ret, endR_ret, endG_ret, endQ_normal, endR_normal, endG_normal, endF_ret, endF_normal])))
      obtain ⟨z1, z2, z3⟩ := rNB_none (r := .tup [node0 0 0 ⟨#[]⟩, .bool false]) rfl
      exact ⟨.tup [node0 0 0 ⟨#[]⟩, .bool false], by simp [node0, ares, aresL, upd, rowsOf_cons], z1, z2 _, z3⟩
    · have e : ckN m = some m := by unfold ckN; rw [hm]; rfl
      rw [e]
      (repeat (first | with_reducible refine AW.seq ?_ | ((first | refine arun_kn 4 rfl (fun C hC => ?_) | refine arunD_kn 4 rfl (fun C hC => ?_)); (repeat ((conv => whnf); simp)); refine hC _ ?_; clear hC C; simp only [List.drop, Nat.reduceAdd]) | ((first | refine arun_kn 1 rfl (fun C hC => ?_) | refine arunD_kn 1 rfl (fun C hC => ?_)); (repeat ((conv => whnf); simp)); refine hC _ ?_; clear hC C; simp only [List.drop, Nat.reduceAdd]) | (refine arun_skip ?_ ?_; (focus (simp [awant]; done))) | (refine arun_c0 (p1) ?_; rintro _ rfl) | (refine arun_c0 (p2) ?_; rintro _ rfl) | (refine arun_c0 (p3) ?_; rintro _ rfl) | (refine arun_cF (0) (hch) ?_; (rintro _ ⟨l, hl, hlp, rfl⟩ hA)) | (refine arunD_cF (0) (hch) (by refine ⟨_, rfl, ?_⟩; first | exact node_in _ | exact storeA_in _ | exact item_in _ | exact in_int | exact in_bool | exact in_str | (simp [NoId, in_tup, in_agg, in_int, in_bool, in_str, node_in, nodes_in, strs_in]; done)) ?_; (rintro _ ⟨l, hl, hlp, rfl⟩ hA); intro _) | (refine AW.regionK [] (fun K hK => ?_)) | (refine AW.regionDK [] (pcs [] []) (by kernel_rfl) (by kernel_rfl) (fun K hK => ?_)) | (refine AW.condT ?_ ?_; (focus (simp [aev]; done))) | (refine AW.condF ?_ ?_; (focus (simp [aev]; done))) | with_reducible refine AW.block ?_ | ((first | ((first | refine arun_nil ?_ | refine arunD_nil ?_); refine hK _ ?_; clear hK K) | refine AW.skip ?_ | refine AW.exit ?_ | refine AW.ret ?_); simp only [thenA_exit, inBlockA_exit, if_true, if_false, Nat.reduceEqDiff, thenA_normal, inBlockA_normal, reduceIte, thenA_ret, inBlockA_ret, endQ_ret, endR_ret, endG_ret, endQ_normal, endR_normal, endG_normal, endF_ret, endF_normal])))
      have hcl := lab_clo l
      unfold labA at hcl
      rw [labL_eq] at hcl
      have hl' : l.nd = m := hl
      have p4 := checkedF_yes l (by rw [hl', hm])
      (repeat (first | with_reducible refine AW.seq ?_ | ((first | refine arun_kn 4 rfl (fun C hC => ?_) | refine arunD_kn 4 rfl (fun C hC => ?_)); (repeat ((conv => whnf); simp)); refine hC _ ?_; clear hC C; simp only [List.drop, Nat.reduceAdd]) | ((first | refine arun_kn 1 rfl (fun C hC => ?_) | refine arunD_kn 1 rfl (fun C hC => ?_)); (repeat ((conv => whnf); simp)); refine hC _ ?_; clear hC C; simp only [List.drop, Nat.reduceAdd]) | (refine arun_skip ?_ ?_; (focus (simp [awant]; done))) | (refine arun_c0 (p4) ?_; rintro _ rfl) | (refine AW.regionK [] (fun K hK => ?_)) | (refine AW.regionDK [] (pcs [] []) (by kernel_rfl) (by kernel_rfl) (fun K hK => ?_)) | (refine AW.condT ?_ ?_; (focus (simp [aev]; done))) | (refine AW.condF ?_ ?_; (focus (simp [aev]; done))) | with_reducible refine AW.block ?_ | ((first | ((first | refine arun_nil ?_ | refine arunD_nil ?_); refine hK _ ?_; clear hK K) | refine AW.skip ?_ | refine AW.exit ?_ | refine AW.ret ?_); simp only [thenA_exit, inBlockA_exit, if_true, if_false, Nat.reduceEqDiff, thenA_normal, inBlockA_normal, reduceIte, thenA_ret, inBlockA_ret, endQ_ret, endR_ret, endG_ret, endQ_normal, endR_normal, endG_normal, endF_ret, endF_normal])))
      have hA' : ∀ b ∈ l.fp, ¬ w0.A b := fun b hb => hA b (by rw [at_tup, atL_cons, at_agg, ← labL_eq]; exact List.mem_append_left _ hb)
      exact ⟨.tup [labA l, .bool true], by simp [labA, labL_eq, ares, aresL, upd, rowsOf_cons], tup2_pur (lab_pur l) pur_bool, fun b hb => by rw [at_tup2] at hb; exact hN.ge (hA' b hb), _, Wk.refl _, fun _ h => h, l, hl', hlp, rfl⟩
theorem specChk (m : Nd) (b : Bool) : AC Tryd.prog 77 [nodeA m, .bool b] 0 (fun r => r = optA (if b then ckN m else none)) := by
  refine AC.weak ?_
  have p1 := validNode_AC m .loose
  unfold nodeA
  rw [nodeL_eq]
  cases b
  · have e : (if false then ckN m else none) = none := rfl
    refine AC.of tab_ok mixed_ok Tryd.func77 (by rfl) (by kernel_rfl) ?_; rintro ⟨P, T, hT, hm, w0, S0, rd0, k0⟩ hP hTT; dsimp only at hP hTT; subst hP hTT; unfold initSt; rw [Tryd.ntmps77]
    (repeat (first | with_reducible refine AW.seq ?_ | ((first | refine arun_kn 4 rfl (fun C hC => ?_) | refine arunD_kn 4 rfl (fun C hC => ?_)); (repeat ((conv => whnf); simp)); refine hC _ ?_; clear hC C; simp only [List.drop, Nat.reduceAdd]) | ((first | refine arun_kn 1 rfl (fun C hC => ?_) | refine arunD_kn 1 rfl (fun C hC => ?_)); (repeat ((conv => whnf); simp)); refine hC _ ?_; clear hC C; simp only [List.drop, Nat.reduceAdd]) | (refine arun_skip ?_ ?_; (focus (simp [awant]; done))) | (refine arun_c0 (p1) ?_; rintro _ rfl) | (refine AW.regionK [] (fun K hK => ?_)) | (refine AW.regionDK [] (pcs [] []) (by kernel_rfl) (by kernel_rfl) (fun K hK => ?_)) | (refine AW.condT ?_ ?_; (focus (simp [aev]; done))) | (refine AW.condF ?_ ?_; (focus (simp [aev]; done))) | with_reducible refine AW.block ?_ | ((first | ((first | refine arun_nil ?_ | refine arunD_nil ?_); refine hK _ ?_; clear hK K) | refine AW.skip ?_ | refine AW.exit ?_ | refine AW.ret ?_); simp only [thenA_exit, inBlockA_exit, if_true, if_false, Nat.reduceEqDiff, thenA_normal, inBlockA_normal, reduceIte, thenA_ret, inBlockA_ret, endQ_ret, endR_ret, endG_ret, endQ_normal, endR_normal, endG_normal, endF_ret, endF_normal])))
    exact ⟨.tup [node0 0 0 ⟨#[]⟩, .bool false], by simp [node0, ares, aresL, upd, rowsOf_cons], none_end.1, _, none_end.2, by rw [e]; rfl⟩
  cases h1 : validB m
  · have e : ckN m = none := by unfold ckN; rw [h1]; rfl
    rw [h1] at p1
    refine AC.of tab_ok mixed_ok Tryd.func77 (by rfl) (by kernel_rfl) ?_; rintro ⟨P, T, hT, hm, w0, S0, rd0, k0⟩ hP hTT; dsimp only at hP hTT; subst hP hTT; unfold initSt; rw [Tryd.ntmps77]
    (repeat (first | with_reducible refine AW.seq ?_ | ((first | refine arun_kn 4 rfl (fun C hC => ?_) | refine arunD_kn 4 rfl (fun C hC => ?_)); (repeat ((conv => whnf); simp)); refine hC _ ?_; clear hC C; simp only [List.drop, Nat.reduceAdd]) | ((first | refine arun_kn 1 rfl (fun C hC => ?_) | refine arunD_kn 1 rfl (fun C hC => ?_)); (repeat ((conv => whnf); simp)); refine hC _ ?_; clear hC C; simp only [List.drop, Nat.reduceAdd]) | (refine arun_skip ?_ ?_; (focus (simp [awant]; done))) | (refine arun_c0 (p1) ?_; rintro _ rfl) | (refine AW.regionK [] (fun K hK => ?_)) | (refine AW.regionDK [] (pcs [] []) (by kernel_rfl) (by kernel_rfl) (fun K hK => ?_)) | (refine AW.condT ?_ ?_; (focus (simp [aev]; done))) | (refine AW.condF ?_ ?_; (focus (simp [aev]; done))) | with_reducible refine AW.block ?_ | ((first | ((first | refine arun_nil ?_ | refine arunD_nil ?_); refine hK _ ?_; clear hK K) | refine AW.skip ?_ | refine AW.exit ?_ | refine AW.ret ?_); simp only [thenA_exit, inBlockA_exit, if_true, if_false, Nat.reduceEqDiff, thenA_normal, inBlockA_normal, reduceIte, thenA_ret, inBlockA_ret, endQ_ret, endR_ret, endG_ret, endQ_normal, endR_normal, endG_normal, endF_ret, endF_normal])))
    exact ⟨.tup [node0 0 0 ⟨#[]⟩, .bool false], by simp [node0, ares, aresL, upd, rowsOf_cons], none_end.1, _, none_end.2, by rw [e]; rfl⟩
  · have e : ckN m = some m := by unfold ckN; rw [h1]; rfl
    rw [h1] at p1
    refine AC.of tab_ok mixed_ok Tryd.func77 (by rfl) (by kernel_rfl) ?_; rintro ⟨P, T, hT, hm, w0, S0, rd0, k0⟩ hP hTT; dsimp only at hP hTT; subst hP hTT; unfold initSt; rw [Tryd.ntmps77]
    (repeat (first | with_reducible refine AW.seq ?_ | ((first | refine arun_kn 4 rfl (fun C hC => ?_) | refine arunD_kn 4 rfl (fun C hC => ?_)); (repeat ((conv => whnf); simp)); refine hC _ ?_; clear hC C; simp only [List.drop, Nat.reduceAdd]) | ((first | refine arun_kn 1 rfl (fun C hC => ?_) | refine arunD_kn 1 rfl (fun C hC => ?_)); (repeat ((conv => whnf); simp)); refine hC _ ?_; clear hC C; simp only [List.drop, Nat.reduceAdd]) | (refine arun_skip ?_ ?_; (focus (simp [awant]; done))) | (refine arun_c0 (p1) ?_; rintro _ rfl) | (refine AW.regionK [] (fun K hK => ?_)) | (refine AW.regionDK [] (pcs [] []) (by kernel_rfl) (by kernel_rfl) (fun K hK => ?_)) | (refine AW.condT ?_ ?_; (focus (simp [aev]; done))) | (refine AW.condF ?_ ?_; (focus (simp [aev]; done))) | with_reducible refine AW.block ?_ | ((first | ((first | refine arun_nil ?_ | refine arunD_nil ?_); refine hK _ ?_; clear hK K) | refine AW.skip ?_ | refine AW.exit ?_ | refine AW.ret ?_); simp only [thenA_exit, inBlockA_exit, if_true, if_false, Nat.reduceEqDiff, thenA_normal, inBlockA_normal, reduceIte, thenA_ret, inBlockA_ret, endQ_ret, endR_ret, endG_ret, endQ_normal, endR_normal, endG_normal, endF_ret, endF_normal])))
    exact ⟨.tup [nodeA m, .bool true], by simp [ares, aresL, upd, rowsOf_cons], tup2_pur (node_pur m) pur_bool, _, Wk.refl _, by rw [e]; rfl⟩
theorem specSetNode_AC (t : VC) (n : Nd) (p : List ByteArray) (v : Nd) : AC Tryd.prog 37 [nodeA n, .view t 1 (strsE p), nodeA v] 0 (fun r => r = optA (setO n p v)) := by
  refine AC.weak ?_
  have p1 := validNode_AC n .loose
  have p2 := validPath_AC p t
  have p3 := validNode_AC v .loose
  have hcn := node_clo n
  have hcv := node_clo v
  unfold nodeA at hcn hcv ⊢
  rw [nodeL_eq n] at hcn ⊢
  rw [nodeL_eq v] at hcv ⊢
  cases h1 : validB n <;> rw [h1] at p1
  · have e : setO n p v = none := by unfold setO; rw [h1]; rfl
    refine AC.of tab_ok mixed_ok Tryd.func37 (by rfl) (by kernel_rfl) ?_; rintro ⟨P, T, hT, hm, w0, S0, rd0, k0⟩ hP hTT; dsimp only at hP hTT; subst hP hTT; unfold initSt; rw [Tryd.ntmps37]
    (repeat (first | with_reducible refine AW.seq ?_ | ((first | refine arun_kn 4 rfl (fun C hC => ?_) | refine arunD_kn 4 rfl (fun C hC => ?_)); (repeat ((conv => whnf); simp)); refine hC _ ?_; clear hC C; simp only [List.drop, Nat.reduceAdd]) | ((first | refine arun_kn 1 rfl (fun C hC => ?_) | refine arunD_kn 1 rfl (fun C hC => ?_)); (repeat ((conv => whnf); simp)); refine hC _ ?_; clear hC C; simp only [List.drop, Nat.reduceAdd]) | (refine arun_skip ?_ ?_; (focus (simp [awant]; done))) | (refine arun_c0 (p1) ?_; rintro _ rfl) | (refine arun_c0 (p2) ?_; rintro _ rfl) | (refine arun_c0 (p3) ?_; rintro _ rfl) | (refine AW.regionK [] (fun K hK => ?_)) | (refine AW.regionDK [] (pcs [] []) (by kernel_rfl) (by kernel_rfl) (fun K hK => ?_)) | (refine AW.condT ?_ ?_; (focus (simp [aev]; done))) | (refine AW.condF ?_ ?_; (focus (simp [aev]; done))) | with_reducible refine AW.block ?_ | ((first | ((first | refine arun_nil ?_ | refine arunD_nil ?_); refine hK _ ?_; clear hK K) | refine AW.skip ?_ | refine AW.exit ?_ | refine AW.ret ?_); simp only [thenA_exit, inBlockA_exit, if_true, if_false, Nat.reduceEqDiff, thenA_normal, inBlockA_normal, reduceIte, thenA_ret, inBlockA_ret, endQ_ret, endR_ret, endG_ret, endQ_normal, endR_normal, endG_normal, endF_ret, endF_normal])))
    exact ⟨.tup [node0 0 0 ⟨#[]⟩, .bool false], by simp [node0, ares, aresL, upd, rowsOf_cons], none_end.1, _, none_end.2, by rw [e]; rfl⟩
  cases h2 : pathB p <;> rw [h2] at p2
  · have e : setO n p v = none := by unfold setO; rw [h1, h2]; rfl
    refine AC.of tab_ok mixed_ok Tryd.func37 (by rfl) (by kernel_rfl) ?_; rintro ⟨P, T, hT, hm, w0, S0, rd0, k0⟩ hP hTT; dsimp only at hP hTT; subst hP hTT; unfold initSt; rw [Tryd.ntmps37]
    (repeat (first | with_reducible refine AW.seq ?_ | ((first | refine arun_kn 4 rfl (fun C hC => ?_) | refine arunD_kn 4 rfl (fun C hC => ?_)); (repeat ((conv => whnf); simp)); refine hC _ ?_; clear hC C; simp only [List.drop, Nat.reduceAdd]) | ((first | refine arun_kn 1 rfl (fun C hC => ?_) | refine arunD_kn 1 rfl (fun C hC => ?_)); (repeat ((conv => whnf); simp)); refine hC _ ?_; clear hC C; simp only [List.drop, Nat.reduceAdd]) | (refine arun_skip ?_ ?_; (focus (simp [awant]; done))) | (refine arun_c0 (p1) ?_; rintro _ rfl) | (refine arun_c0 (p2) ?_; rintro _ rfl) | (refine arun_c0 (p3) ?_; rintro _ rfl) | (refine AW.regionK [] (fun K hK => ?_)) | (refine AW.regionDK [] (pcs [] []) (by kernel_rfl) (by kernel_rfl) (fun K hK => ?_)) | (refine AW.condT ?_ ?_; (focus (simp [aev]; done))) | (refine AW.condF ?_ ?_; (focus (simp [aev]; done))) | with_reducible refine AW.block ?_ | ((first | ((first | refine arun_nil ?_ | refine arunD_nil ?_); refine hK _ ?_; clear hK K) | refine AW.skip ?_ | refine AW.exit ?_ | refine AW.ret ?_); simp only [thenA_exit, inBlockA_exit, if_true, if_false, Nat.reduceEqDiff, thenA_normal, inBlockA_normal, reduceIte, thenA_ret, inBlockA_ret, endQ_ret, endR_ret, endG_ret, endQ_normal, endR_normal, endG_normal, endF_ret, endF_normal])))
    exact ⟨.tup [node0 0 0 ⟨#[]⟩, .bool false], by simp [node0, ares, aresL, upd, rowsOf_cons], none_end.1, _, none_end.2, by rw [e]; rfl⟩
  cases h3 : validB v <;> rw [h3] at p3
  · have e : setO n p v = none := by unfold setO; rw [h1, h2, h3]; rfl
    refine AC.of tab_ok mixed_ok Tryd.func37 (by rfl) (by kernel_rfl) ?_; rintro ⟨P, T, hT, hm, w0, S0, rd0, k0⟩ hP hTT; dsimp only at hP hTT; subst hP hTT; unfold initSt; rw [Tryd.ntmps37]
    (repeat (first | with_reducible refine AW.seq ?_ | ((first | refine arun_kn 4 rfl (fun C hC => ?_) | refine arunD_kn 4 rfl (fun C hC => ?_)); (repeat ((conv => whnf); simp)); refine hC _ ?_; clear hC C; simp only [List.drop, Nat.reduceAdd]) | ((first | refine arun_kn 1 rfl (fun C hC => ?_) | refine arunD_kn 1 rfl (fun C hC => ?_)); (repeat ((conv => whnf); simp)); refine hC _ ?_; clear hC C; simp only [List.drop, Nat.reduceAdd]) | (refine arun_skip ?_ ?_; (focus (simp [awant]; done))) | (refine arun_c0 (p1) ?_; rintro _ rfl) | (refine arun_c0 (p2) ?_; rintro _ rfl) | (refine arun_c0 (p3) ?_; rintro _ rfl) | (refine AW.regionK [] (fun K hK => ?_)) | (refine AW.regionDK [] (pcs [] []) (by kernel_rfl) (by kernel_rfl) (fun K hK => ?_)) | (refine AW.condT ?_ ?_; (focus (simp [aev]; done))) | (refine AW.condF ?_ ?_; (focus (simp [aev]; done))) | with_reducible refine AW.block ?_ | ((first | ((first | refine arun_nil ?_ | refine arunD_nil ?_); refine hK _ ?_; clear hK K) | refine AW.skip ?_ | refine AW.exit ?_ | refine AW.ret ?_); simp only [thenA_exit, inBlockA_exit, if_true, if_false, Nat.reduceEqDiff, thenA_normal, inBlockA_normal, reduceIte, thenA_ret, inBlockA_ret, endQ_ret, endR_ret, endG_ret, endQ_normal, endR_normal, endG_normal, endF_ret, endF_normal])))
    exact ⟨.tup [node0 0 0 ⟨#[]⟩, .bool false], by simp [node0, ares, aresL, upd, rowsOf_cons], none_end.1, _, none_end.2, by rw [e]; rfl⟩
  have e : setO n p v = (if (setS n p v).isSome then ckN ((setS n p v).getD Nd.zero) else none) := by
    unfold setO; rw [h1, h2, h3]
    cases setS n p v <;> rfl
  have p4 := setAt_AC .loose p n v t (Shp.of h1) (Shp.of h3).sml
  have p5 := specChk ((setS n p v).getD Nd.zero) (setS n p v).isSome
  have hcm := node_clo ((setS n p v).getD Nd.zero)
  rw [← e, optA_eq (setO n p v)] at p5
  rw [optA_eq] at p4
  unfold optL at p4
  rw [nodeT_loose] at p4
  generalize setO n p v = o at *
  generalize (setS n p v).isSome = b at *
  generalize (setS n p v).getD Nd.zero = m at *
  unfold nodeA at p4 p5 hcm
  rw [nodeL_eq n, nodeL_eq v] at p4
  rw [nodeL_eq m] at p5 hcm
  refine AC.of tab_ok mixed_ok Tryd.func37 (by rfl) (by kernel_rfl) ?_; rintro ⟨P, T, hT, hm, w0, S0, rd0, k0⟩ hP hTT; dsimp only at hP hTT; subst hP hTT; unfold initSt; rw [Tryd.ntmps37]
  (repeat (first | with_reducible refine AW.seq ?_ | ((first | refine arun_kn 4 rfl (fun C hC => ?_) | refine arunD_kn 4 rfl (fun C hC => ?_)); (repeat ((conv => whnf); simp [optL])); refine hC _ ?_; clear hC C; simp only [List.drop, Nat.reduceAdd]) | ((first | refine arun_kn 1 rfl (fun C hC => ?_) | refine arunD_kn 1 rfl (fun C hC => ?_)); (repeat ((conv => whnf); simp [optL])); refine hC _ ?_; clear hC C; simp only [List.drop, Nat.reduceAdd]) | (refine arun_skip ?_ ?_; (focus (simp [awant, optL]; done))) | (refine arun_c0 (p1) ?_; rintro _ rfl) | (refine arun_c0 (p2) ?_; rintro _ rfl) | (refine arun_c0 (p3) ?_; rintro _ rfl) | (refine arun_c0 (p4) ?_; rintro _ rfl) | (refine arun_c0 (p5) ?_; rintro _ rfl) | (refine AW.regionK [] (fun K hK => ?_)) | (refine AW.regionDK [] (pcs [] []) (by kernel_rfl) (by kernel_rfl) (fun K hK => ?_)) | (refine AW.condT ?_ ?_; (focus (simp [aev, optL]; done))) | (refine AW.condF ?_ ?_; (focus (simp [aev, optL]; done))) | with_reducible refine AW.block ?_ | ((first | ((first | refine arun_nil ?_ | refine arunD_nil ?_); refine hK _ ?_; clear hK K) | refine AW.skip ?_ | refine AW.exit ?_ | refine AW.ret ?_); simp only [thenA_exit, inBlockA_exit, if_true, if_false, Nat.reduceEqDiff, thenA_normal, inBlockA_normal, reduceIte, thenA_ret, inBlockA_ret, endQ_ret, endR_ret, endG_ret, endQ_normal, endR_normal, endG_normal, endF_ret, endF_normal])))
  exact ⟨optA o, by rw [optA_eq]; simp [optL, ares, aresL, upd, rowsOf_cons], optA_pur _, _, Wk.refl _, rfl⟩
end Go.Proofs.YtfjaobfaepjfnaaDoor.Eng
-- EV: fresh
namespace Go.Proofs.YtfjaobfaepjfnaaDoor.Eng
open Go Go.RowKit
attribute [local simp] big size_mk ASt.pay Option.map_map Function.comp_def awant aop acall ado aev ofVal ofVal0 ASt.put ASt.add ASt.turn ASt.kill abox aalloc astore aload aloadD astoreD idOf ASt.at cellsTo afieldAddr afield aindexAddr aindex alen abin aint acmp astr aun apick aextract anil aslice abound abuild afill abuildSlice asCells aps avCells over upd aappend asrc amax amin aconv mkSt slots rowsOf_cons rowsOf_nil usedOf_cons usedOf_nil ZK.av List.replicate ASt.back ASt.addL ASt.killL nodeA nodeT nodeTL_eq nodeL_eq strsE_get strsE_len intsE_get intsE_len strsE_at intsE_at tab2 tab3 tab4 tab5 tab6 tab7 tab8 tab9 tab10 tab11 tab12 tab13 tab14 tab15 tab16 tab17 tab18 tab19 tab21 tab22 tab23 tab24 tab25 tab26 tab28 tab29 tab30 tab31 tab42 tab43 tab44 tab46 tab63 tab64 tab67 tab68 tab75 tab98 tab100 tab101 tab105 tab106 tab107 tab122 tab123 tab125 tab128 tab138 tab144 tab151 tab152 tab157 tab158 tab160 tab161 tab162
set_option maxRecDepth 100000
set_option maxHeartbeats 8000000
end Go.Proofs.YtfjaobfaepjfnaaDoor.Eng
namespace Go.Proofs.YtfjaobfaepjfnaaDoor
open Go.RowKit
end Go.Proofs.YtfjaobfaepjfnaaDoor
namespace Go.Proofs.YtfjaobfaepjfnaaDoor.Eng
open Go Go.RowKit
attribute [local simp] big size_mk ASt.pay Option.map_map Function.comp_def awant aop acall ado aev ofVal ofVal0 ASt.put ASt.add ASt.turn ASt.kill abox aalloc astore aload aloadD astoreD idOf ASt.at cellsTo afieldAddr afield aindexAddr aindex alen abin aint acmp astr aun apick aextract anil aslice abound abuild afill abuildSlice asCells aps avCells over upd aappend asrc amax amin aconv mkSt slots rowsOf_cons rowsOf_nil usedOf_cons usedOf_nil ZK.av List.replicate ASt.back ASt.addL ASt.killL nodeA nodeT nodeTL_eq nodeL_eq strsE_get strsE_len intsE_get intsE_len strsE_at intsE_at tab2 tab3 tab4 tab5 tab6 tab7 tab8 tab9 tab10 tab11 tab12 tab13 tab14 tab15 tab16 tab17 tab18 tab19 tab21 tab22 tab23 tab24 tab25 tab26 tab28 tab29 tab30 tab31 tab42 tab43 tab44 tab46 tab63 tab64 tab67 tab68 tab75 tab98 tab100 tab101 tab105 tab106 tab107 tab122 tab123 tab125 tab128 tab138 tab144 tab151 tab152 tab157 tab158 tab160 tab161 tab162
def strsRow (p : List ByteArray) : Row := ⟨false, 9, 1, strsE p⟩
def rPath (r : AV) : Prop := ∃ p : List ByteArray, p.length ≤ 1000 ∧ r = .view .loose 1 (strsE p)
theorem anyPath_ACR : ACR Tryd.prog 109 [.rdr] 10 (fun _ => False) (fun f R => ∃ p : List ByteArray, p.length ≤ 6 ∧ f = (fun id => .own id p.length) ∧ R = strsRow p) := by
  refine ACR.of tab_ok mixed_ok Tryd.func109 (by rfl) (by kernel_rfl) ?_; rintro ⟨P, T, hT, hm, w0, S0, rd0, k0⟩ hP hTT; dsimp only at hP hTT; subst hP hTT; unfold initSt; rw [Tryd.ntmps109]
  (repeat (first | with_reducible refine AW.seq ?_ | ((first | refine arun_kn 4 rfl (fun C hC => ?_) | refine arunD_kn 4 rfl (fun C hC => ?_)); (repeat ((conv => whnf); simp)); refine hC _ ?_; clear hC C; simp only [List.drop, Nat.reduceAdd]) | ((first | refine arun_kn 1 rfl (fun C hC => ?_) | refine arunD_kn 1 rfl (fun C hC => ?_)); (repeat ((conv => whnf); simp)); refine hC _ ?_; clear hC C; simp only [List.drop, Nat.reduceAdd]) | (refine arun_skip ?_ ?_; (focus (simp [awant]; done))) | (refine arun_cU (1) rfl (one_ACU _ _ (by rfl) (by simp) (by simp)) ?_; (rintro _ ⟨y, hy, rfl⟩)) | (refine AW.regionK [] (fun K hK => ?_)) | (refine AW.regionDK [] (pcs [] []) (by kernel_rfl) (by kernel_rfl) (fun K hK => ?_)) | (refine AW.condT ?_ ?_; (focus (simp [aev]; done))) | (refine AW.condF ?_ ?_; (focus (simp [aev]; done))) | with_reducible refine AW.block ?_ | ((first | ((first | refine arun_nil ?_ | refine arunD_nil ?_); refine hK _ ?_; clear hK K) | refine AW.skip ?_ | refine AW.exit ?_ | refine AW.ret ?_); simp only [thenA_exit, inBlockA_exit, if_true, if_false, Nat.reduceEqDiff, thenA_normal, inBlockA_normal, reduceIte, thenA_ret, inBlockA_ret, endQ_ret, endR_ret, endG_ret, endQ_normal, endR_normal, endG_normal])))
  have hy' : 0 ≤ y ∧ y ≤ 6 := by
    simp [intOf] at hy
    omega
  clear hy
  obtain ⟨c0, rfl⟩ := Int.eq_ofNat_of_zero_le hy'.1
  refine AW.adopt 3 3 9 1 ⟨_, tab9, rfl⟩ rfl (by simp [upd]) ?_
  simp only [ASt.adopt, ASt.add]
  refine AW.loopS (fun (x : List ByteArray × Nat × Nat) => mkSt (slots 0 33 [(0, .rdr), (3, .own 3 x.1.length), (4, .int .i64 x.2.1)]) [(3, strsRow x.1)] [3] (rd0.map fun _ => x.2.2)) (fun x => x.2.1) (fun x => x.1.length + x.2.1 ≤ 6 ∧ x.2.1 + 2 ≤ x.2.2) ([], c0, 9) ?_ ⟨by simp; omega, by dsimp only; omega⟩ ?_
  · dsimp only [List.length_nil]
    exact (less_of (by simp [lessL, mkSt, slots, strsRow, strsE]) (by simp [upd, mkSt, rowsOf_cons, strsRow, strsE]) (by simp [upd, mkSt, usedOf_cons, strsRow, strsE]) (by first | exact rd_less (by omega) | simp [mkSt, strsRow, strsE]) (by simp [slots, in_any, in_int, in_bool, in_str, in_ptr, in_own, in_agg, in_vnil, in_rdr, usedOf_cons, usedOf_nil, strs_in, ints_in, nodes_in, in_tup, strsRow, strsE]) (by simp only [List.forall_mem_cons, List.not_mem_nil, false_implies, implies_true, and_true, true_and, strsRow, strsE]; (repeat (first | with_reducible exact trivial | with_reducible refine And.intro ?_ ?_ | with_reducible exact in_int | with_reducible exact in_str | with_reducible exact in_bool | with_reducible exact strs_in _ | with_reducible exact nodes_in _ | with_reducible exact items_in _ | with_reducible exact in_vnil | with_reducible exact in_any | exact hin _ | with_reducible refine take_in ?_ | with_reducible exact strsE_in _ | with_reducible exact nodesE_in _ | with_reducible exact nodeL_in _ | with_reducible exact itemsE_in _ | with_reducible exact itemL_in _ | with_reducible refine app_in ?_ ?_ | with_reducible refine sing_in ?_ | (focus (simp [in_any, in_int, in_bool, in_str, in_ptr, in_own, in_agg, in_vnil, in_rdr, usedOf_cons, usedOf_nil, strs_in, ints_in, nodes_in, strsRow, strsE]; done)))); done))
  · rintro ⟨p, c, b⟩ ⟨h1, h2⟩
    dsimp only at h1 h2 ⊢
    by_cases hlt : 0 < c
    · have hlt' : (0 : Int) < (c : Int) := by omega
      have hw : IntKind.i64.wrap ((c : Int) - 1) = ((c - 1 : Nat) : Int) := by
        rw [i64_nat (by omega) (by omega)]; omega
      have hb1 : (p.length + 1) * 16 ≤ 140737488355328 := by omega
      have hb2 : p.length + 1 ≤ 140737488355328 := by omega
      (repeat (first | with_reducible refine AW.seq ?_ | ((first | refine arun_kn 4 rfl (fun C hC => ?_) | refine arunD_kn 4 rfl (fun C hC => ?_)); (repeat ((conv => whnf); simp [hlt', hlt, hw, hb1, hb2, strsRow, strsE_len])); refine hC _ ?_; clear hC C; simp only [List.drop, Nat.reduceAdd]) | ((first | refine arun_kn 1 rfl (fun C hC => ?_) | refine arunD_kn 1 rfl (fun C hC => ?_)); (repeat ((conv => whnf); simp [hlt', hlt, hw, hb1, hb2, strsRow, strsE_len])); refine hC _ ?_; clear hC C; simp only [List.drop, Nat.reduceAdd]) | (refine arun_skip ?_ ?_; (focus (simp [awant, hlt', hlt, hw, hb1, hb2, strsRow, strsE_len]; done))) | (refine arun_cU (1) rfl (of_ACU _ _ (by rfl) (by simp) (by simp)) ?_; (rintro _ ⟨x, -, rfl⟩)) | (refine AW.regionK [] (fun K hK => ?_)) | (refine AW.regionDK [] (pcs [] []) (by kernel_rfl) (by kernel_rfl) (fun K hK => ?_)) | (refine AW.condT ?_ ?_; (focus (simp [aev, hlt', hlt, hw, hb1, hb2, strsRow, strsE_len]; done))) | (refine AW.condF ?_ ?_; (focus (simp [aev, hlt', hlt, hw, hb1, hb2, strsRow, strsE_len]; done))) | with_reducible refine AW.block ?_ | ((first | ((first | refine arun_nil ?_ | refine arunD_nil ?_); refine hK _ ?_; clear hK K) | refine AW.skip ?_ | refine AW.exit ?_ | refine AW.ret ?_); simp only [thenA_exit, inBlockA_exit, if_true, if_false, Nat.reduceEqDiff, thenA_normal, inBlockA_normal, reduceIte, thenA_ret, inBlockA_ret, endQ_ret, endR_ret, endG_ret, endQ_normal, endR_normal, endG_normal])))
      refine ⟨(p ++ [x], c - 1, b - 1), by dsimp only; omega, ⟨by simp only [List.length_append, List.length_cons, List.length_nil]; omega, by dsimp only; omega⟩, ?_⟩
      have e1 : strsE (p ++ [x]) = strsE p ++ [[.str x]] := by simp [strsE]
      have hl : (p ++ [x]).length = p.length + 1 := by simp
      dsimp only
      rw [hl]
      exact (less_of (by simp [lessL, mkSt, slots, strsRow, e1, strsE_len]) (by simp [upd, mkSt, rowsOf_cons, strsRow, e1, strsE_len]) (by simp [upd, mkSt, usedOf_cons, strsRow, e1, strsE_len]) (by first | exact rd_less (by omega) | simp [mkSt, strsRow, e1, strsE_len]) (by simp [slots, in_any, in_int, in_bool, in_str, in_ptr, in_own, in_agg, in_vnil, in_rdr, usedOf_cons, usedOf_nil, strs_in, ints_in, nodes_in, in_tup, strsRow, e1, strsE_len]) (by simp only [List.forall_mem_cons, List.not_mem_nil, false_implies, implies_true, and_true, true_and, strsRow, e1, strsE_len]; (repeat (first | with_reducible exact trivial | with_reducible refine And.intro ?_ ?_ | with_reducible exact in_int | with_reducible exact in_str | with_reducible exact in_bool | with_reducible exact strs_in _ | with_reducible exact nodes_in _ | with_reducible exact items_in _ | with_reducible exact in_vnil | with_reducible exact in_any | exact hin _ | with_reducible refine take_in ?_ | with_reducible exact strsE_in _ | with_reducible exact nodesE_in _ | with_reducible exact nodeL_in _ | with_reducible exact itemsE_in _ | with_reducible exact itemL_in _ | with_reducible refine app_in ?_ ?_ | with_reducible refine sing_in ?_ | (focus (simp [in_any, in_int, in_bool, in_str, in_ptr, in_own, in_agg, in_vnil, in_rdr, usedOf_cons, usedOf_nil, strs_in, ints_in, nodes_in, strsRow, e1, strsE_len]; done)))); done))
    · have hlt' : ¬ (0 : Int) < (c : Int) := by omega
      cases p with
      | nil =>
        (repeat (first | with_reducible refine AW.seq ?_ | ((first | refine arun_kn 4 rfl (fun C hC => ?_) | refine arunD_kn 4 rfl (fun C hC => ?_)); (repeat ((conv => whnf); simp [hlt', hlt, strsRow, strsE_len])); refine hC _ ?_; clear hC C; simp only [List.drop, Nat.reduceAdd]) | ((first | refine arun_kn 1 rfl (fun C hC => ?_) | refine arunD_kn 1 rfl (fun C hC => ?_)); (repeat ((conv => whnf); simp [hlt', hlt, strsRow, strsE_len])); refine hC _ ?_; clear hC C; simp only [List.drop, Nat.reduceAdd]) | (refine arun_skip ?_ ?_; (focus (simp [awant, hlt', hlt, strsRow, strsE_len]; done))) | (refine AW.regionK [] (fun K hK => ?_)) | (refine AW.regionDK [] (pcs [] []) (by kernel_rfl) (by kernel_rfl) (fun K hK => ?_)) | (refine AW.condT ?_ ?_; (focus (simp [aev, hlt', hlt, strsRow, strsE_len]; done))) | (refine AW.condF ?_ ?_; (focus (simp [aev, hlt', hlt, strsRow, strsE_len]; done))) | with_reducible refine AW.block ?_ | ((first | ((first | refine arun_nil ?_ | refine arunD_nil ?_); refine hK _ ?_; clear hK K) | refine AW.skip ?_ | refine AW.exit ?_ | refine AW.ret ?_); simp only [thenA_exit, inBlockA_exit, if_true, if_false, Nat.reduceEqDiff, thenA_normal, inBlockA_normal, reduceIte, thenA_ret, inBlockA_ret, endQ_ret, endR_ret, endG_ret, endQ_normal, endR_normal, endG_normal])))
        exact ⟨.own 3 0, by simp [ares, aresL], .inr ⟨fun id => .own id 0, 3, strsRow [], rfl, by simp [upd, rowsOf_cons, strsRow], Res1.own _ _, strsE_pur _, [], by simp, rfl, rfl⟩⟩
      | cons q p =>
        have hl : 0 < p.length + 1 := by omega
        have hl' : (0 : Int) < (p.length : Int) + 1 := by omega
        have e1 : strsE (q :: p) = [.str q] :: strsE p := rfl
        simp only [List.length_cons] at h1
        (repeat (first | with_reducible refine AW.seq ?_ | ((first | refine arun_kn 4 rfl (fun C hC => ?_) | refine arunD_kn 4 rfl (fun C hC => ?_)); (repeat ((conv => whnf); simp [hlt', hlt, hl, hl', strsRow, strsE_len, e1])); refine hC _ ?_; clear hC C; simp only [List.drop, Nat.reduceAdd]) | ((first | refine arun_kn 1 rfl (fun C hC => ?_) | refine arunD_kn 1 rfl (fun C hC => ?_)); (repeat ((conv => whnf); simp [hlt', hlt, hl, hl', strsRow, strsE_len, e1])); refine hC _ ?_; clear hC C; simp only [List.drop, Nat.reduceAdd]) | (refine arun_skip ?_ ?_; (focus (simp [awant, hlt', hlt, hl, hl', strsRow, strsE_len, e1]; done))) | (refine arun_c (1) (pick_AC 20 (by omega) (by omega)) ?_; (rintro _ ⟨v, rfl, -⟩)) | (refine AW.regionK [] (fun K hK => ?_)) | (refine AW.regionDK [] (pcs [] []) (by kernel_rfl) (by kernel_rfl) (fun K hK => ?_)) | (refine AW.condT ?_ ?_; (focus (simp [aev, hlt', hlt, hl, hl', strsRow, strsE_len, e1]; done))) | (refine AW.condF ?_ ?_; (focus (simp [aev, hlt', hlt, hl, hl', strsRow, strsE_len, e1]; done))) | with_reducible refine AW.block ?_ | ((first | ((first | refine arun_nil ?_ | refine arunD_nil ?_); refine hK _ ?_; clear hK K) | refine AW.skip ?_ | refine AW.exit ?_ | refine AW.ret ?_); simp only [thenA_exit, inBlockA_exit, if_true, if_false, Nat.reduceEqDiff, thenA_normal, inBlockA_normal, reduceIte, thenA_ret, inBlockA_ret, endQ_ret, endR_ret, endG_ret, endQ_normal, endR_normal, endG_normal])))
        by_cases hv : v = 0
        · subst hv
          (repeat (first | with_reducible refine AW.seq ?_ | ((first | refine arun_kn 4 rfl (fun C hC => ?_) | refine arunD_kn 4 rfl (fun C hC => ?_)); (repeat ((conv => whnf); simp [hl, hl', strsE_len, e1])); refine hC _ ?_; clear hC C; simp only [List.drop, Nat.reduceAdd]) | ((first | refine arun_kn 1 rfl (fun C hC => ?_) | refine arunD_kn 1 rfl (fun C hC => ?_)); (repeat ((conv => whnf); simp [hl, hl', strsE_len, e1])); refine hC _ ?_; clear hC C; simp only [List.drop, Nat.reduceAdd]) | (refine arun_skip ?_ ?_; (focus (simp [awant, hl, hl', strsE_len, e1]; done))) | (refine arun_cU (1) rfl (of_ACU _ _ (by rfl) (by simp) (by simp)) ?_; (rintro _ ⟨x, -, rfl⟩)) | (refine AW.regionK [] (fun K hK => ?_)) | (refine AW.regionDK [] (pcs [] []) (by kernel_rfl) (by kernel_rfl) (fun K hK => ?_)) | (refine AW.condT ?_ ?_; (focus (simp [aev, hl, hl', strsE_len, e1]; done))) | (refine AW.condF ?_ ?_; (focus (simp [aev, hl, hl', strsE_len, e1]; done))) | with_reducible refine AW.block ?_ | ((first | ((first | refine arun_nil ?_ | refine arunD_nil ?_); refine hK _ ?_; clear hK K) | refine AW.skip ?_ | refine AW.exit ?_ | refine AW.ret ?_); simp only [thenA_exit, inBlockA_exit, if_true, if_false, Nat.reduceEqDiff, thenA_normal, inBlockA_normal, reduceIte, thenA_ret, inBlockA_ret, endQ_ret, endR_ret, endG_ret, endQ_normal, endR_normal, endG_normal])))
          exact ⟨.own 3 (p.length + 1), by simp [ares, aresL], .inr ⟨fun id => .own id (p.length + 1), 3, strsRow (x :: p), rfl, by simp [upd, rowsOf_cons, strsRow, strsE], Res1.own _ _, strsE_pur _, x :: p, by simp; omega, rfl, rfl⟩⟩
        · have hv' : (v == 0) = false := by simpa using hv
          (repeat (first | with_reducible refine AW.seq ?_ | ((first | refine arun_kn 4 rfl (fun C hC => ?_) | refine arunD_kn 4 rfl (fun C hC => ?_)); (repeat ((conv => whnf); simp [hl, hl', hv', strsE_len, e1])); refine hC _ ?_; clear hC C; simp only [List.drop, Nat.reduceAdd]) | ((first | refine arun_kn 1 rfl (fun C hC => ?_) | refine arunD_kn 1 rfl (fun C hC => ?_)); (repeat ((conv => whnf); simp [hl, hl', hv', strsE_len, e1])); refine hC _ ?_; clear hC C; simp only [List.drop, Nat.reduceAdd]) | (refine arun_skip ?_ ?_; (focus (simp [awant, hl, hl', hv', strsE_len, e1]; done))) | (refine AW.regionK [] (fun K hK => ?_)) | (refine AW.regionDK [] (pcs [] []) (by kernel_rfl) (by kernel_rfl) (fun K hK => ?_)) | (refine AW.condT ?_ ?_; (focus (simp [aev, hl, hl', hv', strsE_len, e1]; done))) | (refine AW.condF ?_ ?_; (focus (simp [aev, hl, hl', hv', strsE_len, e1]; done))) | with_reducible refine AW.block ?_ | ((first | ((first | refine arun_nil ?_ | refine arunD_nil ?_); refine hK _ ?_; clear hK K) | refine AW.skip ?_ | refine AW.exit ?_ | refine AW.ret ?_); simp only [thenA_exit, inBlockA_exit, if_true, if_false, Nat.reduceEqDiff, thenA_normal, inBlockA_normal, reduceIte, thenA_ret, inBlockA_ret, endQ_ret, endR_ret, endG_ret, endQ_normal, endR_normal, endG_normal])))
          exact ⟨.own 3 (p.length + 1), by simp [ares, aresL], .inr ⟨fun id => .own id (p.length + 1), 3, strsRow (q :: p), rfl, by simp [upd, rowsOf_cons, strsRow, strsE], Res1.own _ _, strsE_pur _, q :: p, by simp; omega, rfl, rfl⟩⟩
theorem strs_sub (p : List ByteArray) : AV.sub 0 (strsRow p).es.length (.view .loose (strsRow p).sz (strsRow p).es) (.own 0 p.length) = .view .loose 1 (strsE p) := by
  simp [AV.sub, strsRow, strsE_len]
theorem anyPath_AC : AC Tryd.prog 109 [.rdr] 10 rPath := by
  refine (AC.ofR anyPath_ACR ?_).mono ?_
  · rintro r R ⟨p, _, rfl, rfl⟩
    rw [strs_sub]; exact strs_in _
  · rintro r (h | ⟨f, R, ⟨p, hp, rfl, rfl⟩, rfl⟩)
    · exact h.elim
    · exact ⟨p, by omega, strs_sub p⟩
theorem pathIn_AC (n : Nd) : AC Tryd.prog 81 [.rdr, nodeA n] 12 rPath := by
  have p1 := specAllPaths_AC n
  have p2 := anyPath_AC
  unfold nodeA at p1 ⊢
  rw [nodeL_eq] at p1 ⊢
  refine AC.of tab_ok mixed_ok Tryd.func81 (by rfl) (by kernel_rfl) ?_; rintro ⟨P, T, hT, hm, w0, S0, rd0, k0⟩ hP hTT; dsimp only at hP hTT; subst hP hTT; unfold initSt; rw [Tryd.ntmps81]
  cases hv : validB n
  · have e : wayS n = [] := by unfold wayS; rw [hv]; rfl
    rw [e] at p1
    have hclo : Clo (.view .loose 1 (pathsE [])) := paths_clo []
    (repeat (first | with_reducible refine AW.seq ?_ | ((first | refine arun_kn 4 rfl (fun C hC => ?_) | refine arunD_kn 4 rfl (fun C hC => ?_)); (repeat ((conv => whnf); simp [pathsE_len])); refine hC _ ?_; clear hC C; simp only [List.drop, Nat.reduceAdd]) | ((first | refine arun_kn 1 rfl (fun C hC => ?_) | refine arunD_kn 1 rfl (fun C hC => ?_)); (repeat ((conv => whnf); simp [pathsE_len])); refine hC _ ?_; clear hC C; simp only [List.drop, Nat.reduceAdd]) | (refine arun_skip ?_ ?_; (focus (simp [awant, pathsE_len]; done))) | (refine arun_c0 (p1) ?_; rintro _ rfl) | (refine arun_c (10) (p2) ?_; (rintro _ ⟨p, hp, rfl⟩)) | (refine AW.regionK [] (fun K hK => ?_)) | (refine AW.regionDK [] (pcs [] []) (by kernel_rfl) (by kernel_rfl) (fun K hK => ?_)) | (refine AW.condT ?_ ?_; (focus (simp [aev, pathsE_len]; done))) | (refine AW.condF ?_ ?_; (focus (simp [aev, pathsE_len]; done))) | with_reducible refine AW.block ?_ | ((first | ((first | refine arun_nil ?_ | refine arunD_nil ?_); refine hK _ ?_; clear hK K) | refine AW.skip ?_ | refine AW.exit ?_ | refine AW.ret ?_); simp only [thenA_exit, inBlockA_exit, if_true, if_false, Nat.reduceEqDiff, thenA_normal, inBlockA_normal, reduceIte, thenA_ret, inBlockA_ret, endQ_ret, endR_ret, endG_ret, endQ_normal, endR_normal, endG_normal])))
    exact ⟨.view .loose 1 (strsE p), by simp [ares, aresL], strs_pur p (by decide), p, hp, rfl⟩
  · have e : wayS n = allS n := by unfold wayS; rw [hv]; rfl
    rw [e] at p1
    obtain ⟨hw, hd, hc⟩ := valid_way hv
    have hlen := allS_len n
    have hpos : 0 < (allS n).length := by rw [hlen, Nd.count_eq]; omega
    have hsh := allS_short n
    have hclo : Clo (.view .loose 1 (pathsE (allS n))) := paths_clo (allS n)
    generalize allS n = P at *
    have hpos' : (0 : Int) < (P.length : Int) := by omega
    (repeat (first | with_reducible refine AW.seq ?_ | ((first | refine arun_kn 4 rfl (fun C hC => ?_) | refine arunD_kn 4 rfl (fun C hC => ?_)); (repeat ((conv => whnf); simp [pathsE_len, hpos, hpos'])); refine hC _ ?_; clear hC C; simp only [List.drop, Nat.reduceAdd]) | ((first | refine arun_kn 1 rfl (fun C hC => ?_) | refine arunD_kn 1 rfl (fun C hC => ?_)); (repeat ((conv => whnf); simp [pathsE_len, hpos, hpos'])); refine hC _ ?_; clear hC C; simp only [List.drop, Nat.reduceAdd]) | (refine arun_skip ?_ ?_; (focus (simp [awant, pathsE_len, hpos, hpos']; done))) | (refine arun_c0 (p1) ?_; rintro _ rfl) | (refine arun_c (1) (pick_AC 4 (by omega) (by omega)) ?_; (rintro _ ⟨v, rfl, -⟩)) | (refine AW.regionK [] (fun K hK => ?_)) | (refine AW.regionDK [] (pcs [] []) (by kernel_rfl) (by kernel_rfl) (fun K hK => ?_)) | (refine AW.condT ?_ ?_; (focus (simp [aev, pathsE_len, hpos, hpos']; done))) | (refine AW.condF ?_ ?_; (focus (simp [aev, pathsE_len, hpos, hpos']; done))) | with_reducible refine AW.block ?_ | ((first | ((first | refine arun_nil ?_ | refine arunD_nil ?_); refine hK _ ?_; clear hK K) | refine AW.skip ?_ | refine AW.exit ?_ | refine AW.ret ?_); simp only [thenA_exit, inBlockA_exit, if_true, if_false, Nat.reduceEqDiff, thenA_normal, inBlockA_normal, reduceIte, thenA_ret, inBlockA_ret, endQ_ret, endR_ret, endG_ret, endQ_normal, endR_normal, endG_normal])))
    rcases Int.lt_or_le 0 v with h0 | h0
    · (repeat (first | with_reducible refine AW.seq ?_ | ((first | refine arun_kn 4 rfl (fun C hC => ?_) | refine arunD_kn 4 rfl (fun C hC => ?_)); (repeat ((conv => whnf); simp [pathsE_len, h0])); refine hC _ ?_; clear hC C; simp only [List.drop, Nat.reduceAdd]) | ((first | refine arun_kn 1 rfl (fun C hC => ?_) | refine arunD_kn 1 rfl (fun C hC => ?_)); (repeat ((conv => whnf); simp [pathsE_len, h0])); refine hC _ ?_; clear hC C; simp only [List.drop, Nat.reduceAdd]) | (refine arun_skip ?_ ?_; (focus (simp [awant, pathsE_len, h0]; done))) | (refine arun_c (1) (pick_AC P.length (by omega) (by omega)) ?_; (rintro _ ⟨u, rfl, hu⟩; obtain ⟨u0, u1⟩ := hu.1 (by omega); obtain ⟨k, rfl⟩ := Int.eq_ofNat_of_zero_le u0)) | (refine AW.regionK [] (fun K hK => ?_)) | (refine AW.regionDK [] (pcs [] []) (by kernel_rfl) (by kernel_rfl) (fun K hK => ?_)) | (refine AW.condT ?_ ?_; (focus (simp [aev, pathsE_len, h0]; done))) | (refine AW.condF ?_ ?_; (focus (simp [aev, pathsE_len, h0]; done))) | with_reducible refine AW.block ?_ | ((first | ((first | refine arun_nil ?_ | refine arunD_nil ?_); refine hK _ ?_; clear hK K) | refine AW.skip ?_ | refine AW.exit ?_ | refine AW.ret ?_); simp only [thenA_exit, inBlockA_exit, if_true, if_false, Nat.reduceEqDiff, thenA_normal, inBlockA_normal, reduceIte, thenA_ret, inBlockA_ret, endQ_ret, endR_ret, endG_ret, endQ_normal, endR_normal, endG_normal])))
      have hk : k < P.length := by omega
      have hpl := hsh _ (List.getElem_mem hk)
      (repeat (first | with_reducible refine AW.seq ?_ | ((first | refine arun_kn 4 rfl (fun C hC => ?_) | refine arunD_kn 4 rfl (fun C hC => ?_)); (repeat ((conv => whnf); simp [pathsE_len, hk, pathsE_get, pathsE_at])); refine hC _ ?_; clear hC C; simp only [List.drop, Nat.reduceAdd]) | ((first | refine arun_kn 1 rfl (fun C hC => ?_) | refine arunD_kn 1 rfl (fun C hC => ?_)); (repeat ((conv => whnf); simp [pathsE_len, hk, pathsE_get, pathsE_at])); refine hC _ ?_; clear hC C; simp only [List.drop, Nat.reduceAdd]) | (refine arun_skip ?_ ?_; (focus (simp [awant, pathsE_len, hk, pathsE_get, pathsE_at]; done))) | (refine AW.regionK [] (fun K hK => ?_)) | (refine AW.regionDK [] (pcs [] []) (by kernel_rfl) (by kernel_rfl) (fun K hK => ?_)) | (refine AW.condT ?_ ?_; (focus (simp [aev, pathsE_len, hk, pathsE_get, pathsE_at]; done))) | (refine AW.condF ?_ ?_; (focus (simp [aev, pathsE_len, hk, pathsE_get, pathsE_at]; done))) | with_reducible refine AW.block ?_ | ((first | ((first | refine arun_nil ?_ | refine arunD_nil ?_); refine hK _ ?_; clear hK K) | refine AW.skip ?_ | refine AW.exit ?_ | refine AW.ret ?_); simp only [thenA_exit, inBlockA_exit, if_true, if_false, Nat.reduceEqDiff, thenA_normal, inBlockA_normal, reduceIte, thenA_ret, inBlockA_ret, endQ_ret, endR_ret, endG_ret, endQ_normal, endR_normal, endG_normal])))
      exact ⟨.view .loose 1 (strsE P[k]), by simp [ares, aresL], strs_pur _ (by decide), _, by omega, rfl⟩
    · have h0' : ¬ 0 < v := by omega
      (repeat (first | with_reducible refine AW.seq ?_ | ((first | refine arun_kn 4 rfl (fun C hC => ?_) | refine arunD_kn 4 rfl (fun C hC => ?_)); (repeat ((conv => whnf); simp [pathsE_len, h0'])); refine hC _ ?_; clear hC C; simp only [List.drop, Nat.reduceAdd]) | ((first | refine arun_kn 1 rfl (fun C hC => ?_) | refine arunD_kn 1 rfl (fun C hC => ?_)); (repeat ((conv => whnf); simp [pathsE_len, h0'])); refine hC _ ?_; clear hC C; simp only [List.drop, Nat.reduceAdd]) | (refine arun_skip ?_ ?_; (focus (simp [awant, pathsE_len, h0']; done))) | (refine arun_c (10) (p2) ?_; (rintro _ ⟨p, hp, rfl⟩)) | (refine AW.regionK [] (fun K hK => ?_)) | (refine AW.regionDK [] (pcs [] []) (by kernel_rfl) (by kernel_rfl) (fun K hK => ?_)) | (refine AW.condT ?_ ?_; (focus (simp [aev, pathsE_len, h0']; done))) | (refine AW.condF ?_ ?_; (focus (simp [aev, pathsE_len, h0']; done))) | with_reducible refine AW.block ?_ | ((first | ((first | refine arun_nil ?_ | refine arunD_nil ?_); refine hK _ ?_; clear hK K) | refine AW.skip ?_ | refine AW.exit ?_ | refine AW.ret ?_); simp only [thenA_exit, inBlockA_exit, if_true, if_false, Nat.reduceEqDiff, thenA_normal, inBlockA_normal, reduceIte, thenA_ret, inBlockA_ret, endQ_ret, endR_ret, endG_ret, endQ_normal, endR_normal, endG_normal])))
      exact ⟨.view .loose 1 (strsE p), by simp [ares, aresL], strs_pur p (by decide), p, hp, rfl⟩
end Go.Proofs.YtfjaobfaepjfnaaDoor.Eng
-- EV: skip
namespace Go.Proofs.YtfjaobfaepjfnaaDoor.Eng
open Go Go.RowKit
attribute [local simp] big size_mk ASt.pay Option.map_map Function.comp_def awant aop acall ado aev ofVal ofVal0 ASt.put ASt.add ASt.turn ASt.kill abox aalloc astore aload aloadD astoreD idOf ASt.at cellsTo afieldAddr afield aindexAddr aindex alen abin aint acmp astr aun apick aextract anil aslice abound abuild afill abuildSlice asCells aps avCells over upd aappend asrc amax amin aconv mkSt slots rowsOf_cons rowsOf_nil usedOf_cons usedOf_nil ZK.av List.replicate ASt.back ASt.addL ASt.killL nodeA nodeT nodeTL_eq nodeL_eq strsE_get strsE_len intsE_get intsE_len strsE_at intsE_at tab2 tab3 tab4 tab5 tab6 tab7 tab8 tab9 tab10 tab11 tab12 tab13 tab14 tab15 tab16 tab17 tab18 tab19 tab21 tab22 tab23 tab24 tab25 tab26 tab28 tab29 tab30 tab31 tab42 tab43 tab44 tab46 tab63 tab64 tab67 tab68 tab75 tab98 tab100 tab101 tab105 tab106 tab107 tab122 tab123 tab125 tab128 tab138 tab144 tab151 tab152 tab157 tab158 tab160 tab161 tab162
theorem optA_some (m : Nd) : optA (some m) = .tup [nodeA m, .bool true] := rfl
theorem zero_sml : Sml Nd.zero := sml_leaf 0 0 ⟨#[]⟩
end Go.Proofs.YtfjaobfaepjfnaaDoor.Eng
-- EV: rows skip
namespace Go.Proofs.YtfjaobfaepjfnaaDoor.Eng
open Go Go.RowKit
attribute [local simp] big size_mk ASt.pay Option.map_map Function.comp_def awant aop acall ado aev ofVal ofVal0 ASt.put ASt.add ASt.turn ASt.kill abox aalloc astore aload aloadD astoreD idOf ASt.at cellsTo afieldAddr afield aindexAddr aindex alen abin aint acmp astr aun apick aextract anil aslice abound abuild afill abuildSlice asCells aps avCells over upd aappend asrc amax amin aconv mkSt slots rowsOf_cons rowsOf_nil usedOf_cons usedOf_nil ZK.av List.replicate ASt.back ASt.addL ASt.killL nodeA nodeT nodeTL_eq nodeL_eq strsE_get strsE_len intsE_get intsE_len strsE_at intsE_at nodeN namesRow nodeO kidsRow tab2 tab3 tab4 tab5 tab6 tab7 tab8 tab9 tab10 tab11 tab12 tab13 tab14 tab15 tab16 tab17 tab18 tab19 tab21 tab22 tab23 tab24 tab25 tab26 tab28 tab29 tab30 tab31 tab42 tab43 tab44 tab46 tab63 tab64 tab67 tab68 tab75 tab98 tab100 tab101 tab105 tab106 tab107 tab122 tab123 tab125 tab128 tab138 tab144 tab151 tab152 tab157 tab158 tab160 tab161 tab162
theorem AC.toR {P : Program} {f : FuncId} {args : List AV} {c : Nat} {Q : AV → Prop} (h : AC P f args c Q) : ACR P f args c Q (fun _ _ => False) :=
  ⟨h.1, fun w L S rb k vs h0 h1 h2 h3 => (h.2 w L S rb k vs h0 h1 h2 h3).mono fun _ _ ⟨v, r, S', k1, k2, k3, k4, k5, k6, k7⟩ => ⟨v, S', k1, k2, k3, k4, k5, .inl ⟨r, k6, k7⟩⟩⟩
theorem rNodeA_ex : ∃ r, rNodeA r ∧ NoId r := ⟨_, ⟨_, sml_leaf 0 0 ⟨#[]⟩, rfl⟩, node_in _⟩
end Go.Proofs.YtfjaobfaepjfnaaDoor.Eng
-- EV: rows skip
namespace Go.Proofs.YtfjaobfaepjfnaaDoor.Eng
open Go Go.RowKit
attribute [local simp] big size_mk ASt.pay Option.map_map Function.comp_def awant aop acall ado aev ofVal ofVal0 ASt.put ASt.add ASt.turn ASt.kill abox aalloc astore aload aloadD astoreD idOf ASt.at cellsTo afieldAddr afield aindexAddr aindex alen abin aint acmp astr aun apick aextract anil aslice abound abuild afill abuildSlice asCells aps avCells over upd aappend asrc amax amin aconv mkSt slots rowsOf_cons rowsOf_nil usedOf_cons usedOf_nil ZK.av List.replicate ASt.back ASt.addL ASt.killL nodeA nodeT nodeTL_eq nodeL_eq strsE_get strsE_len intsE_get intsE_len strsE_at intsE_at nodeN namesRow nodeO kidsRow tab2 tab3 tab4 tab5 tab6 tab7 tab8 tab9 tab10 tab11 tab12 tab13 tab14 tab15 tab16 tab17 tab18 tab19 tab21 tab22 tab23 tab24 tab25 tab26 tab28 tab29 tab30 tab31 tab42 tab43 tab44 tab46 tab63 tab64 tab67 tab68 tab75 tab98 tab100 tab101 tab105 tab106 tab107 tab122 tab123 tab125 tab128 tab138 tab144 tab151 tab152 tab157 tab158 tab160 tab161 tab162
theorem setO_parts {n v r : Nd} {p : List ByteArray} (h : setO n p v = some r) : validB n = true ∧ pathB p = true ∧ validB v = true ∧ setS n p v = some r ∧ validB r = true := by
  unfold setO at h
  split at h
  · rename_i hb
    rw [Bool.and_eq_true, Bool.and_eq_true] at hb
    obtain ⟨x, hx, h⟩ := Option.bind_eq_some_iff.1 h
    unfold ckN at h
    split at h
    · rename_i hv
      cases h
      exact ⟨hb.1.1, hb.1.2, hb.2, hx, hv⟩
    · cases h
  · cases h
theorem setO_of {n v r : Nd} {p : List ByteArray} (h1 : validB n = true) (h2 : pathB p = true) (h3 : validB v = true) (h4 : setS n p v = some r) (h5 : validB r = true) : setO n p v = some r := by
  unfold setO; rw [h1, h2, h3, h4]
  simp [ckN, h5]
theorem setO_sml {n v : Nd} {p : List ByteArray} : Sml ((setO n p v).getD Nd.zero) := by
  cases h : setO n p v with
  | none => exact zero_sml
  | some m => exact (Shp.of (setO_parts h).2.2.2.2).sml
theorem rNB_wk {o : Option Nd} {r : AV} (h : rNB (o.getD Nd.zero) o.isSome r) : Wk r (optA o) := by
  obtain ⟨l, hl, _, rfl⟩ := h
  unfold optA
  rw [← hl]
  exact .tup (.cons (.agg (labL_wk l)) (.cons (Wk.refl _) .nil))
theorem SetNode_AC (t : VC) (n : Nd) (p : List ByteArray) (v : Nd) : AC Tryd.prog 38 [nodeA n, .view t 1 (strsE p), nodeA v] 0 (fun r => r = optA (setO n p v)) := by
  refine AC.weak ((SetNode_ACF t n p v).toAC.mono (fun r h => ⟨_, rNB_wk h, rfl⟩))
theorem sC_le : cN + 12 + cN ≤ 1000000 := by decide +kernel
def rSet (r : AV) : Prop := ∃ (n : Nd) (p : List ByteArray) (v : Nd), Sml n ∧ p.length ≤ 1000 ∧ Sml v ∧ r = .tup [nodeA n, .view .loose 1 (strsE p), nodeA v]
set_option maxRecDepth 100000
set_option maxHeartbeats 16000000
theorem drawSet_AC0 (zs : List Int) (hl : zs.length ≤ 1048576) (hb : ByteL zs) : AC0 Tryd.prog 39 [.view .loose 1 (bytesE zs)] rSet := by
  have hc := sC_le
  have hN : AC Tryd.prog 51 [.rdr] cN rNodeA := anyNode_AC
  generalize cN = M at *
  refine AC0.of tab_ok mixed_ok Tryd.func39 (by rfl) (by kernel_rfl) ?_; rintro ⟨P, T, hT, hm, w0, S0, rd0, k0⟩ hP hTT hk0; dsimp only at hP hTT hk0; subst hP hTT hk0; unfold initSt; rw [Tryd.ntmps39]
  obtain ⟨D, hD⟩ : ∃ D, D = M + 12 + M := ⟨_, rfl⟩
  (repeat (first | with_reducible refine AW.seq ?_ | ((first | refine arun_kn 4 rfl (fun C hC => ?_) | refine arunD_kn 4 rfl (fun C hC => ?_)); (repeat ((conv => whnf); simp)); refine hC _ ?_; clear hC C; simp only [List.drop, Nat.reduceAdd]) | ((first | refine arun_kn 1 rfl (fun C hC => ?_) | refine arunD_kn 1 rfl (fun C hC => ?_)); (repeat ((conv => whnf); simp)); refine hC _ ?_; clear hC C; simp only [List.drop, Nat.reduceAdd]) | (refine arun_skip ?_ ?_; (focus (simp [awant]; done))) | (refine arun_cN D (newReader_ACN zs (0 + D) hl (by omega) hb) ?_) | (refine arun_c (M) (hN) ?_; (rintro _ ⟨n, hn, rfl⟩)) | (refine arun_c (12) (pathIn_AC n) ?_; (rintro _ ⟨p, hp, rfl⟩)) | (refine arunD_skip ?_ ?_; (focus (simp [awant]; done))) | (refine AW.regionK [] (fun K hK => ?_)) | (refine AW.condT ?_ ?_; (focus (simp [aev]; done))) | (refine AW.condF ?_ ?_; (focus (simp [aev]; done))) | with_reducible refine AW.block ?_ | ((first | ((first | refine arun_nil ?_ | refine arunD_nil ?_); refine hK _ ?_; clear hK K) | refine AW.skip ?_ | refine AW.exit ?_ | refine AW.ret ?_); simp only [thenA_exit, inBlockA_exit, if_true, if_false, Nat.reduceEqDiff, thenA_normal, inBlockA_normal, reduceIte, thenA_ret, inBlockA_ret, endQ_ret, endR_ret, endG_ret, endQ_normal, endR_normal, endG_normal])))
  refine AW.regionDK [5000, 6002, 6004] (pcs [(3, M, rNodeA)] []) (by kernel_rfl) (by kernel_rfl) (fun K hK => ?_)
  (repeat (first | with_reducible refine AW.seq ?_ | ((first | refine arun_kn 4 rfl (fun C hC => ?_) | refine arunD_kn 4 rfl (fun C hC => ?_)); (repeat ((conv => whnf); simp)); refine hC _ ?_; clear hC C; simp only [List.drop, Nat.reduceAdd]) | ((first | refine arun_kn 1 rfl (fun C hC => ?_) | refine arunD_kn 1 rfl (fun C hC => ?_)); (repeat ((conv => whnf); simp)); refine hC _ ?_; clear hC C; simp only [List.drop, Nat.reduceAdd]) | (refine arun_skip ?_ ?_; (focus (simp [awant]; done))) | (refine arun_c (M) (hN) ?_; (rintro _ ⟨v, hv, rfl⟩)) | (refine arunD_skip ?_ ?_; (focus (simp [awant]; done))) | (refine arunD_cE (M) (hN) (by exact rNodeA_ex) ?_; (rintro _ ⟨v, hv, rfl⟩); intro _) | (refine AW.regionK [] (fun K hK => ?_)) | (refine AW.regionDK [] (pcs [(3, M, rNodeA)] []) (by kernel_rfl) (by kernel_rfl) (fun K hK => ?_)) | (refine AW.condT ?_ ?_; (focus (simp [aev]; done))) | (refine AW.condF ?_ ?_; (focus (simp [aev]; done))) | with_reducible refine AW.block ?_ | ((first | ((first | refine arun_nil ?_ | refine arunD_nil ?_); refine hK _ ?_; clear hK K) | refine AW.skip ?_ | refine AW.exit ?_ | refine AW.ret ?_); simp only [thenA_exit, inBlockA_exit, if_true, if_false, Nat.reduceEqDiff, thenA_normal, inBlockA_normal, reduceIte, thenA_ret, inBlockA_ret, endQ_ret, endR_ret, endG_ret, endQ_normal, endR_normal, endG_normal])))
  refine ⟨.tup [nodeA n, .view .loose 1 (strsE p), nodeA v], by simp [ares, aresL, upd, rowsOf_cons], pur_tup (by
    simp only [List.forall_mem_cons, List.not_mem_nil, false_implies, implies_true, and_true]
    exact ⟨node_pur n, strs_pur p (by decide), node_pur v⟩), n, p, v, hn, hp, hv, rfl⟩
end Go.Proofs.YtfjaobfaepjfnaaDoor.Eng
-- EV: rows skip
namespace Go.Proofs.YtfjaobfaepjfnaaDoor.Eng
open Go Go.RowKit
attribute [local simp] big size_mk ASt.pay Option.map_map Function.comp_def awant aop acall ado aev ofVal ofVal0 ASt.put ASt.add ASt.turn ASt.kill abox aalloc astore aload aloadD astoreD idOf ASt.at cellsTo afieldAddr afield aindexAddr aindex alen abin aint acmp astr aun apick aextract anil aslice abound abuild afill abuildSlice asCells aps avCells over upd aappend asrc amax amin aconv mkSt slots rowsOf_cons rowsOf_nil usedOf_cons usedOf_nil ZK.av List.replicate ASt.back ASt.addL ASt.killL nodeA nodeT nodeTL_eq nodeL_eq strsE_get strsE_len intsE_get intsE_len strsE_at intsE_at nodeN namesRow nodeO kidsRow tab2 tab3 tab4 tab5 tab6 tab7 tab8 tab9 tab10 tab11 tab12 tab13 tab14 tab15 tab16 tab17 tab18 tab19 tab21 tab22 tab23 tab24 tab25 tab26 tab28 tab29 tab30 tab31 tab42 tab43 tab44 tab46 tab63 tab64 tab67 tab68 tab75 tab98 tab100 tab101 tab105 tab106 tab107 tab122 tab123 tab125 tab128 tab138 tab144 tab151 tab152 tab157 tab158 tab160 tab161 tab162
end Go.Proofs.YtfjaobfaepjfnaaDoor.Eng
namespace Go.Proofs.YtfjaobfaepjfnaaDoor
open Go.RowKit
theorem Good.names {n : Nd} (h : Good n) (h4 : n.kind ≠ 4) : n.names = [] := by
  have hp := h.parts
  unfold partsB at hp
  simp only [Bool.and_eq_true, Bool.or_eq_true, decide_eq_true_eq] at hp
  rcases hp.1.2 with h | h
  · exact absurd h h4
  · exact List.length_eq_zero_iff.1 (by simpa using h)
end Go.Proofs.YtfjaobfaepjfnaaDoor
-- EV: rows skip
namespace Go.Proofs.YtfjaobfaepjfnaaDoor.Eng
open Go Go.RowKit
attribute [local simp] big size_mk ASt.pay Option.map_map Function.comp_def awant aop acall ado aev ofVal ofVal0 ASt.put ASt.add ASt.turn ASt.kill abox aalloc astore aload aloadD astoreD idOf ASt.at cellsTo afieldAddr afield aindexAddr aindex alen abin aint acmp astr aun apick aextract anil aslice abound abuild afill abuildSlice asCells aps avCells over upd aappend asrc amax amin aconv mkSt slots rowsOf_cons rowsOf_nil usedOf_cons usedOf_nil ZK.av List.replicate ASt.back ASt.addL ASt.killL nodeA nodeT nodeTL_eq nodeL_eq strsE_get strsE_len intsE_get intsE_len strsE_at intsE_at nodeN namesRow nodeO kidsRow tab2 tab3 tab4 tab5 tab6 tab7 tab8 tab9 tab10 tab11 tab12 tab13 tab14 tab15 tab16 tab17 tab18 tab19 tab21 tab22 tab23 tab24 tab25 tab26 tab28 tab29 tab30 tab31 tab42 tab43 tab44 tab46 tab63 tab64 tab67 tab68 tab75 tab98 tab100 tab101 tab105 tab106 tab107 tab122 tab123 tab125 tab128 tab138 tab144 tab151 tab152 tab157 tab158 tab160 tab161 tab162
theorem leafT_wk (k m : Int) (x : ByteArray) : Wk (node0 k m x) (nodeA ⟨k, m, x, [], []⟩) := by
  unfold node0 nodeA
  rw [nodeL_eq]
  exact Wk.agg (.cons (Wk.refl _) (.cons (Wk.refl _) (.cons (Wk.refl _) (.cons (Wk.nil (fun h => by cases h)) (.cons (Wk.nil (fun h => by cases h)) .nil)))))
theorem number_AC (k : Int) : AC Tryd.prog 42 [.int .i64 k] 0 (fun r => r = nodeA ⟨1, k, ⟨#[]⟩, [], []⟩) := by
  refine AC.weak ?_
  refine AC.of tab_ok mixed_ok Tryd.func42 (by rfl) (by kernel_rfl) ?_; rintro ⟨P, T, hT, hm, w0, S0, rd0, k0⟩ hP hTT; dsimp only at hP hTT; subst hP hTT; unfold initSt; rw [Tryd.ntmps42]
  (repeat (first | with_reducible refine AW.seq ?_ | ((first | refine arun_kn 4 rfl (fun C hC => ?_) | refine arunD_kn 4 rfl (fun C hC => ?_)); (repeat ((conv => whnf); simp)); refine hC _ ?_; clear hC C; simp only [List.drop, Nat.reduceAdd]) | ((first | refine arun_kn 1 rfl (fun C hC => ?_) | refine arunD_kn 1 rfl (fun C hC => ?_)); (repeat ((conv => whnf); simp)); refine hC _ ?_; clear hC C; simp only [List.drop, Nat.reduceAdd]) | (refine arun_skip ?_ ?_; (focus (simp [awant]; done))) | (refine arunD_skip ?_ ?_; (focus (simp [awant]; done))) | (refine AW.regionK [] (fun K hK => ?_)) | (refine AW.regionDK [] (pcs [] []) (by kernel_rfl) (by kernel_rfl) (fun K hK => ?_)) | (refine AW.condT ?_ ?_; (focus (simp [aev]; done))) | (refine AW.condF ?_ ?_; (focus (simp [aev]; done))) | with_reducible refine AW.block ?_ | ((first | ((first | refine arun_nil ?_ | refine arunD_nil ?_); refine hK _ ?_; clear hK K) | refine AW.skip ?_ | refine AW.exit ?_ | refine AW.ret ?_); simp only [thenA_exit, inBlockA_exit, if_true, if_false, Nat.reduceEqDiff, thenA_normal, inBlockA_normal, reduceIte, thenA_ret, inBlockA_ret, endQ_ret, endR_ret, endG_ret, endQ_normal, endR_normal, endG_normal])))
  exact ⟨node0 1 k ⟨#[]⟩, by simp [node0, ares, aresL], node0_pur _ _ _, _, leafT_wk _ _ _, rfl⟩
end Go.Proofs.YtfjaobfaepjfnaaDoor.Eng
-- EV: rows skip
namespace Go.Proofs.YtfjaobfaepjfnaaDoor.Eng
open Go Go.RowKit
attribute [local simp] big size_mk ASt.pay Option.map_map Function.comp_def awant aop acall ado aev ofVal ofVal0 ASt.put ASt.add ASt.turn ASt.kill abox aalloc astore aload aloadD astoreD idOf ASt.at cellsTo afieldAddr afield aindexAddr aindex alen abin aint acmp astr aun apick aextract anil aslice abound abuild afill abuildSlice asCells aps avCells over upd aappend asrc amax amin aconv mkSt slots rowsOf_cons rowsOf_nil usedOf_cons usedOf_nil ZK.av List.replicate ASt.back ASt.addL ASt.killL nodeA nodeT nodeTL_eq nodeL_eq strsE_get strsE_len intsE_get intsE_len strsE_at intsE_at nodeN namesRow nodeO kidsRow tab2 tab3 tab4 tab5 tab6 tab7 tab8 tab9 tab10 tab11 tab12 tab13 tab14 tab15 tab16 tab17 tab18 tab19 tab21 tab22 tab23 tab24 tab25 tab26 tab28 tab29 tab30 tab31 tab42 tab43 tab44 tab46 tab63 tab64 tab67 tab68 tab75 tab98 tab100 tab101 tab105 tab106 tab107 tab122 tab123 tab125 tab128 tab138 tab144 tab151 tab152 tab157 tab158 tab160 tab161 tab162
theorem place_name {n : Nd} (h : Shp n) (h4 : n.kind = 4) {i : Nat} (hi : i < n.names.length) : placeI n n.names[i] = (i : Int) := by
  have hl := (h.map h4).2
  have hit : ∀ j (hj : j < n.names.length), hitP n n.names[i] j = eqs n.names[j] n.names[i] := fun j hj => by
    unfold hitP
    rw [h4, List.getElem?_eq_getElem hj]
    simp
  rcases placeI_cases n n.names[i] with ⟨_, h2⟩ | ⟨j, h1, h2, h3⟩
  · have := h2 i (by omega)
    rw [hit i hi, eqs_self'] at this
    cases this
  · rw [hit j (by omega)] at h3
    have he := eqs_iff.1 h3
    have ha := h.asc h4
    rcases Nat.lt_trichotomy i j with q | q | q
    · have := ha i j hi (by omega) q
      rw [he, lt_irr] at this; cases this
    · rw [h2, q]
    · have := ha j i (by omega) hi q
      rw [he, lt_irr] at this; cases this
theorem shapeL_set {l : List Nd} {d i : Nat} {v : Nd} (h : shapeL l d = true) (hv : shapeB v d = true) : shapeL (l.set i v) d = true := by
  rw [shapeL_all, List.all_eq_true] at h ⊢
  intro c hc
  rcases List.mem_or_eq_of_mem_set hc with q | q
  · exact h c q
  · rw [q]; exact hv
theorem setK_valid {n v : Nd} {i : Nat} (h : validB n = true) (hi : i < n.kids.length) (hv : shapeB v 4 = true) (hc : v.count ≤ n.kids[i].count) : validB (setK n i v) = true := by
  unfold validB at h ⊢
  rw [Bool.and_eq_true, decide_eq_true_eq] at h ⊢
  obtain ⟨h1, h2⟩ := h
  rw [shapeB_eq] at h1
  simp only [Bool.and_eq_true] at h1
  obtain ⟨⟨q1, q2⟩, q3⟩ := h1
  constructor
  · rw [shapeB_eq]
    simp only [Bool.and_eq_true]
    refine ⟨⟨q1, ?_⟩, shapeL_set q3 hv⟩
    unfold partsB setK at *
    simpa only [List.length_set] using q2
  · rw [Nd.count_eq] at h2 ⊢
    have := countL_set n.kids i v hi hc
    show 1 + countL (n.kids.set i v) ≤ _
    omega
theorem setO_name {n v : Nd} {i : Nat} (h : validB n = true) (h4 : n.kind = 4) (hi : i < n.names.length) (hv : validB v = true) (hs : shapeB v 4 = true) (hc : v.count = 1) : setO n [n.names[i]] v = some (setK n i v) ∧ validB (setK n i v) = true := by
  have hsh := Shp.of h
  obtain ⟨ha, hl⟩ := hsh.map h4
  have hik : i < n.kids.length := by omega
  have hval := setK_valid h hik hs (by rw [hc, Nd.count_eq]; omega)
  refine ⟨setO_of h ?_ hv ?_ hval, hval⟩
  · unfold areNamesB at ha
    rw [Bool.and_eq_true] at ha
    have := namesFrom_plain _ _ ha.2 n.names[i] (List.getElem_mem hi)
    unfold pathB
    simp [this]
  · rw [setS_yes [] hik (place_name hsh h4 hi), setS]
    rfl
theorem num_valid (k : Int) (h : -999999 ≤ k ∧ k ≤ 999999) : validB ⟨1, k, ⟨#[]⟩, [], []⟩ = true ∧ shapeB ⟨1, k, ⟨#[]⟩, [], []⟩ 4 = true ∧ Nd.count ⟨1, k, ⟨#[]⟩, [], []⟩ = 1 := by
  have e : (ByteArray.mk #[]).toList.isEmpty = true := by decide +kernel
  have hc : Nd.count ⟨1, k, ⟨#[]⟩, [], []⟩ = 1 := by rw [Nd.count_eq]; rfl
  have hs : ∀ d, shapeB ⟨1, k, ⟨#[]⟩, [], []⟩ (d + 1) = true := fun d => by
    rw [shape_1 rfl]
    simp [e, h.1, h.2]
  exact ⟨by unfold validB; rw [hs 4, hc]; rfl, hs 3, hc⟩
set_option maxRecDepth 100000
set_option maxHeartbeats 16000000
theorem lawSetTwo_AC0 (zs : List Int) (hb : ByteL zs) : AC0 Tryd.prog 7 [.view .loose 1 (bytesE zs)] (fun r => r = .bool true) := by
  refine AC0.of tab_ok mixed_ok Tryd.func7 (by rfl) (by kernel_rfl) ?_; rintro ⟨P, T, hT, hm, w0, S0, rd0, k0⟩ hP hTT hk0; dsimp only at hP hTT hk0; subst hP hTT hk0; unfold initSt; rw [Tryd.ntmps7]
  by_cases hl : zs.length ≤ 1048576
  · have hl' : ¬ ((1048576 : Int) < (zs.length : Int)) := by omega
    (repeat (first | with_reducible refine AW.seq ?_ | ((first | refine arun_kn 4 rfl (fun C hC => ?_) | refine arunD_kn 4 rfl (fun C hC => ?_)); (repeat ((conv => whnf); simp [bytesE_len, hl'])); refine hC _ ?_; clear hC C; simp only [List.drop, Nat.reduceAdd]) | ((first | refine arun_kn 1 rfl (fun C hC => ?_) | refine arunD_kn 1 rfl (fun C hC => ?_)); (repeat ((conv => whnf); simp [bytesE_len, hl'])); refine hC _ ?_; clear hC C; simp only [List.drop, Nat.reduceAdd]) | (refine arun_skip ?_ ?_; (focus (simp [awant, bytesE_len, hl']; done))) | (refine arun_cZ (drawSet_AC0 zs hl hb) ?_; (rintro _ ⟨n, p, v, hn, hpl, hv, rfl⟩)) | (refine arunD_skip ?_ ?_; (focus (simp [awant, bytesE_len, hl']; done))) | (refine AW.regionK [] (fun K hK => ?_)) | (refine AW.regionDK [] (pcs [] []) (by kernel_rfl) (by kernel_rfl) (fun K hK => ?_)) | (refine AW.condT ?_ ?_; (focus (simp [aev, bytesE_len, hl']; done))) | (refine AW.condF ?_ ?_; (focus (simp [aev, bytesE_len, hl']; done))) | with_reducible refine AW.block ?_ | ((first | ((first | refine arun_nil ?_ | refine arunD_nil ?_); refine hK _ ?_; clear hK K) | refine AW.skip ?_ | refine AW.exit ?_ | refine AW.ret ?_); simp only [thenA_exit, inBlockA_exit, if_true, if_false, Nat.reduceEqDiff, thenA_normal, inBlockA_normal, reduceIte, thenA_ret, inBlockA_ret, endQ_ret, endR_ret, endG_ret, endQ_normal, endR_normal, endG_normal])))
    have p1 := SetNode_AC .loose n p v
    have p2 := specSetNode_AC .loose n p v
    have p0 := ValidNode_AC n .loose
    have hms := setO_sml (n := n) (p := p) (v := v)
    unfold optA at p1 p2
    generalize (setO n p v).getD Nd.zero = x at *
    generalize (setO n p v).isSome = b at *
    have hbb : (b != b) = false := by cases b <;> rfl
    have hbc : (b == b) = true := by cases b <;> rfl
    have p3 := equalNode_AC x hms .loose .loose
    rw [nodeT_loose] at p3 p0
    by_cases h4 : n.kind = 4
    rotate_left
    · have h4' : (n.kind != 4) = true := by simpa using h4
      (repeat (first | with_reducible refine AW.seq ?_ | ((first | refine arun_kn 4 rfl (fun C hC => ?_) | refine arunD_kn 4 rfl (fun C hC => ?_)); (repeat ((conv => whnf); simp [hbb, hbc, h4'])); refine hC _ ?_; clear hC C; simp only [List.drop, Nat.reduceAdd]) | ((first | refine arun_kn 1 rfl (fun C hC => ?_) | refine arunD_kn 1 rfl (fun C hC => ?_)); (repeat ((conv => whnf); simp [hbb, hbc, h4'])); refine hC _ ?_; clear hC C; simp only [List.drop, Nat.reduceAdd]) | (refine arun_skip ?_ ?_; (focus (simp [awant, hbb, hbc, h4']; done))) | (refine arun_c0 (p1) ?_; rintro _ rfl) | (refine arun_c0 (p2) ?_; rintro _ rfl) | (refine arun_c0 (p3) ?_; rintro _ rfl) | (refine arunD_skip ?_ ?_; (focus (simp [awant, hbb, hbc, h4']; done))) | (refine AW.regionK [] (fun K hK => ?_)) | (refine AW.regionDK [] (pcs [] []) (by kernel_rfl) (by kernel_rfl) (fun K hK => ?_)) | (refine AW.condT ?_ ?_; (focus (simp [aev, hbb, hbc, h4']; done))) | (refine AW.condF ?_ ?_; (focus (simp [aev, hbb, hbc, h4']; done))) | with_reducible refine AW.block ?_ | ((first | ((first | refine arun_nil ?_ | refine arunD_nil ?_); refine hK _ ?_; clear hK K) | refine AW.skip ?_ | refine AW.exit ?_ | refine AW.ret ?_); simp only [thenA_exit, inBlockA_exit, if_true, if_false, Nat.reduceEqDiff, thenA_normal, inBlockA_normal, reduceIte, thenA_ret, inBlockA_ret, endQ_ret, endR_ret, endG_ret, endQ_normal, endR_normal, endG_normal])))
      exact ⟨.bool true, by simp [ares, aresL], pur_bool, rfl⟩
    have h4' : (n.kind != 4) = false := by simp [h4]
    cases h1 : validB n <;> rw [h1] at p0
    · (repeat (first | with_reducible refine AW.seq ?_ | ((first | refine arun_kn 4 rfl (fun C hC => ?_) | refine arunD_kn 4 rfl (fun C hC => ?_)); (repeat ((conv => whnf); simp [hbb, hbc, h4'])); refine hC _ ?_; clear hC C; simp only [List.drop, Nat.reduceAdd]) | ((first | refine arun_kn 1 rfl (fun C hC => ?_) | refine arunD_kn 1 rfl (fun C hC => ?_)); (repeat ((conv => whnf); simp [hbb, hbc, h4'])); refine hC _ ?_; clear hC C; simp only [List.drop, Nat.reduceAdd]) | (refine arun_skip ?_ ?_; (focus (simp [awant, hbb, hbc, h4']; done))) | (refine arun_c0 (p1) ?_; rintro _ rfl) | (refine arun_c0 (p2) ?_; rintro _ rfl) | (refine arun_c0 (p3) ?_; rintro _ rfl) | (refine arun_c0 (p0) ?_; rintro _ rfl) | (refine arunD_skip ?_ ?_; (focus (simp [awant, hbb, hbc, h4']; done))) | (refine AW.regionK [] (fun K hK => ?_)) | (refine AW.regionDK [] (pcs [] []) (by kernel_rfl) (by kernel_rfl) (fun K hK => ?_)) | (refine AW.condT ?_ ?_; (focus (simp [aev, hbb, hbc, h4']; done))) | (refine AW.condF ?_ ?_; (focus (simp [aev, hbb, hbc, h4']; done))) | with_reducible refine AW.block ?_ | ((first | ((first | refine arun_nil ?_ | refine arunD_nil ?_); refine hK _ ?_; clear hK K) | refine AW.skip ?_ | refine AW.exit ?_ | refine AW.ret ?_); simp only [thenA_exit, inBlockA_exit, if_true, if_false, Nat.reduceEqDiff, thenA_normal, inBlockA_normal, reduceIte, thenA_ret, inBlockA_ret, endQ_ret, endR_ret, endG_ret, endQ_normal, endR_normal, endG_normal])))
      exact ⟨.bool true, by simp [ares, aresL], pur_bool, rfl⟩
    by_cases h2 : n.names.length < 2
    · have h2' : (n.names.length : Int) < 2 := by omega
      (repeat (first | with_reducible refine AW.seq ?_ | ((first | refine arun_kn 4 rfl (fun C hC => ?_) | refine arunD_kn 4 rfl (fun C hC => ?_)); (repeat ((conv => whnf); simp [hbb, hbc, h4', h2', strsE_len])); refine hC _ ?_; clear hC C; simp only [List.drop, Nat.reduceAdd]) | ((first | refine arun_kn 1 rfl (fun C hC => ?_) | refine arunD_kn 1 rfl (fun C hC => ?_)); (repeat ((conv => whnf); simp [hbb, hbc, h4', h2', strsE_len])); refine hC _ ?_; clear hC C; simp only [List.drop, Nat.reduceAdd]) | (refine arun_skip ?_ ?_; (focus (simp [awant, hbb, hbc, h4', h2', strsE_len]; done))) | (refine arun_c0 (p1) ?_; rintro _ rfl) | (refine arun_c0 (p2) ?_; rintro _ rfl) | (refine arun_c0 (p3) ?_; rintro _ rfl) | (refine arun_c0 (p0) ?_; rintro _ rfl) | (refine arunD_skip ?_ ?_; (focus (simp [awant, hbb, hbc, h4', h2', strsE_len]; done))) | (refine AW.regionK [] (fun K hK => ?_)) | (refine AW.regionDK [] (pcs [] []) (by kernel_rfl) (by kernel_rfl) (fun K hK => ?_)) | (refine AW.condT ?_ ?_; (focus (simp [aev, hbb, hbc, h4', h2', strsE_len]; done))) | (refine AW.condF ?_ ?_; (focus (simp [aev, hbb, hbc, h4', h2', strsE_len]; done))) | with_reducible refine AW.block ?_ | ((first | ((first | refine arun_nil ?_ | refine arunD_nil ?_); refine hK _ ?_; clear hK K) | refine AW.skip ?_ | refine AW.exit ?_ | refine AW.ret ?_); simp only [thenA_exit, inBlockA_exit, if_true, if_false, Nat.reduceEqDiff, thenA_normal, inBlockA_normal, reduceIte, thenA_ret, inBlockA_ret, endQ_ret, endR_ret, endG_ret, endQ_normal, endR_normal, endG_normal])))
      exact ⟨.bool true, by simp [ares, aresL], pur_bool, rfl⟩
    have h2' : ¬ (n.names.length : Int) < 2 := by omega
    have hl1 : 0 < n.names.length := by omega
    have hl2 : 1 < n.names.length := by omega
    have g1 : 1 ≤ n.names.length := by omega
    have g2 : 2 ≤ n.names.length := by omega
    have g1' : (1 : Int) ≤ n.names.length := by omega
    have g2' : (2 : Int) ≤ n.names.length := by omega
    obtain ⟨a1, a2, a3⟩ := num_valid 1 (by omega)
    obtain ⟨b1, b2, b3⟩ := num_valid 2 (by omega)
    have pa := number_AC 1
    have pb := number_AC 2
    generalize (⟨1, 1, ⟨#[]⟩, [], []⟩ : Nd) = a at *
    generalize (⟨1, 2, ⟨#[]⟩, [], []⟩ : Nd) = c at *
    obtain ⟨k1, v1⟩ := setO_name h1 h4 hl1 a1 a2 a3
    obtain ⟨k3, v3⟩ := setO_name h1 h4 hl2 b1 b2 b3
    obtain ⟨k2, v2⟩ := setO_name (n := setK n 0 a) (i := 1) v1 h4 hl2 b1 b2 b3
    obtain ⟨k4, v4⟩ := setO_name (n := setK n 1 c) (i := 0) v3 h4 hl1 a1 a2 a3
    have hcomm : setK (setK n 1 c) 0 a = setK (setK n 0 a) 1 c := by
      unfold setK
      dsimp only
      rw [List.set_comm _ _ (by omega)]
    rw [hcomm] at k4
    have q1 := SetNode_AC .loose n [n.names[0]] a
    have q2 := SetNode_AC .loose (setK n 0 a) [n.names[1]] c
    have q3 := SetNode_AC .loose n [n.names[1]] c
    have q4 := SetNode_AC .loose (setK n 1 c) [n.names[0]] a
    rw [k1, optA_some] at q1
    rw [show setO (setK n 0 a) [n.names[1]] c = _ from k2, optA_some] at q2
    rw [k3, optA_some] at q3
    rw [show setO (setK n 1 c) [n.names[0]] a = _ from k4, optA_some] at q4
    have q5 := equalNode_AC (setK (setK n 0 a) 1 c) (Shp.of v2).sml .loose .loose
    rw [nodeT_loose] at q5
    have s1 : (strsE n.names).take 1 = strsE [n.names[0]] := by
      obtain ⟨x, xs, hx⟩ : ∃ x xs, n.names = x :: xs := List.exists_cons_of_length_pos hl1
      simp [hx, strsE]
    have s2 : ((strsE n.names).take 2).drop 1 = strsE [n.names[1]] := by
      obtain ⟨x, xs, hx⟩ : ∃ x xs, n.names = x :: xs := List.exists_cons_of_length_pos hl1
      obtain ⟨y, ys, hy⟩ : ∃ x ys, xs = x :: ys := List.exists_cons_of_length_pos (by rw [hx] at hl2; simpa using hl2)
      simp [hx, hy, strsE]
    clear k1 k2 k3 k4 v1 v2 v3 v4 hcomm
    generalize hx1 : setK n 0 a = r1 at *
    generalize hx3 : setK n 1 c = r3 at *
    generalize hx2 : setK r1 1 c = r2 at *
    (repeat (first | with_reducible refine AW.seq ?_ | ((first | refine arun_kn 4 rfl (fun C hC => ?_) | refine arunD_kn 4 rfl (fun C hC => ?_)); (repeat ((conv => whnf); simp [hbb, hbc, h4', h2', strsE_len])); refine hC _ ?_; clear hC C; simp only [List.drop, Nat.reduceAdd]) | ((first | refine arun_kn 1 rfl (fun C hC => ?_) | refine arunD_kn 1 rfl (fun C hC => ?_)); (repeat ((conv => whnf); simp [hbb, hbc, h4', h2', strsE_len])); refine hC _ ?_; clear hC C; simp only [List.drop, Nat.reduceAdd]) | (refine arun_skip ?_ ?_; (focus (simp [awant, hbb, hbc, h4', h2', strsE_len]; done))) | (refine arun_c0 (p1) ?_; rintro _ rfl) | (refine arun_c0 (p2) ?_; rintro _ rfl) | (refine arun_c0 (p3) ?_; rintro _ rfl) | (refine arun_c0 (p0) ?_; rintro _ rfl) | (refine arun_c0 (pa) ?_; rintro _ rfl) | (refine arun_c0 (pb) ?_; rintro _ rfl) | (refine arunD_skip ?_ ?_; (focus (simp [awant, hbb, hbc, h4', h2', strsE_len]; done))) | (refine AW.regionK [] (fun K hK => ?_)) | (refine AW.condT ?_ ?_; (focus (simp [aev, hbb, hbc, h4', h2', strsE_len]; done))) | (refine AW.condF ?_ ?_; (focus (simp [aev, hbb, hbc, h4', h2', strsE_len]; done))) | with_reducible refine AW.block ?_ | ((first | ((first | refine arun_nil ?_ | refine arunD_nil ?_); refine hK _ ?_; clear hK K) | refine AW.skip ?_ | refine AW.exit ?_ | refine AW.ret ?_); simp only [thenA_exit, inBlockA_exit, if_true, if_false, Nat.reduceEqDiff, thenA_normal, inBlockA_normal, reduceIte, thenA_ret, inBlockA_ret, endQ_ret, endR_ret, endG_ret, endQ_normal, endR_normal, endG_normal])))
    refine AW.regionDK [] (pcs [(5, 0, fun r => r = .tup [nodeA r1, .bool true])] []) (by kernel_rfl) (by kernel_rfl) (fun K hK => ?_)
    (repeat (first | with_reducible refine AW.seq ?_ | ((first | refine arun_kn 4 rfl (fun C hC => ?_) | refine arunD_kn 4 rfl (fun C hC => ?_)); (repeat ((conv => whnf); simp [strsE_len, s1, g1, g1', VC.cut])); refine hC _ ?_; clear hC C; simp only [List.drop, Nat.reduceAdd]) | ((first | refine arun_kn 1 rfl (fun C hC => ?_) | refine arunD_kn 1 rfl (fun C hC => ?_)); (repeat ((conv => whnf); simp [strsE_len, s1, g1, g1', VC.cut])); refine hC _ ?_; clear hC C; simp only [List.drop, Nat.reduceAdd]) | (refine arun_skip ?_ ?_; (focus (simp [awant, strsE_len, s1, g1, g1', VC.cut]; done))) | (refine arun_c0 (hx := by (simp [strsE_len, s1, g1, g1', VC.cut] <;> fail)) (q1) ?_; rintro _ rfl) | (refine arunD_skip ?_ ?_; (focus (simp [awant, strsE_len, s1, g1, g1', VC.cut]; done))) | (refine arunD_c (0) (q1) ?_; rintro _ rfl; intro _) | (refine AW.regionK [] (fun K hK => ?_)) | (refine AW.condT ?_ ?_; (focus (simp [aev, strsE_len, s1, g1, g1', VC.cut]; done))) | (refine AW.condF ?_ ?_; (focus (simp [aev, strsE_len, s1, g1, g1', VC.cut]; done))) | with_reducible refine AW.block ?_ | ((first | ((first | refine arun_nil ?_ | refine arunD_nil ?_); refine hK _ ?_; clear hK K) | refine AW.skip ?_ | refine AW.exit ?_ | refine AW.ret ?_); simp only [thenA_exit, inBlockA_exit, if_true, if_false, Nat.reduceEqDiff, thenA_normal, inBlockA_normal, reduceIte, thenA_ret, inBlockA_ret, endQ_ret, endR_ret, endG_ret, endQ_normal, endR_normal, endG_normal])))
    refine AW.regionDK [] (pcs [(5, 0, fun r => r = .tup [nodeA r2, .bool true])] []) (by kernel_rfl) (by kernel_rfl) (fun K hK => ?_)
    (repeat (first | with_reducible refine AW.seq ?_ | ((first | refine arun_kn 4 rfl (fun C hC => ?_) | refine arunD_kn 4 rfl (fun C hC => ?_)); (repeat ((conv => whnf); simp [strsE_len, s2, g2, g2', VC.cut])); refine hC _ ?_; clear hC C; simp only [List.drop, Nat.reduceAdd]) | ((first | refine arun_kn 1 rfl (fun C hC => ?_) | refine arunD_kn 1 rfl (fun C hC => ?_)); (repeat ((conv => whnf); simp [strsE_len, s2, g2, g2', VC.cut])); refine hC _ ?_; clear hC C; simp only [List.drop, Nat.reduceAdd]) | (refine arun_skip ?_ ?_; (focus (simp [awant, strsE_len, s2, g2, g2', VC.cut]; done))) | (refine arun_c0 (hx := by (simp [strsE_len, s2, g2, g2', VC.cut] <;> fail)) (q2) ?_; rintro _ rfl) | (refine arunD_skip ?_ ?_; (focus (simp [awant, strsE_len, s2, g2, g2', VC.cut]; done))) | (refine arunD_c (0) (q2) ?_; rintro _ rfl; intro _) | (refine AW.regionK [] (fun K hK => ?_)) | (refine AW.condT ?_ ?_; (focus (simp [aev, strsE_len, s2, g2, g2', VC.cut]; done))) | (refine AW.condF ?_ ?_; (focus (simp [aev, strsE_len, s2, g2, g2', VC.cut]; done))) | with_reducible refine AW.block ?_ | ((first | ((first | refine arun_nil ?_ | refine arunD_nil ?_); refine hK _ ?_; clear hK K) | refine AW.skip ?_ | refine AW.exit ?_ | refine AW.ret ?_); simp only [thenA_exit, inBlockA_exit, if_true, if_false, Nat.reduceEqDiff, thenA_normal, inBlockA_normal, reduceIte, thenA_ret, inBlockA_ret, endQ_ret, endR_ret, endG_ret, endQ_normal, endR_normal, endG_normal])))
    refine AW.regionDK [] (pcs [(5, 0, fun r => r = .tup [nodeA r3, .bool true])] []) (by kernel_rfl) (by kernel_rfl) (fun K hK => ?_)
    (repeat (first | with_reducible refine AW.seq ?_ | ((first | refine arun_kn 4 rfl (fun C hC => ?_) | refine arunD_kn 4 rfl (fun C hC => ?_)); (repeat ((conv => whnf); simp [strsE_len, s2, g2, g2', VC.cut])); refine hC _ ?_; clear hC C; simp only [List.drop, Nat.reduceAdd]) | ((first | refine arun_kn 1 rfl (fun C hC => ?_) | refine arunD_kn 1 rfl (fun C hC => ?_)); (repeat ((conv => whnf); simp [strsE_len, s2, g2, g2', VC.cut])); refine hC _ ?_; clear hC C; simp only [List.drop, Nat.reduceAdd]) | (refine arun_skip ?_ ?_; (focus (simp [awant, strsE_len, s2, g2, g2', VC.cut]; done))) | (refine arun_c0 (hx := by (simp [strsE_len, s2, g2, g2', VC.cut] <;> fail)) (q3) ?_; rintro _ rfl) | (refine arunD_skip ?_ ?_; (focus (simp [awant, strsE_len, s2, g2, g2', VC.cut]; done))) | (refine arunD_c (0) (q3) ?_; rintro _ rfl; intro _) | (refine AW.regionK [] (fun K hK => ?_)) | (refine AW.condT ?_ ?_; (focus (simp [aev, strsE_len, s2, g2, g2', VC.cut]; done))) | (refine AW.condF ?_ ?_; (focus (simp [aev, strsE_len, s2, g2, g2', VC.cut]; done))) | with_reducible refine AW.block ?_ | ((first | ((first | refine arun_nil ?_ | refine arunD_nil ?_); refine hK _ ?_; clear hK K) | refine AW.skip ?_ | refine AW.exit ?_ | refine AW.ret ?_); simp only [thenA_exit, inBlockA_exit, if_true, if_false, Nat.reduceEqDiff, thenA_normal, inBlockA_normal, reduceIte, thenA_ret, inBlockA_ret, endQ_ret, endR_ret, endG_ret, endQ_normal, endR_normal, endG_normal])))
    refine AW.regionDK [] (pcs [(5, 0, fun r => r = .tup [nodeA r2, .bool true])] []) (by kernel_rfl) (by kernel_rfl) (fun K hK => ?_)
    (repeat (first | with_reducible refine AW.seq ?_ | ((first | refine arun_kn 4 rfl (fun C hC => ?_) | refine arunD_kn 4 rfl (fun C hC => ?_)); (repeat ((conv => whnf); simp [strsE_len, s1, g1, g1', VC.cut])); refine hC _ ?_; clear hC C; simp only [List.drop, Nat.reduceAdd]) | ((first | refine arun_kn 1 rfl (fun C hC => ?_) | refine arunD_kn 1 rfl (fun C hC => ?_)); (repeat ((conv => whnf); simp [strsE_len, s1, g1, g1', VC.cut])); refine hC _ ?_; clear hC C; simp only [List.drop, Nat.reduceAdd]) | (refine arun_skip ?_ ?_; (focus (simp [awant, strsE_len, s1, g1, g1', VC.cut]; done))) | (refine arun_c0 (hx := by (simp [strsE_len, s1, g1, g1', VC.cut] <;> fail)) (q4) ?_; rintro _ rfl) | (refine arun_c0 (q5) ?_; rintro _ rfl) | (refine arunD_skip ?_ ?_; (focus (simp [awant, strsE_len, s1, g1, g1', VC.cut]; done))) | (refine arunD_c (0) (q4) ?_; rintro _ rfl; intro _) | (refine arunD_c (0) (q5) ?_; rintro _ rfl; intro _) | (refine AW.regionK [] (fun K hK => ?_)) | (refine AW.condT ?_ ?_; (focus (simp [aev, strsE_len, s1, g1, g1', VC.cut]; done))) | (refine AW.condF ?_ ?_; (focus (simp [aev, strsE_len, s1, g1, g1', VC.cut]; done))) | with_reducible refine AW.block ?_ | ((first | ((first | refine arun_nil ?_ | refine arunD_nil ?_); refine hK _ ?_; clear hK K) | refine AW.skip ?_ | refine AW.exit ?_ | refine AW.ret ?_); simp only [thenA_exit, inBlockA_exit, if_true, if_false, Nat.reduceEqDiff, thenA_normal, inBlockA_normal, reduceIte, thenA_ret, inBlockA_ret, endQ_ret, endR_ret, endG_ret, endQ_normal, endR_normal, endG_normal])))
    exact ⟨.bool true, by simp [ares, aresL], pur_bool, rfl⟩
  · have hl' : (1048576 : Int) < (zs.length : Int) := by omega
    (repeat (first | with_reducible refine AW.seq ?_ | ((first | refine arun_kn 4 rfl (fun C hC => ?_) | refine arunD_kn 4 rfl (fun C hC => ?_)); (repeat ((conv => whnf); simp [bytesE_len, hl'])); refine hC _ ?_; clear hC C; simp only [List.drop, Nat.reduceAdd]) | ((first | refine arun_kn 1 rfl (fun C hC => ?_) | refine arunD_kn 1 rfl (fun C hC => ?_)); (repeat ((conv => whnf); simp [bytesE_len, hl'])); refine hC _ ?_; clear hC C; simp only [List.drop, Nat.reduceAdd]) | (refine arun_skip ?_ ?_; (focus (simp [awant, bytesE_len, hl']; done))) | (refine arunD_skip ?_ ?_; (focus (simp [awant, bytesE_len, hl']; done))) | (refine AW.regionK [] (fun K hK => ?_)) | (refine AW.regionDK [] (pcs [] []) (by kernel_rfl) (by kernel_rfl) (fun K hK => ?_)) | (refine AW.condT ?_ ?_; (focus (simp [aev, bytesE_len, hl']; done))) | (refine AW.condF ?_ ?_; (focus (simp [aev, bytesE_len, hl']; done))) | with_reducible refine AW.block ?_ | ((first | ((first | refine arun_nil ?_ | refine arunD_nil ?_); refine hK _ ?_; clear hK K) | refine AW.skip ?_ | refine AW.exit ?_ | refine AW.ret ?_); simp only [thenA_exit, inBlockA_exit, if_true, if_false, Nat.reduceEqDiff, thenA_normal, inBlockA_normal, reduceIte, thenA_ret, inBlockA_ret, endQ_ret, endR_ret, endG_ret, endQ_normal, endR_normal, endG_normal])))
    exact ⟨.bool true, by simp [ares, aresL], pur_bool, rfl⟩
end Go.Proofs.YtfjaobfaepjfnaaDoor.Eng
