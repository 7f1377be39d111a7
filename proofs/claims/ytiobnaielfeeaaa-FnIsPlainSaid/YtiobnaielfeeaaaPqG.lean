/-
  Texts of this claim, joined.
-/
import Derived.Test.YtiobnaielfeeaaaPqF

set_option linter.unusedSimpArgs false
set_option linter.unusedVariables false
set_option linter.unnecessarySimpa false
set_option maxRecDepth 100000
set_option maxHeartbeats 16000000
namespace Go.Proofs.Ytiobnaielfeeaaa.Eng
open Go Go.RowKit
inductive Dst : Nd → Prop where
  | mk (n : Nd) (h1 : ∀ i j, i < j → j < n.kids.length → stp n.kind n.names i ≠ stp n.kind n.names j) (h2 : ∀ k ∈ n.kids, Dst k) : Dst n
theorem Dst.step {n : Nd} : Dst n → ∀ i j, i < j → j < n.kids.length → stp n.kind n.names i ≠ stp n.kind n.names j | .mk _ h _ => h
theorem Dst.kid {n : Nd} : Dst n → ∀ k ∈ n.kids, Dst k | .mk _ _ h => h
end Go.Proofs.Ytiobnaielfeeaaa.Eng
namespace Go.Proofs.Ytiobnaielfeeaaa
open Go.RowKit
end Go.Proofs.Ytiobnaielfeeaaa
namespace Go.Proofs.Ytiobnaielfeeaaa.Eng
open Go Go.RowKit
def Shp (n : Nd) : Prop := ∃ d, shapeB n d = true
theorem Shp.kid {n : Nd} (h : Shp n) {k : Nd} (hk : k ∈ n.kids) : Shp k := by
  obtain ⟨d, h⟩ := h
  rw [shapeB_eq] at h
  simp only [Bool.and_eq_true] at h
  exact ⟨d - 1, shapeL_mem h.2 k hk⟩
theorem Shp.parts {n : Nd} (h : Shp n) : partsB n = true := by
  obtain ⟨d, h⟩ := h
  rw [shapeB_eq] at h
  simp only [Bool.and_eq_true] at h
  exact h.1.2
theorem Shp.kids {n : Nd} (h : Shp n) : n.kids.length ≤ 6 := partsB_kids h.parts
theorem Shp.map {n : Nd} (h : Shp n) (h4 : n.kind = 4) : areNamesB n.names = true ∧ n.kids.length = n.names.length := by
  have hp := h.parts
  unfold partsB at hp
  simp only [Bool.and_eq_true] at hp
  have hp := hp.2
  rw [h4] at hp
  simp at hp
  exact hp
theorem Shp.asc {n : Nd} (h : Shp n) (h4 : n.kind = 4) : Asc n.names := by
  have := (h.map h4).1
  simp only [areNamesB, Bool.and_eq_true] at this
  exact namesB_asc this.2
theorem Shp.of {n : Nd} (h : validB n = true) : Shp n := by
  unfold validB at h
  rw [Bool.and_eq_true] at h
  exact ⟨5, h.1⟩
theorem Shp.sml {n : Nd} (h : Shp n) : Sml n := shape_sml n _ h.choose_spec
theorem lb_at {xs : List ByteArray} (ha : Asc xs) {j : Nat} (hj : j < xs.length) : lbound xs xs[j] = j :=
  lb_of (Nat.le_of_lt hj) (fun t ht htj => ha t j ht hj htj) (fun t ht hjt => by
    rcases Nat.eq_or_lt_of_le hjt with rfl | h
    · exact lt_irr _
    · exact bl_asymm _ _ (ha j t hj ht h))
end Go.Proofs.Ytiobnaielfeeaaa.Eng
namespace Go.Proofs.Ytiobnaielfeeaaa.Eng
open Go Go.RowKit
attribute [local simp] big size_mk ASt.pay Option.map_map Function.comp_def awant aop acall ado aev ofVal ofVal0 ASt.put ASt.add ASt.turn ASt.kill abox aalloc astore aload ASt.at cellsTo afieldAddr afield aindexAddr aindex alen abin aint acmp astr aun apick aextract anil aslice abound abuild afill abuildSlice asCells aps avCells over upd aappend asrc amax amin aconv mkSt slots rowsOf_cons rowsOf_nil usedOf_cons usedOf_nil ZK.av List.replicate ASt.back ASt.addL ASt.killL nodeA nodeT nodeTL_eq nodeL_eq strsE_get strsE_len intsE_get intsE_len strsE_at intsE_at tab2 tab3 tab4 tab5 tab6 tab7 tab8 tab9 tab10 tab11 tab12 tab13 tab14 tab15 tab16 tab17 tab18 tab19 tab21 tab22 tab23 tab24 tab25 tab26 tab27 tab28 tab29 tab30 tab48 tab51 tab52 tab59 tab77 tab78 tab79 tab91 tab95 tab96 tab97 tab109 tab116 tab132 tab133 tab138 tab139 tab144 tab145 tab146 tab148 tab149 tab150
theorem cN_le : cN ≤ 1000000 := by decide +kernel
theorem bsearch_AC (xs : List ByteArray) (s : ByteArray) (t : VC) (ha : Asc xs) (hl : xs.length ≤ 1000) : AC Try.prog 86 [.view t 1 (strsE xs), .str s] 0 (fun r => r = .tup [.int .i64 (lbound xs s : Nat), .bool (mem xs s)]) := by
  refine AC.ofGrow (enters_of Try.func86 (by kernel_rfl) (by kernel_rfl)) (fun w L S rb vs h => ?_)
  obtain ⟨v, u, rfl, h1, h2⟩ := repL2_inv h
  obtain ⟨a, c, rfl, h3⟩ := strs_of_rep h1
  rw [rep_str] at h2
  obtain ⟨rfl, _⟩ := h2
  refine (bsearch_ok a c xs s w h3 ha (by omega)).mono ?_
  rintro e w' ⟨rfl, hg⟩
  exact ⟨_, .tup [.int .i64 (lbound xs s : Nat), .bool (mem xs s)], rfl, hg, rep_tup.2 ⟨[_, _], rfl, repL2 (rep_int.2 rfl) (rep_bool.2 rfl)⟩, rfl⟩
def optA (o : Option Nd) : AV := .tup [nodeA (o.getD Nd.zero), .bool o.isSome]
theorem zero_wk : Wk (node0 0 0 ⟨#[]⟩) (nodeA Nd.zero) := by
  unfold node0 nodeA
  rw [nodeL_eq]
  exact Wk.agg (.cons (Wk.refl _) (.cons (Wk.refl _) (.cons (Wk.refl _) (.cons (Wk.nil (fun h => by cases h)) (.cons (Wk.nil (fun h => by cases h)) .nil)))))
theorem tup2_wk' {a b a' b' : AV} (h1 : Wk a a') (h2 : Wk b b') : Wk (.tup [a, b]) (.tup [a', b']) := Wk.tup (.cons h1 (.cons h2 .nil))
theorem none_end : Pur (.tup [node0 0 0 ⟨#[]⟩, .bool false]) ∧ Wk (.tup [node0 0 0 ⟨#[]⟩, .bool false]) (.tup [nodeA Nd.zero, .bool false]) := ⟨tup2_pur (node0_pur 0 0 ⟨#[]⟩) pur_bool, tup2_wk' zero_wk (Wk.refl _)⟩
theorem zeroA : nodeL Nd.zero = [.int .i64 0, .int .i64 0, .str ⟨#[]⟩, .view .loose 1 [], .view .loose 5 []] := by rw [nodeL_eq]; rfl
def boxRR (n : Nd) (a b : Nat) : Row := ⟨true, 30, 5, [[.int .i64 n.kind, .int .i64 n.num, .str n.text, .own a n.names.length, .own b n.kids.length]]⟩
def putK (n : Nd) (nm : ByteArray) (v : Nd) : Nd :=
  if mem n.names nm then ⟨n.kind, n.num, n.text, n.names, n.kids.set (lbound n.names nm) v⟩
  else ⟨n.kind, n.num, n.text, n.names.take (lbound n.names nm) ++ (nm :: n.names.drop (lbound n.names nm)), n.kids.take (lbound n.names nm) ++ (v :: n.kids.drop (lbound n.names nm))⟩
def dropK (n : Nd) (nm : ByteArray) : Nd :=
  if mem n.names nm then ⟨n.kind, n.num, n.text, n.names.take (lbound n.names nm) ++ n.names.drop (lbound n.names nm + 1), n.kids.take (lbound n.names nm) ++ n.kids.drop (lbound n.names nm + 1)⟩ else n
def PostK (m : Nd) (a0 b0 a1 b1 : Nat) (r : AV) (l : List (Nat × Row)) : Prop := ∃ a b, ((a = a0 ∧ b = b0) ∨ (a = a1 ∧ b = b1)) ∧ r = .tup [] ∧ l = [(1000, boxRR m a b), (a, namesR m.names), (b, nodesR m.kids)]
def rowsK (n : Nd) : List (Nat × Row) := [(1000, boxRR n 1001 1002), (1001, namesR n.names), (1002, nodesR n.kids)]
theorem lbn_le (xs : List ByteArray) (nm : ByteArray) : lbound xs nm ≤ xs.length := List.countP_le_length
theorem lbn_lt {xs : List ByteArray} {nm : ByteArray} (ha : Asc xs) (h : mem xs nm = true) : lbound xs nm < xs.length := by
  obtain ⟨i, hi, he⟩ := List.getElem_of_mem (mem_iff.1 h)
  subst he
  rw [lb_at ha hi]; exact hi
theorem purK {n : Nd} {a b : Nat} : ∀ p ∈ [(1000, boxRR n a b), (a, namesR n.names), (b, nodesR n.kids)], ∀ e ∈ p.2.es, ∀ c ∈ e, PurR c := by
  simp only [List.forall_mem_cons, List.not_mem_nil, false_implies, implies_true, and_true, boxRR]
  exact ⟨⟨pur_int.purR, pur_int.purR, pur_str.purR, purR_own, purR_own⟩, fun e he c hc => (strsE_pur _ e he c hc).purR, fun e he c hc => (nodesE_pur _ e he c hc).purR⟩
theorem inK {n : Nd} {a b : Nat} : ∀ p ∈ [(1000, boxRR n a b), (a, namesR n.names), (b, nodesR n.kids)], ∀ e ∈ p.2.es, ∀ c ∈ e, AV.In (fun id => (rowsOf [(1000, boxRR n a b), (a, namesR n.names), (b, nodesR n.kids)] id).isSome) c := by
  simp only [List.forall_mem_cons, List.not_mem_nil, false_implies, implies_true, and_true, boxRR]
  refine ⟨⟨in_int, in_int, in_str, in_own.2 ?_, in_own.2 ?_⟩, fun e he c hc => strsE_in _ e he c hc, fun e he c hc => nodesE_in _ e he c hc⟩
  · simp only [rowsOf_cons]; split <;> simp
  · simp only [rowsOf_cons]; split <;> (try split) <;> simp
theorem putK_yes {n v : Nd} {nm : ByteArray} (h : mem n.names nm = true) : putK n nm v = ⟨n.kind, n.num, n.text, n.names, n.kids.set (lbound n.names nm) v⟩ := by unfold putK; rw [if_pos h]
theorem putK_no {n v : Nd} {nm : ByteArray} (h : mem n.names nm = false) : putK n nm v = ⟨n.kind, n.num, n.text, n.names.take (lbound n.names nm) ++ (nm :: n.names.drop (lbound n.names nm)), n.kids.take (lbound n.names nm) ++ (v :: n.kids.drop (lbound n.names nm))⟩ := by unfold putK; rw [h]; rfl
theorem putName_ACG (n v : Nd) (nm : ByteArray) (hasc : Asc n.names) (hl : n.names.length = n.kids.length) (hb : n.kids.length ≤ 1000) : ACG Try.prog 87 [.ptr true 5 1 1000 0 0, .str nm, nodeA v] (rowsK n) 0 (PostK (putK n nm v) 1001 1002 33 44) := by
  unfold rowsK boxRR namesR nodesR nodeA
  rw [nodeL_eq v]
  have hml : (n.kids.map nodeL).length = n.kids.length := List.length_map _
  have hsl := strsE_len n.names
  have hle := lbn_le n.names nm
  have pb := bsearch_AC n.names nm .lent hasc (by omega)
  refine ACG.of tab_ok mixed_ok Try.func87 (by rfl) (by kernel_rfl) (by simp) ?_; rintro ⟨P, T, hT, hm, w0, S0, rd0, k0⟩ hP hTT; dsimp only at hP hTT; subst hP hTT; unfold initStG; rw [Try.ntmps87]
  cases hm : mem n.names nm with
  | true =>
    have hlt := lbn_lt hasc hm
    rw [hm] at pb
    have hlk : lbound n.names nm < n.kids.length := by omega
    (repeat (first | with_reducible refine AW.seq ?_ | ((first | refine arun_kn 4 rfl (fun C hC => ?_) | refine arunD_kn 4 rfl (fun C hC => ?_)); (repeat ((conv => whnf); simp [hml, hsl, hlt, hlk])); refine hC _ ?_; clear hC C; simp only [List.drop, Nat.reduceAdd]) | ((first | refine arun_kn 1 rfl (fun C hC => ?_) | refine arunD_kn 1 rfl (fun C hC => ?_)); (repeat ((conv => whnf); simp [hml, hsl, hlt, hlk])); refine hC _ ?_; clear hC C; simp only [List.drop, Nat.reduceAdd]) | (refine arun_skip ?_ ?_; (focus (simp [awant, hml, hsl, hlt, hlk]; done))) | (refine arun_cL (0) (pb) ?_; rintro _ rfl) | (refine AW.regionK [] (fun K hK => ?_)) | (refine AW.regionDK [] (pcs [] []) (by kernel_rfl) (by kernel_rfl) (fun K hK => ?_)) | (refine AW.condT ?_ ?_; (focus (simp [aev, hml, hsl, hlt, hlk]; done))) | (refine AW.condF ?_ ?_; (focus (simp [aev, hml, hsl, hlt, hlk]; done))) | with_reducible refine AW.block ?_ | ((first | ((first | refine arun_nil ?_ | refine arunD_nil ?_); refine hK _ ?_; clear hK K) | refine AW.skip ?_ | refine AW.exit ?_ | refine AW.ret ?_); simp only [thenA_exit, inBlockA_exit, if_true, if_false, Nat.reduceEqDiff, thenA_normal, inBlockA_normal, reduceIte, thenA_ret, inBlockA_ret, endQ_ret, endR_ret, endG_ret, endQ_normal, endR_normal, endG_normal])))
    refine ⟨.tup [], [(1000, boxRR (putK n nm v) 1001 1002), (1001, namesR (putK n nm v).names), (1002, nodesR (putK n nm v).kids)], by simp [ares, aresL], ?_, purR_tup (fun _ h => by cases h), purK, ⟨in_tup.2 (fun _ h => by cases h), inK⟩, 1001, 1002, .inl ⟨rfl, rfl⟩, rfl, rfl⟩
    have q1 : (putK n nm v).kind = n.kind := by rw [putK_yes hm]
    have q2 : (putK n nm v).num = n.num := by rw [putK_yes hm]
    have q3 : (putK n nm v).text = n.text := by rw [putK_yes hm]
    have q4 : (putK n nm v).names = n.names := by rw [putK_yes hm]
    have q5 : (putK n nm v).kids.map nodeL = (n.kids.map nodeL).set (lbound n.names nm) (nodeL v) := by rw [putK_yes hm, List.map_set]
    have q6 : (putK n nm v).kids.length = n.kids.length := by rw [putK_yes hm, List.length_set]
    rw [nodeL_eq v] at q5
    unfold boxRR namesR nodesR
    rw [q1, q2, q3, q4, q5, q6]
    simp only [List.forall_mem_cons, List.not_mem_nil, false_implies, implies_true, and_true]
    exact ⟨rfl, rfl, rfl⟩
  | false =>
    rw [hm] at pb
    (repeat (first | with_reducible refine AW.seq ?_ | ((first | refine arun_knb 4 rfl (fun C hC => ?_) | refine arunD_kn 4 rfl (fun C hC => ?_)); (repeat ((conv => whnf); simp [hml, hsl])); refine hC _ ?_; clear hC C; simp only [List.drop, Nat.reduceAdd]) | ((first | refine arun_knb 1 rfl (fun C hC => ?_) | refine arunD_kn 1 rfl (fun C hC => ?_)); (repeat ((conv => whnf); simp [hml, hsl])); refine hC _ ?_; clear hC C; simp only [List.drop, Nat.reduceAdd]) | (refine arun_skip ?_ ?_; (focus (simp [awant, hml, hsl]; done))) | (refine arun_cL (0) (pb) ?_; rintro _ rfl) | (refine AW.regionK [] (fun K hK => ?_)) | (refine AW.regionDK [] (pcs [] []) (by kernel_rfl) (by kernel_rfl) (fun K hK => ?_)) | (refine AW.condT ?_ ?_; (focus (simp [aev, hml, hsl]; done))) | (refine AW.condF ?_ ?_; (focus (simp [aev, hml, hsl]; done))) | with_reducible refine AW.block ?_ | ((first | ((first | refine arun_nil ?_ | refine arunD_nil ?_); refine hK _ ?_; clear hK K) | refine AW.skip ?_ | refine AW.exit ?_ | refine AW.ret ?_); simp only [thenA_exit, inBlockA_exit, if_true, if_false, Nat.reduceEqDiff, thenA_normal, inBlockA_normal, reduceIte, thenA_ret, inBlockA_ret, endQ_ret, endR_ret, endG_ret, endQ_normal, endR_normal, endG_normal])))
    refine arun_ownSlice 32 rfl (by simp [awant]) tab23 (by simp; exact ⟨rfl, rfl⟩) (by simp [upd]) ?_
    have hins := insS_ACG (strsE n.names) [.str nm] (lbound n.names nm) (by rw [hsl]; exact hle) (by rw [hsl]; omega) (strsE_pur n.names) (by simp only [List.forall_mem_cons, List.not_mem_nil, false_implies, implies_true, and_true]; exact pur_str)
    rw [hsl] at hins
    have hes : (strsE n.names).take (lbound n.names nm) ++ ([.str nm] :: (strsE n.names).drop (lbound n.names nm)) = strsE (putK n nm v).names := by
      rw [putK_no hm]; simp [strsE, List.map_take, List.map_drop]
    rw [hes] at hins
    refine arun_callG1 (g := fun k => .own k (n.names.length + 1)) (R := namesR (putK n nm v).names) [(1000, ⟨false, 9, 1, strsE n.names⟩), (1001, ⟨false, 9, 1, [[.str nm]]⟩)] (fun k => if k = 1000 then 1001 else 32) 33 (by simp [awant]) rfl (hins.mono (fun r b h => ⟨1, h⟩)) (by simp) ?_ ?_ (can_of (Nat.le_refl _)) (by simp [upd]) (strsE_pur _) (fun k => .base (.base (.own (by simp) rfl))) ?_
    · refine MvR.same (by simp [upd, rowsOf_cons]) (fun e he c hc => (strsE_pur _ e he c hc).clo) (MvR.same (by simp [upd]) (fun e he c hc => ?_) MvR.nil)
      rw [List.mem_singleton.1 he, List.mem_singleton] at hc
      subst hc
      exact clo_str
    · exact .cons (.base (.own (by simp) (by simp))) (.cons (.base (.clo (Clo.cloTo clo_int))) (.cons (.base (.own (by simp) (by simp))) .nil))
    (repeat (first | with_reducible refine AW.seq ?_ | ((first | refine arun_kn 4 rfl (fun C hC => ?_) | refine arunD_kn 4 rfl (fun C hC => ?_)); (repeat ((conv => whnf); simp [hml, hsl])); refine hC _ ?_; clear hC C; simp only [List.drop, Nat.reduceAdd]) | ((first | refine arun_kn 1 rfl (fun C hC => ?_) | refine arunD_kn 1 rfl (fun C hC => ?_)); (repeat ((conv => whnf); simp [hml, hsl])); refine hC _ ?_; clear hC C; simp only [List.drop, Nat.reduceAdd]) | (refine arun_skip ?_ ?_; (focus (simp [awant, hml, hsl]; done))) | (refine AW.regionK [] (fun K hK => ?_)) | (refine AW.condT ?_ ?_; (focus (simp [aev, hml, hsl]; done))) | (refine AW.condF ?_ ?_; (focus (simp [aev, hml, hsl]; done))) | with_reducible refine AW.block ?_ | ((first | ((first | refine arun_nil ?_ | refine arunD_nil ?_); refine hK _ ?_; clear hK K) | refine AW.skip ?_ | refine AW.exit ?_ | refine AW.ret ?_); simp only [thenA_exit, inBlockA_exit, if_true, if_false, Nat.reduceEqDiff, thenA_normal, inBlockA_normal, reduceIte, thenA_ret, inBlockA_ret, endQ_ret, endR_ret, endG_ret, endQ_normal, endR_normal, endG_normal])))
    refine AW.regionDK [2043] (pcs [] [1008]) (by kernel_rfl) (by kernel_rfl) (fun K hK => ?_)
    (repeat (first | with_reducible refine AW.seq ?_ | ((first | refine arun_kn 4 rfl (fun C hC => ?_) | refine arunD_kn 4 rfl (fun C hC => ?_)); (repeat ((conv => whnf); simp [hml, hsl])); refine hC _ ?_; clear hC C; simp only [List.drop, Nat.reduceAdd]) | ((first | refine arun_kn 1 rfl (fun C hC => ?_) | refine arunD_kn 1 rfl (fun C hC => ?_)); (repeat ((conv => whnf); simp [hml, hsl])); refine hC _ ?_; clear hC C; simp only [List.drop, Nat.reduceAdd]) | (refine arun_skip ?_ ?_; (focus (simp [awant, hml, hsl]; done))) | (refine AW.regionK [] (fun K hK => ?_)) | (refine AW.regionDK [] (pcs [] []) (by kernel_rfl) (by kernel_rfl) (fun K hK => ?_)) | (refine AW.condT ?_ ?_; (focus (simp [aev, hml, hsl]; done))) | (refine AW.condF ?_ ?_; (focus (simp [aev, hml, hsl]; done))) | with_reducible refine AW.block ?_ | ((first | ((first | refine arun_nil ?_ | refine arunD_nil ?_); refine hK _ ?_; clear hK K) | refine AW.skip ?_ | refine AW.exit ?_ | refine AW.ret ?_); simp only [thenA_exit, inBlockA_exit, if_true, if_false, Nat.reduceEqDiff, thenA_normal, inBlockA_normal, reduceIte, thenA_ret, inBlockA_ret, endQ_ret, endR_ret, endG_ret, endQ_normal, endR_normal, endG_normal])))
    have hinn := insN_ACG (n.kids.map nodeL) (nodeL v) (lbound n.names nm) (by rw [hml]; omega) (by rw [hml]; omega) (nodesE_pur n.kids) (nodeL_pur v)
    rw [hml] at hinn
    have hks : (n.kids.map nodeL).take (lbound n.names nm) ++ (nodeL v :: (n.kids.map nodeL).drop (lbound n.names nm)) = (putK n nm v).kids.map nodeL := by
      rw [putK_no hm]; simp [List.map_take, List.map_drop]
    rw [hks, nodeL_eq v] at hinn
    have hpv := nodeL_pur v
    rw [nodeL_eq v] at hpv
    refine arunD_callG1 (g := fun k => .own k (n.kids.length + 1)) (R := nodesR (putK n nm v).kids) [(1000, ⟨false, 30, 5, n.kids.map nodeL⟩), (1001, ⟨false, 30, 5, [[.int .i64 v.kind, .int .i64 v.num, .str v.text, .view .loose 1 (strsE v.names), .view .loose 5 (v.kids.map nodeL)]]⟩)] (fun k => if k = 1000 then 1002 else 43) 44 rfl (by simp [awant]) rfl (hinn.mono (fun r b h => ⟨1, h⟩)) (by simp) ?_ ?_ (can_of (Nat.le_refl _)) (by simp [upd]) (nodesE_pur _) (fun e he c hc => nodesE_in _ e he c hc) (fun k => .base (.base (.own (by simp) rfl))) (in_own.2 (by simp)) ?_
    · refine MvR.same (by simp [upd, rowsOf_cons]) (fun e he c hc => (nodesE_pur _ e he c hc).clo) (MvR.same (by simp [upd]) (fun e he c hc => ?_) MvR.nil)
      rw [List.mem_singleton.1 he] at hc
      exact (hpv c hc).clo
    · exact .cons (.base (.own (by simp) (by simp))) (.cons (.base (.clo (Clo.cloTo clo_int))) (.cons (.base (.own (by simp) (by simp))) .nil))
    (repeat (first | with_reducible refine AW.seq ?_ | ((first | refine arun_kn 4 rfl (fun C hC => ?_) | refine arunD_kn 4 rfl (fun C hC => ?_)); (repeat ((conv => whnf); simp [hml, hsl])); refine hC _ ?_; clear hC C; simp only [List.drop, Nat.reduceAdd]) | ((first | refine arun_kn 1 rfl (fun C hC => ?_) | refine arunD_kn 1 rfl (fun C hC => ?_)); (repeat ((conv => whnf); simp [hml, hsl])); refine hC _ ?_; clear hC C; simp only [List.drop, Nat.reduceAdd]) | (refine arun_skip ?_ ?_; (focus (simp [awant, hml, hsl]; done))) | (refine AW.regionK [] (fun K hK => ?_)) | (refine AW.regionDK [] (pcs [] []) (by kernel_rfl) (by kernel_rfl) (fun K hK => ?_)) | (refine AW.condT ?_ ?_; (focus (simp [aev, hml, hsl]; done))) | (refine AW.condF ?_ ?_; (focus (simp [aev, hml, hsl]; done))) | with_reducible refine AW.block ?_ | ((first | ((first | refine arun_nil ?_ | refine arunD_nil ?_); refine hK _ ?_; clear hK K) | refine AW.skip ?_ | refine AW.exit ?_ | refine AW.ret ?_); simp only [thenA_exit, inBlockA_exit, if_true, if_false, Nat.reduceEqDiff, thenA_normal, inBlockA_normal, reduceIte, thenA_ret, inBlockA_ret, endQ_ret, endR_ret, endG_ret, endQ_normal, endR_normal, endG_normal])))
    refine ⟨.tup [], [(1000, boxRR (putK n nm v) 33 44), (33, namesR (putK n nm v).names), (44, nodesR (putK n nm v).kids)], by simp [ares, aresL], ?_, purR_tup (fun _ h => by cases h), purK, ⟨in_tup.2 (fun _ h => by cases h), inK⟩, 33, 44, .inr ⟨rfl, rfl⟩, rfl, rfl⟩
    have q1 : (putK n nm v).kind = n.kind := by rw [putK_no hm]
    have q2 : (putK n nm v).num = n.num := by rw [putK_no hm]
    have q3 : (putK n nm v).text = n.text := by rw [putK_no hm]
    have q4 : (putK n nm v).names.length = n.names.length + 1 := by rw [putK_no hm]; simp; omega
    have q6 : (putK n nm v).kids.length = n.kids.length + 1 := by rw [putK_no hm]; simp; omega
    unfold boxRR
    rw [q1, q2, q3, q4, q6]
    simp only [List.forall_mem_cons, List.not_mem_nil, false_implies, implies_true, and_true]
    exact ⟨rfl, rfl, rfl⟩
theorem dropK_yes {n : Nd} {nm : ByteArray} (h : mem n.names nm = true) : dropK n nm = ⟨n.kind, n.num, n.text, n.names.take (lbound n.names nm) ++ n.names.drop (lbound n.names nm + 1), n.kids.take (lbound n.names nm) ++ n.kids.drop (lbound n.names nm + 1)⟩ := by unfold dropK; rw [if_pos h]
theorem dropK_no {n : Nd} {nm : ByteArray} (h : mem n.names nm = false) : dropK n nm = n := by unfold dropK; rw [h]; rfl
theorem dropName_ACG (n : Nd) (nm : ByteArray) (hasc : Asc n.names) (hl : n.names.length = n.kids.length) (hb : n.kids.length ≤ 1000) : ACG Try.prog 85 [.ptr true 5 1 1000 0 0, .str nm] (rowsK n) 0 (PostK (dropK n nm) 1001 1002 24 35) := by
  unfold rowsK boxRR namesR nodesR
  have hml : (n.kids.map nodeL).length = n.kids.length := List.length_map _
  have hsl := strsE_len n.names
  have hle := lbn_le n.names nm
  have pb := bsearch_AC n.names nm .lent hasc (by omega)
  refine ACG.of tab_ok mixed_ok Try.func85 (by rfl) (by kernel_rfl) (by simp) ?_; rintro ⟨P, T, hT, hm, w0, S0, rd0, k0⟩ hP hTT; dsimp only at hP hTT; subst hP hTT; unfold initStG; rw [Try.ntmps85]
  cases hm : mem n.names nm with
  | false =>
    rw [hm] at pb
    (repeat (first | with_reducible refine AW.seq ?_ | ((first | refine arun_kn 4 rfl (fun C hC => ?_) | refine arunD_kn 4 rfl (fun C hC => ?_)); (repeat ((conv => whnf); simp [hml, hsl])); refine hC _ ?_; clear hC C; simp only [List.drop, Nat.reduceAdd]) | ((first | refine arun_kn 1 rfl (fun C hC => ?_) | refine arunD_kn 1 rfl (fun C hC => ?_)); (repeat ((conv => whnf); simp [hml, hsl])); refine hC _ ?_; clear hC C; simp only [List.drop, Nat.reduceAdd]) | (refine arun_skip ?_ ?_; (focus (simp [awant, hml, hsl]; done))) | (refine arun_cL (0) (pb) ?_; rintro _ rfl) | (refine AW.regionK [] (fun K hK => ?_)) | (refine AW.regionDK [] (pcs [] []) (by kernel_rfl) (by kernel_rfl) (fun K hK => ?_)) | (refine AW.condT ?_ ?_; (focus (simp [aev, hml, hsl]; done))) | (refine AW.condF ?_ ?_; (focus (simp [aev, hml, hsl]; done))) | with_reducible refine AW.block ?_ | ((first | ((first | refine arun_nil ?_ | refine arunD_nil ?_); refine hK _ ?_; clear hK K) | refine AW.skip ?_ | refine AW.exit ?_ | refine AW.ret ?_); simp only [thenA_exit, inBlockA_exit, if_true, if_false, Nat.reduceEqDiff, thenA_normal, inBlockA_normal, reduceIte, thenA_ret, inBlockA_ret, endQ_ret, endR_ret, endG_ret, endQ_normal, endR_normal, endG_normal])))
    rw [dropK_no hm]
    refine ⟨.tup [], [(1000, boxRR n 1001 1002), (1001, namesR n.names), (1002, nodesR n.kids)], by simp [ares, aresL], ?_, purR_tup (fun _ h => by cases h), purK, ⟨in_tup.2 (fun _ h => by cases h), inK⟩, 1001, 1002, .inl ⟨rfl, rfl⟩, rfl, rfl⟩
    simp only [List.forall_mem_cons, List.not_mem_nil, false_implies, implies_true, and_true]
    exact ⟨rfl, rfl, rfl⟩
  | true =>
    rw [hm] at pb
    have hlt := lbn_lt hasc hm
    have hw : IntKind.i64.wrap ((lbound n.names nm : Int) + 1) = (lbound n.names nm : Int) + 1 := i64_nat (by omega) (by omega)
    (repeat (first | with_reducible refine AW.seq ?_ | ((first | refine arun_kn 4 rfl (fun C hC => ?_) | refine arunD_kn 4 rfl (fun C hC => ?_)); (repeat ((conv => whnf); simp [hml, hsl, hw])); refine hC _ ?_; clear hC C; simp only [List.drop, Nat.reduceAdd]) | ((first | refine arun_kn 1 rfl (fun C hC => ?_) | refine arunD_kn 1 rfl (fun C hC => ?_)); (repeat ((conv => whnf); simp [hml, hsl, hw])); refine hC _ ?_; clear hC C; simp only [List.drop, Nat.reduceAdd]) | (refine arun_skip ?_ ?_; (focus (simp [awant, hml, hsl, hw]; done))) | (refine arun_cL (0) (pb) ?_; rintro _ rfl) | (refine AW.regionK [] (fun K hK => ?_)) | (refine AW.regionDK [] (pcs [] []) (by kernel_rfl) (by kernel_rfl) (fun K hK => ?_)) | (refine AW.condT ?_ ?_; (focus (simp [aev, hml, hsl, hw]; done))) | (refine AW.condF ?_ ?_; (focus (simp [aev, hml, hsl, hw]; done))) | with_reducible refine AW.block ?_ | ((first | ((first | refine arun_nil ?_ | refine arunD_nil ?_); refine hK _ ?_; clear hK K) | refine AW.skip ?_ | refine AW.exit ?_ | refine AW.ret ?_); simp only [thenA_exit, inBlockA_exit, if_true, if_false, Nat.reduceEqDiff, thenA_normal, inBlockA_normal, reduceIte, thenA_ret, inBlockA_ret, endQ_ret, endR_ret, endG_ret, endQ_normal, endR_normal, endG_normal])))
    have hdel := delS_ACG (strsE n.names) (lbound n.names nm) (by rw [hsl]; exact hlt) (strsE_pur n.names)
    rw [hsl] at hdel
    have hes : (strsE n.names).take (lbound n.names nm) ++ (strsE n.names).drop (lbound n.names nm + 1) = strsE (dropK n nm).names := by
      rw [dropK_yes hm]; simp [strsE, List.map_take, List.map_drop]
    rw [hes] at hdel
    refine arun_callG1 (g := fun k => .own k (n.names.length - 1)) (R := namesR (dropK n nm).names) [(1000, ⟨false, 9, 1, strsE n.names⟩)] (fun _ => 1001) 24 (by simp [awant]) rfl (hdel.mono (fun r b h => ⟨1, h⟩)) (by simp) ?_ ?_ (can_of (Nat.le_refl _)) (by simp [upd]) (strsE_pur _) (fun k => .base (.base (.own (by simp) rfl))) ?_
    · exact MvR.same (by simp [upd, rowsOf_cons]) (fun e he c hc => (strsE_pur _ e he c hc).clo) MvR.nil
    · exact .cons (.base (.own (by simp) (by simp))) (.cons (.base (.clo (Clo.cloTo clo_int))) (.cons (.base (.clo (Clo.cloTo clo_int))) .nil))
    (repeat (first | with_reducible refine AW.seq ?_ | ((first | refine arun_kn 4 rfl (fun C hC => ?_) | refine arunD_kn 4 rfl (fun C hC => ?_)); (repeat ((conv => whnf); simp [hml, hsl, hw])); refine hC _ ?_; clear hC C; simp only [List.drop, Nat.reduceAdd]) | ((first | refine arun_kn 1 rfl (fun C hC => ?_) | refine arunD_kn 1 rfl (fun C hC => ?_)); (repeat ((conv => whnf); simp [hml, hsl, hw])); refine hC _ ?_; clear hC C; simp only [List.drop, Nat.reduceAdd]) | (refine arun_skip ?_ ?_; (focus (simp [awant, hml, hsl, hw]; done))) | (refine AW.regionK [] (fun K hK => ?_)) | (refine AW.regionDK [] (pcs [] []) (by kernel_rfl) (by kernel_rfl) (fun K hK => ?_)) | (refine AW.condT ?_ ?_; (focus (simp [aev, hml, hsl, hw]; done))) | (refine AW.condF ?_ ?_; (focus (simp [aev, hml, hsl, hw]; done))) | with_reducible refine AW.block ?_ | ((first | ((first | refine arun_nil ?_ | refine arunD_nil ?_); refine hK _ ?_; clear hK K) | refine AW.skip ?_ | refine AW.exit ?_ | refine AW.ret ?_); simp only [thenA_exit, inBlockA_exit, if_true, if_false, Nat.reduceEqDiff, thenA_normal, inBlockA_normal, reduceIte, thenA_ret, inBlockA_ret, endQ_ret, endR_ret, endG_ret, endQ_normal, endR_normal, endG_normal])))
    have hdek := delN_ACG (n.kids.map nodeL) (lbound n.names nm) (by rw [hml]; omega) (nodesE_pur n.kids)
    rw [hml] at hdek
    have hks : (n.kids.map nodeL).take (lbound n.names nm) ++ (n.kids.map nodeL).drop (lbound n.names nm + 1) = (dropK n nm).kids.map nodeL := by
      rw [dropK_yes hm]; simp [List.map_take, List.map_drop]
    rw [hks] at hdek
    refine arun_callG1 (g := fun k => .own k (n.kids.length - 1)) (R := nodesR (dropK n nm).kids) [(1000, ⟨false, 30, 5, n.kids.map nodeL⟩)] (fun _ => 1002) 35 (by simp [awant]) rfl (hdek.mono (fun r b h => ⟨1, h⟩)) (by simp) ?_ ?_ (can_of (Nat.le_refl _)) (by simp [upd]) (nodesE_pur _) (fun k => .base (.base (.own (by simp) rfl))) ?_
    · exact MvR.same (by simp [upd, rowsOf_cons]) (fun e he c hc => (nodesE_pur _ e he c hc).clo) MvR.nil
    · exact .cons (.base (.own (by simp) (by simp))) (.cons (.base (.clo (Clo.cloTo clo_int))) (.cons (.base (.clo (Clo.cloTo clo_int))) .nil))
    (repeat (first | with_reducible refine AW.seq ?_ | ((first | refine arun_kn 4 rfl (fun C hC => ?_) | refine arunD_kn 4 rfl (fun C hC => ?_)); (repeat ((conv => whnf); simp [hml, hsl, hw])); refine hC _ ?_; clear hC C; simp only [List.drop, Nat.reduceAdd]) | ((first | refine arun_kn 1 rfl (fun C hC => ?_) | refine arunD_kn 1 rfl (fun C hC => ?_)); (repeat ((conv => whnf); simp [hml, hsl, hw])); refine hC _ ?_; clear hC C; simp only [List.drop, Nat.reduceAdd]) | (refine arun_skip ?_ ?_; (focus (simp [awant, hml, hsl, hw]; done))) | (refine AW.regionK [] (fun K hK => ?_)) | (refine AW.regionDK [] (pcs [] []) (by kernel_rfl) (by kernel_rfl) (fun K hK => ?_)) | (refine AW.condT ?_ ?_; (focus (simp [aev, hml, hsl, hw]; done))) | (refine AW.condF ?_ ?_; (focus (simp [aev, hml, hsl, hw]; done))) | with_reducible refine AW.block ?_ | ((first | ((first | refine arun_nil ?_ | refine arunD_nil ?_); refine hK _ ?_; clear hK K) | refine AW.skip ?_ | refine AW.exit ?_ | refine AW.ret ?_); simp only [thenA_exit, inBlockA_exit, if_true, if_false, Nat.reduceEqDiff, thenA_normal, inBlockA_normal, reduceIte, thenA_ret, inBlockA_ret, endQ_ret, endR_ret, endG_ret, endQ_normal, endR_normal, endG_normal])))
    refine ⟨.tup [], [(1000, boxRR (dropK n nm) 24 35), (24, namesR (dropK n nm).names), (35, nodesR (dropK n nm).kids)], by simp [ares, aresL], ?_, purR_tup (fun _ h => by cases h), purK, ⟨in_tup.2 (fun _ h => by cases h), inK⟩, 24, 35, .inr ⟨rfl, rfl⟩, rfl, rfl⟩
    have q1 : (dropK n nm).kind = n.kind := by rw [dropK_yes hm]
    have q2 : (dropK n nm).num = n.num := by rw [dropK_yes hm]
    have q3 : (dropK n nm).text = n.text := by rw [dropK_yes hm]
    have q4 : (dropK n nm).names.length = n.names.length - 1 := by rw [dropK_yes hm]; simp; omega
    have q6 : (dropK n nm).kids.length = n.kids.length - 1 := by rw [dropK_yes hm]; simp; omega
    unfold boxRR
    rw [q1, q2, q3, q4, q6]
    simp only [List.forall_mem_cons, List.not_mem_nil, false_implies, implies_true, and_true]
    exact ⟨rfl, rfl, rfl⟩
end Go.Proofs.Ytiobnaielfeeaaa.Eng
namespace Go.Proofs.Ytiobnaielfeeaaa.Eng
open Go Go.RowKit
def nuK (idx A0 B0 : Nat) (k : Nat) : Nat := if k = 1000 then idx else if k = 1001 then A0 else B0
def backK (m : Nd) (idx A B : Nat) : List (Nat × Row) := [(idx, boxRR m A B), (A, namesR m.names), (B, nodesR m.kids)]
def muK (idx a A B : Nat) (k : Nat) : Nat := if k = 1000 then idx else if k = a then A else B
theorem back_K {s : ASt} {n m : Nd} {idx A0 B0 A B a b : Nat} (hab : a ≠ b) (ha : a ≠ 1000) (hb : b ≠ 1000) (hAB : A ≠ B) (hA : A ≠ idx) (hB : B ≠ idx) (uA : s.used A = false) (uB : s.used B = false) :
    Back s (rowsK n) (nuK idx A0 B0) (muK idx a A B) [(1000, boxRR m a b), (a, namesR m.names), (b, nodesR m.kids)] (backK m idx A B) (.tup []) (.tup []) := by
  have m0 : muK idx a A B 1000 = idx := by unfold muK; rw [if_pos rfl]
  have m1 : muK idx a A B a = A := by unfold muK; rw [if_neg ha, if_pos rfl]
  have m2 : muK idx a A B b = B := by unfold muK; rw [if_neg hb, if_neg (fun h => hab h.symm)]
  refine ⟨?_, ?_, ?_, .base (.base (.pur ?_))⟩
  · intro k hk k' hk'
    simp only [List.map_cons, List.map_nil, List.mem_cons, List.not_mem_nil, or_false] at hk hk'
    rcases hk with rfl | rfl | rfl <;> rcases hk' with rfl | rfl | rfl <;> simp only [m0, m1, m2] <;> intro h <;> first | rfl | omega
  · intro k R hk
    have hmem := rowsOf_key hk
    simp only [List.map_cons, List.map_nil, List.mem_cons, List.not_mem_nil, or_false] at hmem
    rcases hmem with rfl | rfl | rfl
    · left
      rw [rowsOf_cons, if_pos rfl] at hk
      cases hk
      exact ⟨by rw [m0]; unfold nuK; rw [if_pos rfl], rfl, _, by unfold rowsK; rw [rowsOf_cons, if_pos rfl], rfl⟩
    · right; rw [m1]; exact uA
    · right; rw [m2]; exact uB
  · refine .cons (es := [[.int .i64 m.kind, .int .i64 m.num, .str m.text, .own A m.names.length, .own B m.kids.length]]) m0.symm (.box (.cons (.pur pur_int) (.cons (.pur pur_int) (.cons (.pur pur_str) (.cons (.own (by simp) m1.symm) (.cons (.own (by simp) m2.symm) .nil)))))) (.cons (es := (namesR m.names).es) m1.symm (.refl (strsE_pur _)) (.cons (es := (nodesR m.kids).es) m2.symm (.refl (nodesE_pur _)) .nil))
  · exact fun w ρ v hr => by
      obtain ⟨vs, rfl, h2⟩ := rep_tup.1 hr
      exact rep_tup.2 ⟨vs, rfl, by unfold RepL at h2 ⊢; exact h2⟩
section
variable {P : Program} {T : Tab} {k0 : Nat} {md : List Nat} {pc : Pc} {ops : Array Oper} {K : ASt → Prop} {o : Oper} {l : List Oper} {s : ASt} {f : FuncId} {xs : List Operand} {args : List AV}
theorem nuK_inj {n : Nd} {idx A0 B0 : Nat} (h1 : A0 ≠ B0) (h2 : A0 ≠ idx) (h3 : B0 ≠ idx) : ∀ k ∈ (rowsK n).map (·.1), ∀ k' ∈ (rowsK n).map (·.1), nuK idx A0 B0 k = nuK idx A0 B0 k' → k = k' := by
  intro k hk k' hk'
  simp only [rowsK, List.map_cons, List.map_nil, List.mem_cons, List.not_mem_nil, or_false] at hk hk'
  rcases hk with rfl | rfl | rfl <;> rcases hk' with rfl | rfl | rfl <;> simp [nuK] <;> intro h <;> omega
theorem rowsK_mv {n : Nd} {idx A0 B0 : Nat} (h1 : s.rows idx = some (boxRR n A0 B0)) (h2 : s.rows A0 = some (namesR n.names)) (h3 : s.rows B0 = some (nodesR n.kids)) : MvR s.rows ((rowsK n).map (·.1)) (nuK idx A0 B0) (rowsK n) := by
  refine MvR.cons (R := boxRR n A0 B0) (by unfold nuK; rw [if_pos rfl]; exact h1) rfl rfl rfl (.box (.cons (.clo (Clo.cloTo clo_int)) (.cons (.clo (Clo.cloTo clo_int)) (.cons (.clo (Clo.cloTo clo_str)) (.cons (.own (by simp [rowsK]) (by simp [nuK])) (.cons (.own (by simp [rowsK]) (by simp [nuK])) .nil)))))) ?_
  refine MvR.same (by simp [nuK]; exact h2) (fun e he c hc => (strsE_pur _ e he c hc).clo) (MvR.same (by simp [nuK]; exact h3) (fun e he c hc => (nodesE_pur _ e he c hc).clo) MvR.nil)
theorem arun_callK {n m : Nd} (idx A0 B0 A B : Nat) {a0 b0 a1 b1 : Nat} (hd0 : a0 ≠ b0 ∧ a0 ≠ 1000 ∧ b0 ≠ 1000 := by decide) (hd1 : a1 ≠ b1 ∧ a1 ≠ 1000 ∧ b1 ≠ 1000 := by decide) (hac : ACG P f args (rowsK n) 0 (PostK m a0 b0 a1 b1))
    (h1 : s.rows idx = some (boxRR n A0 B0)) (h2 : s.rows A0 = some (namesR n.names)) (h3 : s.rows B0 = some (nodesR n.kids)) (hd : A0 ≠ B0 ∧ A0 ≠ idx ∧ B0 ≠ idx) (hD : A ≠ B ∧ A ≠ idx ∧ B ≠ idx) (uA : s.used A = false) (uB : s.used B = false)
    (hw : awant ops o s = some true) (ha : acall o.op = some (f, xs)) (hargs : MvL s.rows ((rowsK n).map (·.1)) (nuK idx A0 B0) (xs.map (aev s)) args) (hcan : s.can 0)
    (h : ARun P T k0 md ops K l ((s.back (rowsK n) (nuK idx A0 B0) 0 (backK m idx A B)).put o.dst (.tup []))) : ARun P T k0 md ops K (o :: l) s :=
  arun_callG (rowsK n) (nuK idx A0 B0) hw ha rfl ⟨hac, nuK_inj hd.1 hd.2.1 hd.2.2, rowsK_mv h1 h2 h3, hargs, hcan⟩ (fun r l' hp => by
    obtain ⟨a, b, hab, rfl, rfl⟩ := hp
    rcases hab with ⟨rfl, rfl⟩ | ⟨rfl, rfl⟩
    · exact ⟨_, _, _, back_K hd0.1 hd0.2.1 hd0.2.2 hD.1 hD.2.1 hD.2.2 uA uB, h⟩
    · exact ⟨_, _, _, back_K hd1.1 hd1.2.1 hd1.2.2 hD.1 hD.2.1 hD.2.2 uA uB, h⟩)
theorem arunD_callK {k : Nat} {n m : Nd} (idx A0 B0 A B : Nat) {a0 b0 a1 b1 : Nat} (hd0 : a0 ≠ b0 ∧ a0 ≠ 1000 ∧ b0 ≠ 1000 := by decide) (hd1 : a1 ≠ b1 ∧ a1 ≠ 1000 ∧ b1 ≠ 1000 := by decide) (hac : ACG P f args (rowsK n) 0 (PostK m a0 b0 a1 b1))
    (h1 : s.rows idx = some (boxRR n A0 B0)) (h2 : s.rows A0 = some (namesR n.names)) (h3 : s.rows B0 = some (nodesR n.kids)) (hd : A0 ≠ B0 ∧ A0 ≠ idx ∧ B0 ≠ idx) (hD : A ≠ B ∧ A ≠ idx ∧ B ≠ idx) (uA : s.used A = false) (uB : s.used B = false)
    (hl : pc.2.contains (1000 + k) = true) (hw : awant ops o s = some true) (ha : acall o.op = some (f, xs)) (hargs : MvL s.rows ((rowsK n).map (·.1)) (nuK idx A0 B0) (xs.map (aev s)) args) (hcan : s.can 0)
    (h : ARunD P T md pc ops K l (k + 1) ((s.back (rowsK n) (nuK idx A0 B0) 0 (backK m idx A B)).put o.dst (.tup []))) : ARunD P T md pc ops K (o :: l) k s :=
  arunD_spcG (rowsK n) (nuK idx A0 B0) hl hw ha rfl ⟨hac, nuK_inj hd.1 hd.2.1 hd.2.2, rowsK_mv h1 h2 h3, hargs, hcan⟩ ⟨_, _, a0, b0, .inl ⟨rfl, rfl⟩, rfl, rfl⟩ (fun r l' hp => by
    have hin : BackIn (backK m idx A B) (.tup []) := by
      refine ⟨in_tup.2 (fun _ h => by cases h), ?_⟩
      unfold backK
      simp only [List.forall_mem_cons, List.not_mem_nil, false_implies, implies_true, and_true, boxRR]
      refine ⟨⟨in_int, in_int, in_str, in_own.2 ?_, in_own.2 ?_⟩, fun e he c hc => strsE_in _ e he c hc, fun e he c hc => nodesE_in _ e he c hc⟩
      · show (rowsOf _ A).isSome = true
        rw [rowsOf_cons, if_neg hD.2.1, rowsOf_cons, if_pos rfl]; rfl
      · show (rowsOf _ B).isSome = true
        rw [rowsOf_cons, if_neg hD.2.2, rowsOf_cons, if_neg (fun h => hD.1 h.symm), rowsOf_cons, if_pos rfl]; rfl
    obtain ⟨a, b, hab, rfl, rfl⟩ := hp
    rcases hab with ⟨rfl, rfl⟩ | ⟨rfl, rfl⟩
    · exact ⟨_, _, _, back_K hd0.1 hd0.2.1 hd0.2.2 hD.1 hD.2.1 hD.2.2 uA uB, hin, h⟩
    · exact ⟨_, _, _, back_K hd1.1 hd1.2.1 hd1.2.2 hD.1 hD.2.1 hD.2.2 uA uB, hin, h⟩)
end
end Go.Proofs.Ytiobnaielfeeaaa.Eng
namespace Go.Proofs.Ytiobnaielfeeaaa.Eng
open Go Go.RowKit
theorem asc_pw {xs : List ByteArray} : Asc xs ↔ xs.Pairwise (fun a b => lt a b = true) := by
  rw [List.pairwise_iff_getElem]
  exact ⟨fun h i j hi hj hij => h i j hi hj hij, fun h i j hi hj hij => h i j hi hj hij⟩
theorem lt_tot {a b : ByteArray} (h : lt a b = false) (hn : a ≠ b) : lt b a = true := by
  rcases bl_cases a b with ⟨h1, h2, _, _, h3⟩ | ⟨h1, h2, _, _, h3⟩ | h'
  · exact absurd (show lt a b = true from h1) (by rw [h]; simp)
  · exact h2
  · exact absurd h' hn
theorem lb_split : ∀ {xs : List ByteArray} {s : ByteArray}, xs.Pairwise (fun a b => lt a b = true) → (∀ a ∈ xs.take (lbound xs s), lt a s = true) ∧ (∀ b ∈ xs.drop (lbound xs s), lt b s = false)
  | [], s, _ => ⟨fun a h => by simp at h, fun a h => by simp at h⟩
  | x :: t, s, h => by
    rw [List.pairwise_cons] at h
    have hlb : lbound (x :: t) s = lbound t s + if lt x s then 1 else 0 := by unfold lbound; rw [List.countP_cons]
    obtain ⟨i1, i2⟩ := lb_split (s := s) h.2
    cases hx : lt x s
    · have h0 : lbound t s = 0 := by
        unfold lbound
        rw [List.countP_eq_zero]
        intro y hy hys
        have := bl_trans _ _ _ (h.1 y hy) hys
        exact absurd (show lt x s = true from this) (by rw [hx]; simp)
      rw [hlb, hx, h0]
      rw [h0] at i2
      refine ⟨fun a ha => by simp at ha, fun b hb => ?_⟩
      simp at hb
      rcases hb with rfl | hb
      · exact hx
      · exact i2 b (by simpa using hb)
    · rw [hlb, hx]
      simp only [if_true, List.take_succ_cons, List.drop_succ_cons, List.mem_cons, forall_eq_or_imp]
      exact ⟨⟨hx, i1⟩, i2⟩
structure MapW (r : Nd) : Prop where
  kd : r.kind = 4
  nz : r.num = 0
  tz : r.text = ⟨#[]⟩
  asc : Asc r.names
  len : r.names.length = r.kids.length
def zK (r : Nd) : List (ByteArray × Nd) := r.names.zip r.kids
theorem zK_len {r : Nd} (h : MapW r) : (zK r).length = r.kids.length := by unfold zK; rw [List.length_zip, h.len, Nat.min_self]
theorem zK_in {r : Nd} (h : MapW r) {x : ByteArray} {v : Nd} (hm : (x, v) ∈ zK r) : mem r.names x = true ∧ kidOf r x = v := by
  obtain ⟨i, he⟩ := List.getElem?_of_mem hm
  unfold zK at he
  rw [List.getElem?_zip_eq_some] at he
  obtain ⟨e3, e4⟩ := he
  obtain ⟨h1, e1⟩ := List.getElem?_eq_some_iff.1 e3
  obtain ⟨h2, e2⟩ := List.getElem?_eq_some_iff.1 e4
  clear e3 e4
  dsimp only at e1 e2
  subst e1 e2
  have hlb := lb_at h.asc h1
  have hmm : mem r.names r.names[i] = true := mem_iff.2 (List.getElem_mem h1)
  refine ⟨hmm, ?_⟩
  rw [kidOf_yes hmm (by rw [hlb]; exact h2)]
  simp only [hlb]
theorem zK_of {r : Nd} (h : MapW r) {x : ByteArray} (hm : mem r.names x = true) : (x, kidOf r x) ∈ zK r := by
  obtain ⟨h1, h2⟩ := Go.Proofs.Ytiobnaielfeeaaa.lb_lt h.asc hm
  have h3 : lbound r.names x < r.kids.length := by rw [← h.len]; exact h1
  rw [kidOf_yes hm h3]
  have : (zK r)[lbound r.names x]? = some (x, r.kids[lbound r.names x]) := by
    unfold zK
    rw [List.getElem?_zip_eq_some]
    exact ⟨by rw [List.getElem?_eq_getElem h1, h2], List.getElem?_eq_getElem h3⟩
  exact List.mem_of_getElem? this
theorem putK_w {r : Nd} (h : MapW r) (nm : ByteArray) (v : Nd) : MapW (putK r nm v) ∧ (nm, v) ∈ zK (putK r nm v) ∧ (∀ x w, x ≠ nm → (x, w) ∈ zK r → (x, w) ∈ zK (putK r nm v)) ∧ (∀ x, mem (putK r nm v).names x = true → x = nm ∨ mem r.names x = true) := by
  cases hm : mem r.names nm
  · rw [putK_no hm]
    have hle := lbn_le r.names nm
    have hl := h.len
    obtain ⟨s1, s2⟩ := lb_split (s := nm) (asc_pw.1 h.asc)
    have hz : zK ⟨r.kind, r.num, r.text, r.names.take (lbound r.names nm) ++ (nm :: r.names.drop (lbound r.names nm)), r.kids.take (lbound r.names nm) ++ (v :: r.kids.drop (lbound r.names nm))⟩ = (zK r).take (lbound r.names nm) ++ ((nm, v) :: (zK r).drop (lbound r.names nm)) := by
      unfold zK
      dsimp only
      rw [List.zip_append (by rw [List.length_take, List.length_take]; omega), List.zip_cons_cons]
      congr 1
      · exact (List.take_zipWith ..).symm
      · congr 1; exact (List.drop_zipWith ..).symm
    refine ⟨⟨h.kd, h.nz, h.tz, ?_, by dsimp only; simp only [List.length_append, List.length_cons, List.length_take, List.length_drop]; omega⟩, ?_, fun x w hx hxw => ?_, fun x hx => ?_⟩
    · rw [asc_pw]
      dsimp only
      have hp := asc_pw.1 h.asc
      rw [← List.take_append_drop (lbound r.names nm) r.names, List.pairwise_append] at hp
      rw [List.pairwise_append, List.pairwise_cons]
      have hb : ∀ b ∈ r.names.drop (lbound r.names nm), lt nm b = true := fun b hb => lt_tot (s2 b hb) (fun e => by
        subst e
        have := mem_iff.2 (List.mem_of_mem_drop hb)
        rw [hm] at this; cases this)
      refine ⟨hp.1, ⟨hb, hp.2.1⟩, fun a ha b hb' => ?_⟩
      rcases List.mem_cons.1 hb' with rfl | hb'
      · exact s1 a ha
      · exact hp.2.2 a ha b hb'
    · rw [hz]; simp
    · rw [hz]
      rw [← List.take_append_drop (lbound r.names nm) (zK r)] at hxw
      rcases List.mem_append.1 hxw with h | h
      · exact List.mem_append.2 (.inl h)
      · exact List.mem_append.2 (.inr (List.mem_cons.2 (.inr h)))
    · rw [mem_iff] at hx
      dsimp only at hx
      rw [List.mem_append, List.mem_cons] at hx
      rcases hx with hx | rfl | hx
      · exact .inr (mem_iff.2 (List.mem_of_mem_take hx))
      · exact .inl rfl
      · exact .inr (mem_iff.2 (List.mem_of_mem_drop hx))
  · rw [putK_yes hm]
    obtain ⟨h1, h2⟩ := Go.Proofs.Ytiobnaielfeeaaa.lb_lt h.asc hm
    have h3 : lbound r.names nm < r.kids.length := by rw [← h.len]; exact h1
    have hW : MapW ⟨r.kind, r.num, r.text, r.names, r.kids.set (lbound r.names nm) v⟩ := ⟨h.kd, h.nz, h.tz, h.asc, by dsimp only; rw [List.length_set]; exact h.len⟩
    refine ⟨hW, ?_, fun x w hx hxw => ?_, fun x hx => .inr hx⟩
    · have : (zK ⟨r.kind, r.num, r.text, r.names, r.kids.set (lbound r.names nm) v⟩)[lbound r.names nm]? = some (nm, v) := by
        unfold zK
        rw [List.getElem?_zip_eq_some]
        exact ⟨by dsimp only; rw [List.getElem?_eq_getElem h1, h2], by dsimp only; rw [List.getElem?_set_self h3]⟩
      exact List.mem_of_getElem? this
    · obtain ⟨i, hi⟩ := List.getElem?_of_mem hxw
      unfold zK at hi
      rw [List.getElem?_zip_eq_some] at hi
      have hne : lbound r.names nm ≠ i := fun e => by
        subst e
        have := hi.1
        dsimp only at this
        rw [List.getElem?_eq_getElem h1, h2] at this
        exact hx (Option.some.inj this).symm
      have : (zK ⟨r.kind, r.num, r.text, r.names, r.kids.set (lbound r.names nm) v⟩)[i]? = some (x, w) := by
        unfold zK
        rw [List.getElem?_zip_eq_some]
        exact ⟨hi.1, by dsimp only; rw [List.getElem?_set_ne hne]; exact hi.2⟩
      exact List.mem_of_getElem? this
theorem dropK_w {r : Nd} (h : MapW r) (nm : ByteArray) : MapW (dropK r nm) ∧ mem (dropK r nm).names nm = false ∧ (∀ x w, x ≠ nm → (x, w) ∈ zK r → (x, w) ∈ zK (dropK r nm)) ∧ (∀ x, mem (dropK r nm).names x = true → x ≠ nm ∧ mem r.names x = true) := by
  cases hm : mem r.names nm
  · rw [dropK_no hm]
    exact ⟨h, hm, fun x w _ hx => hx, fun x hx => ⟨(fun e => by subst e; rw [hm] at hx; cases hx), hx⟩⟩
  · rw [dropK_yes hm]
    obtain ⟨h1, h2⟩ := Go.Proofs.Ytiobnaielfeeaaa.lb_lt h.asc hm
    have h3 : lbound r.names nm < r.kids.length := by rw [← h.len]; exact h1
    have hl := h.len
    have hp := asc_pw.1 h.asc
    have hsp : r.names = r.names.take (lbound r.names nm) ++ (nm :: r.names.drop (lbound r.names nm + 1)) := by
      conv => lhs; rw [← List.take_append_drop (lbound r.names nm) r.names, List.drop_eq_getElem_cons h1, h2]
    have hp2 := hp
    rw [hsp, List.pairwise_append, List.pairwise_cons] at hp2
    obtain ⟨p1, ⟨p2, p3⟩, p4⟩ := hp2
    have hin : ∀ x, x ∈ r.names.take (lbound r.names nm) ++ r.names.drop (lbound r.names nm + 1) → x ≠ nm ∧ x ∈ r.names := fun x hx => by
      rcases List.mem_append.1 hx with hx | hx
      · refine ⟨fun e => ?_, List.mem_of_mem_take hx⟩
        subst e
        have := p4 x hx x (by simp)
        rw [lt_irr] at this; cases this
      · refine ⟨fun e => ?_, List.mem_of_mem_drop hx⟩
        subst e
        have := p2 x hx
        rw [lt_irr] at this; cases this
    refine ⟨⟨h.kd, h.nz, h.tz, ?_, by dsimp only; simp only [List.length_append, List.length_take, List.length_drop]; omega⟩, ?_, fun x w hx hxw => ?_, fun x hx => ?_⟩
    · rw [asc_pw]
      dsimp only
      rw [List.pairwise_append]
      exact ⟨p1, p3, fun a ha b hb => p4 a ha b (by simp [hb])⟩
    · exact mem_no (fun hx => (hin nm hx).1 rfl)
    · have hz : zK ⟨r.kind, r.num, r.text, r.names.take (lbound r.names nm) ++ r.names.drop (lbound r.names nm + 1), r.kids.take (lbound r.names nm) ++ r.kids.drop (lbound r.names nm + 1)⟩ = (zK r).take (lbound r.names nm) ++ (zK r).drop (lbound r.names nm + 1) := by
        unfold zK
        dsimp only
        rw [List.zip_append (by rw [List.length_take, List.length_take]; omega)]
        congr 1
        · exact (List.take_zipWith ..).symm
        · exact (List.drop_zipWith ..).symm
      rw [hz]
      have hzl : lbound r.names nm < (zK r).length := by rw [zK_len h]; exact h3
      have hzg : (zK r)[lbound r.names nm] = (nm, r.kids[lbound r.names nm]) := by
        have : (zK r)[lbound r.names nm]? = some (nm, r.kids[lbound r.names nm]) := by
          unfold zK
          rw [List.getElem?_zip_eq_some]
          exact ⟨by rw [List.getElem?_eq_getElem h1, h2], List.getElem?_eq_getElem h3⟩
        rw [List.getElem?_eq_getElem hzl] at this
        exact Option.some.inj this
      rw [← List.take_append_drop (lbound r.names nm) (zK r), List.drop_eq_getElem_cons hzl, hzg] at hxw
      rcases List.mem_append.1 hxw with hq | hq
      · exact List.mem_append.2 (.inl hq)
      · rcases List.mem_cons.1 hq with hq | hq
        · exact absurd (congrArg Prod.fst hq) hx
        · exact List.mem_append.2 (.inr hq)
    · have := hin x (mem_iff.1 hx)
      exact ⟨this.1, mem_iff.2 this.2⟩
theorem kidOf_put {r : Nd} (h : MapW r) (nm : ByteArray) (v : Nd) (x : ByteArray) : kidOf (putK r nm v) x = if x = nm then v else kidOf r x := by
  obtain ⟨h1, h2, h3, h4⟩ := putK_w h nm v
  by_cases e : x = nm
  · subst e; rw [if_pos rfl]; exact (zK_in h1 h2).2
  · rw [if_neg e]
    cases hm : mem r.names x
    · have : mem (putK r nm v).names x = false := by
        cases hq : mem (putK r nm v).names x
        · rfl
        · rcases h4 x hq with h | h
          · exact absurd h e
          · rw [hm] at h; cases h
      rw [kidOf_no this, kidOf_no hm]
    · exact (zK_in h1 (h3 x _ e (zK_of h hm))).2
theorem kidOf_drop {r : Nd} (h : MapW r) (nm : ByteArray) (x : ByteArray) : kidOf (dropK r nm) x = if x = nm then Nd.zero else kidOf r x := by
  obtain ⟨h1, h2, h3, h4⟩ := dropK_w h nm
  by_cases e : x = nm
  · subst e; rw [if_pos rfl]; exact kidOf_no h2
  · rw [if_neg e]
    cases hm : mem r.names x
    · have : mem (dropK r nm).names x = false := by
        cases hq : mem (dropK r nm).names x
        · rfl
        · rw [(h4 x hq).2] at hm; cases hm
      rw [kidOf_no this, kidOf_no hm]
    · exact (zK_in h1 (h3 x _ e (zK_of h hm))).2
theorem putK_kids {r v k : Nd} {nm : ByteArray} (h : k ∈ (putK r nm v).kids) : k = v ∨ k ∈ r.kids := by
  cases hm : mem r.names nm
  · rw [putK_no hm] at h
    rcases List.mem_append.1 h with h | h
    · exact .inr (List.mem_of_mem_take h)
    · rcases List.mem_cons.1 h with h | h
      · exact .inl h
      · exact .inr (List.mem_of_mem_drop h)
  · rw [putK_yes hm] at h
    exact (List.mem_or_eq_of_mem_set h).symm
theorem dropK_kids {r k : Nd} {nm : ByteArray} (h : k ∈ (dropK r nm).kids) : k ∈ r.kids := by
  cases hm : mem r.names nm
  · rw [dropK_no hm] at h; exact h
  · rw [dropK_yes hm] at h
    rcases List.mem_append.1 h with h | h
    · exact List.mem_of_mem_take h
    · exact List.mem_of_mem_drop h
theorem putK_klen {r v : Nd} {nm : ByteArray} : (putK r nm v).kids.length ≤ r.kids.length + 1 := by
  cases hm : mem r.names nm
  · rw [putK_no hm]; simp; omega
  · rw [putK_yes hm]; simp
theorem dropK_klen {r : Nd} {nm : ByteArray} : (dropK r nm).kids.length ≤ r.kids.length := by
  cases hm : mem r.names nm
  · rw [dropK_no hm]; exact Nat.le_refl _
  · rw [dropK_yes hm]; simp; omega
def baseM (n : Nd) : Nd := if n.kind = 4 then n else ⟨4, 0, ⟨#[]⟩, [], []⟩
mutual
def mrg : Nd → Nd → Nd
  | ⟨kind, num, text, names, kids⟩, n => if kind = 4 then mrgL names kids (baseM n) else ⟨kind, num, text, names, kids⟩
def mrgL : List ByteArray → List Nd → Nd → Nd
  | _, [], r => r
  | ns, k :: ks, r => mrgL ns.tail ks (if k.kind = 0 then dropK r (ns.headD ⟨#[]⟩) else putK r (ns.headD ⟨#[]⟩) (mrg k (kidOf r (ns.headD ⟨#[]⟩))))
end
def stepN (r : Nd) (nm : ByteArray) (k : Nd) : Nd := if k.kind = 0 then dropK r nm else putK r nm (mrg k (kidOf r nm))
theorem mrg_map {p : Nd} (h : p.kind = 4) (n : Nd) : mrg p n = mrgL p.names p.kids (baseM n) := by cases p; rw [mrg, if_pos h]
theorem mrg_no {p : Nd} (h : p.kind ≠ 4) (n : Nd) : mrg p n = p := by cases p; rw [mrg, if_neg h]
theorem mrgL_step {ns : List ByteArray} {ks : List Nd} {i : Nat} (h1 : i < ns.length) (h2 : i < ks.length) (r : Nd) : mrgL (ns.drop i) (ks.drop i) r = mrgL (ns.drop (i + 1)) (ks.drop (i + 1)) (stepN r ns[i] ks[i]) := by
  rw [List.drop_eq_getElem_cons h1, List.drop_eq_getElem_cons h2, mrgL]
  rfl
theorem shp_zero : Shp Nd.zero := ⟨1, by simp [shapeB_eq, partsB, Nd.zero, shapeL]⟩
theorem base_w {n : Nd} (h : Shp n) : MapW (baseM n) := by
  unfold baseM
  split
  · rename_i h4
    have hp := h.parts
    unfold partsB at hp
    simp only [Bool.and_eq_true, Bool.or_eq_true, decide_eq_true_eq] at hp
    obtain ⟨⟨⟨h1, h2⟩, h3⟩, _⟩ := hp
    refine ⟨h4, by rcases h1 with h | h <;> omega, ?_, h.asc h4, ((h.map h4).2).symm⟩
    rcases h2 with h | h
    · omega
    · have ht : n.text.toList = [] := by simpa using h
      exact of_decide_eq_true (by rw [← beq_toList, ht]; decide +kernel)
  · exact ⟨rfl, rfl, rfl, fun i j hi => by simp at hi, rfl⟩
theorem base_kids {n : Nd} (h : Shp n) : (baseM n).kids.length ≤ 6 ∧ ∀ k ∈ (baseM n).kids, Shp k := by
  unfold baseM
  split
  · exact ⟨h.kids, fun k hk => h.kid hk⟩
  · exact ⟨by simp, fun k hk => by cases hk⟩
theorem base_old {n : Nd} (h : Shp n) (x : ByteArray) : Shp (kidOf (baseM n) x) := by
  have hw := base_w h
  cases hm : mem (baseM n).names x
  · rw [kidOf_no hm]; exact shp_zero
  · exact (base_kids h).2 _ (kidOf_mem hw.asc (by rw [hw.len]; exact Nat.le_refl _) hm)
structure Mid (n p : Nd) (i : Nat) (r : Nd) : Prop where
  w : MapW r
  wide : r.kids.length ≤ 6 + i
  sml : ∀ k ∈ r.kids, Sml k
  old : ∀ x, x ∉ p.names.take i → kidOf r x = kidOf (baseM n) x
theorem Mid.start {n : Nd} (h : Shp n) (p : Nd) : Mid n p 0 (baseM n) := ⟨base_w h, (base_kids h).1, fun k hk => ((base_kids h).2 k hk).sml, fun _ _ => rfl⟩
theorem fresh_name {p : Nd} (hp : Shp p) (h4 : p.kind = 4) {i : Nat} (hi : i < p.names.length) : p.names[i] ∉ p.names.take i := fun hm => by
  obtain ⟨j, hj, he⟩ := List.getElem_of_mem hm
  rw [List.length_take] at hj
  rw [List.getElem_take] at he
  have := hp.asc h4 j i (by omega) hi (by omega)
  rw [he, lt_irr] at this; cases this
theorem Mid.kid {n p r : Nd} {i : Nat} (h : Mid n p i r) (hp : Shp p) (h4 : p.kind = 4) (hn : Shp n) (hi : i < p.names.length) : kidOf r p.names[i] = kidOf (baseM n) p.names[i] := h.old _ (fresh_name hp h4 hi)
theorem Mid.step {n p r : Nd} {i : Nat} (h : Mid n p i r) (hi : i < p.names.length) (hk : i < p.kids.length) (hs : p.kids[i].kind ≠ 0 → Sml (mrg p.kids[i] (kidOf r p.names[i]))) : Mid n p (i + 1) (stepN r p.names[i] p.kids[i]) := by
  have hx : ∀ x, x ∉ p.names.take (i + 1) → x ≠ p.names[i] ∧ x ∉ p.names.take i := fun x hx => by
    rw [List.take_add_one, List.getElem?_eq_getElem hi, Option.toList_some, List.mem_append, List.mem_singleton] at hx
    exact ⟨fun e => hx (.inr e), fun e => hx (.inl e)⟩
  unfold stepN
  split
  · exact ⟨(dropK_w h.w _).1, by have := h.wide; have := dropK_klen (r := r) (nm := p.names[i]); omega, fun k hk => h.sml k (dropK_kids hk), fun x hxn => by
      rw [kidOf_drop h.w, if_neg (hx x hxn).1]; exact h.old x (hx x hxn).2⟩
  · rename_i h0
    exact ⟨(putK_w h.w _ _).1, by have := h.wide; have := putK_klen (r := r) (nm := p.names[i]) (v := mrg p.kids[i] (kidOf r p.names[i])); omega, fun k hk => by
      rcases putK_kids hk with rfl | hk
      · exact hs h0
      · exact h.sml k hk, fun x hxn => by
      rw [kidOf_put h.w, if_neg (hx x hxn).1]; exact h.old x (hx x hxn).2⟩
theorem Mid.smlR {n p r : Nd} {i : Nat} (h : Mid n p i r) (hi : i ≤ 6) : Sml r := .mk _ (by rw [h.w.len]; have := h.wide; omega) (by have := h.wide; omega) h.sml
theorem mrg_loop {n p : Nd} (hp : Shp p) (h4 : p.kind = 4) (I : Nat → Nd → Prop) (h0 : I 0 (baseM n)) (hs : ∀ i (hi : i < p.names.length) (hk : i < p.kids.length) r, I i r → I (i + 1) (stepN r p.names[i] p.kids[i])) : I p.kids.length (mrg p n) := by
  have hl := (hp.map h4).2
  have key : ∀ j, j ≤ p.kids.length → ∃ r, I j r ∧ mrgL (p.names.drop j) (p.kids.drop j) r = mrg p n := fun j => by
    induction j with
    | zero => exact fun _ => ⟨_, h0, by rw [mrg_map h4]; rfl⟩
    | succ j ih =>
      intro hj
      obtain ⟨r, h1, h2⟩ := ih (by omega)
      rw [mrgL_step (by omega) (by omega)] at h2
      exact ⟨_, hs j (by omega) (by omega) r h1, h2⟩
  obtain ⟨r, h1, h2⟩ := key _ (Nat.le_refl _)
  rw [List.drop_of_length_le (Nat.le_refl _), List.drop_of_length_le (by omega), mrgL] at h2
  rw [← h2]; exact h1
theorem mrg_sml : ∀ p, Shp p → ∀ n, Shp n → Sml (mrg p n) := Nd.ind' _ (fun p ih hp n hn => by
  by_cases h4 : p.kind = 4
  · have h6 := hp.kids
    refine Mid.smlR (n := n) (p := p) (mrg_loop hp h4 (Mid n p) (Mid.start hn p) (fun i hi hk r h => h.step hi hk (fun _ => ?_))) h6
    rw [h.kid hp h4 hn hi]
    exact ih _ (List.getElem_mem hk) (hp.kid (List.getElem_mem hk)) _ (base_old hn _)
  · rw [mrg_no h4]; exact hp.sml)
theorem Mid.next {n p r : Nd} {i : Nat} (h : Mid n p i r) (hp : Shp p) (h4 : p.kind = 4) (hn : Shp n) (hi : i < p.names.length) (hk : i < p.kids.length) : Mid n p (i + 1) (stepN r p.names[i] p.kids[i]) := h.step hi hk (fun _ => by
  rw [h.kid hp h4 hn hi]
  exact mrg_sml _ (hp.kid (List.getElem_mem hk)) _ (base_old hn _))
end Go.Proofs.Ytiobnaielfeeaaa.Eng
-- EV: rows
namespace Go.Proofs.Ytiobnaielfeeaaa.Eng
open Go Go.RowKit
attribute [local simp] big size_mk ASt.pay Option.map_map Function.comp_def awant aop acall ado aev ofVal ofVal0 ASt.put ASt.add ASt.turn ASt.kill abox aalloc astore aload ASt.at cellsTo afieldAddr afield aindexAddr aindex alen abin aint acmp astr aun apick aextract anil aslice abound abuild afill abuildSlice asCells aps avCells over upd aappend asrc amax amin aconv mkSt slots rowsOf_cons rowsOf_nil usedOf_cons usedOf_nil ZK.av List.replicate ASt.back ASt.addL ASt.killL nodeA nodeT nodeTL_eq nodeL_eq strsE_get strsE_len intsE_get intsE_len strsE_at intsE_at nodeN namesRow nodeO kidsRow tab2 tab3 tab4 tab5 tab6 tab7 tab8 tab9 tab10 tab11 tab12 tab13 tab14 tab15 tab16 tab17 tab18 tab19 tab21 tab22 tab23 tab24 tab25 tab26 tab27 tab28 tab29 tab30 tab48 tab51 tab52 tab59 tab77 tab78 tab79 tab91 tab95 tab96 tab97 tab109 tab116 tab132 tab133 tab138 tab139 tab144 tab145 tab146 tab148 tab149 tab150
theorem back_copy {s : ASt} {n : Nd} {A B : Nat} (hAB : A ≠ B) (uA : s.used A = false) (uB : s.used B = false) : Back s [] (fun _ => 0) (fun k => if k = 20 then A else B) [(20, namesR n.names), (34, nodesR n.kids)] [(A, namesR n.names), (B, nodesR n.kids)] (nodeRR n 20 34) (nodeRR n A B) := by
  refine ⟨?_, ?_, ?_, ?_⟩
  · intro k hk k' hk'
    simp only [List.map_cons, List.map_nil, List.mem_cons, List.not_mem_nil, or_false] at hk hk'
    rcases hk with rfl | rfl <;> rcases hk' with rfl | rfl <;> simp <;> intro h <;> first | exact absurd h hAB | exact absurd h.symm hAB
  · intro k R hk
    right
    show s.used (if k = 20 then A else B) = false
    split
    · exact uA
    · exact uB
  · exact .cons (es := (namesR n.names).es) rfl (.refl (strsE_pur _)) (.cons (es := (nodesR n.kids).es) rfl (.refl (nodesE_pur _)) .nil)
  · exact .base (.agg (.cons (.pur pur_int) (.cons (.pur pur_int) (.cons (.pur pur_str) (.cons (.own (by simp) rfl) (.cons (.own (by simp) rfl) .nil))))))
theorem arun_copyRR {P : Program} {T : Tab} {k0 : Nat} {md : List Nat} {ops : Array Oper} {K : ASt → Prop} {o : Oper} {l : List Oper} {s : ASt} {f : FuncId} {xs : List Operand} {n : Nd} {c : AV} (A B : Nat) (hAB : A ≠ B := by decide) (hac : ACG P f [c] [] 0 (fun r l => r = nodeRR n 20 34 ∧ l = [(20, namesR n.names), (34, nodesR n.kids)]))
    (uA : s.used A = false) (uB : s.used B = false) (hw : awant ops o s = some true) (ha : acall o.op = some (f, xs)) (hargs : MvL s.rows [] (fun _ => 0) (xs.map (aev s)) [c]) (hcan : s.can 0)
    (h : ARun P T k0 md ops K l ((s.back [] (fun _ => 0) 0 [(A, namesR n.names), (B, nodesR n.kids)]).put o.dst (nodeRR n A B))) : ARun P T k0 md ops K (o :: l) s :=
  arun_callG [] (fun _ => 0) hw ha rfl ⟨hac, by simp, MvR.nil, hargs, hcan⟩ (fun r l' hp => by
    obtain ⟨rfl, rfl⟩ := hp
    exact ⟨_, _, _, back_copy hAB uA uB, h⟩)
theorem nodeL_noid (y : Nd) : NoId (.agg [.int .i64 y.kind, .int .i64 y.num, .str y.text, .view .loose 1 (strsE y.names), .view .loose 5 (y.kids.map nodeL)]) := by
  have h := node_in (U := fun _ => false) y
  unfold nodeA at h
  rw [nodeL_eq] at h
  exact h
theorem mergeValid_step (p n : Nd) (hp : Shp p) (hn : Shp n) (ih : ∀ k ∈ p.kids, ∀ m, Shp m → AC Try.prog 55 [nodeA m, nodeA k] 0 (fun r => r = nodeA (mrg k m))) : AC Try.prog 55 [nodeA n, nodeA p] 0 (fun r => r = nodeA (mrg p n)) := by
  have hcn := implCopy_ACG n hn.sml
  have hcln := node_clo n
  unfold nodeA at hcn hcln ⊢
  rw [nodeL_eq n] at hcn hcln
  rw [nodeL_eq n, nodeL_eq p]
  refine AC.of tab_ok mixed_ok Try.func55 (by rfl) (by kernel_rfl) ?_; rintro ⟨P, T, hT, hm, w0, S0, rd0, k0⟩ hP hTT; dsimp only at hP hTT; subst hP hTT; unfold initSt; rw [Try.ntmps55]
  by_cases h4 : p.kind = 4
  rotate_left
  · have hb : (p.kind != 4) = true := by simpa using h4
    have hpc := implCopy_AC p hp.sml
    unfold nodeA at hpc
    rw [nodeL_eq p] at hpc
    (repeat (first | with_reducible refine AW.seq ?_ | ((first | refine arun_kn 4 rfl (fun C hC => ?_) | refine arunD_kn 4 rfl (fun C hC => ?_)); (repeat ((conv => whnf); simp [hb])); refine hC _ ?_; clear hC C; simp only [List.drop, Nat.reduceAdd]) | ((first | refine arun_kn 1 rfl (fun C hC => ?_) | refine arunD_kn 1 rfl (fun C hC => ?_)); (repeat ((conv => whnf); simp [hb])); refine hC _ ?_; clear hC C; simp only [List.drop, Nat.reduceAdd]) | (refine arun_skip ?_ ?_; (focus (simp [awant, hb]; done))) | (refine arun_c0 (hpc) ?_; rintro _ rfl) | (refine AW.regionK [] (fun K hK => ?_)) | (refine AW.regionDK [] (pcs [] []) (by kernel_rfl) (by kernel_rfl) (fun K hK => ?_)) | (refine AW.condT ?_ ?_; (focus (simp [aev, hb]; done))) | (refine AW.condF ?_ ?_; (focus (simp [aev, hb]; done))) | with_reducible refine AW.block ?_ | ((first | ((first | refine arun_nil ?_ | refine arunD_nil ?_); refine hK _ ?_; clear hK K) | refine AW.skip ?_ | refine AW.exit ?_ | refine AW.ret ?_); simp only [thenA_exit, inBlockA_exit, if_true, if_false, Nat.reduceEqDiff, thenA_normal, inBlockA_normal, reduceIte, thenA_ret, inBlockA_ret, endQ_ret, endR_ret, endG_ret, endQ_normal, endR_normal, endG_normal])))
    exact ⟨nodeA p, by simp [ares, aresL, upd, rowsOf_cons], node_pur p, by rw [mrg_no h4]; rfl⟩
  have hb : (p.kind != 4) = false := by simp [h4]
  have h6 := hp.kids
  have hln := (hp.map h4).2
  (repeat (first | with_reducible refine AW.seq ?_ | ((first | refine arun_kn 4 rfl (fun C hC => ?_) | refine arunD_kn 4 rfl (fun C hC => ?_)); (repeat ((conv => whnf); simp [hb])); refine hC _ ?_; clear hC C; simp only [List.drop, Nat.reduceAdd]) | ((first | refine arun_kn 1 rfl (fun C hC => ?_) | refine arunD_kn 1 rfl (fun C hC => ?_)); (repeat ((conv => whnf); simp [hb])); refine hC _ ?_; clear hC C; simp only [List.drop, Nat.reduceAdd]) | (refine arun_skip ?_ ?_; (focus (simp [awant, hb]; done))) | (refine AW.regionK [] (fun K hK => ?_)) | (refine AW.regionDK [] (pcs [] []) (by kernel_rfl) (by kernel_rfl) (fun K hK => ?_)) | (refine AW.condT ?_ ?_; (focus (simp [aev, hb]; done))) | (refine AW.condF ?_ ?_; (focus (simp [aev, hb]; done))) | with_reducible refine AW.block ?_ | ((first | ((first | refine arun_nil ?_ | refine arunD_nil ?_); refine hK _ ?_; clear hK K) | refine AW.skip ?_ | refine AW.exit ?_ | refine AW.ret ?_); simp only [thenA_exit, inBlockA_exit, if_true, if_false, Nat.reduceEqDiff, thenA_normal, inBlockA_normal, reduceIte, thenA_ret, inBlockA_ret, endQ_ret, endR_ret, endG_ret, endQ_normal, endR_normal, endG_normal])))
  refine AW.cutN (fun (_ : Unit) => mkSt (slots 0 63 [(3, .ptr true 5 1 3 0 0), (4, .ptr true 5 1 4 0 0), (5, .ptr true 5 1 5 0 0)]) [(3, ⟨true, 30, 5, [nodeL p]⟩), (4, ⟨true, 30, 5, [zeroN]⟩), (5, boxRR (baseM n) 100 101), (100, namesR (baseM n).names), (101, nodesR (baseM n).kids)] [3, 4, 5, 100, 101] (rd0.map fun _ => 0)) (fun _ => True) ?_ ?_
  · by_cases hn4 : n.kind = 4
    · have hbn : (n.kind == 4) = true := by simpa using hn4
      have hbase : baseM n = n := by unfold baseM; rw [if_pos hn4]
      (repeat (first | with_reducible refine AW.seq ?_ | ((first | refine arun_kn 4 rfl (fun C hC => ?_) | refine arunD_kn 4 rfl (fun C hC => ?_)); (repeat ((conv => whnf); simp [hbn])); refine hC _ ?_; clear hC C; simp only [List.drop, Nat.reduceAdd]) | ((first | refine arun_kn 1 rfl (fun C hC => ?_) | refine arunD_kn 1 rfl (fun C hC => ?_)); (repeat ((conv => whnf); simp [hbn])); refine hC _ ?_; clear hC C; simp only [List.drop, Nat.reduceAdd]) | (refine arun_skip ?_ ?_; (focus (simp [awant, hbn]; done))) | (refine AW.regionK [] (fun K hK => ?_)) | (refine AW.regionDK [] (pcs [] []) (by kernel_rfl) (by kernel_rfl) (fun K hK => ?_)) | (refine AW.condT ?_ ?_; (focus (simp [aev, hbn]; done))) | (refine AW.condF ?_ ?_; (focus (simp [aev, hbn]; done))) | with_reducible refine AW.block ?_ | ((first | ((first | refine arun_nil ?_ | refine arunD_nil ?_); refine hK _ ?_; clear hK K) | refine AW.skip ?_ | refine AW.exit ?_ | refine AW.ret ?_); simp only [thenA_exit, inBlockA_exit, if_true, if_false, Nat.reduceEqDiff, thenA_normal, inBlockA_normal, reduceIte, thenA_ret, inBlockA_ret, endQ_ret, endR_ret, endG_ret, endQ_normal, endR_normal, endG_normal])))
      refine arun_copyRR 100 101 (hac := hcn) (uA := by simp [upd]) (uB := by simp [upd]) (hw := by simp [awant]) (ha := rfl) (hargs := .cons (.base (.clo hcln.cloTo)) .nil) (hcan := can_of (Nat.le_refl _)) (h := ?_)
      (repeat (first | with_reducible refine AW.seq ?_ | ((first | refine arun_kn 4 rfl (fun C hC => ?_) | refine arunD_kn 4 rfl (fun C hC => ?_)); (repeat ((conv => whnf); simp [hbn, nodeRR])); refine hC _ ?_; clear hC C; simp only [List.drop, Nat.reduceAdd]) | ((first | refine arun_kn 1 rfl (fun C hC => ?_) | refine arunD_kn 1 rfl (fun C hC => ?_)); (repeat ((conv => whnf); simp [hbn, nodeRR])); refine hC _ ?_; clear hC C; simp only [List.drop, Nat.reduceAdd]) | (refine arun_skip ?_ ?_; (focus (simp [awant, hbn, nodeRR]; done))) | (refine AW.regionK [] (fun K hK => ?_)) | (refine AW.regionDK [] (pcs [] []) (by kernel_rfl) (by kernel_rfl) (fun K hK => ?_)) | (refine AW.condT ?_ ?_; (focus (simp [aev, hbn, nodeRR]; done))) | (refine AW.condF ?_ ?_; (focus (simp [aev, hbn, nodeRR]; done))) | with_reducible refine AW.block ?_ | ((first | ((first | refine arun_nil ?_ | refine arunD_nil ?_); refine hK _ ?_; clear hK K) | refine AW.skip ?_ | refine AW.exit ?_ | refine AW.ret ?_); simp only [thenA_exit, inBlockA_exit, if_true, if_false, Nat.reduceEqDiff, thenA_normal, inBlockA_normal, reduceIte, thenA_ret, inBlockA_ret, endQ_ret, endR_ret, endG_ret, endQ_normal, endR_normal, endG_normal])))
      exact ⟨(), trivial, (less_of (by simp [lessL, mkSt, slots, namesR, nodesR, boxRR, zeroN, hbase, nodeN, namesRow, nodeO, kidsRow]) (by simp [upd, mkSt, rowsOf_cons, namesR, nodesR, boxRR, zeroN, hbase, nodeN, namesRow, nodeO, kidsRow]) (by simp [upd, mkSt, usedOf_cons, namesR, nodesR, boxRR, zeroN, hbase, nodeN, namesRow, nodeO, kidsRow]) (by first | exact rd_less (by omega) | simp [mkSt, namesR, nodesR, boxRR, zeroN, hbase, nodeN, namesRow, nodeO, kidsRow]) (by simp [slots, in_any, in_int, in_bool, in_str, in_ptr, in_own, in_agg, in_vnil, in_rdr, usedOf_cons, usedOf_nil, strs_in, ints_in, nodes_in, in_tup, namesR, nodesR, boxRR, zeroN, hbase, nodeN, namesRow, nodeO, kidsRow]) (by simp only [List.forall_mem_cons, List.not_mem_nil, false_implies, implies_true, and_true, true_and, namesR, nodesR, boxRR, zeroN, hbase, nodeN, namesRow, nodeO, kidsRow]; (repeat (first | with_reducible exact trivial | with_reducible refine And.intro ?_ ?_ | with_reducible exact in_int | with_reducible exact in_str | with_reducible exact in_bool | with_reducible exact strs_in _ | with_reducible exact nodes_in _ | with_reducible exact items_in _ | with_reducible exact in_vnil | with_reducible exact in_any | exact hin _ | with_reducible refine take_in ?_ | with_reducible exact strsE_in _ | with_reducible exact nodesE_in _ | with_reducible exact nodeL_in _ | with_reducible exact itemsE_in _ | with_reducible exact itemL_in _ | with_reducible refine app_in ?_ ?_ | with_reducible refine sing_in ?_ | (focus (simp [in_any, in_int, in_bool, in_str, in_ptr, in_own, in_agg, in_vnil, in_rdr, usedOf_cons, usedOf_nil, strs_in, ints_in, nodes_in, namesR, nodesR, boxRR, zeroN, hbase, nodeN, namesRow, nodeO, kidsRow]; done)))); done))⟩
    · have hbn : (n.kind == 4) = false := by simpa using hn4
      have hbase : baseM n = ⟨4, 0, ⟨#[]⟩, [], []⟩ := by unfold baseM; rw [if_neg hn4]
      refine AW.adoptB 5 3 100 9 1 ⟨_, tab9, rfl⟩ (by simp [upd]; rfl) rfl rfl (by simp [upd]) ?_
      simp only [ASt.adoptB]
      refine AW.adoptB 5 4 101 30 5 ⟨_, tab30, rfl⟩ (by simp [upd]; rfl) rfl rfl (by simp [upd]) ?_
      simp only [ASt.adoptB]
      (repeat (first | with_reducible refine AW.seq ?_ | ((first | refine arun_kn 4 rfl (fun C hC => ?_) | refine arunD_kn 4 rfl (fun C hC => ?_)); (repeat ((conv => whnf); simp [hbn])); refine hC _ ?_; clear hC C; simp only [List.drop, Nat.reduceAdd]) | ((first | refine arun_kn 1 rfl (fun C hC => ?_) | refine arunD_kn 1 rfl (fun C hC => ?_)); (repeat ((conv => whnf); simp [hbn])); refine hC _ ?_; clear hC C; simp only [List.drop, Nat.reduceAdd]) | (refine arun_skip ?_ ?_; (focus (simp [awant, hbn]; done))) | (refine AW.regionK [] (fun K hK => ?_)) | (refine AW.regionDK [] (pcs [] []) (by kernel_rfl) (by kernel_rfl) (fun K hK => ?_)) | (refine AW.condT ?_ ?_; (focus (simp [aev, hbn]; done))) | (refine AW.condF ?_ ?_; (focus (simp [aev, hbn]; done))) | with_reducible refine AW.block ?_ | ((first | ((first | refine arun_nil ?_ | refine arunD_nil ?_); refine hK _ ?_; clear hK K) | refine AW.skip ?_ | refine AW.exit ?_ | refine AW.ret ?_); simp only [thenA_exit, inBlockA_exit, if_true, if_false, Nat.reduceEqDiff, thenA_normal, inBlockA_normal, reduceIte, thenA_ret, inBlockA_ret, endQ_ret, endR_ret, endG_ret, endQ_normal, endR_normal, endG_normal])))
      exact ⟨(), trivial, (less_of (by simp [lessL, mkSt, slots, namesR, nodesR, boxRR, zeroN, hbase, strsE, nodeN, namesRow, nodeO, kidsRow]) (by simp [upd, mkSt, rowsOf_cons, namesR, nodesR, boxRR, zeroN, hbase, strsE, nodeN, namesRow, nodeO, kidsRow]) (by simp [upd, mkSt, usedOf_cons, namesR, nodesR, boxRR, zeroN, hbase, strsE, nodeN, namesRow, nodeO, kidsRow]) (by first | exact rd_less (by omega) | simp [mkSt, namesR, nodesR, boxRR, zeroN, hbase, strsE, nodeN, namesRow, nodeO, kidsRow]) (by simp [slots, in_any, in_int, in_bool, in_str, in_ptr, in_own, in_agg, in_vnil, in_rdr, usedOf_cons, usedOf_nil, strs_in, ints_in, nodes_in, in_tup, namesR, nodesR, boxRR, zeroN, hbase, strsE, nodeN, namesRow, nodeO, kidsRow]) (by simp only [List.forall_mem_cons, List.not_mem_nil, false_implies, implies_true, and_true, true_and, namesR, nodesR, boxRR, zeroN, hbase, strsE, nodeN, namesRow, nodeO, kidsRow]; (repeat (first | with_reducible exact trivial | with_reducible refine And.intro ?_ ?_ | with_reducible exact in_int | with_reducible exact in_str | with_reducible exact in_bool | with_reducible exact strs_in _ | with_reducible exact nodes_in _ | with_reducible exact items_in _ | with_reducible exact in_vnil | with_reducible exact in_any | exact hin _ | with_reducible refine take_in ?_ | with_reducible exact strsE_in _ | with_reducible exact nodesE_in _ | with_reducible exact nodeL_in _ | with_reducible exact itemsE_in _ | with_reducible exact itemL_in _ | with_reducible refine app_in ?_ ?_ | with_reducible refine sing_in ?_ | (focus (simp [in_any, in_int, in_bool, in_str, in_ptr, in_own, in_agg, in_vnil, in_rdr, usedOf_cons, usedOf_nil, strs_in, ints_in, nodes_in, namesR, nodesR, boxRR, zeroN, hbase, strsE, nodeN, namesRow, nodeO, kidsRow]; done)))); done))⟩
  rintro ⟨⟩ s' - hls
  refine AW.less _ hls ?_
  clear hls s'
  (repeat (first | with_reducible refine AW.seq ?_ | ((first | refine arun_kn 4 rfl (fun C hC => ?_) | refine arunD_kn 4 rfl (fun C hC => ?_)); (repeat ((conv => whnf); simp [nodeL_eq p, strsE_len])); refine hC _ ?_; clear hC C; simp only [List.drop, Nat.reduceAdd]) | ((first | refine arun_kn 1 rfl (fun C hC => ?_) | refine arunD_kn 1 rfl (fun C hC => ?_)); (repeat ((conv => whnf); simp [nodeL_eq p, strsE_len])); refine hC _ ?_; clear hC C; simp only [List.drop, Nat.reduceAdd]) | (refine arun_skip ?_ ?_; (focus (simp [awant, nodeL_eq p, strsE_len]; done))) | (refine AW.regionK [] (fun K hK => ?_)) | (refine AW.regionDK [] (pcs [] []) (by kernel_rfl) (by kernel_rfl) (fun K hK => ?_)) | (refine AW.condT ?_ ?_; (focus (simp [aev, nodeL_eq p, strsE_len]; done))) | (refine AW.condF ?_ ?_; (focus (simp [aev, nodeL_eq p, strsE_len]; done))) | with_reducible refine AW.block ?_ | ((first | ((first | refine arun_nil ?_ | refine arunD_nil ?_); refine hK _ ?_; clear hK K) | refine AW.skip ?_ | refine AW.exit ?_ | refine AW.ret ?_); simp only [thenA_exit, inBlockA_exit, if_true, if_false, Nat.reduceEqDiff, thenA_normal, inBlockA_normal, reduceIte, thenA_ret, inBlockA_ret, endQ_ret, endR_ret, endG_ret, endQ_normal, endR_normal, endG_normal])))
  refine AW.loopS (fun (x : Nat × Nd) => mkSt (slots 0 63 [(3, .ptr true 5 1 3 0 0), (4, .ptr true 5 1 4 0 0), (5, .ptr true 5 1 5 0 0), (23, .view .loose 1 (strsE p.names)), (24, .int .i64 p.names.length), (25, .int .i64 x.1)]) [(3, ⟨true, 30, 5, [nodeL p]⟩), (4, ⟨true, 30, 5, [zeroN]⟩), (5, boxRR x.2 100 101), (100, namesR x.2.names), (101, nodesR x.2.kids)] [3, 4, 5, 100, 101] (rd0.map fun _ => 0)) (fun x => p.names.length - x.1) (fun x => x.1 ≤ p.names.length ∧ Mid n p x.1 x.2 ∧ mrgL (p.names.drop x.1) (p.kids.drop x.1) x.2 = mrg p n) (0, baseM n) ?_ ⟨Nat.zero_le _, Mid.start hn p, by rw [mrg_map h4]; rfl⟩ ?_
  · dsimp only
    rw [nodeL_eq p]
    exact (less_of (by simp [lessL, mkSt, slots, boxRR, namesR, nodesR, zeroN, nodeN, namesRow, nodeO, kidsRow]) (by simp [upd, mkSt, rowsOf_cons, boxRR, namesR, nodesR, zeroN, nodeN, namesRow, nodeO, kidsRow]) (by simp [upd, mkSt, usedOf_cons, boxRR, namesR, nodesR, zeroN, nodeN, namesRow, nodeO, kidsRow]) (by first | exact rd_less (by omega) | simp [mkSt, boxRR, namesR, nodesR, zeroN, nodeN, namesRow, nodeO, kidsRow]) (by simp [slots, in_any, in_int, in_bool, in_str, in_ptr, in_own, in_agg, in_vnil, in_rdr, usedOf_cons, usedOf_nil, strs_in, ints_in, nodes_in, in_tup, boxRR, namesR, nodesR, zeroN, nodeN, namesRow, nodeO, kidsRow]) (by simp only [List.forall_mem_cons, List.not_mem_nil, false_implies, implies_true, and_true, true_and, boxRR, namesR, nodesR, zeroN, nodeN, namesRow, nodeO, kidsRow]; (repeat (first | with_reducible exact trivial | with_reducible refine And.intro ?_ ?_ | with_reducible exact in_int | with_reducible exact in_str | with_reducible exact in_bool | with_reducible exact strs_in _ | with_reducible exact nodes_in _ | with_reducible exact items_in _ | with_reducible exact in_vnil | with_reducible exact in_any | exact hin _ | with_reducible refine take_in ?_ | with_reducible exact strsE_in _ | with_reducible exact nodesE_in _ | with_reducible exact nodeL_in _ | with_reducible exact itemsE_in _ | with_reducible exact itemL_in _ | with_reducible refine app_in ?_ ?_ | with_reducible refine sing_in ?_ | (focus (simp [in_any, in_int, in_bool, in_str, in_ptr, in_own, in_agg, in_vnil, in_rdr, usedOf_cons, usedOf_nil, strs_in, ints_in, nodes_in, boxRR, namesR, nodesR, zeroN, nodeN, namesRow, nodeO, kidsRow]; done)))); done))
  rintro ⟨i, r⟩ ⟨hi, hm, hf⟩
  dsimp only at hi hm hf ⊢
  rw [nodeL_eq p]
  by_cases hlt : i < p.names.length
  rotate_left
  · obtain rfl : i = p.names.length := by omega
    rw [List.drop_of_length_le (Nat.le_refl _), List.drop_of_length_le (by omega), mrgL] at hf
    refine AW.hold 100 ?_
    refine AW.hold 101 ?_
    (repeat (first | with_reducible refine AW.seq ?_ | ((first | refine arun_kn 4 rfl (fun C hC => ?_) | refine arunD_kn 4 rfl (fun C hC => ?_)); (repeat ((conv => whnf); simp [strsE_len, ASt.hold, boxRR, namesR, nodesR, zeroN, AV.subL, AV.sub, Row.sub, rowsOf_cons, upd])); refine hC _ ?_; clear hC C; simp only [List.drop, Nat.reduceAdd]) | ((first | refine arun_kn 1 rfl (fun C hC => ?_) | refine arunD_kn 1 rfl (fun C hC => ?_)); (repeat ((conv => whnf); simp [strsE_len, ASt.hold, boxRR, namesR, nodesR, zeroN, AV.subL, AV.sub, Row.sub, rowsOf_cons, upd])); refine hC _ ?_; clear hC C; simp only [List.drop, Nat.reduceAdd]) | (refine arun_skip ?_ ?_; (focus (simp [awant, strsE_len, ASt.hold, boxRR, namesR, nodesR, zeroN, AV.subL, AV.sub, Row.sub, rowsOf_cons, upd]; done))) | (refine AW.regionK [] (fun K hK => ?_)) | (refine AW.regionDK [] (pcs [] []) (by kernel_rfl) (by kernel_rfl) (fun K hK => ?_)) | (refine AW.condT ?_ ?_; (focus (simp [aev, strsE_len, ASt.hold, boxRR, namesR, nodesR, zeroN, AV.subL, AV.sub, Row.sub, rowsOf_cons, upd]; done))) | (refine AW.condF ?_ ?_; (focus (simp [aev, strsE_len, ASt.hold, boxRR, namesR, nodesR, zeroN, AV.subL, AV.sub, Row.sub, rowsOf_cons, upd]; done))) | with_reducible refine AW.block ?_ | ((first | ((first | refine arun_nil ?_ | refine arunD_nil ?_); refine hK _ ?_; clear hK K) | refine AW.skip ?_ | refine AW.exit ?_ | refine AW.ret ?_); simp only [thenA_exit, inBlockA_exit, if_true, if_false, Nat.reduceEqDiff, thenA_normal, inBlockA_normal, reduceIte, thenA_ret, inBlockA_ret, endQ_ret, endR_ret, endG_ret, endQ_normal, endR_normal, endG_normal])))
    exact ⟨nodeA r, by simp [ares, aresL, upd, rowsOf_cons, boxRR, namesR, nodesR, AV.subL, AV.sub, Row.sub], node_pur r, by rw [← hf]; rfl⟩
  have hk : i < p.kids.length := by omega
  have hwi : IntKind.i64.wrap ((i : Int) + 1) = ((i + 1 : Nat) : Int) := by rw [i64_nat (by omega) (by omega)]; simp
  have hnext := hm.next hp h4 hn hlt hk
  rw [mrgL_step hlt hk] at hf
  have hwd := hm.wide
  cases hkk : p.kids[i].kind == 0
  rotate_left
  · have hst : stepN r p.names[i] p.kids[i] = dropK r p.names[i] := by unfold stepN; rw [if_pos (by simpa using hkk)]
    rw [hst] at hf hnext
    have hdn := dropName_ACG r p.names[i] hm.w.asc hm.w.len (by omega)
    (repeat (first | with_reducible refine AW.seq ?_ | ((first | refine arun_kn 4 rfl (fun C hC => ?_) | refine arunD_kn 4 rfl (fun C hC => ?_)); (repeat ((conv => whnf); simp [hlt, hk, hkk, strsE_len])); refine hC _ ?_; clear hC C; simp only [List.drop, Nat.reduceAdd]) | ((first | refine arun_kn 1 rfl (fun C hC => ?_) | refine arunD_kn 1 rfl (fun C hC => ?_)); (repeat ((conv => whnf); simp [hlt, hk, hkk, strsE_len])); refine hC _ ?_; clear hC C; simp only [List.drop, Nat.reduceAdd]) | (refine arun_skip ?_ ?_; (focus (simp [awant, hlt, hk, hkk, strsE_len]; done))) | (refine AW.regionK [] (fun K hK => ?_)) | (refine AW.regionDK [] (pcs [] []) (by kernel_rfl) (by kernel_rfl) (fun K hK => ?_)) | (refine AW.condT ?_ ?_; (focus (simp [aev, hlt, hk, hkk, strsE_len]; done))) | (refine AW.condF ?_ ?_; (focus (simp [aev, hlt, hk, hkk, strsE_len]; done))) | with_reducible refine AW.block ?_ | ((first | ((first | refine arun_nil ?_ | refine arunD_nil ?_); refine hK _ ?_; clear hK K) | refine AW.skip ?_ | refine AW.exit ?_ | refine AW.ret ?_); simp only [thenA_exit, inBlockA_exit, if_true, if_false, Nat.reduceEqDiff, thenA_normal, inBlockA_normal, reduceIte, thenA_ret, inBlockA_ret, endQ_ret, endR_ret, endG_ret, endQ_normal, endR_normal, endG_normal])))
    refine arun_callK 5 100 101 102 103 (hac := hdn) (h1 := by simp [rowsOf_cons]) (h2 := by simp [rowsOf_cons]) (h3 := by simp [rowsOf_cons]) (hd := by decide) (hD := by decide) (uA := by simp [usedOf_cons, usedOf_nil, upd]) (uB := by simp [usedOf_cons, usedOf_nil, upd]) (hw := by simp [awant]) (ha := rfl) (hargs := .cons (.base (.ptr (by simp [rowsK]) rfl)) (.cons (.base (.clo (Clo.cloTo clo_str))) .nil)) (hcan := can_of (Nat.le_refl _)) (h := ?_)
    (repeat (first | with_reducible refine AW.seq ?_ | ((first | refine arun_kn 4 rfl (fun C hC => ?_) | refine arunD_kn 4 rfl (fun C hC => ?_)); (repeat ((conv => whnf); simp [hlt, hk, hkk, hwi, backK, rowsK, nuK])); refine hC _ ?_; clear hC C; simp only [List.drop, Nat.reduceAdd]) | ((first | refine arun_kn 1 rfl (fun C hC => ?_) | refine arunD_kn 1 rfl (fun C hC => ?_)); (repeat ((conv => whnf); simp [hlt, hk, hkk, hwi, backK, rowsK, nuK])); refine hC _ ?_; clear hC C; simp only [List.drop, Nat.reduceAdd]) | (refine arun_skip ?_ ?_; (focus (simp [awant, hlt, hk, hkk, hwi, backK, rowsK, nuK]; done))) | (refine AW.regionK [] (fun K hK => ?_)) | (refine AW.regionDK [] (pcs [] []) (by kernel_rfl) (by kernel_rfl) (fun K hK => ?_)) | (refine AW.condT ?_ ?_; (focus (simp [aev, hlt, hk, hkk, hwi, backK, rowsK, nuK]; done))) | (refine AW.condF ?_ ?_; (focus (simp [aev, hlt, hk, hkk, hwi, backK, rowsK, nuK]; done))) | with_reducible refine AW.block ?_ | ((first | ((first | refine arun_nil ?_ | refine arunD_nil ?_); refine hK _ ?_; clear hK K) | refine AW.skip ?_ | refine AW.exit ?_ | refine AW.ret ?_); simp only [thenA_exit, inBlockA_exit, if_true, if_false, Nat.reduceEqDiff, thenA_normal, inBlockA_normal, reduceIte, thenA_ret, inBlockA_ret, endQ_ret, endR_ret, endG_ret, endQ_normal, endR_normal, endG_normal])))
    refine ⟨(i + 1, dropK r p.names[i]), by dsimp only; omega, ⟨by dsimp only; omega, hnext, hf⟩, ?_⟩
    dsimp only
    generalize dropK r p.names[i] = m at *
    refine Less.trans (s' := mkSt (slots 0 63 [(3, .ptr true 5 1 3 0 0), (4, .ptr true 5 1 4 0 0), (5, .ptr true 5 1 5 0 0), (23, .view .loose 1 (strsE p.names)), (24, .int .i64 p.names.length), (25, .int .i64 ((i + 1 : Nat) : Int))]) [(3, ⟨true, 30, 5, [[.int .i64 p.kind, .int .i64 p.num, .str p.text, .view .loose 1 (strsE p.names), .view .loose 5 (p.kids.map nodeL)]]⟩), (4, ⟨true, 30, 5, [zeroN]⟩), (5, boxRR m 102 103), (102, namesR m.names), (103, nodesR m.kids)] [3, 4, 5, 102, 103] (rd0.map fun _ => 0)) (less_of (by simp [lessL, mkSt, slots, backK, boxRR, namesR, nodesR, zeroN, nodeN, namesRow, nodeO, kidsRow]) (by simp [upd, mkSt, rowsOf_cons, backK, boxRR, namesR, nodesR, zeroN, nodeN, namesRow, nodeO, kidsRow]) (by simp [upd, mkSt, usedOf_cons, backK, boxRR, namesR, nodesR, zeroN, nodeN, namesRow, nodeO, kidsRow]) (by first | exact rd_less (by omega) | simp [mkSt, backK, boxRR, namesR, nodesR, zeroN, nodeN, namesRow, nodeO, kidsRow]) (by simp [slots, in_any, in_int, in_bool, in_str, in_ptr, in_own, in_agg, in_vnil, in_rdr, usedOf_cons, usedOf_nil, strs_in, ints_in, nodes_in, in_tup, backK, boxRR, namesR, nodesR, zeroN, nodeN, namesRow, nodeO, kidsRow]) (by simp only [List.forall_mem_cons, List.not_mem_nil, false_implies, implies_true, and_true, true_and, backK, boxRR, namesR, nodesR, zeroN, nodeN, namesRow, nodeO, kidsRow]; (repeat (first | with_reducible exact trivial | with_reducible refine And.intro ?_ ?_ | with_reducible exact in_int | with_reducible exact in_str | with_reducible exact in_bool | with_reducible exact strs_in _ | with_reducible exact nodes_in _ | with_reducible exact items_in _ | with_reducible exact in_vnil | with_reducible exact in_any | exact hin _ | with_reducible refine take_in ?_ | with_reducible exact strsE_in _ | with_reducible exact nodesE_in _ | with_reducible exact nodeL_in _ | with_reducible exact itemsE_in _ | with_reducible exact itemL_in _ | with_reducible refine app_in ?_ ?_ | with_reducible refine sing_in ?_ | (focus (simp [in_any, in_int, in_bool, in_str, in_ptr, in_own, in_agg, in_vnil, in_rdr, usedOf_cons, usedOf_nil, strs_in, ints_in, nodes_in, backK, boxRR, namesR, nodesR, zeroN, nodeN, namesRow, nodeO, kidsRow]; done)))); done)) (Less.trans (Less.rename 102 100 (by simp [mkSt, usedOf_cons, usedOf_nil])) (Less.trans (Less.rename 103 101 (by simp [ASt.rename, mkSt, rowsOf_cons, usedOf_cons, usedOf_nil, upd])) ?_))
    simp only [ASt.rename, mkSt, rowsOf_cons, Nat.reduceEqDiff, if_true, if_false, reduceIte, upd, boxRR, namesR, nodesR, zeroN]
    exact (less_of (by simp [lessL, mkSt, slots, AV.subL, AV.sub, Row.sub, rowsOf_nil, strsE_sub, nodesE_sub, strsE_len, boxRR, namesR, nodesR, zeroN, nodeN, namesRow, nodeO, kidsRow]) (by simp [upd, mkSt, rowsOf_cons, AV.subL, AV.sub, Row.sub, rowsOf_nil, strsE_sub, nodesE_sub, strsE_len, boxRR, namesR, nodesR, zeroN, nodeN, namesRow, nodeO, kidsRow]) (by simp [upd, mkSt, usedOf_cons, AV.subL, AV.sub, Row.sub, rowsOf_nil, strsE_sub, nodesE_sub, strsE_len, boxRR, namesR, nodesR, zeroN, nodeN, namesRow, nodeO, kidsRow]) (by first | exact rd_less (by omega) | simp [mkSt, AV.subL, AV.sub, Row.sub, rowsOf_nil, strsE_sub, nodesE_sub, strsE_len, boxRR, namesR, nodesR, zeroN, nodeN, namesRow, nodeO, kidsRow]) (by simp [slots, in_any, in_int, in_bool, in_str, in_ptr, in_own, in_agg, in_vnil, in_rdr, usedOf_cons, usedOf_nil, strs_in, ints_in, nodes_in, in_tup, AV.subL, AV.sub, Row.sub, rowsOf_nil, strsE_sub, nodesE_sub, strsE_len, boxRR, namesR, nodesR, zeroN, nodeN, namesRow, nodeO, kidsRow]) (by simp only [List.forall_mem_cons, List.not_mem_nil, false_implies, implies_true, and_true, true_and, AV.subL, AV.sub, Row.sub, rowsOf_nil, strsE_sub, nodesE_sub, strsE_len, boxRR, namesR, nodesR, zeroN, nodeN, namesRow, nodeO, kidsRow]; (repeat (first | with_reducible exact trivial | with_reducible refine And.intro ?_ ?_ | with_reducible exact in_int | with_reducible exact in_str | with_reducible exact in_bool | with_reducible exact strs_in _ | with_reducible exact nodes_in _ | with_reducible exact items_in _ | with_reducible exact in_vnil | with_reducible exact in_any | exact hin _ | with_reducible refine take_in ?_ | with_reducible exact strsE_in _ | with_reducible exact nodesE_in _ | with_reducible exact nodeL_in _ | with_reducible exact itemsE_in _ | with_reducible exact itemL_in _ | with_reducible refine app_in ?_ ?_ | with_reducible refine sing_in ?_ | (focus (simp [in_any, in_int, in_bool, in_str, in_ptr, in_own, in_agg, in_vnil, in_rdr, usedOf_cons, usedOf_nil, strs_in, ints_in, nodes_in, AV.subL, AV.sub, Row.sub, rowsOf_nil, strsE_sub, nodesE_sub, strsE_len, boxRR, namesR, nodesR, zeroN, nodeN, namesRow, nodeO, kidsRow]; done)))); done))
  · have h0 : ¬ p.kids[i].kind = 0 := by simpa using hkk
    have hst : stepN r p.names[i] p.kids[i] = putK r p.names[i] (mrg p.kids[i] (kidOf r p.names[i])) := by unfold stepN; rw [if_neg h0]
    rw [hst] at hf hnext
    have hold := base_old hn p.names[i]
    rw [← hm.kid hp h4 hn hlt] at hold
    have hmg := ih _ (List.getElem_mem hk) _ hold
    have hpn := putName_ACG r (mrg p.kids[i] (kidOf r p.names[i])) p.names[i] hm.w.asc hm.w.len (by omega)
    have pb := bsearch_AC r.names p.names[i] .lent hm.w.asc (by have := hm.w.len; omega)
    have hrl := hm.w.len
    generalize mrg p.kids[i] (kidOf r p.names[i]) = y at *
    unfold nodeA at hmg hpn
    have hcy := node_clo y
    unfold nodeA at hcy
    rw [nodeL_eq p.kids[i], nodeL_eq y] at hmg
    rw [nodeL_eq y] at hpn hcy
    cases hmm : mem r.names p.names[i]
    · rw [hmm] at pb
      rw [kidOf_no hmm, zeroA] at hmg
      have hcz := node_clo Nd.zero
      unfold nodeA at hcz
      rw [zeroA] at hcz
      (repeat (first | with_reducible refine AW.seq ?_ | ((first | refine arun_kn 4 rfl (fun C hC => ?_) | refine arunD_kn 4 rfl (fun C hC => ?_)); (repeat ((conv => whnf); simp [hlt, hk, hkk, strsE_len, boxRR, namesR])); refine hC _ ?_; clear hC C; simp only [List.drop, Nat.reduceAdd]) | ((first | refine arun_kn 1 rfl (fun C hC => ?_) | refine arunD_kn 1 rfl (fun C hC => ?_)); (repeat ((conv => whnf); simp [hlt, hk, hkk, strsE_len, boxRR, namesR])); refine hC _ ?_; clear hC C; simp only [List.drop, Nat.reduceAdd]) | (refine arun_skip ?_ ?_; (focus (simp [awant, hlt, hk, hkk, strsE_len, boxRR, namesR]; done))) | (refine arun_cL (0) (pb) ?_; rintro _ rfl) | (refine AW.regionK [] (fun K hK => ?_)) | (refine AW.condT ?_ ?_; (focus (simp [aev, hlt, hk, hkk, strsE_len, boxRR, namesR]; done))) | (refine AW.condF ?_ ?_; (focus (simp [aev, hlt, hk, hkk, strsE_len, boxRR, namesR]; done))) | with_reducible refine AW.block ?_ | ((first | ((first | refine arun_nil ?_ | refine arunD_nil ?_); refine hK _ ?_; clear hK K) | refine AW.skip ?_ | refine AW.exit ?_ | refine AW.ret ?_); simp only [thenA_exit, inBlockA_exit, if_true, if_false, Nat.reduceEqDiff, thenA_normal, inBlockA_normal, reduceIte, thenA_ret, inBlockA_ret, endQ_ret, endR_ret, endG_ret, endQ_normal, endR_normal, endG_normal])))
      refine AW.wkB 8 3 (.view .loose 1 []) (Wk.nil (fun h => by cases h)) (by simp [upd]; rfl) rfl rfl ?_
      simp only [ASt.wkB]
      refine AW.wkB 8 4 (.view .loose 5 []) (Wk.nil (fun h => by cases h)) (by simp [upd]; rfl) rfl rfl ?_
      simp only [ASt.wkB]
      refine AW.regionDK [] (pcs [(7, 0, fun r => r = .agg [.int .i64 y.kind, .int .i64 y.num, .str y.text, .view .loose 1 (strsE y.names), .view .loose 5 (y.kids.map nodeL)])] [1008]) (by kernel_rfl) (by kernel_rfl) (fun K hK => ?_)
      (repeat (first | with_reducible refine AW.seq ?_ | ((first | refine arun_kn 4 rfl (fun C hC => ?_) | refine arunD_kn 4 rfl (fun C hC => ?_)); (repeat ((conv => whnf); simp [hlt, hk, hkk, strsE_len, boxRR, namesR, nodesR])); refine hC _ ?_; clear hC C; simp only [List.drop, Nat.reduceAdd]) | ((first | refine arun_kn 1 rfl (fun C hC => ?_) | refine arunD_kn 1 rfl (fun C hC => ?_)); (repeat ((conv => whnf); simp [hlt, hk, hkk, strsE_len, boxRR, namesR, nodesR])); refine hC _ ?_; clear hC C; simp only [List.drop, Nat.reduceAdd]) | (refine arun_skip ?_ ?_; (focus (simp [awant, hlt, hk, hkk, strsE_len, boxRR, namesR, nodesR]; done))) | (refine arun_c0 (hmg) ?_; rintro _ rfl) | (refine arunD_cE (0) (hmg) (by exact ⟨_, rfl, nodeL_noid y⟩) ?_; rintro _ rfl; intro _) | (refine AW.regionK [] (fun K hK => ?_)) | (refine AW.regionDK [] (pcs [] []) (by kernel_rfl) (by kernel_rfl) (fun K hK => ?_)) | (refine AW.condT ?_ ?_; (focus (simp [aev, hlt, hk, hkk, strsE_len, boxRR, namesR, nodesR]; done))) | (refine AW.condF ?_ ?_; (focus (simp [aev, hlt, hk, hkk, strsE_len, boxRR, namesR, nodesR]; done))) | with_reducible refine AW.block ?_ | ((first | ((first | refine arun_nil ?_ | refine arunD_nil ?_); refine hK _ ?_; clear hK K) | refine AW.skip ?_ | refine AW.exit ?_ | refine AW.ret ?_); simp only [thenA_exit, inBlockA_exit, if_true, if_false, Nat.reduceEqDiff, thenA_normal, inBlockA_normal, reduceIte, thenA_ret, inBlockA_ret, endQ_ret, endR_ret, endG_ret, endQ_normal, endR_normal, endG_normal])))
      refine arunD_callK 5 100 101 102 103 (hac := hpn) (h1 := by simp [rowsOf_cons, upd, boxRR]) (h2 := by simp [rowsOf_cons, upd, namesR]) (h3 := by simp [rowsOf_cons, upd, nodesR]) (hd := by decide) (hD := by decide) (uA := by simp [usedOf_cons, usedOf_nil, upd]) (uB := by simp [usedOf_cons, usedOf_nil, upd]) (hl := rfl) (hw := by simp [awant]) (ha := rfl) (hargs := .cons (.base (.ptr (by simp [rowsK]) rfl)) (.cons (.base (.clo (Clo.cloTo clo_str))) (.cons (.base (.clo (Clo.cloTo hcy))) .nil))) (hcan := by (simp only [ASt.put, ASt.pay, Option.map_map, Function.comp_def]; exact can_of (Nat.zero_le _))) (h := ?_)
      (repeat (first | with_reducible refine AW.seq ?_ | ((first | refine arun_kn 4 rfl (fun C hC => ?_) | refine arunD_kn 4 rfl (fun C hC => ?_)); (repeat ((conv => whnf); simp [hlt, hk, hkk, hwi, backK, rowsK, nuK])); refine hC _ ?_; clear hC C; simp only [List.drop, Nat.reduceAdd]) | ((first | refine arun_kn 1 rfl (fun C hC => ?_) | refine arunD_kn 1 rfl (fun C hC => ?_)); (repeat ((conv => whnf); simp [hlt, hk, hkk, hwi, backK, rowsK, nuK])); refine hC _ ?_; clear hC C; simp only [List.drop, Nat.reduceAdd]) | (refine arun_skip ?_ ?_; (focus (simp [awant, hlt, hk, hkk, hwi, backK, rowsK, nuK]; done))) | (refine AW.regionK [] (fun K hK => ?_)) | (refine AW.regionDK [] (pcs [] []) (by kernel_rfl) (by kernel_rfl) (fun K hK => ?_)) | (refine AW.condT ?_ ?_; (focus (simp [aev, hlt, hk, hkk, hwi, backK, rowsK, nuK]; done))) | (refine AW.condF ?_ ?_; (focus (simp [aev, hlt, hk, hkk, hwi, backK, rowsK, nuK]; done))) | with_reducible refine AW.block ?_ | ((first | ((first | refine arun_nil ?_ | refine arunD_nil ?_); refine hK _ ?_; clear hK K) | refine AW.skip ?_ | refine AW.exit ?_ | refine AW.ret ?_); simp only [thenA_exit, inBlockA_exit, if_true, if_false, Nat.reduceEqDiff, thenA_normal, inBlockA_normal, reduceIte, thenA_ret, inBlockA_ret, endQ_ret, endR_ret, endG_ret, endQ_normal, endR_normal, endG_normal])))
      refine ⟨(i + 1, putK r p.names[i] y), by dsimp only; omega, ⟨by dsimp only; omega, hnext, hf⟩, ?_⟩
      dsimp only
      generalize putK r p.names[i] y = m at *
      refine Less.trans (s' := mkSt (slots 0 63 [(3, .ptr true 5 1 3 0 0), (4, .ptr true 5 1 4 0 0), (5, .ptr true 5 1 5 0 0), (23, .view .loose 1 (strsE p.names)), (24, .int .i64 p.names.length), (25, .int .i64 ((i + 1 : Nat) : Int))]) [(3, ⟨true, 30, 5, [[.int .i64 p.kind, .int .i64 p.num, .str p.text, .view .loose 1 (strsE p.names), .view .loose 5 (p.kids.map nodeL)]]⟩), (4, ⟨true, 30, 5, [zeroN]⟩), (5, boxRR m 102 103), (102, namesR m.names), (103, nodesR m.kids)] [3, 4, 5, 102, 103] (rd0.map fun _ => 0)) (less_of (by simp [lessL, mkSt, slots, backK, boxRR, namesR, nodesR, zeroN, nodeN, namesRow, nodeO, kidsRow]) (by simp [upd, mkSt, rowsOf_cons, backK, boxRR, namesR, nodesR, zeroN, nodeN, namesRow, nodeO, kidsRow]) (by simp [upd, mkSt, usedOf_cons, backK, boxRR, namesR, nodesR, zeroN, nodeN, namesRow, nodeO, kidsRow]) (by first | exact rd_less (by omega) | simp [mkSt, backK, boxRR, namesR, nodesR, zeroN, nodeN, namesRow, nodeO, kidsRow]) (by simp [slots, in_any, in_int, in_bool, in_str, in_ptr, in_own, in_agg, in_vnil, in_rdr, usedOf_cons, usedOf_nil, strs_in, ints_in, nodes_in, in_tup, backK, boxRR, namesR, nodesR, zeroN, nodeN, namesRow, nodeO, kidsRow]) (by simp only [List.forall_mem_cons, List.not_mem_nil, false_implies, implies_true, and_true, true_and, backK, boxRR, namesR, nodesR, zeroN, nodeN, namesRow, nodeO, kidsRow]; (repeat (first | with_reducible exact trivial | with_reducible refine And.intro ?_ ?_ | with_reducible exact in_int | with_reducible exact in_str | with_reducible exact in_bool | with_reducible exact strs_in _ | with_reducible exact nodes_in _ | with_reducible exact items_in _ | with_reducible exact in_vnil | with_reducible exact in_any | exact hin _ | with_reducible refine take_in ?_ | with_reducible exact strsE_in _ | with_reducible exact nodesE_in _ | with_reducible exact nodeL_in _ | with_reducible exact itemsE_in _ | with_reducible exact itemL_in _ | with_reducible refine app_in ?_ ?_ | with_reducible refine sing_in ?_ | (focus (simp [in_any, in_int, in_bool, in_str, in_ptr, in_own, in_agg, in_vnil, in_rdr, usedOf_cons, usedOf_nil, strs_in, ints_in, nodes_in, backK, boxRR, namesR, nodesR, zeroN, nodeN, namesRow, nodeO, kidsRow]; done)))); done)) (Less.trans (Less.rename 102 100 (by simp [mkSt, usedOf_cons, usedOf_nil])) (Less.trans (Less.rename 103 101 (by simp [ASt.rename, mkSt, rowsOf_cons, usedOf_cons, usedOf_nil, upd])) ?_))
      simp only [ASt.rename, mkSt, rowsOf_cons, Nat.reduceEqDiff, if_true, if_false, reduceIte, upd, boxRR, namesR, nodesR, zeroN]
      exact (less_of (by simp [lessL, mkSt, slots, AV.subL, AV.sub, Row.sub, rowsOf_nil, strsE_sub, nodesE_sub, strsE_len, boxRR, namesR, nodesR, zeroN, nodeN, namesRow, nodeO, kidsRow]) (by simp [upd, mkSt, rowsOf_cons, AV.subL, AV.sub, Row.sub, rowsOf_nil, strsE_sub, nodesE_sub, strsE_len, boxRR, namesR, nodesR, zeroN, nodeN, namesRow, nodeO, kidsRow]) (by simp [upd, mkSt, usedOf_cons, AV.subL, AV.sub, Row.sub, rowsOf_nil, strsE_sub, nodesE_sub, strsE_len, boxRR, namesR, nodesR, zeroN, nodeN, namesRow, nodeO, kidsRow]) (by first | exact rd_less (by omega) | simp [mkSt, AV.subL, AV.sub, Row.sub, rowsOf_nil, strsE_sub, nodesE_sub, strsE_len, boxRR, namesR, nodesR, zeroN, nodeN, namesRow, nodeO, kidsRow]) (by simp [slots, in_any, in_int, in_bool, in_str, in_ptr, in_own, in_agg, in_vnil, in_rdr, usedOf_cons, usedOf_nil, strs_in, ints_in, nodes_in, in_tup, AV.subL, AV.sub, Row.sub, rowsOf_nil, strsE_sub, nodesE_sub, strsE_len, boxRR, namesR, nodesR, zeroN, nodeN, namesRow, nodeO, kidsRow]) (by simp only [List.forall_mem_cons, List.not_mem_nil, false_implies, implies_true, and_true, true_and, AV.subL, AV.sub, Row.sub, rowsOf_nil, strsE_sub, nodesE_sub, strsE_len, boxRR, namesR, nodesR, zeroN, nodeN, namesRow, nodeO, kidsRow]; (repeat (first | with_reducible exact trivial | with_reducible refine And.intro ?_ ?_ | with_reducible exact in_int | with_reducible exact in_str | with_reducible exact in_bool | with_reducible exact strs_in _ | with_reducible exact nodes_in _ | with_reducible exact items_in _ | with_reducible exact in_vnil | with_reducible exact in_any | exact hin _ | with_reducible refine take_in ?_ | with_reducible exact strsE_in _ | with_reducible exact nodesE_in _ | with_reducible exact nodeL_in _ | with_reducible exact itemsE_in _ | with_reducible exact itemL_in _ | with_reducible refine app_in ?_ ?_ | with_reducible refine sing_in ?_ | (focus (simp [in_any, in_int, in_bool, in_str, in_ptr, in_own, in_agg, in_vnil, in_rdr, usedOf_cons, usedOf_nil, strs_in, ints_in, nodes_in, AV.subL, AV.sub, Row.sub, rowsOf_nil, strsE_sub, nodesE_sub, strsE_len, boxRR, namesR, nodesR, zeroN, nodeN, namesRow, nodeO, kidsRow]; done)))); done))
    · rw [hmm] at pb
      have hlb := lbn_lt hm.w.asc hmm
      have hlk : lbound r.names p.names[i] < r.kids.length := by omega
      rw [kidOf_yes hmm hlk, nodeL_eq r.kids[lbound r.names p.names[i]]] at hmg
      (repeat (first | with_reducible refine AW.seq ?_ | ((first | refine arun_kn 4 rfl (fun C hC => ?_) | refine arunD_kn 4 rfl (fun C hC => ?_)); (repeat ((conv => whnf); simp [hlt, hk, hkk, hlb, hlk, strsE_len, boxRR, namesR, nodesR])); refine hC _ ?_; clear hC C; simp only [List.drop, Nat.reduceAdd]) | ((first | refine arun_kn 1 rfl (fun C hC => ?_) | refine arunD_kn 1 rfl (fun C hC => ?_)); (repeat ((conv => whnf); simp [hlt, hk, hkk, hlb, hlk, strsE_len, boxRR, namesR, nodesR])); refine hC _ ?_; clear hC C; simp only [List.drop, Nat.reduceAdd]) | (refine arun_skip ?_ ?_; (focus (simp [awant, hlt, hk, hkk, hlb, hlk, strsE_len, boxRR, namesR, nodesR]; done))) | (refine arun_cL (0) (pb) ?_; rintro _ rfl) | (refine AW.regionK [] (fun K hK => ?_)) | (refine AW.condT ?_ ?_; (focus (simp [aev, hlt, hk, hkk, hlb, hlk, strsE_len, boxRR, namesR, nodesR]; done))) | (refine AW.condF ?_ ?_; (focus (simp [aev, hlt, hk, hkk, hlb, hlk, strsE_len, boxRR, namesR, nodesR]; done))) | with_reducible refine AW.block ?_ | ((first | ((first | refine arun_nil ?_ | refine arunD_nil ?_); refine hK _ ?_; clear hK K) | refine AW.skip ?_ | refine AW.exit ?_ | refine AW.ret ?_); simp only [thenA_exit, inBlockA_exit, if_true, if_false, Nat.reduceEqDiff, thenA_normal, inBlockA_normal, reduceIte, thenA_ret, inBlockA_ret, endQ_ret, endR_ret, endG_ret, endQ_normal, endR_normal, endG_normal])))
      refine AW.regionDK [] (pcs [(7, 0, fun r => r = .agg [.int .i64 y.kind, .int .i64 y.num, .str y.text, .view .loose 1 (strsE y.names), .view .loose 5 (y.kids.map nodeL)])] [1008]) (by kernel_rfl) (by kernel_rfl) (fun K hK => ?_)
      (repeat (first | with_reducible refine AW.seq ?_ | ((first | refine arun_kn 4 rfl (fun C hC => ?_) | refine arunD_kn 4 rfl (fun C hC => ?_)); (repeat ((conv => whnf); simp [hlt, hk, hkk, strsE_len, boxRR, namesR, nodesR])); refine hC _ ?_; clear hC C; simp only [List.drop, Nat.reduceAdd]) | ((first | refine arun_kn 1 rfl (fun C hC => ?_) | refine arunD_kn 1 rfl (fun C hC => ?_)); (repeat ((conv => whnf); simp [hlt, hk, hkk, strsE_len, boxRR, namesR, nodesR])); refine hC _ ?_; clear hC C; simp only [List.drop, Nat.reduceAdd]) | (refine arun_skip ?_ ?_; (focus (simp [awant, hlt, hk, hkk, strsE_len, boxRR, namesR, nodesR]; done))) | (refine arun_c0 (hmg) ?_; rintro _ rfl) | (refine arunD_cE (0) (hmg) (by exact ⟨_, rfl, nodeL_noid y⟩) ?_; rintro _ rfl; intro _) | (refine AW.regionK [] (fun K hK => ?_)) | (refine AW.regionDK [] (pcs [] []) (by kernel_rfl) (by kernel_rfl) (fun K hK => ?_)) | (refine AW.condT ?_ ?_; (focus (simp [aev, hlt, hk, hkk, strsE_len, boxRR, namesR, nodesR]; done))) | (refine AW.condF ?_ ?_; (focus (simp [aev, hlt, hk, hkk, strsE_len, boxRR, namesR, nodesR]; done))) | with_reducible refine AW.block ?_ | ((first | ((first | refine arun_nil ?_ | refine arunD_nil ?_); refine hK _ ?_; clear hK K) | refine AW.skip ?_ | refine AW.exit ?_ | refine AW.ret ?_); simp only [thenA_exit, inBlockA_exit, if_true, if_false, Nat.reduceEqDiff, thenA_normal, inBlockA_normal, reduceIte, thenA_ret, inBlockA_ret, endQ_ret, endR_ret, endG_ret, endQ_normal, endR_normal, endG_normal])))
      refine arunD_callK 5 100 101 102 103 (hac := hpn) (h1 := by simp [rowsOf_cons, upd, boxRR]) (h2 := by simp [rowsOf_cons, upd, namesR]) (h3 := by simp [rowsOf_cons, upd, nodesR]) (hd := by decide) (hD := by decide) (uA := by simp [usedOf_cons, usedOf_nil, upd]) (uB := by simp [usedOf_cons, usedOf_nil, upd]) (hl := rfl) (hw := by simp [awant]) (ha := rfl) (hargs := .cons (.base (.ptr (by simp [rowsK]) rfl)) (.cons (.base (.clo (Clo.cloTo clo_str))) (.cons (.base (.clo (Clo.cloTo hcy))) .nil))) (hcan := by (simp only [ASt.put, ASt.pay, Option.map_map, Function.comp_def]; exact can_of (Nat.zero_le _))) (h := ?_)
      (repeat (first | with_reducible refine AW.seq ?_ | ((first | refine arun_kn 4 rfl (fun C hC => ?_) | refine arunD_kn 4 rfl (fun C hC => ?_)); (repeat ((conv => whnf); simp [hlt, hk, hkk, hwi, backK, rowsK, nuK])); refine hC _ ?_; clear hC C; simp only [List.drop, Nat.reduceAdd]) | ((first | refine arun_kn 1 rfl (fun C hC => ?_) | refine arunD_kn 1 rfl (fun C hC => ?_)); (repeat ((conv => whnf); simp [hlt, hk, hkk, hwi, backK, rowsK, nuK])); refine hC _ ?_; clear hC C; simp only [List.drop, Nat.reduceAdd]) | (refine arun_skip ?_ ?_; (focus (simp [awant, hlt, hk, hkk, hwi, backK, rowsK, nuK]; done))) | (refine AW.regionK [] (fun K hK => ?_)) | (refine AW.regionDK [] (pcs [] []) (by kernel_rfl) (by kernel_rfl) (fun K hK => ?_)) | (refine AW.condT ?_ ?_; (focus (simp [aev, hlt, hk, hkk, hwi, backK, rowsK, nuK]; done))) | (refine AW.condF ?_ ?_; (focus (simp [aev, hlt, hk, hkk, hwi, backK, rowsK, nuK]; done))) | with_reducible refine AW.block ?_ | ((first | ((first | refine arun_nil ?_ | refine arunD_nil ?_); refine hK _ ?_; clear hK K) | refine AW.skip ?_ | refine AW.exit ?_ | refine AW.ret ?_); simp only [thenA_exit, inBlockA_exit, if_true, if_false, Nat.reduceEqDiff, thenA_normal, inBlockA_normal, reduceIte, thenA_ret, inBlockA_ret, endQ_ret, endR_ret, endG_ret, endQ_normal, endR_normal, endG_normal])))
      refine ⟨(i + 1, putK r p.names[i] y), by dsimp only; omega, ⟨by dsimp only; omega, hnext, hf⟩, ?_⟩
      dsimp only
      generalize putK r p.names[i] y = m at *
      refine Less.trans (s' := mkSt (slots 0 63 [(3, .ptr true 5 1 3 0 0), (4, .ptr true 5 1 4 0 0), (5, .ptr true 5 1 5 0 0), (23, .view .loose 1 (strsE p.names)), (24, .int .i64 p.names.length), (25, .int .i64 ((i + 1 : Nat) : Int))]) [(3, ⟨true, 30, 5, [[.int .i64 p.kind, .int .i64 p.num, .str p.text, .view .loose 1 (strsE p.names), .view .loose 5 (p.kids.map nodeL)]]⟩), (4, ⟨true, 30, 5, [zeroN]⟩), (5, boxRR m 102 103), (102, namesR m.names), (103, nodesR m.kids)] [3, 4, 5, 102, 103] (rd0.map fun _ => 0)) (less_of (by simp [lessL, mkSt, slots, backK, boxRR, namesR, nodesR, zeroN, nodeN, namesRow, nodeO, kidsRow]) (by simp [upd, mkSt, rowsOf_cons, backK, boxRR, namesR, nodesR, zeroN, nodeN, namesRow, nodeO, kidsRow]) (by simp [upd, mkSt, usedOf_cons, backK, boxRR, namesR, nodesR, zeroN, nodeN, namesRow, nodeO, kidsRow]) (by first | exact rd_less (by omega) | simp [mkSt, backK, boxRR, namesR, nodesR, zeroN, nodeN, namesRow, nodeO, kidsRow]) (by simp [slots, in_any, in_int, in_bool, in_str, in_ptr, in_own, in_agg, in_vnil, in_rdr, usedOf_cons, usedOf_nil, strs_in, ints_in, nodes_in, in_tup, backK, boxRR, namesR, nodesR, zeroN, nodeN, namesRow, nodeO, kidsRow]) (by simp only [List.forall_mem_cons, List.not_mem_nil, false_implies, implies_true, and_true, true_and, backK, boxRR, namesR, nodesR, zeroN, nodeN, namesRow, nodeO, kidsRow]; (repeat (first | with_reducible exact trivial | with_reducible refine And.intro ?_ ?_ | with_reducible exact in_int | with_reducible exact in_str | with_reducible exact in_bool | with_reducible exact strs_in _ | with_reducible exact nodes_in _ | with_reducible exact items_in _ | with_reducible exact in_vnil | with_reducible exact in_any | exact hin _ | with_reducible refine take_in ?_ | with_reducible exact strsE_in _ | with_reducible exact nodesE_in _ | with_reducible exact nodeL_in _ | with_reducible exact itemsE_in _ | with_reducible exact itemL_in _ | with_reducible refine app_in ?_ ?_ | with_reducible refine sing_in ?_ | (focus (simp [in_any, in_int, in_bool, in_str, in_ptr, in_own, in_agg, in_vnil, in_rdr, usedOf_cons, usedOf_nil, strs_in, ints_in, nodes_in, backK, boxRR, namesR, nodesR, zeroN, nodeN, namesRow, nodeO, kidsRow]; done)))); done)) (Less.trans (Less.rename 102 100 (by simp [mkSt, usedOf_cons, usedOf_nil])) (Less.trans (Less.rename 103 101 (by simp [ASt.rename, mkSt, rowsOf_cons, usedOf_cons, usedOf_nil, upd])) ?_))
      simp only [ASt.rename, mkSt, rowsOf_cons, Nat.reduceEqDiff, if_true, if_false, reduceIte, upd, boxRR, namesR, nodesR, zeroN]
      exact (less_of (by simp [lessL, mkSt, slots, AV.subL, AV.sub, Row.sub, rowsOf_nil, strsE_sub, nodesE_sub, strsE_len, boxRR, namesR, nodesR, zeroN, nodeN, namesRow, nodeO, kidsRow]) (by simp [upd, mkSt, rowsOf_cons, AV.subL, AV.sub, Row.sub, rowsOf_nil, strsE_sub, nodesE_sub, strsE_len, boxRR, namesR, nodesR, zeroN, nodeN, namesRow, nodeO, kidsRow]) (by simp [upd, mkSt, usedOf_cons, AV.subL, AV.sub, Row.sub, rowsOf_nil, strsE_sub, nodesE_sub, strsE_len, boxRR, namesR, nodesR, zeroN, nodeN, namesRow, nodeO, kidsRow]) (by first | exact rd_less (by omega) | simp [mkSt, AV.subL, AV.sub, Row.sub, rowsOf_nil, strsE_sub, nodesE_sub, strsE_len, boxRR, namesR, nodesR, zeroN, nodeN, namesRow, nodeO, kidsRow]) (by simp [slots, in_any, in_int, in_bool, in_str, in_ptr, in_own, in_agg, in_vnil, in_rdr, usedOf_cons, usedOf_nil, strs_in, ints_in, nodes_in, in_tup, AV.subL, AV.sub, Row.sub, rowsOf_nil, strsE_sub, nodesE_sub, strsE_len, boxRR, namesR, nodesR, zeroN, nodeN, namesRow, nodeO, kidsRow]) (by simp only [List.forall_mem_cons, List.not_mem_nil, false_implies, implies_true, and_true, true_and, AV.subL, AV.sub, Row.sub, rowsOf_nil, strsE_sub, nodesE_sub, strsE_len, boxRR, namesR, nodesR, zeroN, nodeN, namesRow, nodeO, kidsRow]; (repeat (first | with_reducible exact trivial | with_reducible refine And.intro ?_ ?_ | with_reducible exact in_int | with_reducible exact in_str | with_reducible exact in_bool | with_reducible exact strs_in _ | with_reducible exact nodes_in _ | with_reducible exact items_in _ | with_reducible exact in_vnil | with_reducible exact in_any | exact hin _ | with_reducible refine take_in ?_ | with_reducible exact strsE_in _ | with_reducible exact nodesE_in _ | with_reducible exact nodeL_in _ | with_reducible exact itemsE_in _ | with_reducible exact itemL_in _ | with_reducible refine app_in ?_ ?_ | with_reducible refine sing_in ?_ | (focus (simp [in_any, in_int, in_bool, in_str, in_ptr, in_own, in_agg, in_vnil, in_rdr, usedOf_cons, usedOf_nil, strs_in, ints_in, nodes_in, AV.subL, AV.sub, Row.sub, rowsOf_nil, strsE_sub, nodesE_sub, strsE_len, boxRR, namesR, nodesR, zeroN, nodeN, namesRow, nodeO, kidsRow]; done)))); done))
theorem mergeValid_AC : ∀ p, Shp p → ∀ n, Shp n → AC Try.prog 55 [nodeA n, nodeA p] 0 (fun r => r = nodeA (mrg p n)) := Nd.ind' _ (fun p ih hp n hn =>
  mergeValid_step p n hp hn (fun k hk m hm => ih k hk (hp.kid hk) m hm))
end Go.Proofs.Ytiobnaielfeeaaa.Eng
namespace Go.Proofs.Ytiobnaielfeeaaa.Eng
open Go Go.RowKit
end Go.Proofs.Ytiobnaielfeeaaa.Eng
-- EV: rows
namespace Go.Proofs.Ytiobnaielfeeaaa.Eng
open Go Go.RowKit
attribute [local simp] big size_mk ASt.pay Option.map_map Function.comp_def awant aop acall ado aev ofVal ofVal0 ASt.put ASt.add ASt.turn ASt.kill abox aalloc astore aload ASt.at cellsTo afieldAddr afield aindexAddr aindex alen abin aint acmp astr aun apick aextract anil aslice abound abuild afill abuildSlice asCells aps avCells over upd aappend asrc amax amin aconv mkSt slots rowsOf_cons rowsOf_nil usedOf_cons usedOf_nil ZK.av List.replicate ASt.back ASt.addL ASt.killL nodeA nodeT nodeTL_eq nodeL_eq strsE_get strsE_len intsE_get intsE_len strsE_at intsE_at nodeN namesRow nodeO kidsRow tab2 tab3 tab4 tab5 tab6 tab7 tab8 tab9 tab10 tab11 tab12 tab13 tab14 tab15 tab16 tab17 tab18 tab19 tab21 tab22 tab23 tab24 tab25 tab26 tab27 tab28 tab29 tab30 tab48 tab51 tab52 tab59 tab77 tab78 tab79 tab91 tab95 tab96 tab97 tab109 tab116 tab132 tab133 tab138 tab139 tab144 tab145 tab146 tab148 tab149 tab150
theorem optA_in (o : Option Nd) : NoId (optA o) := by
  unfold optA NoId
  have h := node_in (U := fun _ => false) (o.getD Nd.zero)
  unfold nodeA at h
  rw [nodeL_eq] at h
  simp [in_tup, in_bool]
  exact h
def optL (o : Option Nd) : AV := .tup [.agg [.int .i64 (o.getD Nd.zero).kind, .int .i64 (o.getD Nd.zero).num, .str (o.getD Nd.zero).text, .view .loose 1 (strsE (o.getD Nd.zero).names), .view .loose 5 ((o.getD Nd.zero).kids.map nodeL)], .bool o.isSome]
theorem optA_eq (o : Option Nd) : optA o = optL o := by unfold optA optL nodeA; rw [nodeL_eq]
theorem optL_in (o : Option Nd) : NoId (optL o) := by rw [← optA_eq]; exact optA_in o
theorem optA_pur (o : Option Nd) : Pur (optA o) := tup2_pur (node_pur _) pur_bool
end Go.Proofs.Ytiobnaielfeeaaa.Eng
-- EV: rows
namespace Go.Proofs.Ytiobnaielfeeaaa.Eng
open Go Go.RowKit
attribute [local simp] big size_mk ASt.pay Option.map_map Function.comp_def awant aop acall ado aev ofVal ofVal0 ASt.put ASt.add ASt.turn ASt.kill abox aalloc astore aload ASt.at cellsTo afieldAddr afield aindexAddr aindex alen abin aint acmp astr aun apick aextract anil aslice abound abuild afill abuildSlice asCells aps avCells over upd aappend asrc amax amin aconv mkSt slots rowsOf_cons rowsOf_nil usedOf_cons usedOf_nil ZK.av List.replicate ASt.back ASt.addL ASt.killL nodeA nodeT nodeTL_eq nodeL_eq strsE_get strsE_len intsE_get intsE_len strsE_at intsE_at nodeN namesRow nodeO kidsRow tab2 tab3 tab4 tab5 tab6 tab7 tab8 tab9 tab10 tab11 tab12 tab13 tab14 tab15 tab16 tab17 tab18 tab19 tab21 tab22 tab23 tab24 tab25 tab26 tab27 tab28 tab29 tab30 tab48 tab51 tab52 tab59 tab77 tab78 tab79 tab91 tab95 tab96 tab97 tab109 tab116 tab132 tab133 tab138 tab139 tab144 tab145 tab146 tab148 tab149 tab150
end Go.Proofs.Ytiobnaielfeeaaa.Eng
-- EV: rows skip
namespace Go.Proofs.Ytiobnaielfeeaaa.Eng
open Go Go.RowKit
attribute [local simp] big size_mk ASt.pay Option.map_map Function.comp_def awant aop acall ado aev ofVal ofVal0 ASt.put ASt.add ASt.turn ASt.kill abox aalloc astore aload ASt.at cellsTo afieldAddr afield aindexAddr aindex alen abin aint acmp astr aun apick aextract anil aslice abound abuild afill abuildSlice asCells aps avCells over upd aappend asrc amax amin aconv mkSt slots rowsOf_cons rowsOf_nil usedOf_cons usedOf_nil ZK.av List.replicate ASt.back ASt.addL ASt.killL nodeA nodeT nodeTL_eq nodeL_eq strsE_get strsE_len intsE_get intsE_len strsE_at intsE_at nodeN namesRow nodeO kidsRow tab2 tab3 tab4 tab5 tab6 tab7 tab8 tab9 tab10 tab11 tab12 tab13 tab14 tab15 tab16 tab17 tab18 tab19 tab21 tab22 tab23 tab24 tab25 tab26 tab27 tab28 tab29 tab30 tab48 tab51 tab52 tab59 tab77 tab78 tab79 tab91 tab95 tab96 tab97 tab109 tab116 tab132 tab133 tab138 tab139 tab144 tab145 tab146 tab148 tab149 tab150
end Go.Proofs.Ytiobnaielfeeaaa.Eng
-- EV: rows
namespace Go.Proofs.Ytiobnaielfeeaaa.Eng
open Go Go.RowKit
attribute [local simp] big size_mk ASt.pay Option.map_map Function.comp_def awant aop acall ado aev ofVal ofVal0 ASt.put ASt.add ASt.turn ASt.kill abox aalloc astore aload ASt.at cellsTo afieldAddr afield aindexAddr aindex alen abin aint acmp astr aun apick aextract anil aslice abound abuild afill abuildSlice asCells aps avCells over upd aappend asrc amax amin aconv mkSt slots rowsOf_cons rowsOf_nil usedOf_cons usedOf_nil ZK.av List.replicate ASt.back ASt.addL ASt.killL nodeA nodeT nodeTL_eq nodeL_eq strsE_get strsE_len intsE_get intsE_len strsE_at intsE_at nodeN namesRow nodeO kidsRow tab2 tab3 tab4 tab5 tab6 tab7 tab8 tab9 tab10 tab11 tab12 tab13 tab14 tab15 tab16 tab17 tab18 tab19 tab21 tab22 tab23 tab24 tab25 tab26 tab27 tab28 tab29 tab30 tab48 tab51 tab52 tab59 tab77 tab78 tab79 tab91 tab95 tab96 tab97 tab109 tab116 tab132 tab133 tab138 tab139 tab144 tab145 tab146 tab148 tab149 tab150
theorem opt_some (m : Nd) : optL (some m) = .tup [.agg [.int .i64 m.kind, .int .i64 m.num, .str m.text, .view .loose 1 (strsE m.names), .view .loose 5 (m.kids.map nodeL)], .bool true] := rfl
end Go.Proofs.Ytiobnaielfeeaaa.Eng
-- EV: rows skip
namespace Go.Proofs.Ytiobnaielfeeaaa.Eng
open Go Go.RowKit
attribute [local simp] big size_mk ASt.pay Option.map_map Function.comp_def awant aop acall ado aev ofVal ofVal0 ASt.put ASt.add ASt.turn ASt.kill abox aalloc astore aload ASt.at cellsTo afieldAddr afield aindexAddr aindex alen abin aint acmp astr aun apick aextract anil aslice abound abuild afill abuildSlice asCells aps avCells over upd aappend asrc amax amin aconv mkSt slots rowsOf_cons rowsOf_nil usedOf_cons usedOf_nil ZK.av List.replicate ASt.back ASt.addL ASt.killL nodeA nodeT nodeTL_eq nodeL_eq strsE_get strsE_len intsE_get intsE_len strsE_at intsE_at nodeN namesRow nodeO kidsRow tab2 tab3 tab4 tab5 tab6 tab7 tab8 tab9 tab10 tab11 tab12 tab13 tab14 tab15 tab16 tab17 tab18 tab19 tab21 tab22 tab23 tab24 tab25 tab26 tab27 tab28 tab29 tab30 tab48 tab51 tab52 tab59 tab77 tab78 tab79 tab91 tab95 tab96 tab97 tab109 tab116 tab132 tab133 tab138 tab139 tab144 tab145 tab146 tab148 tab149 tab150
theorem optL_noid (m : Nd) : NoId (.tup [.agg [.int .i64 m.kind, .int .i64 m.num, .str m.text, .view .loose 1 (strsE m.names), .view .loose 5 (m.kids.map nodeL)], .bool true]) := optL_in (some m)
end Go.Proofs.Ytiobnaielfeeaaa.Eng
namespace Go.Proofs.Ytiobnaielfeeaaa.Eng
open Go Go.RowKit
attribute [local simp] big size_mk ASt.pay Option.map_map Function.comp_def awant aop acall ado aev ofVal ofVal0 ASt.put ASt.add ASt.turn ASt.kill abox aalloc astore aload ASt.at cellsTo afieldAddr afield aindexAddr aindex alen abin aint acmp astr aun apick aextract anil aslice abound abuild afill abuildSlice asCells aps avCells over upd aappend asrc amax amin aconv mkSt slots rowsOf_cons rowsOf_nil usedOf_cons usedOf_nil ZK.av List.replicate ASt.back ASt.addL ASt.killL nodeA nodeT nodeTL_eq nodeL_eq strsE_get strsE_len intsE_get intsE_len strsE_at intsE_at tab2 tab3 tab4 tab5 tab6 tab7 tab8 tab9 tab10 tab11 tab12 tab13 tab14 tab15 tab16 tab17 tab18 tab19 tab21 tab22 tab23 tab24 tab25 tab26 tab27 tab28 tab29 tab30 tab48 tab51 tab52 tab59 tab77 tab78 tab79 tab91 tab95 tab96 tab97 tab109 tab116 tab132 tab133 tab138 tab139 tab144 tab145 tab146 tab148 tab149 tab150
theorem eqT_dec : ∀ xs ys : List ByteArray, eqT xs ys = decide (xs = ys)
  | [], [] => by simp [eqT]
  | [], _ :: _ => by simp [eqT]
  | _ :: _, [] => by simp [eqT]
  | x :: xs, y :: ys => by
    rw [eqT, eqT_dec xs ys]
    cases h : eqs x y
    · have : x ≠ y := eqs_false.1 h
      simp [this]
    · have : x = y := eqs_iff.1 h
      simp [this]
theorem eqs_dec (x y : ByteArray) : eqs x y = decide (x = y) := by
  cases h : eqs x y
  · have : x ≠ y := eqs_false.1 h
    simp [this]
  · have : x = y := eqs_iff.1 h
    simp [this]
theorem eqN_T (a b : Nd) : eqN a b = ((a.kind == b.kind) && (a.num == b.num) && eqs a.text b.text && eqT a.names b.names && eqL a.kids b.kids) := by
  rw [eqN_eq, eqT_dec, eqs_dec]
  congr 4
theorem equalNodesG_step (t t' : VC) (ks js : List Nd) (hn : ks.length ≤ 1000000) (ih : ∀ k ∈ ks, ∀ j, AC Try.prog 24 [nodeA k, nodeA j] 0 (fun r => r = .bool (eqN k j))) : AC Try.prog 50 [.view t 5 (ks.map nodeL), .view t' 5 (js.map nodeL)] 0 (fun r => r = .bool (eqL ks js)) := by
  refine AC.of tab_ok mixed_ok Try.func50 (by rfl) (by kernel_rfl) ?_; rintro ⟨P, T, hT, hm, w0, S0, rd0, k0⟩ hP hTT; dsimp only at hP hTT; subst hP hTT; unfold initSt; rw [Try.ntmps50]
  by_cases hlen : ks.length = js.length
  · have hlen' : ((ks.length : Int) != (js.length : Int)) = false := by rw [hlen]; simp
    (repeat (first | with_reducible refine AW.seq ?_ | ((first | refine arun_kn 4 rfl (fun C hC => ?_) | refine arunD_kn 4 rfl (fun C hC => ?_)); (repeat ((conv => whnf); simp [List.length_map, hlen'])); refine hC _ ?_; clear hC C; simp only [List.drop, Nat.reduceAdd]) | ((first | refine arun_kn 1 rfl (fun C hC => ?_) | refine arunD_kn 1 rfl (fun C hC => ?_)); (repeat ((conv => whnf); simp [List.length_map, hlen'])); refine hC _ ?_; clear hC C; simp only [List.drop, Nat.reduceAdd]) | (refine arun_skip ?_ ?_; (focus (simp [awant, List.length_map, hlen']; done))) | (refine AW.regionK [] (fun K hK => ?_)) | (refine AW.regionDK [] (pcs [] []) (by kernel_rfl) (by kernel_rfl) (fun K hK => ?_)) | (refine AW.condT ?_ ?_; (focus (simp [aev, List.length_map, hlen']; done))) | (refine AW.condF ?_ ?_; (focus (simp [aev, List.length_map, hlen']; done))) | with_reducible refine AW.block ?_ | ((first | ((first | refine arun_nil ?_ | refine arunD_nil ?_); refine hK _ ?_; clear hK K) | refine AW.skip ?_ | refine AW.exit ?_ | refine AW.ret ?_); simp only [thenA_exit, inBlockA_exit, if_true, if_false, Nat.reduceEqDiff, thenA_normal, inBlockA_normal, reduceIte, thenA_ret, inBlockA_ret, endQ_ret, endR_ret, endG_ret, endQ_normal, endR_normal, endG_normal])))
    refine AW.loopS (fun (i : Nat) => mkSt (slots 0 27 [(0, .view t 5 (ks.map nodeL)), (1, .view t' 5 (js.map nodeL)), (5, .int .i64 i)]) [] [] (rd0.map fun _ => 0)) (fun i => ks.length - i) (fun i => i ≤ ks.length ∧ eqL ks js = eqL (ks.drop i) (js.drop i)) 0 ?_ ⟨Nat.zero_le _, rfl⟩ ?_
    · exact less_a
    · rintro i ⟨hi, hf⟩
      by_cases hlt : i < ks.length
      · have hlt2 : i < js.length := by omega
        have hw : IntKind.i64.wrap ((i : Int) + 1) = (i : Int) + 1 := i64_nat (by omega) (by omega)
        have hik := ih ks[i] (List.getElem_mem hlt) js[i]
        rw [List.drop_eq_getElem_cons hlt, List.drop_eq_getElem_cons hlt2, eqL] at hf
        cases hb : eqN ks[i] js[i]
        · rw [hb] at hf hik
          (repeat (first | with_reducible refine AW.seq ?_ | ((first | refine arun_kn 4 rfl (fun C hC => ?_) | refine arunD_kn 4 rfl (fun C hC => ?_)); (repeat ((conv => whnf); simp [hlt, hlt2, hw, List.length_map])); refine hC _ ?_; clear hC C; simp only [List.drop, Nat.reduceAdd]) | ((first | refine arun_kn 1 rfl (fun C hC => ?_) | refine arunD_kn 1 rfl (fun C hC => ?_)); (repeat ((conv => whnf); simp [hlt, hlt2, hw, List.length_map])); refine hC _ ?_; clear hC C; simp only [List.drop, Nat.reduceAdd]) | (refine arun_skip ?_ ?_; (focus (simp [awant, hlt, hlt2, hw, List.length_map]; done))) | (refine arun_c0 (hik) ?_; rintro _ rfl) | (refine arunD_c (0) (hik) ?_; rintro _ rfl; intro _) | (refine AW.regionK [] (fun K hK => ?_)) | (refine AW.regionDK [] (pcs [(8, 0, fun r => r = .bool false)] []) (by kernel_rfl) (by kernel_rfl) (fun K hK => ?_)) | (refine AW.condT ?_ ?_; (focus (simp [aev, hlt, hlt2, hw, List.length_map]; done))) | (refine AW.condF ?_ ?_; (focus (simp [aev, hlt, hlt2, hw, List.length_map]; done))) | with_reducible refine AW.block ?_ | ((first | ((first | refine arun_nil ?_ | refine arunD_nil ?_); refine hK _ ?_; clear hK K) | refine AW.skip ?_ | refine AW.exit ?_ | refine AW.ret ?_); simp only [thenA_exit, inBlockA_exit, if_true, if_false, Nat.reduceEqDiff, thenA_normal, inBlockA_normal, reduceIte, thenA_ret, inBlockA_ret, endQ_ret, endR_ret, endG_ret, endQ_normal, endR_normal, endG_normal])))
          exact ⟨.bool false, by simp [ares, aresL], pur_bool, by rw [hf]; rfl⟩
        · rw [hb] at hf hik
          (repeat (first | with_reducible refine AW.seq ?_ | ((first | refine arun_kn 4 rfl (fun C hC => ?_) | refine arunD_kn 4 rfl (fun C hC => ?_)); (repeat ((conv => whnf); simp [hlt, hlt2, hw, List.length_map])); refine hC _ ?_; clear hC C; simp only [List.drop, Nat.reduceAdd]) | ((first | refine arun_kn 1 rfl (fun C hC => ?_) | refine arunD_kn 1 rfl (fun C hC => ?_)); (repeat ((conv => whnf); simp [hlt, hlt2, hw, List.length_map])); refine hC _ ?_; clear hC C; simp only [List.drop, Nat.reduceAdd]) | (refine arun_skip ?_ ?_; (focus (simp [awant, hlt, hlt2, hw, List.length_map]; done))) | (refine arun_c0 (hik) ?_; rintro _ rfl) | (refine arunD_c (0) (hik) ?_; rintro _ rfl; intro _) | (refine AW.regionK [] (fun K hK => ?_)) | (refine AW.regionDK [] (pcs [(8, 0, fun r => r = .bool true)] []) (by kernel_rfl) (by kernel_rfl) (fun K hK => ?_)) | (refine AW.condT ?_ ?_; (focus (simp [aev, hlt, hlt2, hw, List.length_map]; done))) | (refine AW.condF ?_ ?_; (focus (simp [aev, hlt, hlt2, hw, List.length_map]; done))) | with_reducible refine AW.block ?_ | ((first | ((first | refine arun_nil ?_ | refine arunD_nil ?_); refine hK _ ?_; clear hK K) | refine AW.skip ?_ | refine AW.exit ?_ | refine AW.ret ?_); simp only [thenA_exit, inBlockA_exit, if_true, if_false, Nat.reduceEqDiff, thenA_normal, inBlockA_normal, reduceIte, thenA_ret, inBlockA_ret, endQ_ret, endR_ret, endG_ret, endQ_normal, endR_normal, endG_normal])))
          exact ⟨i + 1, by omega, ⟨by omega, by rw [hf]; simp⟩, less_a⟩
      · rw [List.drop_eq_nil_of_le (by omega), List.drop_eq_nil_of_le (by omega)] at hf
        (repeat (first | with_reducible refine AW.seq ?_ | ((first | refine arun_kn 4 rfl (fun C hC => ?_) | refine arunD_kn 4 rfl (fun C hC => ?_)); (repeat ((conv => whnf); simp [hlt, List.length_map])); refine hC _ ?_; clear hC C; simp only [List.drop, Nat.reduceAdd]) | ((first | refine arun_kn 1 rfl (fun C hC => ?_) | refine arunD_kn 1 rfl (fun C hC => ?_)); (repeat ((conv => whnf); simp [hlt, List.length_map])); refine hC _ ?_; clear hC C; simp only [List.drop, Nat.reduceAdd]) | (refine arun_skip ?_ ?_; (focus (simp [awant, hlt, List.length_map]; done))) | (refine AW.regionK [] (fun K hK => ?_)) | (refine AW.regionDK [] (pcs [] []) (by kernel_rfl) (by kernel_rfl) (fun K hK => ?_)) | (refine AW.condT ?_ ?_; (focus (simp [aev, hlt, List.length_map]; done))) | (refine AW.condF ?_ ?_; (focus (simp [aev, hlt, List.length_map]; done))) | with_reducible refine AW.block ?_ | ((first | ((first | refine arun_nil ?_ | refine arunD_nil ?_); refine hK _ ?_; clear hK K) | refine AW.skip ?_ | refine AW.exit ?_ | refine AW.ret ?_); simp only [thenA_exit, inBlockA_exit, if_true, if_false, Nat.reduceEqDiff, thenA_normal, inBlockA_normal, reduceIte, thenA_ret, inBlockA_ret, endQ_ret, endR_ret, endG_ret, endQ_normal, endR_normal, endG_normal])))
        exact ⟨.bool true, by simp [ares, aresL], pur_bool, by rw [hf]; rfl⟩
  · have hlen' : ((ks.length : Int) != (js.length : Int)) = true := by simp; omega
    (repeat (first | with_reducible refine AW.seq ?_ | ((first | refine arun_kn 4 rfl (fun C hC => ?_) | refine arunD_kn 4 rfl (fun C hC => ?_)); (repeat ((conv => whnf); simp [List.length_map, hlen'])); refine hC _ ?_; clear hC C; simp only [List.drop, Nat.reduceAdd]) | ((first | refine arun_kn 1 rfl (fun C hC => ?_) | refine arunD_kn 1 rfl (fun C hC => ?_)); (repeat ((conv => whnf); simp [List.length_map, hlen'])); refine hC _ ?_; clear hC C; simp only [List.drop, Nat.reduceAdd]) | (refine arun_skip ?_ ?_; (focus (simp [awant, List.length_map, hlen']; done))) | (refine AW.regionK [] (fun K hK => ?_)) | (refine AW.regionDK [] (pcs [] []) (by kernel_rfl) (by kernel_rfl) (fun K hK => ?_)) | (refine AW.condT ?_ ?_; (focus (simp [aev, List.length_map, hlen']; done))) | (refine AW.condF ?_ ?_; (focus (simp [aev, List.length_map, hlen']; done))) | with_reducible refine AW.block ?_ | ((first | ((first | refine arun_nil ?_ | refine arunD_nil ?_); refine hK _ ?_; clear hK K) | refine AW.skip ?_ | refine AW.exit ?_ | refine AW.ret ?_); simp only [thenA_exit, inBlockA_exit, if_true, if_false, Nat.reduceEqDiff, thenA_normal, inBlockA_normal, reduceIte, thenA_ret, inBlockA_ret, endQ_ret, endR_ret, endG_ret, endQ_normal, endR_normal, endG_normal])))
    exact ⟨.bool false, by simp [ares, aresL], pur_bool, by rw [eqL_len hlen]⟩
theorem equalNodeG_step (n m : Nd) (hs : Sml n) (t t' : VC) (ih : ∀ k ∈ n.kids, ∀ j, AC Try.prog 24 [nodeA k, nodeA j] 0 (fun r => r = .bool (eqN k j))) : AC Try.prog 24 [nodeT t n, nodeT t' m] 0 (fun r => r = .bool (eqN n m)) := by
  have hs1 := hs.names
  have hs2 := hs.kids
  have p1 := equalTexts_AC t t' n.names m.names (by omega)
  have p2 := equalNodesG_step .loose .loose n.kids m.kids (by omega) ih
  rw [eqN_T]
  refine AC.of tab_ok mixed_ok Try.func24 (by rfl) (by kernel_rfl) ?_; rintro ⟨P, T, hT, hm, w0, S0, rd0, k0⟩ hP hTT; dsimp only at hP hTT; subst hP hTT; unfold initSt; rw [Try.ntmps24]
  unfold nodeT
  rw [nodeTL_eq, nodeTL_eq]
  cases e1 : (n.kind == m.kind)
  · (repeat (first | with_reducible refine AW.seq ?_ | ((first | refine arun_kn 4 rfl (fun C hC => ?_) | refine arunD_kn 4 rfl (fun C hC => ?_)); (repeat ((conv => whnf); simp [e1, nodeTL_eq])); refine hC _ ?_; clear hC C; simp only [List.drop, Nat.reduceAdd]) | ((first | refine arun_kn 1 rfl (fun C hC => ?_) | refine arunD_kn 1 rfl (fun C hC => ?_)); (repeat ((conv => whnf); simp [e1, nodeTL_eq])); refine hC _ ?_; clear hC C; simp only [List.drop, Nat.reduceAdd]) | (refine arun_skip ?_ ?_; (focus (simp [awant, e1, nodeTL_eq]; done))) | (refine AW.regionK [] (fun K hK => ?_)) | (refine AW.regionDK [] (pcs [] []) (by kernel_rfl) (by kernel_rfl) (fun K hK => ?_)) | (refine AW.condT ?_ ?_; (focus (simp [aev, e1, nodeTL_eq]; done))) | (refine AW.condF ?_ ?_; (focus (simp [aev, e1, nodeTL_eq]; done))) | with_reducible refine AW.block ?_ | ((first | ((first | refine arun_nil ?_ | refine arunD_nil ?_); refine hK _ ?_; clear hK K) | refine AW.skip ?_ | refine AW.exit ?_ | refine AW.ret ?_); simp only [thenA_exit, inBlockA_exit, if_true, if_false, Nat.reduceEqDiff, thenA_normal, inBlockA_normal, reduceIte, thenA_ret, inBlockA_ret, endQ_ret, endR_ret, endG_ret, endQ_normal, endR_normal, endG_normal])))
    exact ⟨.bool false, by simp [ares, aresL], pur_bool, rfl⟩
  cases e2 : (n.num == m.num)
  · (repeat (first | with_reducible refine AW.seq ?_ | ((first | refine arun_kn 4 rfl (fun C hC => ?_) | refine arunD_kn 4 rfl (fun C hC => ?_)); (repeat ((conv => whnf); simp [e1, e2, nodeTL_eq])); refine hC _ ?_; clear hC C; simp only [List.drop, Nat.reduceAdd]) | ((first | refine arun_kn 1 rfl (fun C hC => ?_) | refine arunD_kn 1 rfl (fun C hC => ?_)); (repeat ((conv => whnf); simp [e1, e2, nodeTL_eq])); refine hC _ ?_; clear hC C; simp only [List.drop, Nat.reduceAdd]) | (refine arun_skip ?_ ?_; (focus (simp [awant, e1, e2, nodeTL_eq]; done))) | (refine AW.regionK [] (fun K hK => ?_)) | (refine AW.regionDK [] (pcs [] []) (by kernel_rfl) (by kernel_rfl) (fun K hK => ?_)) | (refine AW.condT ?_ ?_; (focus (simp [aev, e1, e2, nodeTL_eq]; done))) | (refine AW.condF ?_ ?_; (focus (simp [aev, e1, e2, nodeTL_eq]; done))) | with_reducible refine AW.block ?_ | ((first | ((first | refine arun_nil ?_ | refine arunD_nil ?_); refine hK _ ?_; clear hK K) | refine AW.skip ?_ | refine AW.exit ?_ | refine AW.ret ?_); simp only [thenA_exit, inBlockA_exit, if_true, if_false, Nat.reduceEqDiff, thenA_normal, inBlockA_normal, reduceIte, thenA_ret, inBlockA_ret, endQ_ret, endR_ret, endG_ret, endQ_normal, endR_normal, endG_normal])))
    exact ⟨.bool false, by simp [ares, aresL], pur_bool, rfl⟩
  cases e3 : eqs n.text m.text
  · (repeat (first | with_reducible refine AW.seq ?_ | ((first | refine arun_kn 4 rfl (fun C hC => ?_) | refine arunD_kn 4 rfl (fun C hC => ?_)); (repeat ((conv => whnf); simp [e1, e2, e3, nodeTL_eq])); refine hC _ ?_; clear hC C; simp only [List.drop, Nat.reduceAdd]) | ((first | refine arun_kn 1 rfl (fun C hC => ?_) | refine arunD_kn 1 rfl (fun C hC => ?_)); (repeat ((conv => whnf); simp [e1, e2, e3, nodeTL_eq])); refine hC _ ?_; clear hC C; simp only [List.drop, Nat.reduceAdd]) | (refine arun_skip ?_ ?_; (focus (simp [awant, e1, e2, e3, nodeTL_eq]; done))) | (refine AW.regionK [] (fun K hK => ?_)) | (refine AW.regionDK [] (pcs [] []) (by kernel_rfl) (by kernel_rfl) (fun K hK => ?_)) | (refine AW.condT ?_ ?_; (focus (simp [aev, e1, e2, e3, nodeTL_eq]; done))) | (refine AW.condF ?_ ?_; (focus (simp [aev, e1, e2, e3, nodeTL_eq]; done))) | with_reducible refine AW.block ?_ | ((first | ((first | refine arun_nil ?_ | refine arunD_nil ?_); refine hK _ ?_; clear hK K) | refine AW.skip ?_ | refine AW.exit ?_ | refine AW.ret ?_); simp only [thenA_exit, inBlockA_exit, if_true, if_false, Nat.reduceEqDiff, thenA_normal, inBlockA_normal, reduceIte, thenA_ret, inBlockA_ret, endQ_ret, endR_ret, endG_ret, endQ_normal, endR_normal, endG_normal])))
    exact ⟨.bool false, by simp [ares, aresL], pur_bool, rfl⟩
  cases e4 : eqT n.names m.names <;> rw [e4] at p1
  · (repeat (first | with_reducible refine AW.seq ?_ | ((first | refine arun_kn 4 rfl (fun C hC => ?_) | refine arunD_kn 4 rfl (fun C hC => ?_)); (repeat ((conv => whnf); simp [e1, e2, e3, nodeTL_eq])); refine hC _ ?_; clear hC C; simp only [List.drop, Nat.reduceAdd]) | ((first | refine arun_kn 1 rfl (fun C hC => ?_) | refine arunD_kn 1 rfl (fun C hC => ?_)); (repeat ((conv => whnf); simp [e1, e2, e3, nodeTL_eq])); refine hC _ ?_; clear hC C; simp only [List.drop, Nat.reduceAdd]) | (refine arun_skip ?_ ?_; (focus (simp [awant, e1, e2, e3, nodeTL_eq]; done))) | (refine arun_c0 (p1) ?_; rintro _ rfl) | (refine AW.regionK [] (fun K hK => ?_)) | (refine AW.regionDK [] (pcs [] []) (by kernel_rfl) (by kernel_rfl) (fun K hK => ?_)) | (refine AW.condT ?_ ?_; (focus (simp [aev, e1, e2, e3, nodeTL_eq]; done))) | (refine AW.condF ?_ ?_; (focus (simp [aev, e1, e2, e3, nodeTL_eq]; done))) | with_reducible refine AW.block ?_ | ((first | ((first | refine arun_nil ?_ | refine arunD_nil ?_); refine hK _ ?_; clear hK K) | refine AW.skip ?_ | refine AW.exit ?_ | refine AW.ret ?_); simp only [thenA_exit, inBlockA_exit, if_true, if_false, Nat.reduceEqDiff, thenA_normal, inBlockA_normal, reduceIte, thenA_ret, inBlockA_ret, endQ_ret, endR_ret, endG_ret, endQ_normal, endR_normal, endG_normal])))
    exact ⟨.bool false, by simp [ares, aresL], pur_bool, rfl⟩
  cases e5 : eqL n.kids m.kids <;> rw [e5] at p2
  · (repeat (first | with_reducible refine AW.seq ?_ | ((first | refine arun_kn 4 rfl (fun C hC => ?_) | refine arunD_kn 4 rfl (fun C hC => ?_)); (repeat ((conv => whnf); simp [e1, e2, e3, nodeTL_eq])); refine hC _ ?_; clear hC C; simp only [List.drop, Nat.reduceAdd]) | ((first | refine arun_kn 1 rfl (fun C hC => ?_) | refine arunD_kn 1 rfl (fun C hC => ?_)); (repeat ((conv => whnf); simp [e1, e2, e3, nodeTL_eq])); refine hC _ ?_; clear hC C; simp only [List.drop, Nat.reduceAdd]) | (refine arun_skip ?_ ?_; (focus (simp [awant, e1, e2, e3, nodeTL_eq]; done))) | (refine arun_c0 (p1) ?_; rintro _ rfl) | (refine arun_c0 (p2) ?_; rintro _ rfl) | (refine AW.regionK [] (fun K hK => ?_)) | (refine AW.regionDK [] (pcs [] []) (by kernel_rfl) (by kernel_rfl) (fun K hK => ?_)) | (refine AW.condT ?_ ?_; (focus (simp [aev, e1, e2, e3, nodeTL_eq]; done))) | (refine AW.condF ?_ ?_; (focus (simp [aev, e1, e2, e3, nodeTL_eq]; done))) | with_reducible refine AW.block ?_ | ((first | ((first | refine arun_nil ?_ | refine arunD_nil ?_); refine hK _ ?_; clear hK K) | refine AW.skip ?_ | refine AW.exit ?_ | refine AW.ret ?_); simp only [thenA_exit, inBlockA_exit, if_true, if_false, Nat.reduceEqDiff, thenA_normal, inBlockA_normal, reduceIte, thenA_ret, inBlockA_ret, endQ_ret, endR_ret, endG_ret, endQ_normal, endR_normal, endG_normal])))
    exact ⟨.bool false, by simp [ares, aresL], pur_bool, rfl⟩
  · (repeat (first | with_reducible refine AW.seq ?_ | ((first | refine arun_kn 4 rfl (fun C hC => ?_) | refine arunD_kn 4 rfl (fun C hC => ?_)); (repeat ((conv => whnf); simp [e1, e2, e3, nodeTL_eq])); refine hC _ ?_; clear hC C; simp only [List.drop, Nat.reduceAdd]) | ((first | refine arun_kn 1 rfl (fun C hC => ?_) | refine arunD_kn 1 rfl (fun C hC => ?_)); (repeat ((conv => whnf); simp [e1, e2, e3, nodeTL_eq])); refine hC _ ?_; clear hC C; simp only [List.drop, Nat.reduceAdd]) | (refine arun_skip ?_ ?_; (focus (simp [awant, e1, e2, e3, nodeTL_eq]; done))) | (refine arun_c0 (p1) ?_; rintro _ rfl) | (refine arun_c0 (p2) ?_; rintro _ rfl) | (refine AW.regionK [] (fun K hK => ?_)) | (refine AW.regionDK [] (pcs [] []) (by kernel_rfl) (by kernel_rfl) (fun K hK => ?_)) | (refine AW.condT ?_ ?_; (focus (simp [aev, e1, e2, e3, nodeTL_eq]; done))) | (refine AW.condF ?_ ?_; (focus (simp [aev, e1, e2, e3, nodeTL_eq]; done))) | with_reducible refine AW.block ?_ | ((first | ((first | refine arun_nil ?_ | refine arunD_nil ?_); refine hK _ ?_; clear hK K) | refine AW.skip ?_ | refine AW.exit ?_ | refine AW.ret ?_); simp only [thenA_exit, inBlockA_exit, if_true, if_false, Nat.reduceEqDiff, thenA_normal, inBlockA_normal, reduceIte, thenA_ret, inBlockA_ret, endQ_ret, endR_ret, endG_ret, endQ_normal, endR_normal, endG_normal])))
    exact ⟨.bool true, by simp [ares, aresL], pur_bool, rfl⟩
theorem equalNodeG_AC : ∀ n, Sml n → ∀ m t t', AC Try.prog 24 [nodeT t n, nodeT t' m] 0 (fun r => r = .bool (eqN n m)) := Nd.ind' _ (fun n ih hs m t t' =>
  equalNodeG_step n m hs t t' (fun k hk j => by have := ih k hk (hs.kid hk) j .loose .loose; rwa [nodeT_loose, nodeT_loose] at this))
end Go.Proofs.Ytiobnaielfeeaaa.Eng
-- EV: rows skip
namespace Go.Proofs.Ytiobnaielfeeaaa.Eng
open Go Go.RowKit
attribute [local simp] big size_mk ASt.pay Option.map_map Function.comp_def awant aop acall ado aev ofVal ofVal0 ASt.put ASt.add ASt.turn ASt.kill abox aalloc astore aload ASt.at cellsTo afieldAddr afield aindexAddr aindex alen abin aint acmp astr aun apick aextract anil aslice abound abuild afill abuildSlice asCells aps avCells over upd aappend asrc amax amin aconv mkSt slots rowsOf_cons rowsOf_nil usedOf_cons usedOf_nil ZK.av List.replicate ASt.back ASt.addL ASt.killL nodeA nodeT nodeTL_eq nodeL_eq strsE_get strsE_len intsE_get intsE_len strsE_at intsE_at nodeN namesRow nodeO kidsRow tab2 tab3 tab4 tab5 tab6 tab7 tab8 tab9 tab10 tab11 tab12 tab13 tab14 tab15 tab16 tab17 tab18 tab19 tab21 tab22 tab23 tab24 tab25 tab26 tab27 tab28 tab29 tab30 tab48 tab51 tab52 tab59 tab77 tab78 tab79 tab91 tab95 tab96 tab97 tab109 tab116 tab132 tab133 tab138 tab139 tab144 tab145 tab146 tab148 tab149 tab150
def chkN (m : Nd) : Option Nd := if validB m then some m else none
def mgO (n p : Nd) : Option Nd := if validB n && validB p then chkN (mrg p n) else none
theorem checked_AC (m : Nd) : AC Try.prog 54 [nodeA m, .bool true] 0 (fun r => r = optA (chkN m)) := by
  refine AC.weak ?_
  have p1 := ValidNode_AC m .loose
  unfold nodeA
  rw [nodeL_eq]
  cases h1 : validB m
  · have e : chkN m = none := by unfold chkN; rw [h1]; rfl
    rw [h1] at p1
    refine AC.of tab_ok mixed_ok Try.func54 (by rfl) (by kernel_rfl) ?_; rintro ⟨P, T, hT, hm, w0, S0, rd0, k0⟩ hP hTT; dsimp only at hP hTT; subst hP hTT; unfold initSt; rw [Try.ntmps54]
    (repeat (first | with_reducible refine AW.seq ?_ | ((first | refine arun_kn 4 rfl (fun C hC => ?_) | refine arunD_kn 4 rfl (fun C hC => ?_)); (repeat ((conv => whnf); simp)); refine hC _ ?_; clear hC C; simp only [List.drop, Nat.reduceAdd]) | ((first | refine arun_kn 1 rfl (fun C hC => ?_) | refine arunD_kn 1 rfl (fun C hC => ?_)); (repeat ((conv => whnf); simp)); refine hC _ ?_; clear hC C; simp only [List.drop, Nat.reduceAdd]) | (refine arun_skip ?_ ?_; (focus (simp [awant]; done))) | (refine arun_c0 (p1) ?_; rintro _ rfl) | (refine arunD_skip ?_ ?_; (focus (simp [awant]; done))) | (refine AW.regionK [] (fun K hK => ?_)) | (refine AW.regionDK [] (pcs [] []) (by kernel_rfl) (by kernel_rfl) (fun K hK => ?_)) | (refine AW.condT ?_ ?_; (focus (simp [aev]; done))) | (refine AW.condF ?_ ?_; (focus (simp [aev]; done))) | with_reducible refine AW.block ?_ | ((first | ((first | refine arun_nil ?_ | refine arunD_nil ?_); refine hK _ ?_; clear hK K) | refine AW.skip ?_ | refine AW.exit ?_ | refine AW.ret ?_); simp only [thenA_exit, inBlockA_exit, if_true, if_false, Nat.reduceEqDiff, thenA_normal, inBlockA_normal, reduceIte, thenA_ret, inBlockA_ret, endQ_ret, endR_ret, endG_ret, endQ_normal, endR_normal, endG_normal])))
    exact ⟨.tup [node0 0 0 ⟨#[]⟩, .bool false], by simp [node0, ares, aresL, upd, rowsOf_cons], none_end.1, _, none_end.2, by rw [e]; rfl⟩
  · have e : chkN m = some m := by unfold chkN; rw [h1]; rfl
    rw [h1] at p1
    refine AC.of tab_ok mixed_ok Try.func54 (by rfl) (by kernel_rfl) ?_; rintro ⟨P, T, hT, hm, w0, S0, rd0, k0⟩ hP hTT; dsimp only at hP hTT; subst hP hTT; unfold initSt; rw [Try.ntmps54]
    (repeat (first | with_reducible refine AW.seq ?_ | ((first | refine arun_kn 4 rfl (fun C hC => ?_) | refine arunD_kn 4 rfl (fun C hC => ?_)); (repeat ((conv => whnf); simp)); refine hC _ ?_; clear hC C; simp only [List.drop, Nat.reduceAdd]) | ((first | refine arun_kn 1 rfl (fun C hC => ?_) | refine arunD_kn 1 rfl (fun C hC => ?_)); (repeat ((conv => whnf); simp)); refine hC _ ?_; clear hC C; simp only [List.drop, Nat.reduceAdd]) | (refine arun_skip ?_ ?_; (focus (simp [awant]; done))) | (refine arun_c0 (p1) ?_; rintro _ rfl) | (refine arunD_skip ?_ ?_; (focus (simp [awant]; done))) | (refine AW.regionK [] (fun K hK => ?_)) | (refine AW.regionDK [] (pcs [] []) (by kernel_rfl) (by kernel_rfl) (fun K hK => ?_)) | (refine AW.condT ?_ ?_; (focus (simp [aev]; done))) | (refine AW.condF ?_ ?_; (focus (simp [aev]; done))) | with_reducible refine AW.block ?_ | ((first | ((first | refine arun_nil ?_ | refine arunD_nil ?_); refine hK _ ?_; clear hK K) | refine AW.skip ?_ | refine AW.exit ?_ | refine AW.ret ?_); simp only [thenA_exit, inBlockA_exit, if_true, if_false, Nat.reduceEqDiff, thenA_normal, inBlockA_normal, reduceIte, thenA_ret, inBlockA_ret, endQ_ret, endR_ret, endG_ret, endQ_normal, endR_normal, endG_normal])))
    exact ⟨.tup [nodeA m, .bool true], by simp [ares, aresL, upd, rowsOf_cons], tup2_pur (node_pur m) pur_bool, _, Wk.refl _, by rw [e]; rfl⟩
theorem MergeNode_AC (n p : Nd) : AC Try.prog 28 [nodeA n, nodeA p] 0 (fun r => r = optA (mgO n p)) := by
  refine AC.weak ?_
  have p1 := ValidNode_AC n .loose
  have p2 := ValidNode_AC p .loose
  have hcn := node_clo n
  have hcp := node_clo p
  cases h1 : validB n
  · have e : mgO n p = none := by unfold mgO; rw [h1]; rfl
    rw [h1] at p1
    unfold nodeA
    rw [nodeL_eq n, nodeL_eq p]
    refine AC.of tab_ok mixed_ok Try.func28 (by rfl) (by kernel_rfl) ?_; rintro ⟨P, T, hT, hm, w0, S0, rd0, k0⟩ hP hTT; dsimp only at hP hTT; subst hP hTT; unfold initSt; rw [Try.ntmps28]
    (repeat (first | with_reducible refine AW.seq ?_ | ((first | refine arun_kn 4 rfl (fun C hC => ?_) | refine arunD_kn 4 rfl (fun C hC => ?_)); (repeat ((conv => whnf); simp)); refine hC _ ?_; clear hC C; simp only [List.drop, Nat.reduceAdd]) | ((first | refine arun_kn 1 rfl (fun C hC => ?_) | refine arunD_kn 1 rfl (fun C hC => ?_)); (repeat ((conv => whnf); simp)); refine hC _ ?_; clear hC C; simp only [List.drop, Nat.reduceAdd]) | (refine arun_skip ?_ ?_; (focus (simp [awant]; done))) | (refine arun_c0 (p1) ?_; rintro _ rfl) | (refine arunD_skip ?_ ?_; (focus (simp [awant]; done))) | (refine AW.regionK [] (fun K hK => ?_)) | (refine AW.regionDK [] (pcs [] []) (by kernel_rfl) (by kernel_rfl) (fun K hK => ?_)) | (refine AW.condT ?_ ?_; (focus (simp [aev]; done))) | (refine AW.condF ?_ ?_; (focus (simp [aev]; done))) | with_reducible refine AW.block ?_ | ((first | ((first | refine arun_nil ?_ | refine arunD_nil ?_); refine hK _ ?_; clear hK K) | refine AW.skip ?_ | refine AW.exit ?_ | refine AW.ret ?_); simp only [thenA_exit, inBlockA_exit, if_true, if_false, Nat.reduceEqDiff, thenA_normal, inBlockA_normal, reduceIte, thenA_ret, inBlockA_ret, endQ_ret, endR_ret, endG_ret, endQ_normal, endR_normal, endG_normal])))
    exact ⟨.tup [node0 0 0 ⟨#[]⟩, .bool false], by simp [node0, ares, aresL, upd, rowsOf_cons], none_end.1, _, none_end.2, by rw [e]; rfl⟩
  rw [h1] at p1
  cases h2 : validB p
  · have e : mgO n p = none := by unfold mgO; rw [h1, h2]; rfl
    rw [h2] at p2
    unfold nodeA
    rw [nodeL_eq n, nodeL_eq p]
    refine AC.of tab_ok mixed_ok Try.func28 (by rfl) (by kernel_rfl) ?_; rintro ⟨P, T, hT, hm, w0, S0, rd0, k0⟩ hP hTT; dsimp only at hP hTT; subst hP hTT; unfold initSt; rw [Try.ntmps28]
    (repeat (first | with_reducible refine AW.seq ?_ | ((first | refine arun_kn 4 rfl (fun C hC => ?_) | refine arunD_kn 4 rfl (fun C hC => ?_)); (repeat ((conv => whnf); simp)); refine hC _ ?_; clear hC C; simp only [List.drop, Nat.reduceAdd]) | ((first | refine arun_kn 1 rfl (fun C hC => ?_) | refine arunD_kn 1 rfl (fun C hC => ?_)); (repeat ((conv => whnf); simp)); refine hC _ ?_; clear hC C; simp only [List.drop, Nat.reduceAdd]) | (refine arun_skip ?_ ?_; (focus (simp [awant]; done))) | (refine arun_c0 (p1) ?_; rintro _ rfl) | (refine arun_c0 (p2) ?_; rintro _ rfl) | (refine arunD_skip ?_ ?_; (focus (simp [awant]; done))) | (refine AW.regionK [] (fun K hK => ?_)) | (refine AW.regionDK [] (pcs [] []) (by kernel_rfl) (by kernel_rfl) (fun K hK => ?_)) | (refine AW.condT ?_ ?_; (focus (simp [aev]; done))) | (refine AW.condF ?_ ?_; (focus (simp [aev]; done))) | with_reducible refine AW.block ?_ | ((first | ((first | refine arun_nil ?_ | refine arunD_nil ?_); refine hK _ ?_; clear hK K) | refine AW.skip ?_ | refine AW.exit ?_ | refine AW.ret ?_); simp only [thenA_exit, inBlockA_exit, if_true, if_false, Nat.reduceEqDiff, thenA_normal, inBlockA_normal, reduceIte, thenA_ret, inBlockA_ret, endQ_ret, endR_ret, endG_ret, endQ_normal, endR_normal, endG_normal])))
    exact ⟨.tup [node0 0 0 ⟨#[]⟩, .bool false], by simp [node0, ares, aresL, upd, rowsOf_cons], none_end.1, _, none_end.2, by rw [e]; rfl⟩
  · have e : mgO n p = chkN (mrg p n) := by unfold mgO; rw [h1, h2]; rfl
    rw [h2] at p2
    rw [e]
    have p3 := mergeValid_AC p (Shp.of h2) n (Shp.of h1)
    generalize mrg p n = m at *
    have p4 := checked_AC m
    rw [optA_eq] at p4
    have hcm := node_clo m
    unfold nodeA at p3 p4 hcn hcp hcm ⊢
    rw [nodeL_eq n, nodeL_eq p, nodeL_eq m] at p3
    rw [nodeL_eq m] at p4 hcm
    rw [nodeL_eq n] at hcn ⊢
    rw [nodeL_eq p] at hcp ⊢
    refine AC.of tab_ok mixed_ok Try.func28 (by rfl) (by kernel_rfl) ?_; rintro ⟨P, T, hT, hm, w0, S0, rd0, k0⟩ hP hTT; dsimp only at hP hTT; subst hP hTT; unfold initSt; rw [Try.ntmps28]
    (repeat (first | with_reducible refine AW.seq ?_ | ((first | refine arun_kn 4 rfl (fun C hC => ?_) | refine arunD_kn 4 rfl (fun C hC => ?_)); (repeat ((conv => whnf); simp [optL])); refine hC _ ?_; clear hC C; simp only [List.drop, Nat.reduceAdd]) | ((first | refine arun_kn 1 rfl (fun C hC => ?_) | refine arunD_kn 1 rfl (fun C hC => ?_)); (repeat ((conv => whnf); simp [optL])); refine hC _ ?_; clear hC C; simp only [List.drop, Nat.reduceAdd]) | (refine arun_skip ?_ ?_; (focus (simp [awant, optL]; done))) | (refine arun_c0 (p1) ?_; rintro _ rfl) | (refine arun_c0 (p2) ?_; rintro _ rfl) | (refine arun_c0 (p3) ?_; rintro _ rfl) | (refine arun_c0 (p4) ?_; rintro _ rfl) | (refine arunD_skip ?_ ?_; (focus (simp [awant, optL]; done))) | (refine AW.regionK [] (fun K hK => ?_)) | (refine AW.regionDK [] (pcs [] []) (by kernel_rfl) (by kernel_rfl) (fun K hK => ?_)) | (refine AW.condT ?_ ?_; (focus (simp [aev, optL]; done))) | (refine AW.condF ?_ ?_; (focus (simp [aev, optL]; done))) | with_reducible refine AW.block ?_ | ((first | ((first | refine arun_nil ?_ | refine arunD_nil ?_); refine hK _ ?_; clear hK K) | refine AW.skip ?_ | refine AW.exit ?_ | refine AW.ret ?_); simp only [thenA_exit, inBlockA_exit, if_true, if_false, Nat.reduceEqDiff, thenA_normal, inBlockA_normal, reduceIte, thenA_ret, inBlockA_ret, endQ_ret, endR_ret, endG_ret, endQ_normal, endR_normal, endG_normal])))
    exact ⟨optA (chkN m), by rw [optA_eq]; simp [optL, ares, aresL, upd, rowsOf_cons], optA_pur _, _, Wk.refl _, rfl⟩
end Go.Proofs.Ytiobnaielfeeaaa.Eng
namespace Go.Proofs.Ytiobnaielfeeaaa.Eng
open Go Go.RowKit
mutual
def plainB : Nd → Bool
  | ⟨kind, _, _, _, kids⟩ => if kind = 4 then plainL kids else true
def plainL : List Nd → Bool
  | [] => true
  | k :: ks => decide (k.kind ≠ 0) && plainB k && plainL ks
end
theorem plainB_eq (n : Nd) : plainB n = if n.kind = 4 then plainL n.kids else true := by cases n; rw [plainB]
theorem plainL_iff : ∀ l : List Nd, plainL l = true ↔ ∀ k ∈ l, k.kind ≠ 0 ∧ plainB k = true
  | [] => by rw [plainL]; simp
  | k :: ks => by
    rw [plainL, Bool.and_eq_true, Bool.and_eq_true, decide_eq_true_eq, plainL_iff ks]
    simp only [List.mem_cons, forall_eq_or_imp]
theorem plainL_drop {l : List Nd} {i : Nat} (h : i < l.length) : plainL (l.drop i) = (decide (l[i].kind ≠ 0) && plainB l[i] && plainL (l.drop (i + 1))) := by
  rw [List.drop_eq_getElem_cons h, plainL]
theorem putK_end {r v : Nd} {nm : ByteArray} (h : MapW r) (hlt : ∀ x ∈ r.names, lt x nm = true) : mem r.names nm = false ∧ putK r nm v = ⟨r.kind, r.num, r.text, r.names ++ [nm], r.kids ++ [v]⟩ := by
  have hm : mem r.names nm = false := mem_no (fun hx => by have := hlt _ hx; rw [lt_irr] at this; cases this)
  have hlb : lbound r.names nm = r.names.length := by unfold lbound; exact List.countP_eq_length.2 (fun x hx => hlt x hx)
  refine ⟨hm, ?_⟩
  rw [putK_no hm, hlb, List.take_length, List.drop_length, h.len, List.take_length, List.drop_length]
theorem countL_take {l : List Nd} {i : Nat} (h : i < l.length) : countL (l.take (i + 1)) = countL (l.take i) + l[i].count := by
  rw [List.take_add_one, List.getElem?_eq_getElem h, Option.toList_some, countL_snoc]
theorem namesFrom_of : ∀ (xs : List ByteArray) (p : Option ByteArray), (∀ x ∈ xs, plainT x = true) → xs.Pairwise (fun a b => lt a b = true) → (∀ y, p = some y → ∀ x ∈ xs, lt y x = true) → namesFrom p xs = true
  | [], p, _, _, _ => by simp [namesFrom]
  | x :: xs, p, h1, h2, h3 => by
    rw [List.pairwise_cons] at h2
    have ih := namesFrom_of xs (some x) (fun y hy => h1 y (by simp [hy])) h2.2 (fun y hy z hz => by cases hy; exact h2.1 z hz)
    have hx := h1 x (by simp)
    cases p with
    | none => simp [namesFrom, hx, ih]
    | some y => simp [namesFrom, hx, ih, h3 y rfl x (by simp)]
theorem namesFrom_plain : ∀ (xs : List ByteArray) (p : Option ByteArray), namesFrom p xs = true → ∀ x ∈ xs, plainT x = true
  | [], _, _ => by simp
  | x :: xs, p, h => by
    simp only [namesFrom, Bool.and_eq_true] at h
    intro y hy
    rcases List.mem_cons.1 hy with rfl | hy
    · exact h.1.1
    · exact namesFrom_plain xs _ h.2 y hy
structure Str (p : Nd) (i : Nat) (r : Nd) : Prop where
  w : MapW r
  sub : r.names.Sublist (p.names.take i)
  cnt : countL r.kids ≤ countL (p.kids.take i)
  kid : ∀ k ∈ r.kids, k.kind ≠ 0 ∧ plainB k = true ∧ ∀ d, (∀ k' ∈ p.kids, shapeB k' d = true) → shapeB k d = true
  same : (∀ k ∈ p.kids.take i, k.kind ≠ 0 ∧ plainB k = true) → r.names = p.names.take i ∧ r.kids = p.kids.take i
structure Strip (p q : Nd) : Prop where
  shape : ∀ d, shapeB p d = true → shapeB q d = true
  cnt : q.count ≤ p.count
  plain : plainB q = true
  same : plainB p = true → q = p
  kind : p.kind ≠ 0 → q.kind ≠ 0
theorem take_sub {α : Type} (l : List α) (i : Nat) : (l.take i).Sublist (l.take (i + 1)) := by
  have : l.take i = (l.take (i + 1)).take i := by rw [List.take_take, Nat.min_eq_left (by omega)]
  rw [this]; exact List.take_sublist _ _
theorem strip_of : ∀ p, Shp p → Strip p (mrg p Nd.zero) := Nd.ind' _ (fun p ih hp => by
  by_cases h4 : p.kind = 4
  rotate_left
  · rw [mrg_no h4]
    exact ⟨fun d h => h, Nat.le_refl _, by rw [plainB_eq, if_neg h4], fun _ => rfl, fun h => h⟩
  have hl := (hp.map h4).2
  have hasc := hp.asc h4
  have hb : baseM Nd.zero = ⟨4, 0, ⟨#[]⟩, [], []⟩ := rfl
  have key := mrg_loop (n := Nd.zero) hp h4 (Str p) ⟨base_w shp_zero, by rw [hb]; exact List.nil_sublist _, by rw [hb]; simp [countL], (fun k hk => by rw [hb] at hk; cases hk), fun _ => by rw [hb]; exact ⟨rfl, rfl⟩⟩ (fun i hi hk r h => by
    have hlt : ∀ x ∈ r.names, lt x p.names[i] = true := fun x hx => by
      obtain ⟨j, hj, he⟩ := List.getElem_of_mem (h.sub.subset hx)
      rw [List.length_take] at hj
      rw [List.getElem_take] at he
      rw [← he]; exact hasc j i (by omega) hi (by omega)
    have hm := (putK_end (v := Nd.zero) h.w hlt).1
    have hkt : p.kids.take (i + 1) = p.kids.take i ++ [p.kids[i]] := by rw [List.take_add_one, List.getElem?_eq_getElem hk]; rfl
    have hnt : p.names.take (i + 1) = p.names.take i ++ [p.names[i]] := by rw [List.take_add_one, List.getElem?_eq_getElem hi]; rfl
    unfold stepN
    split
    · rename_i h0
      rw [dropK_no hm]
      refine ⟨h.w, h.sub.trans (take_sub _ _), by rw [countL_take hk]; have := h.cnt; omega, h.kid, fun hall => ?_⟩
      exact absurd h0 (hall p.kids[i] (by rw [hkt]; exact List.mem_append.2 (.inr (List.mem_singleton.2 rfl)))).1
    · rename_i h0
      rw [kidOf_no hm]
      have hs := ih _ (List.getElem_mem hk) (hp.kid (List.getElem_mem hk))
      have hw := (putK_w h.w p.names[i] (mrg p.kids[i] Nd.zero)).1
      have he := (putK_end (v := mrg p.kids[i] Nd.zero) h.w hlt).2
      rw [he] at hw ⊢
      refine ⟨hw, ?_, ?_, fun k hkk => ?_, fun hall => ?_⟩
      · dsimp only
        rw [hnt]
        exact List.Sublist.append h.sub (List.Sublist.refl _)
      · dsimp only
        rw [countL_snoc, countL_take hk]
        have := h.cnt
        have := hs.cnt
        omega
      · rcases List.mem_append.1 hkk with hkk | hkk
        · exact h.kid k hkk
        · rw [List.mem_singleton.1 hkk]
          exact ⟨hs.kind h0, hs.plain, fun d hd => hs.shape d (hd _ (List.getElem_mem hk))⟩
      · obtain ⟨s1, s2⟩ := h.same (fun k hkk => hall k (by rw [hkt]; exact List.mem_append.2 (.inl hkk)))
        have hpl := (hall p.kids[i] (by rw [hkt]; exact List.mem_append.2 (.inr (List.mem_singleton.2 rfl)))).2
        dsimp only
        rw [s1, s2, hs.same hpl, hnt, hkt]
        exact ⟨rfl, rfl⟩)
  generalize mrg p Nd.zero = q at *
  have hw := key.w
  have hsub : q.names.Sublist p.names := key.sub.trans (List.take_sublist _ _)
  have hcnt : countL q.kids ≤ countL p.kids := by have := key.cnt; rwa [List.take_length] at this
  refine ⟨fun d hd => ?_, by rw [Nd.count_eq, Nd.count_eq]; omega, ?_, fun hpl => ?_, fun _ => by rw [hw.kd]; decide⟩
  · rw [shapeB_eq] at hd ⊢
    simp only [Bool.and_eq_true, decide_eq_true_eq] at hd ⊢
    obtain ⟨⟨d0, hpp⟩, hkk⟩ := hd
    have hn := (hp.map h4).1
    simp only [areNamesB, Bool.and_eq_true, decide_eq_true_eq] at hn
    refine ⟨⟨d0, ?_⟩, ?_⟩
    · unfold partsB
      rw [hw.kd, hw.nz, hw.tz]
      have hnb : areNamesB q.names = true := by
        simp only [areNamesB, Bool.and_eq_true, decide_eq_true_eq]
        exact ⟨by have := hsub.length_le; omega, namesFrom_of _ _ (fun x hx => namesFrom_plain _ _ hn.2 x (hsub.subset hx)) (asc_pw.1 hw.asc) (fun y hy => by cases hy)⟩
      have hkl : q.kids.length = q.names.length := hw.len.symm
      simp [hnb, hkl]
    · rw [shapeL_all, List.all_eq_true] at hkk ⊢
      exact fun k hk => (key.kid k hk).2.2 _ hkk
  · rw [plainB_eq, if_pos hw.kd, plainL_iff]
    exact fun k hk => ⟨(key.kid k hk).1, (key.kid k hk).2.1⟩
  · rw [plainB_eq, if_pos h4, plainL_iff] at hpl
    obtain ⟨s1, s2⟩ := key.same (fun k hk => hpl k (List.mem_of_mem_take hk))
    rw [List.take_length] at s2
    rw [hl, List.take_length] at s1
    have hpw : MapW p := by
      have := base_w hp
      unfold baseM at this
      rwa [if_pos h4] at this
    cases q; cases p
    have k1 := hw.kd; have k2 := hw.nz; have k3 := hw.tz
    have j1 := hpw.kd; have j2 := hpw.nz; have j3 := hpw.tz
    simp only at *
    subst k1 k2 k3 j1 j2 j3 s1 s2
    rfl)
theorem strip_valid {n : Nd} (h : validB n = true) : validB (mrg n Nd.zero) = true := by
  have hs := strip_of n (Shp.of h)
  unfold validB at h ⊢
  rw [Bool.and_eq_true, decide_eq_true_eq] at h ⊢
  exact ⟨hs.shape 5 h.1, by have := hs.cnt; omega⟩
theorem mgO_zero {n : Nd} (h : validB n = true) : mgO Nd.zero n = some (mrg n Nd.zero) := by
  unfold mgO chkN
  rw [h, show validB Nd.zero = true from valid0, strip_valid h]; rfl
theorem eqN_strip {n : Nd} (h : Shp n) : eqN (mrg n Nd.zero) n = plainB n := by
  have hs := strip_of n h
  cases hp : plainB n
  · cases he : eqN (mrg n Nd.zero) n
    · rfl
    · have := (eqN_iff _ _).1 he
      have hq := hs.plain
      rw [this, hp] at hq; cases hq
  · rw [hs.same hp]; exact eqN_refl n
end Go.Proofs.Ytiobnaielfeeaaa.Eng
-- EV: rows skip
namespace Go.Proofs.Ytiobnaielfeeaaa.Eng
open Go Go.RowKit
attribute [local simp] big size_mk ASt.pay Option.map_map Function.comp_def awant aop acall ado aev ofVal ofVal0 ASt.put ASt.add ASt.turn ASt.kill abox aalloc astore aload ASt.at cellsTo afieldAddr afield aindexAddr aindex alen abin aint acmp astr aun apick aextract anil aslice abound abuild afill abuildSlice asCells aps avCells over upd aappend asrc amax amin aconv mkSt slots rowsOf_cons rowsOf_nil usedOf_cons usedOf_nil ZK.av List.replicate ASt.back ASt.addL ASt.killL nodeA nodeT nodeTL_eq nodeL_eq strsE_get strsE_len intsE_get intsE_len strsE_at intsE_at nodeN namesRow nodeO kidsRow tab2 tab3 tab4 tab5 tab6 tab7 tab8 tab9 tab10 tab11 tab12 tab13 tab14 tab15 tab16 tab17 tab18 tab19 tab21 tab22 tab23 tab24 tab25 tab26 tab27 tab28 tab29 tab30 tab48 tab51 tab52 tab59 tab77 tab78 tab79 tab91 tab95 tab96 tab97 tab109 tab116 tab132 tab133 tab138 tab139 tab144 tab145 tab146 tab148 tab149 tab150
end Go.Proofs.Ytiobnaielfeeaaa.Eng
-- EV: rows skip
namespace Go.Proofs.Ytiobnaielfeeaaa.Eng
open Go Go.RowKit
attribute [local simp] big size_mk ASt.pay Option.map_map Function.comp_def awant aop acall ado aev ofVal ofVal0 ASt.put ASt.add ASt.turn ASt.kill abox aalloc astore aload ASt.at cellsTo afieldAddr afield aindexAddr aindex alen abin aint acmp astr aun apick aextract anil aslice abound abuild afill abuildSlice asCells aps avCells over upd aappend asrc amax amin aconv mkSt slots rowsOf_cons rowsOf_nil usedOf_cons usedOf_nil ZK.av List.replicate ASt.back ASt.addL ASt.killL nodeA nodeT nodeTL_eq nodeL_eq strsE_get strsE_len intsE_get intsE_len strsE_at intsE_at nodeN namesRow nodeO kidsRow tab2 tab3 tab4 tab5 tab6 tab7 tab8 tab9 tab10 tab11 tab12 tab13 tab14 tab15 tab16 tab17 tab18 tab19 tab21 tab22 tab23 tab24 tab25 tab26 tab27 tab28 tab29 tab30 tab48 tab51 tab52 tab59 tab77 tab78 tab79 tab91 tab95 tab96 tab97 tab109 tab116 tab132 tab133 tab138 tab139 tab144 tab145 tab146 tab148 tab149 tab150
theorem drawIsPlain_AC0 (zs : List Int) (hl : zs.length ≤ 1048576) (hb : ByteL zs) : AC0 Try.prog 25 [.view .loose 1 (bytesE zs)] rNodeA := by
  have hc := cN_le
  have hN : AC Try.prog 51 [.rdr] cN rNodeA := anyNode_AC
  generalize cN = M at *
  refine AC0.of tab_ok mixed_ok Try.func25 (by rfl) (by kernel_rfl) ?_; rintro ⟨P, T, hT, hm, w0, S0, rd0, k0⟩ hP hTT hk0; dsimp only at hP hTT hk0; subst hP hTT hk0; unfold initSt; rw [Try.ntmps25]
  (repeat (first | with_reducible refine AW.seq ?_ | ((first | refine arun_kn 4 rfl (fun C hC => ?_) | refine arunD_kn 4 rfl (fun C hC => ?_)); (repeat ((conv => whnf); simp)); refine hC _ ?_; clear hC C; simp only [List.drop, Nat.reduceAdd]) | ((first | refine arun_kn 1 rfl (fun C hC => ?_) | refine arunD_kn 1 rfl (fun C hC => ?_)); (repeat ((conv => whnf); simp)); refine hC _ ?_; clear hC C; simp only [List.drop, Nat.reduceAdd]) | (refine arun_skip ?_ ?_; (focus (simp [awant]; done))) | (refine arun_cN M (newReader_ACN zs (0 + M) hl (by omega) hb) ?_) | (refine arun_c (M) (hN) ?_; (rintro _ ⟨n, hn, rfl⟩)) | (refine arunD_skip ?_ ?_; (focus (simp [awant]; done))) | (refine AW.regionK [] (fun K hK => ?_)) | (refine AW.regionDK [] (pcs [] []) (by kernel_rfl) (by kernel_rfl) (fun K hK => ?_)) | (refine AW.condT ?_ ?_; (focus (simp [aev]; done))) | (refine AW.condF ?_ ?_; (focus (simp [aev]; done))) | with_reducible refine AW.block ?_ | ((first | ((first | refine arun_nil ?_ | refine arunD_nil ?_); refine hK _ ?_; clear hK K) | refine AW.skip ?_ | refine AW.exit ?_ | refine AW.ret ?_); simp only [thenA_exit, inBlockA_exit, if_true, if_false, Nat.reduceEqDiff, thenA_normal, inBlockA_normal, reduceIte, thenA_ret, inBlockA_ret, endQ_ret, endR_ret, endG_ret, endQ_normal, endR_normal, endG_normal])))
  exact ⟨nodeA n, by simp [ares, aresL, upd, rowsOf_cons], node_pur n, n, hn, rfl⟩
end Go.Proofs.Ytiobnaielfeeaaa.Eng
-- EV: rows skip
namespace Go.Proofs.Ytiobnaielfeeaaa.Eng
open Go Go.RowKit
attribute [local simp] big size_mk ASt.pay Option.map_map Function.comp_def awant aop acall ado aev ofVal ofVal0 ASt.put ASt.add ASt.turn ASt.kill abox aalloc astore aload ASt.at cellsTo afieldAddr afield aindexAddr aindex alen abin aint acmp astr aun apick aextract anil aslice abound abuild afill abuildSlice asCells aps avCells over upd aappend asrc amax amin aconv mkSt slots rowsOf_cons rowsOf_nil usedOf_cons usedOf_nil ZK.av List.replicate ASt.back ASt.addL ASt.killL nodeA nodeT nodeTL_eq nodeL_eq strsE_get strsE_len intsE_get intsE_len strsE_at intsE_at nodeN namesRow nodeO kidsRow tab2 tab3 tab4 tab5 tab6 tab7 tab8 tab9 tab10 tab11 tab12 tab13 tab14 tab15 tab16 tab17 tab18 tab19 tab21 tab22 tab23 tab24 tab25 tab26 tab27 tab28 tab29 tab30 tab48 tab51 tab52 tab59 tab77 tab78 tab79 tab91 tab95 tab96 tab97 tab109 tab116 tab132 tab133 tab138 tab139 tab144 tab145 tab146 tab148 tab149 tab150
end Go.Proofs.Ytiobnaielfeeaaa.Eng
namespace Go.Proofs.Ytiobnaielfeeaaa
open Go Go.RowKit
structure Shp where
  kind : Int
  names : List ByteArray
  needs : List Bool
  kids : List Shp
theorem Shp.ind' (P : Shp → Prop) (h : ∀ n : Shp, (∀ k ∈ n.kids, P k) → P n) : ∀ n, P n := by
  intro n
  refine Shp.rec (motive_1 := P) (motive_2 := fun l => ∀ k ∈ l, P k) ?_ ?_ ?_ n
  · intro kind names needs kids ih
    exact h ⟨kind, names, needs, kids⟩ ih
  · intro k hk; cases hk
  · intro k ks h1 h2 x hx
    rcases List.mem_cons.1 hx with rfl | hx
    · exact h1
    · exact h2 _ hx
def BoolsR (w : World) (S : Nat → Prop) (a : Option Addr) (c : Nat) (xs : List Bool) : Prop :=
  xs.length ≤ c ∧ xs.length ≤ big ∧ (xs = [] ∨ ∃ b o, a = some ⟨b, o, none⟩ ∧ S b ∧ ∀ i (h : i < xs.length), w.cell? ⟨b, o + i, none⟩ = some (.bool xs[i]))
mutual
def ShapeC (w : World) (S : Nat → Prop) : Shp → Option Addr → Nat → Option Addr → Nat → Option Addr → Nat → Prop
  | ⟨_, names, needs, kids⟩, na, nc, ba, bc, ka, kc => StrsR w S na nc names ∧ BoolsR w S ba bc needs ∧ kids.length ≤ kc ∧ kids.length ≤ big ∧ (kids = [] ∨ ∃ b o, ka = some ⟨b, o, none⟩ ∧ S b ∧ ShpsR w S b o kids)
def ShpsR (w : World) (S : Nat → Prop) (b : Nat) : Nat → List Shp → Prop
  | _, [] => True
  | o, k :: ks => (∃ na nc ba bc ka kc, w.cell? ⟨b, o, none⟩ = some (.int .i64 k.kind) ∧ w.cell? ⟨b, o + 1, none⟩ = some (.slice na k.names.length nc) ∧
      w.cell? ⟨b, o + 2, none⟩ = some (.slice ba k.needs.length bc) ∧ w.cell? ⟨b, o + 3, none⟩ = some (.slice ka k.kids.length kc) ∧ ShapeC w S k na nc ba bc ka kc) ∧ ShpsR w S b (o + 4) ks
end
def shapeV (n : Shp) (na : Option Addr) (nc : Nat) (ba : Option Addr) (bc : Nat) (ka : Option Addr) (kc : Nat) : Value :=
  .agg #[.int .i64 n.kind, .slice na n.names.length nc, .slice ba n.needs.length bc, .slice ka n.kids.length kc]
def ShapeR (w : World) (S : Nat → Prop) (n : Shp) (v : Value) : Prop := ∃ na nc ba bc ka kc, v = shapeV n na nc ba bc ka kc ∧ ShapeC w S n na nc ba bc ka kc
theorem BoolsR.ext {X S : Nat → Prop} {w w' : World} (h : Ext X w w') (hS : ∀ k, S k → ¬ X k) {a : Option Addr} {c : Nat} {xs : List Bool} (hs : BoolsR w S a c xs) : BoolsR w' S a c xs := by
  obtain ⟨h1, h2, h4⟩ := hs
  refine ⟨h1, h2, h4.imp id ?_⟩
  rintro ⟨b, o, rfl, hb, hc⟩
  exact ⟨b, o, rfl, hb, fun i hi => h.some (hc i hi) (hS b hb)⟩
theorem ShapeC.parts {w : World} {S : Nat → Prop} {n : Shp} {na : Option Addr} {nc : Nat} {ba : Option Addr} {bc : Nat} {ka : Option Addr} {kc : Nat} (h : ShapeC w S n na nc ba bc ka kc) :
    StrsR w S na nc n.names ∧ BoolsR w S ba bc n.needs ∧ n.kids.length ≤ kc ∧ n.kids.length ≤ big ∧ (n.kids = [] ∨ ∃ b o, ka = some ⟨b, o, none⟩ ∧ S b ∧ ShpsR w S b o n.kids) := by
  cases n; unfold ShapeC at h; exact h
mutual
theorem ShapeC.ext {X S : Nat → Prop} {w w' : World} (h : Ext X w w') (hS : ∀ k, S k → ¬ X k) : ∀ {n : Shp} {na : Option Addr} {nc : Nat} {ba : Option Addr} {bc : Nat} {ka : Option Addr} {kc : Nat}, ShapeC w S n na nc ba bc ka kc → ShapeC w' S n na nc ba bc ka kc
  | ⟨_, _, _, kids⟩, na, nc, ba, bc, ka, kc, hn => by
    unfold ShapeC at hn ⊢
    obtain ⟨h1, h2, h3, h4, h5⟩ := hn
    refine ⟨h1.ext h hS, h2.ext h hS, h3, h4, h5.imp id ?_⟩
    rintro ⟨b, o, e, hb, hk⟩
    exact ⟨b, o, e, hb, ShpsR.ext h hS (hS b hb) hk⟩
theorem ShpsR.ext {X S : Nat → Prop} {w w' : World} (h : Ext X w w') (hS : ∀ k, S k → ¬ X k) {b : Nat} (hb : ¬ X b) : ∀ {l : List Shp} {o : Nat}, ShpsR w S b o l → ShpsR w' S b o l
  | [], _, _ => by unfold ShpsR; trivial
  | k :: ks, o, hk => by
    unfold ShpsR at hk ⊢
    obtain ⟨⟨na, nc, ba, bc, ka, kc, c0, c1, c2, c3, hn⟩, hr⟩ := hk
    exact ⟨⟨na, nc, ba, bc, ka, kc, h.some c0 hb, h.some c1 hb, h.some c2 hb, h.some c3 hb, ShapeC.ext h hS hn⟩, ShpsR.ext h hS hb hr⟩
end
theorem ShpsR.get {w : World} {S : Nat → Prop} {b : Nat} : ∀ {l : List Shp} {o : Nat}, ShpsR w S b o l → ∀ i (h : i < l.length), ∃ na nc ba bc ka kc,
    w.cell? ⟨b, o + i * 4, none⟩ = some (.int .i64 l[i].kind) ∧ w.cell? ⟨b, o + i * 4 + 1, none⟩ = some (.slice na l[i].names.length nc) ∧
      w.cell? ⟨b, o + i * 4 + 2, none⟩ = some (.slice ba l[i].needs.length bc) ∧ w.cell? ⟨b, o + i * 4 + 3, none⟩ = some (.slice ka l[i].kids.length kc) ∧ ShapeC w S l[i] na nc ba bc ka kc
  | [], _, _, i, h => absurd h (by simp)
  | k :: ks, o, hk, 0, _ => by
    unfold ShpsR at hk
    simpa using hk.1
  | k :: ks, o, hk, i + 1, h => by
    unfold ShpsR at hk
    have := ShpsR.get hk.2 i (by simpa using h)
    simp only [List.getElem_cons_succ]
    have e : o + (i + 1) * 4 = o + 4 + i * 4 := by omega
    rw [e]
    exact this
theorem ShapeR.ext {X S : Nat → Prop} {w w' : World} (h : Ext X w w') (hS : ∀ k, S k → ¬ X k) {n : Shp} {v : Value} (hn : ShapeR w S n v) : ShapeR w' S n v := by
  obtain ⟨na, nc, ba, bc, ka, kc, hv, hc⟩ := hn
  exact ⟨na, nc, ba, bc, ka, kc, hv, hc.ext h hS⟩
theorem ShapeR.grow {S : Nat → Prop} {w w' : World} {n : Shp} {v : Value} (hn : ShapeR w S n v) (h : Grow w w') : ShapeR w' S n v := hn.ext h (fun _ _ h => h)
end Go.Proofs.Ytiobnaielfeeaaa
namespace Go.Proofs.Ytiobnaielfeeaaa
open Go.RowKit
def shpHead (x : Shp) : Bool :=
  inR x.kind 0 4 && areNamesB x.names && !(decide (0 < x.names.length) && decide (x.kind ≠ 4)) && decide (x.needs.length = x.names.length) && decide (x.kids.length = x.names.length)
mutual
def shpB : Shp → Nat → Bool
  | ⟨kind, names, needs, kids⟩, d => decide (0 < d) && shpHead ⟨kind, names, needs, kids⟩ && shpL kids (d - 1)
def shpL : List Shp → Nat → Bool
  | [], _ => true
  | k :: ks, d => shpB k d && shpL ks d
end
theorem shpB_eq (x : Shp) (d : Nat) : shpB x d = (decide (0 < d) && shpHead x && shpL x.kids (d - 1)) := by cases x; simp [shpB]
theorem shpL_all (l : List Shp) (d : Nat) : shpL l d = l.all fun k => shpB k d := by
  induction l with
  | nil => simp [shpL]
  | cons a l ih => simp [shpL, ih]
end Go.Proofs.Ytiobnaielfeeaaa
namespace Go.Proofs.Ytiobnaielfeeaaa
open Go.RowKit
end Go.Proofs.Ytiobnaielfeeaaa
namespace Go.Proofs.Ytiobnaielfeeaaa
open Go.RowKit
end Go.Proofs.Ytiobnaielfeeaaa
