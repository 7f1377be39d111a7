/-
  Texts of this claim, joined.
-/
import Derived.Test.YtgfnmhfdmmnaoaaMeF

set_option linter.unusedSimpArgs false
set_option linter.unusedVariables false
set_option linter.unnecessarySimpa false
set_option maxRecDepth 100000
set_option maxHeartbeats 16000000
-- EV: fresh
namespace Go.Proofs.Ytgfnmhfdmmnaoaa.Eng
open Go Go.RowKit
attribute [local simp] big size_mk ASt.pay Option.map_map Function.comp_def awant aop acall ado aev ofVal ofVal0 ASt.put ASt.add ASt.turn ASt.kill abox aalloc astore aload aloadD astoreD idOf ASt.at cellsTo afieldAddr afield aindexAddr aindex alen abin aint acmp astr aun apick aextract anil aslice abound abuild afill abuildSlice asCells aps avCells over upd aappend asrc amax amin aconv mkSt slots rowsOf_cons rowsOf_nil usedOf_cons usedOf_nil ZK.av List.replicate ASt.back ASt.addL ASt.killL nodeA nodeT nodeTL_eq nodeL_eq strsE_get strsE_len intsE_get intsE_len strsE_at intsE_at tab2 tab3 tab4 tab5 tab6 tab7 tab8 tab9 tab10 tab11 tab12 tab13 tab14 tab15 tab16 tab17 tab18 tab19 tab21 tab22 tab23 tab24 tab25 tab26 tab27 tab28 tab29 tab30 tab39 tab40 tab41 tab42 tab43 tab47 tab48 tab55 tab56 tab57 tab60 tab61 tab62 tab73 tab74 tab75 tab85 tab92 tab115 tab116 tab143 tab144 tab145 tab154 tab155 tab170 tab175 tab182 tab197 tab198 tab203 tab204 tab205 tab207 tab208 tab209
def boxLb (n : Lb) (a b : Nat) : Row := ⟨true, 30, 5, [[.int .i64 n.kind, .int .i64 n.num, .str n.text, .own a n.names.length, .own b n.kids.length]]⟩
def putLb (n : Lb) (nm : ByteArray) (v : Lb) : Lb :=
  if mem n.names nm then ⟨n.kind, n.num, n.text, n.names, n.nb, n.kids.set (lbound n.names nm) v, n.kb⟩
  else ⟨n.kind, n.num, n.text, n.names.take (lbound n.names nm) ++ (nm :: n.names.drop (lbound n.names nm)), n.nb, n.kids.take (lbound n.names nm) ++ (v :: n.kids.drop (lbound n.names nm)), n.kb⟩
def dropLb (n : Lb) (nm : ByteArray) : Lb :=
  if mem n.names nm then ⟨n.kind, n.num, n.text, n.names.take (lbound n.names nm) ++ n.names.drop (lbound n.names nm + 1), n.nb, n.kids.take (lbound n.names nm) ++ n.kids.drop (lbound n.names nm + 1), n.kb⟩ else n
def PostLb (m : Lb) (a0 b0 a1 b1 : Nat) (r : AV) (l : List (Nat × Row)) : Prop := ∃ a b, ((a = a0 ∧ b = b0) ∨ (a = a1 ∧ b = b1)) ∧ r = .tup [] ∧ l = [(1000, boxLb m a b), (a, namesR m.names), (b, labsR m.kids)]
def rowsLb (n : Lb) : List (Nat × Row) := [(1000, boxLb n 1001 1002), (1001, namesR n.names), (1002, labsR n.kids)]
theorem purLb {n : Lb} {a b : Nat} : ∀ p ∈ [(1000, boxLb n a b), (a, namesR n.names), (b, labsR n.kids)], ∀ e ∈ p.2.es, ∀ c ∈ e, PurR c := by
  simp only [List.forall_mem_cons, List.not_mem_nil, false_implies, implies_true, and_true, boxLb]
  exact ⟨⟨pur_int.purR, pur_int.purR, pur_str.purR, purR_own, purR_own⟩, fun e he c hc => (strsE_pur _ e he c hc).purR, fun e he c hc => (labsE_pur _ e he c hc).purR⟩
theorem inLb {n : Lb} {a b : Nat} : ∀ p ∈ [(1000, boxLb n a b), (a, namesR n.names), (b, labsR n.kids)], ∀ e ∈ p.2.es, ∀ c ∈ e, AV.In (fun id => (rowsOf [(1000, boxLb n a b), (a, namesR n.names), (b, labsR n.kids)] id).isSome) c := by
  simp only [List.forall_mem_cons, List.not_mem_nil, false_implies, implies_true, and_true, boxLb]
  refine ⟨⟨in_int, in_int, in_str, in_own.2 ?_, in_own.2 ?_⟩, fun e he c hc => strsE_in _ e he c hc, fun e he c hc => labsE_in _ e he c hc⟩
  · simp only [rowsOf_cons]; split <;> simp
  · simp only [rowsOf_cons]; split <;> (try split) <;> simp
theorem putLb_yes {n v : Lb} {nm : ByteArray} (h : mem n.names nm = true) : putLb n nm v = ⟨n.kind, n.num, n.text, n.names, n.nb, n.kids.set (lbound n.names nm) v, n.kb⟩ := by unfold putLb; rw [if_pos h]
theorem putLb_no {n v : Lb} {nm : ByteArray} (h : mem n.names nm = false) : putLb n nm v = ⟨n.kind, n.num, n.text, n.names.take (lbound n.names nm) ++ (nm :: n.names.drop (lbound n.names nm)), n.nb, n.kids.take (lbound n.names nm) ++ (v :: n.kids.drop (lbound n.names nm)), n.kb⟩ := by unfold putLb; rw [h]; rfl
theorem putNameF_ACG (n v : Lb) (nm : ByteArray) (hasc : Asc n.names) (hl : n.names.length = n.kids.length) (hb : n.kids.length ≤ 1000) : ACG Try.prog 160 [.ptr true 5 1 1000 0 0, .str nm, labA v] (rowsLb n) 0 (PostLb (putLb n nm v) 1001 1002 33 44) := by
  unfold rowsLb boxLb namesR labsR labA
  rw [labL_eq v]
  have hml : (n.kids.map labL).length = n.kids.length := List.length_map _
  have hsl := strsE_len n.names
  have hle := lbn_le n.names nm
  have pb := bsearch_AC n.names nm .lent hasc (by omega)
  refine ACG.of tab_ok mixed_ok Try.func160 (by rfl) (by kernel_rfl) (by simp) ?_; rintro ⟨P, T, hT, hm, w0, S0, rd0, k0⟩ hP hTT; dsimp only at hP hTT; subst hP hTT; unfold initStG; rw [Try.ntmps160]
  cases hm : mem n.names nm with
  | true =>
    have hlt := lbn_lt hasc hm
    rw [hm] at pb
    have hlk : lbound n.names nm < n.kids.length := by omega
    have hdr : ∀ x : Lb, (labL x).drop 5 = [] := fun x => List.drop_of_length_le (by rw [labL_len]; exact Nat.le_refl _)
    (repeat (first | with_reducible refine AW.seq ?_ | ((first | refine arun_kn 4 rfl (fun C hC => ?_) | refine arunD_kn 4 rfl (fun C hC => ?_)); (repeat ((conv => whnf); simp [hml, hsl, hlt, hlk, hdr])); refine hC _ ?_; clear hC C; simp only [List.drop, Nat.reduceAdd]) | ((first | refine arun_kn 1 rfl (fun C hC => ?_) | refine arunD_kn 1 rfl (fun C hC => ?_)); (repeat ((conv => whnf); simp [hml, hsl, hlt, hlk, hdr])); refine hC _ ?_; clear hC C; simp only [List.drop, Nat.reduceAdd]) | (refine arun_skip ?_ ?_; (focus (simp [awant, hml, hsl, hlt, hlk, hdr]; done))) | (refine arun_cL (0) (pb) ?_; rintro _ rfl) | (refine AW.regionK [] (fun K hK => ?_)) | (refine AW.regionDK [] (pcs [] []) (by kernel_rfl) (by kernel_rfl) (fun K hK => ?_)) | (refine AW.condT ?_ ?_; (focus (simp [aev, hml, hsl, hlt, hlk, hdr]; done))) | (refine AW.condF ?_ ?_; (focus (simp [aev, hml, hsl, hlt, hlk, hdr]; done))) | with_reducible refine AW.block ?_ | ((first | ((first | refine arun_nil ?_ | refine arunD_nil ?_); refine hK _ ?_; clear hK K) | refine AW.skip ?_ | refine AW.exit ?_ | refine AW.ret ?_); simp only [thenA_exit, inBlockA_exit, if_true, if_false, Nat.reduceEqDiff, thenA_normal, inBlockA_normal, reduceIte, thenA_ret, inBlockA_ret, endQ_ret, endR_ret, endG_ret, endQ_normal, endR_normal, endG_normal, endF_ret, endF_normal])))
    refine ⟨.tup [], [(1000, boxLb (putLb n nm v) 1001 1002), (1001, namesR (putLb n nm v).names), (1002, labsR (putLb n nm v).kids)], by simp [ares, aresL], ?_, purR_tup (fun _ h => by cases h), purLb, ⟨in_tup.2 (fun _ h => by cases h), inLb⟩, 1001, 1002, .inl ⟨rfl, rfl⟩, rfl, rfl⟩
    have q1 : (putLb n nm v).kind = n.kind := by rw [putLb_yes hm]
    have q2 : (putLb n nm v).num = n.num := by rw [putLb_yes hm]
    have q3 : (putLb n nm v).text = n.text := by rw [putLb_yes hm]
    have q4 : (putLb n nm v).names = n.names := by rw [putLb_yes hm]
    have q5 : (putLb n nm v).kids.map labL = (n.kids.map labL).set (lbound n.names nm) (labL v) := by rw [putLb_yes hm, List.map_set]
    have q6 : (putLb n nm v).kids.length = n.kids.length := by rw [putLb_yes hm, List.length_set]
    rw [labL_eq v] at q5
    unfold boxLb namesR labsR
    rw [q1, q2, q3, q4, q5, q6]
    simp only [List.forall_mem_cons, List.not_mem_nil, false_implies, implies_true, and_true]
    exact ⟨rfl, rfl, rfl⟩
  | false =>
    rw [hm] at pb
    (repeat (first | with_reducible refine AW.seq ?_ | ((first | refine arun_knb 4 rfl (fun C hC => ?_) | refine arunD_kn 4 rfl (fun C hC => ?_)); (repeat ((conv => whnf); simp [hml, hsl])); refine hC _ ?_; clear hC C; simp only [List.drop, Nat.reduceAdd]) | ((first | refine arun_knb 1 rfl (fun C hC => ?_) | refine arunD_kn 1 rfl (fun C hC => ?_)); (repeat ((conv => whnf); simp [hml, hsl])); refine hC _ ?_; clear hC C; simp only [List.drop, Nat.reduceAdd]) | (refine arun_skip ?_ ?_; (focus (simp [awant, hml, hsl]; done))) | (refine arun_cL (0) (pb) ?_; rintro _ rfl) | (refine AW.regionK [] (fun K hK => ?_)) | (refine AW.regionDK [] (pcs [] []) (by kernel_rfl) (by kernel_rfl) (fun K hK => ?_)) | (refine AW.condT ?_ ?_; (focus (simp [aev, hml, hsl]; done))) | (refine AW.condF ?_ ?_; (focus (simp [aev, hml, hsl]; done))) | with_reducible refine AW.block ?_ | ((first | ((first | refine arun_nil ?_ | refine arunD_nil ?_); refine hK _ ?_; clear hK K) | refine AW.skip ?_ | refine AW.exit ?_ | refine AW.ret ?_); simp only [thenA_exit, inBlockA_exit, if_true, if_false, Nat.reduceEqDiff, thenA_normal, inBlockA_normal, reduceIte, thenA_ret, inBlockA_ret, endQ_ret, endR_ret, endG_ret, endQ_normal, endR_normal, endG_normal, endF_ret, endF_normal])))
    refine arun_ownSlice 32 rfl (by simp [awant]) tab23 (by simp; exact ⟨rfl, rfl⟩) (by simp [upd]) ?_
    have hins := insS_ACG (strsE n.names) [.str nm] (lbound n.names nm) (by rw [hsl]; exact hle) (by rw [hsl]; omega) (strsE_pur n.names) (by simp only [List.forall_mem_cons, List.not_mem_nil, false_implies, implies_true, and_true]; exact pur_str)
    rw [hsl] at hins
    have hes : (strsE n.names).take (lbound n.names nm) ++ ([.str nm] :: (strsE n.names).drop (lbound n.names nm)) = strsE (putLb n nm v).names := by
      rw [putLb_no hm]; simp [strsE, List.map_take, List.map_drop]
    rw [hes] at hins
    refine arun_callG1 (g := fun k => .own k (n.names.length + 1)) (R := namesR (putLb n nm v).names) [(1000, ⟨false, 9, 1, strsE n.names⟩), (1001, ⟨false, 9, 1, [[.str nm]]⟩)] (fun k => if k = 1000 then 1001 else 32) 33 (by simp [awant]) rfl (hins.mono (fun r b h => ⟨1, h⟩)) (by simp) ?_ ?_ (can_of (Nat.le_refl _)) (by simp [upd]) (strsE_pur _) (fun k => .base (.base (.own (by simp) rfl))) ?_
    · refine MvR.same (by simp [upd, rowsOf_cons]) (fun e he c hc => (strsE_pur _ e he c hc).clo) (MvR.same (by simp [upd]) (fun e he c hc => ?_) MvR.nil)
      rw [List.mem_singleton.1 he, List.mem_singleton] at hc
      subst hc
      exact clo_str
    · exact .cons (.base (.own (by simp) (by simp))) (.cons (.base (.clo (Clo.cloTo clo_int))) (.cons (.base (.own (by simp) (by simp))) .nil))
    (repeat (first | with_reducible refine AW.seq ?_ | ((first | refine arun_kn 4 rfl (fun C hC => ?_) | refine arunD_kn 4 rfl (fun C hC => ?_)); (repeat ((conv => whnf); simp [hml, hsl])); refine hC _ ?_; clear hC C; simp only [List.drop, Nat.reduceAdd]) | ((first | refine arun_kn 1 rfl (fun C hC => ?_) | refine arunD_kn 1 rfl (fun C hC => ?_)); (repeat ((conv => whnf); simp [hml, hsl])); refine hC _ ?_; clear hC C; simp only [List.drop, Nat.reduceAdd]) | (refine arun_skip ?_ ?_; (focus (simp [awant, hml, hsl]; done))) | (refine AW.regionK [] (fun K hK => ?_)) | (refine AW.condT ?_ ?_; (focus (simp [aev, hml, hsl]; done))) | (refine AW.condF ?_ ?_; (focus (simp [aev, hml, hsl]; done))) | with_reducible refine AW.block ?_ | ((first | ((first | refine arun_nil ?_ | refine arunD_nil ?_); refine hK _ ?_; clear hK K) | refine AW.skip ?_ | refine AW.exit ?_ | refine AW.ret ?_); simp only [thenA_exit, inBlockA_exit, if_true, if_false, Nat.reduceEqDiff, thenA_normal, inBlockA_normal, reduceIte, thenA_ret, inBlockA_ret, endQ_ret, endR_ret, endG_ret, endQ_normal, endR_normal, endG_normal, endF_ret, endF_normal])))
    refine AW.regionDK [2043] (pcs [] [1008]) (by kernel_rfl) (by kernel_rfl) (fun K hK => ?_)
    (repeat (first | with_reducible refine AW.seq ?_ | ((first | refine arun_kn 4 rfl (fun C hC => ?_) | refine arunD_kn 4 rfl (fun C hC => ?_)); (repeat ((conv => whnf); simp [hml, hsl])); refine hC _ ?_; clear hC C; simp only [List.drop, Nat.reduceAdd]) | ((first | refine arun_kn 1 rfl (fun C hC => ?_) | refine arunD_kn 1 rfl (fun C hC => ?_)); (repeat ((conv => whnf); simp [hml, hsl])); refine hC _ ?_; clear hC C; simp only [List.drop, Nat.reduceAdd]) | (refine arun_skip ?_ ?_; (focus (simp [awant, hml, hsl]; done))) | (refine AW.regionK [] (fun K hK => ?_)) | (refine AW.regionDK [] (pcs [] []) (by kernel_rfl) (by kernel_rfl) (fun K hK => ?_)) | (refine AW.condT ?_ ?_; (focus (simp [aev, hml, hsl]; done))) | (refine AW.condF ?_ ?_; (focus (simp [aev, hml, hsl]; done))) | with_reducible refine AW.block ?_ | ((first | ((first | refine arun_nil ?_ | refine arunD_nil ?_); refine hK _ ?_; clear hK K) | refine AW.skip ?_ | refine AW.exit ?_ | refine AW.ret ?_); simp only [thenA_exit, inBlockA_exit, if_true, if_false, Nat.reduceEqDiff, thenA_normal, inBlockA_normal, reduceIte, thenA_ret, inBlockA_ret, endQ_ret, endR_ret, endG_ret, endQ_normal, endR_normal, endG_normal, endF_ret, endF_normal])))
    have hinn := insN_ACG (n.kids.map labL) (labL v) (lbound n.names nm) (by rw [hml]; omega) (by rw [hml]; omega) (labsE_pur n.kids) (labL_pur v)
    rw [hml] at hinn
    have hks : (n.kids.map labL).take (lbound n.names nm) ++ (labL v :: (n.kids.map labL).drop (lbound n.names nm)) = (putLb n nm v).kids.map labL := by
      rw [putLb_no hm]; simp [List.map_take, List.map_drop]
    rw [hks, labL_eq v] at hinn
    have hpv := labL_pur v
    rw [labL_eq v] at hpv
    refine arunD_callG1 (g := fun k => .own k (n.kids.length + 1)) (R := labsR (putLb n nm v).kids) [(1000, ⟨false, 30, 5, n.kids.map labL⟩), (1001, ⟨false, 30, 5, [[.int .i64 v.kind, .int .i64 v.num, .str v.text, .view (.fr v.nb) 1 (strsE v.names), .view (.fr v.kb) 5 (v.kids.map labL)]]⟩)] (fun k => if k = 1000 then 1002 else 43) 44 rfl (by simp [awant]) rfl (hinn.mono (fun r b h => ⟨1, h⟩)) (by simp) ?_ ?_ (can_of (Nat.le_refl _)) (by simp [upd]) (labsE_pur _) (fun e he c hc => labsE_in _ e he c hc) (fun k => .base (.base (.own (by simp) rfl))) (in_own.2 (by simp)) ?_
    · refine MvR.same (by simp [upd, rowsOf_cons]) (fun e he c hc => (labsE_pur _ e he c hc).clo) (MvR.same (by simp [upd]) (fun e he c hc => ?_) MvR.nil)
      rw [List.mem_singleton.1 he] at hc
      exact (hpv c hc).clo
    · exact .cons (.base (.own (by simp) (by simp))) (.cons (.base (.clo (Clo.cloTo clo_int))) (.cons (.base (.own (by simp) (by simp))) .nil))
    (repeat (first | with_reducible refine AW.seq ?_ | ((first | refine arun_kn 4 rfl (fun C hC => ?_) | refine arunD_kn 4 rfl (fun C hC => ?_)); (repeat ((conv => whnf); simp [hml, hsl])); refine hC _ ?_; clear hC C; simp only [List.drop, Nat.reduceAdd]) | ((first | refine arun_kn 1 rfl (fun C hC => ?_) | refine arunD_kn 1 rfl (fun C hC => ?_)); (repeat ((conv => whnf); simp [hml, hsl])); refine hC _ ?_; clear hC C; simp only [List.drop, Nat.reduceAdd]) | (refine arun_skip ?_ ?_; (focus (simp [awant, hml, hsl]; done))) | (refine AW.regionK [] (fun K hK => ?_)) | (refine AW.regionDK [] (pcs [] []) (by kernel_rfl) (by kernel_rfl) (fun K hK => ?_)) | (refine AW.condT ?_ ?_; (focus (simp [aev, hml, hsl]; done))) | (refine AW.condF ?_ ?_; (focus (simp [aev, hml, hsl]; done))) | with_reducible refine AW.block ?_ | ((first | ((first | refine arun_nil ?_ | refine arunD_nil ?_); refine hK _ ?_; clear hK K) | refine AW.skip ?_ | refine AW.exit ?_ | refine AW.ret ?_); simp only [thenA_exit, inBlockA_exit, if_true, if_false, Nat.reduceEqDiff, thenA_normal, inBlockA_normal, reduceIte, thenA_ret, inBlockA_ret, endQ_ret, endR_ret, endG_ret, endQ_normal, endR_normal, endG_normal, endF_ret, endF_normal])))
    refine ⟨.tup [], [(1000, boxLb (putLb n nm v) 33 44), (33, namesR (putLb n nm v).names), (44, labsR (putLb n nm v).kids)], by simp [ares, aresL], ?_, purR_tup (fun _ h => by cases h), purLb, ⟨in_tup.2 (fun _ h => by cases h), inLb⟩, 33, 44, .inr ⟨rfl, rfl⟩, rfl, rfl⟩
    have q1 : (putLb n nm v).kind = n.kind := by rw [putLb_no hm]
    have q2 : (putLb n nm v).num = n.num := by rw [putLb_no hm]
    have q3 : (putLb n nm v).text = n.text := by rw [putLb_no hm]
    have q4 : (putLb n nm v).names.length = n.names.length + 1 := by rw [putLb_no hm]; simp; omega
    have q6 : (putLb n nm v).kids.length = n.kids.length + 1 := by rw [putLb_no hm]; simp; omega
    unfold boxLb
    rw [q1, q2, q3, q4, q6]
    simp only [List.forall_mem_cons, List.not_mem_nil, false_implies, implies_true, and_true]
    exact ⟨rfl, rfl, rfl⟩
theorem dropLb_yes {n : Lb} {nm : ByteArray} (h : mem n.names nm = true) : dropLb n nm = ⟨n.kind, n.num, n.text, n.names.take (lbound n.names nm) ++ n.names.drop (lbound n.names nm + 1), n.nb, n.kids.take (lbound n.names nm) ++ n.kids.drop (lbound n.names nm + 1), n.kb⟩ := by unfold dropLb; rw [if_pos h]
theorem dropLb_no {n : Lb} {nm : ByteArray} (h : mem n.names nm = false) : dropLb n nm = n := by unfold dropLb; rw [h]; rfl
theorem dropNameF_ACG (n : Lb) (nm : ByteArray) (hasc : Asc n.names) (hl : n.names.length = n.kids.length) (hb : n.kids.length ≤ 1000) : ACG Try.prog 158 [.ptr true 5 1 1000 0 0, .str nm] (rowsLb n) 0 (PostLb (dropLb n nm) 1001 1002 24 35) := by
  unfold rowsLb boxLb namesR labsR
  have hml : (n.kids.map labL).length = n.kids.length := List.length_map _
  have hsl := strsE_len n.names
  have hle := lbn_le n.names nm
  have pb := bsearch_AC n.names nm .lent hasc (by omega)
  refine ACG.of tab_ok mixed_ok Try.func158 (by rfl) (by kernel_rfl) (by simp) ?_; rintro ⟨P, T, hT, hm, w0, S0, rd0, k0⟩ hP hTT; dsimp only at hP hTT; subst hP hTT; unfold initStG; rw [Try.ntmps158]
  cases hm : mem n.names nm with
  | false =>
    rw [hm] at pb
    (repeat (first | with_reducible refine AW.seq ?_ | ((first | refine arun_kn 4 rfl (fun C hC => ?_) | refine arunD_kn 4 rfl (fun C hC => ?_)); (repeat ((conv => whnf); simp [hml, hsl])); refine hC _ ?_; clear hC C; simp only [List.drop, Nat.reduceAdd]) | ((first | refine arun_kn 1 rfl (fun C hC => ?_) | refine arunD_kn 1 rfl (fun C hC => ?_)); (repeat ((conv => whnf); simp [hml, hsl])); refine hC _ ?_; clear hC C; simp only [List.drop, Nat.reduceAdd]) | (refine arun_skip ?_ ?_; (focus (simp [awant, hml, hsl]; done))) | (refine arun_cL (0) (pb) ?_; rintro _ rfl) | (refine AW.regionK [] (fun K hK => ?_)) | (refine AW.regionDK [] (pcs [] []) (by kernel_rfl) (by kernel_rfl) (fun K hK => ?_)) | (refine AW.condT ?_ ?_; (focus (simp [aev, hml, hsl]; done))) | (refine AW.condF ?_ ?_; (focus (simp [aev, hml, hsl]; done))) | with_reducible refine AW.block ?_ | ((first | ((first | refine arun_nil ?_ | refine arunD_nil ?_); refine hK _ ?_; clear hK K) | refine AW.skip ?_ | refine AW.exit ?_ | refine AW.ret ?_); simp only [thenA_exit, inBlockA_exit, if_true, if_false, Nat.reduceEqDiff, thenA_normal, inBlockA_normal, reduceIte, thenA_ret, inBlockA_ret, endQ_ret, endR_ret, endG_ret, endQ_normal, endR_normal, endG_normal, endF_ret, endF_normal])))
    rw [dropLb_no hm]
    refine ⟨.tup [], [(1000, boxLb n 1001 1002), (1001, namesR n.names), (1002, labsR n.kids)], by simp [ares, aresL], ?_, purR_tup (fun _ h => by cases h), purLb, ⟨in_tup.2 (fun _ h => by cases h), inLb⟩, 1001, 1002, .inl ⟨rfl, rfl⟩, rfl, rfl⟩
    simp only [List.forall_mem_cons, List.not_mem_nil, false_implies, implies_true, and_true]
    exact ⟨rfl, rfl, rfl⟩
  | true =>
    rw [hm] at pb
    have hlt := lbn_lt hasc hm
    have hw : IntKind.i64.wrap ((lbound n.names nm : Int) + 1) = (lbound n.names nm : Int) + 1 := i64_nat (by omega) (by omega)
    (repeat (first | with_reducible refine AW.seq ?_ | ((first | refine arun_kn 4 rfl (fun C hC => ?_) | refine arunD_kn 4 rfl (fun C hC => ?_)); (repeat ((conv => whnf); simp [hml, hsl, hw])); refine hC _ ?_; clear hC C; simp only [List.drop, Nat.reduceAdd]) | ((first | refine arun_kn 1 rfl (fun C hC => ?_) | refine arunD_kn 1 rfl (fun C hC => ?_)); (repeat ((conv => whnf); simp [hml, hsl, hw])); refine hC _ ?_; clear hC C; simp only [List.drop, Nat.reduceAdd]) | (refine arun_skip ?_ ?_; (focus (simp [awant, hml, hsl, hw]; done))) | (refine arun_cL (0) (pb) ?_; rintro _ rfl) | (refine AW.regionK [] (fun K hK => ?_)) | (refine AW.regionDK [] (pcs [] []) (by kernel_rfl) (by kernel_rfl) (fun K hK => ?_)) | (refine AW.condT ?_ ?_; (focus (simp [aev, hml, hsl, hw]; done))) | (refine AW.condF ?_ ?_; (focus (simp [aev, hml, hsl, hw]; done))) | with_reducible refine AW.block ?_ | ((first | ((first | refine arun_nil ?_ | refine arunD_nil ?_); refine hK _ ?_; clear hK K) | refine AW.skip ?_ | refine AW.exit ?_ | refine AW.ret ?_); simp only [thenA_exit, inBlockA_exit, if_true, if_false, Nat.reduceEqDiff, thenA_normal, inBlockA_normal, reduceIte, thenA_ret, inBlockA_ret, endQ_ret, endR_ret, endG_ret, endQ_normal, endR_normal, endG_normal, endF_ret, endF_normal])))
    have hdel := delS_ACG (strsE n.names) (lbound n.names nm) (by rw [hsl]; exact hlt) (strsE_pur n.names)
    rw [hsl] at hdel
    have hes : (strsE n.names).take (lbound n.names nm) ++ (strsE n.names).drop (lbound n.names nm + 1) = strsE (dropLb n nm).names := by
      rw [dropLb_yes hm]; simp [strsE, List.map_take, List.map_drop]
    rw [hes] at hdel
    refine arun_callG1 (g := fun k => .own k (n.names.length - 1)) (R := namesR (dropLb n nm).names) [(1000, ⟨false, 9, 1, strsE n.names⟩)] (fun _ => 1001) 24 (by simp [awant]) rfl (hdel.mono (fun r b h => ⟨1, h⟩)) (by simp) ?_ ?_ (can_of (Nat.le_refl _)) (by simp [upd]) (strsE_pur _) (fun k => .base (.base (.own (by simp) rfl))) ?_
    · exact MvR.same (by simp [upd, rowsOf_cons]) (fun e he c hc => (strsE_pur _ e he c hc).clo) MvR.nil
    · exact .cons (.base (.own (by simp) (by simp))) (.cons (.base (.clo (Clo.cloTo clo_int))) (.cons (.base (.clo (Clo.cloTo clo_int))) .nil))
    (repeat (first | with_reducible refine AW.seq ?_ | ((first | refine arun_kn 4 rfl (fun C hC => ?_) | refine arunD_kn 4 rfl (fun C hC => ?_)); (repeat ((conv => whnf); simp [hml, hsl, hw])); refine hC _ ?_; clear hC C; simp only [List.drop, Nat.reduceAdd]) | ((first | refine arun_kn 1 rfl (fun C hC => ?_) | refine arunD_kn 1 rfl (fun C hC => ?_)); (repeat ((conv => whnf); simp [hml, hsl, hw])); refine hC _ ?_; clear hC C; simp only [List.drop, Nat.reduceAdd]) | (refine arun_skip ?_ ?_; (focus (simp [awant, hml, hsl, hw]; done))) | (refine AW.regionK [] (fun K hK => ?_)) | (refine AW.regionDK [] (pcs [] []) (by kernel_rfl) (by kernel_rfl) (fun K hK => ?_)) | (refine AW.condT ?_ ?_; (focus (simp [aev, hml, hsl, hw]; done))) | (refine AW.condF ?_ ?_; (focus (simp [aev, hml, hsl, hw]; done))) | with_reducible refine AW.block ?_ | ((first | ((first | refine arun_nil ?_ | refine arunD_nil ?_); refine hK _ ?_; clear hK K) | refine AW.skip ?_ | refine AW.exit ?_ | refine AW.ret ?_); simp only [thenA_exit, inBlockA_exit, if_true, if_false, Nat.reduceEqDiff, thenA_normal, inBlockA_normal, reduceIte, thenA_ret, inBlockA_ret, endQ_ret, endR_ret, endG_ret, endQ_normal, endR_normal, endG_normal, endF_ret, endF_normal])))
    have hdek := delN_ACG (n.kids.map labL) (lbound n.names nm) (by rw [hml]; omega) (labsE_pur n.kids)
    rw [hml] at hdek
    have hks : (n.kids.map labL).take (lbound n.names nm) ++ (n.kids.map labL).drop (lbound n.names nm + 1) = (dropLb n nm).kids.map labL := by
      rw [dropLb_yes hm]; simp [List.map_take, List.map_drop]
    rw [hks] at hdek
    refine arun_callG1 (g := fun k => .own k (n.kids.length - 1)) (R := labsR (dropLb n nm).kids) [(1000, ⟨false, 30, 5, n.kids.map labL⟩)] (fun _ => 1002) 35 (by simp [awant]) rfl (hdek.mono (fun r b h => ⟨1, h⟩)) (by simp) ?_ ?_ (can_of (Nat.le_refl _)) (by simp [upd]) (labsE_pur _) (fun k => .base (.base (.own (by simp) rfl))) ?_
    · exact MvR.same (by simp [upd, rowsOf_cons]) (fun e he c hc => (labsE_pur _ e he c hc).clo) MvR.nil
    · exact .cons (.base (.own (by simp) (by simp))) (.cons (.base (.clo (Clo.cloTo clo_int))) (.cons (.base (.clo (Clo.cloTo clo_int))) .nil))
    (repeat (first | with_reducible refine AW.seq ?_ | ((first | refine arun_kn 4 rfl (fun C hC => ?_) | refine arunD_kn 4 rfl (fun C hC => ?_)); (repeat ((conv => whnf); simp [hml, hsl, hw])); refine hC _ ?_; clear hC C; simp only [List.drop, Nat.reduceAdd]) | ((first | refine arun_kn 1 rfl (fun C hC => ?_) | refine arunD_kn 1 rfl (fun C hC => ?_)); (repeat ((conv => whnf); simp [hml, hsl, hw])); refine hC _ ?_; clear hC C; simp only [List.drop, Nat.reduceAdd]) | (refine arun_skip ?_ ?_; (focus (simp [awant, hml, hsl, hw]; done))) | (refine AW.regionK [] (fun K hK => ?_)) | (refine AW.regionDK [] (pcs [] []) (by kernel_rfl) (by kernel_rfl) (fun K hK => ?_)) | (refine AW.condT ?_ ?_; (focus (simp [aev, hml, hsl, hw]; done))) | (refine AW.condF ?_ ?_; (focus (simp [aev, hml, hsl, hw]; done))) | with_reducible refine AW.block ?_ | ((first | ((first | refine arun_nil ?_ | refine arunD_nil ?_); refine hK _ ?_; clear hK K) | refine AW.skip ?_ | refine AW.exit ?_ | refine AW.ret ?_); simp only [thenA_exit, inBlockA_exit, if_true, if_false, Nat.reduceEqDiff, thenA_normal, inBlockA_normal, reduceIte, thenA_ret, inBlockA_ret, endQ_ret, endR_ret, endG_ret, endQ_normal, endR_normal, endG_normal, endF_ret, endF_normal])))
    refine ⟨.tup [], [(1000, boxLb (dropLb n nm) 24 35), (24, namesR (dropLb n nm).names), (35, labsR (dropLb n nm).kids)], by simp [ares, aresL], ?_, purR_tup (fun _ h => by cases h), purLb, ⟨in_tup.2 (fun _ h => by cases h), inLb⟩, 24, 35, .inr ⟨rfl, rfl⟩, rfl, rfl⟩
    have q1 : (dropLb n nm).kind = n.kind := by rw [dropLb_yes hm]
    have q2 : (dropLb n nm).num = n.num := by rw [dropLb_yes hm]
    have q3 : (dropLb n nm).text = n.text := by rw [dropLb_yes hm]
    have q4 : (dropLb n nm).names.length = n.names.length - 1 := by rw [dropLb_yes hm]; simp; omega
    have q6 : (dropLb n nm).kids.length = n.kids.length - 1 := by rw [dropLb_yes hm]; simp; omega
    unfold boxLb
    rw [q1, q2, q3, q4, q6]
    simp only [List.forall_mem_cons, List.not_mem_nil, false_implies, implies_true, and_true]
    exact ⟨rfl, rfl, rfl⟩
end Go.Proofs.Ytgfnmhfdmmnaoaa.Eng
-- EV: fresh
namespace Go.Proofs.Ytgfnmhfdmmnaoaa.Eng
open Go Go.RowKit
def nuLb (idx A0 B0 : Nat) (k : Nat) : Nat := if k = 1000 then idx else if k = 1001 then A0 else B0
def backLb (m : Lb) (idx A B : Nat) : List (Nat × Row) := [(idx, boxLb m A B), (A, namesR m.names), (B, labsR m.kids)]
def muLb (idx a A B : Nat) (k : Nat) : Nat := if k = 1000 then idx else if k = a then A else B
theorem back_Lb {s : ASt} {n m : Lb} {idx A0 B0 A B a b : Nat} (hab : a ≠ b) (ha : a ≠ 1000) (hb : b ≠ 1000) (hAB : A ≠ B) (hA : A ≠ idx) (hB : B ≠ idx) (uA : s.used A = false) (uB : s.used B = false) :
    Back s (rowsLb n) (nuLb idx A0 B0) (muLb idx a A B) [(1000, boxLb m a b), (a, namesR m.names), (b, labsR m.kids)] (backLb m idx A B) (.tup []) (.tup []) := by
  have m0 : muLb idx a A B 1000 = idx := by unfold muLb; rw [if_pos rfl]
  have m1 : muLb idx a A B a = A := by unfold muLb; rw [if_neg ha, if_pos rfl]
  have m2 : muLb idx a A B b = B := by unfold muLb; rw [if_neg hb, if_neg (fun h => hab h.symm)]
  refine ⟨?_, ?_, ?_, .base (.base (.pur ?_))⟩
  · intro k hk k' hk'
    simp only [List.map_cons, List.map_nil, List.mem_cons, List.not_mem_nil, or_false] at hk hk'
    rcases hk with rfl | rfl | rfl <;> rcases hk' with rfl | rfl | rfl <;> simp only [m0, m1, m2] <;> intro h <;> first | rfl | omega
  · intro k R hk
    have hmem := rowsOf_key hk
    simp only [List.map_cons, List.map_nil, List.mem_cons, List.not_mem_nil, or_false] at hmem
    rcases hmem with rfl | rfl | rfl
    · left
      rw [rowsOf_cons, if_pos rfl] at hk
      cases hk
      exact ⟨by rw [m0]; unfold nuLb; rw [if_pos rfl], rfl, _, by unfold rowsLb; rw [rowsOf_cons, if_pos rfl], rfl⟩
    · right; rw [m1]; exact uA
    · right; rw [m2]; exact uB
  · refine .cons (es := [[.int .i64 m.kind, .int .i64 m.num, .str m.text, .own A m.names.length, .own B m.kids.length]]) m0.symm (.box (.cons (.pur pur_int) (.cons (.pur pur_int) (.cons (.pur pur_str) (.cons (.own (by simp) m1.symm) (.cons (.own (by simp) m2.symm) .nil)))))) (.cons (es := (namesR m.names).es) m1.symm (.refl (strsE_pur _)) (.cons (es := (labsR m.kids).es) m2.symm (.refl (labsE_pur _)) .nil))
  · exact fun w ρ v hr => by
      obtain ⟨vs, rfl, h2⟩ := rep_tup.1 hr
      exact rep_tup.2 ⟨vs, rfl, by unfold RepL at h2 ⊢; exact h2⟩
section
variable {P : Program} {T : Tab} {k0 : Nat} {md : List Nat} {Av : Nat → Prop} {pc : Pc} {ops : Array Oper} {K : ASt → Prop} {o : Oper} {l : List Oper} {s : ASt} {f : FuncId} {xs : List Operand} {args : List AV}
theorem nuLb_inj {n : Lb} {idx A0 B0 : Nat} (h1 : A0 ≠ B0) (h2 : A0 ≠ idx) (h3 : B0 ≠ idx) : ∀ k ∈ (rowsLb n).map (·.1), ∀ k' ∈ (rowsLb n).map (·.1), nuLb idx A0 B0 k = nuLb idx A0 B0 k' → k = k' := by
  intro k hk k' hk'
  simp only [rowsLb, List.map_cons, List.map_nil, List.mem_cons, List.not_mem_nil, or_false] at hk hk'
  rcases hk with rfl | rfl | rfl <;> rcases hk' with rfl | rfl | rfl <;> simp [nuLb] <;> intro h <;> omega
theorem rowsLb_mv {n : Lb} {idx A0 B0 : Nat} (h1 : s.rows idx = some (boxLb n A0 B0)) (h2 : s.rows A0 = some (namesR n.names)) (h3 : s.rows B0 = some (labsR n.kids)) : MvR s.rows ((rowsLb n).map (·.1)) (nuLb idx A0 B0) (rowsLb n) := by
  refine MvR.cons (R := boxLb n A0 B0) (by unfold nuLb; rw [if_pos rfl]; exact h1) rfl rfl rfl (.box (.cons (.clo (Clo.cloTo clo_int)) (.cons (.clo (Clo.cloTo clo_int)) (.cons (.clo (Clo.cloTo clo_str)) (.cons (.own (by simp [rowsLb]) (by simp [nuLb])) (.cons (.own (by simp [rowsLb]) (by simp [nuLb])) .nil)))))) ?_
  refine MvR.same (by simp [nuLb]; exact h2) (fun e he c hc => (strsE_pur _ e he c hc).clo) (MvR.same (by simp [nuLb]; exact h3) (fun e he c hc => (labsE_pur _ e he c hc).clo) MvR.nil)
theorem arun_callL5 {n m : Lb} (idx A0 B0 A B : Nat) {a0 b0 a1 b1 : Nat} (hd0 : a0 ≠ b0 ∧ a0 ≠ 1000 ∧ b0 ≠ 1000 := by decide) (hd1 : a1 ≠ b1 ∧ a1 ≠ 1000 ∧ b1 ≠ 1000 := by decide) (hac : ACG P f args (rowsLb n) 0 (PostLb m a0 b0 a1 b1))
    (h1 : s.rows idx = some (boxLb n A0 B0)) (h2 : s.rows A0 = some (namesR n.names)) (h3 : s.rows B0 = some (labsR n.kids)) (hd : A0 ≠ B0 ∧ A0 ≠ idx ∧ B0 ≠ idx) (hD : A ≠ B ∧ A ≠ idx ∧ B ≠ idx) (uA : s.used A = false) (uB : s.used B = false)
    (hw : awant ops o s = some true) (ha : acall o.op = some (f, xs)) (hargs : MvL s.rows ((rowsLb n).map (·.1)) (nuLb idx A0 B0) (xs.map (aev s)) args) (hcan : s.can 0)
    (h : ARun P T k0 Av md ops K l ((s.back (rowsLb n) (nuLb idx A0 B0) 0 (backLb m idx A B)).put o.dst (.tup []))) : ARun P T k0 Av md ops K (o :: l) s :=
  arun_callG (rowsLb n) (nuLb idx A0 B0) hw ha rfl ⟨hac, nuLb_inj hd.1 hd.2.1 hd.2.2, rowsLb_mv h1 h2 h3, hargs, hcan⟩ (fun r l' hp => by
    obtain ⟨a, b, hab, rfl, rfl⟩ := hp
    rcases hab with ⟨rfl, rfl⟩ | ⟨rfl, rfl⟩
    · exact ⟨_, _, _, back_Lb hd0.1 hd0.2.1 hd0.2.2 hD.1 hD.2.1 hD.2.2 uA uB, h⟩
    · exact ⟨_, _, _, back_Lb hd1.1 hd1.2.1 hd1.2.2 hD.1 hD.2.1 hD.2.2 uA uB, h⟩)
theorem arunD_callL5 {k : Nat} {n m : Lb} (idx A0 B0 A B : Nat) {a0 b0 a1 b1 : Nat} (hd0 : a0 ≠ b0 ∧ a0 ≠ 1000 ∧ b0 ≠ 1000 := by decide) (hd1 : a1 ≠ b1 ∧ a1 ≠ 1000 ∧ b1 ≠ 1000 := by decide) (hac : ACG P f args (rowsLb n) 0 (PostLb m a0 b0 a1 b1))
    (h1 : s.rows idx = some (boxLb n A0 B0)) (h2 : s.rows A0 = some (namesR n.names)) (h3 : s.rows B0 = some (labsR n.kids)) (hd : A0 ≠ B0 ∧ A0 ≠ idx ∧ B0 ≠ idx) (hD : A ≠ B ∧ A ≠ idx ∧ B ≠ idx) (uA : s.used A = false) (uB : s.used B = false)
    (hl : pc.2.contains (1000 + k) = true) (hw : awant ops o s = some true) (ha : acall o.op = some (f, xs)) (hargs : MvL s.rows ((rowsLb n).map (·.1)) (nuLb idx A0 B0) (xs.map (aev s)) args) (hcan : s.can 0)
    (h : ARunD P T md Av pc ops K l (k + 1) ((s.back (rowsLb n) (nuLb idx A0 B0) 0 (backLb m idx A B)).put o.dst (.tup []))) : ARunD P T md Av pc ops K (o :: l) k s :=
  arunD_spcG (rowsLb n) (nuLb idx A0 B0) hl hw ha rfl ⟨hac, nuLb_inj hd.1 hd.2.1 hd.2.2, rowsLb_mv h1 h2 h3, hargs, hcan⟩ ⟨_, _, a0, b0, .inl ⟨rfl, rfl⟩, rfl, rfl⟩ (fun r l' hp => by
    have hin : BackIn (backLb m idx A B) (.tup []) := by
      refine ⟨in_tup.2 (fun _ h => by cases h), ?_⟩
      unfold backLb
      simp only [List.forall_mem_cons, List.not_mem_nil, false_implies, implies_true, and_true, boxLb]
      refine ⟨⟨in_int, in_int, in_str, in_own.2 ?_, in_own.2 ?_⟩, fun e he c hc => strsE_in _ e he c hc, fun e he c hc => labsE_in _ e he c hc⟩
      · show (rowsOf _ A).isSome = true
        rw [rowsOf_cons, if_neg hD.2.1, rowsOf_cons, if_pos rfl]; rfl
      · show (rowsOf _ B).isSome = true
        rw [rowsOf_cons, if_neg hD.2.2, rowsOf_cons, if_neg (fun h => hD.1 h.symm), rowsOf_cons, if_pos rfl]; rfl
    obtain ⟨a, b, hab, rfl, rfl⟩ := hp
    rcases hab with ⟨rfl, rfl⟩ | ⟨rfl, rfl⟩
    · exact ⟨_, _, _, back_Lb hd0.1 hd0.2.1 hd0.2.2 hD.1 hD.2.1 hD.2.2 uA uB, hin, h⟩
    · exact ⟨_, _, _, back_Lb hd1.1 hd1.2.1 hd1.2.2 hD.1 hD.2.1 hD.2.2 uA uB, hin, h⟩)
end
end Go.Proofs.Ytgfnmhfdmmnaoaa.Eng
namespace Go.Proofs.Ytgfnmhfdmmnaoaa.Eng
open Go Go.RowKit
theorem asc_pw {xs : List ByteArray} : Asc xs ↔ xs.Pairwise (fun a b => lt a b = true) := by
  rw [List.pairwise_iff_getElem]
  exact ⟨fun h i j hi hj hij => h i j hi hj hij, fun h i j hi hj hij => h i j hi hj hij⟩
theorem lt_tot {a b : ByteArray} (h : lt a b = false) (hn : a ≠ b) : lt b a = true := by
  rcases bl_cases a b with ⟨h1, h2, _, _, h3⟩ | ⟨h1, h2, _, _, h3⟩ | h'
  · exact absurd (show lt a b = true from h1) (by rw [h]; simp)
  · exact h2
  · exact absurd h' hn
theorem lb_split : ∀ {xs : List ByteArray} {s : ByteArray}, xs.Pairwise (fun a b => lt a b = true) → (∀ a ∈ xs.take (lbound xs s), lt a s = true) ∧ (∀ b ∈ xs.drop (lbound xs s), lt b s = false)
  | [], s, _ => ⟨fun a h => by simp at h, fun a h => by simp at h⟩
  | x :: t, s, h => by
    rw [List.pairwise_cons] at h
    have hlb : lbound (x :: t) s = lbound t s + if lt x s then 1 else 0 := by unfold lbound; rw [List.countP_cons]
    obtain ⟨i1, i2⟩ := lb_split (s := s) h.2
    cases hx : lt x s
    · have h0 : lbound t s = 0 := by
        unfold lbound
        rw [List.countP_eq_zero]
        intro y hy hys
        have := bl_trans _ _ _ (h.1 y hy) hys
        exact absurd (show lt x s = true from this) (by rw [hx]; simp)
      rw [hlb, hx, h0]
      rw [h0] at i2
      refine ⟨fun a ha => by simp at ha, fun b hb => ?_⟩
      simp at hb
      rcases hb with rfl | hb
      · exact hx
      · exact i2 b (by simpa using hb)
    · rw [hlb, hx]
      simp only [if_true, List.take_succ_cons, List.drop_succ_cons, List.mem_cons, forall_eq_or_imp]
      exact ⟨⟨hx, i1⟩, i2⟩
structure MapW (r : Nd) : Prop where
  kd : r.kind = 4
  nz : r.num = 0
  tz : r.text = ⟨#[]⟩
  asc : Asc r.names
  len : r.names.length = r.kids.length
def zK (r : Nd) : List (ByteArray × Nd) := r.names.zip r.kids
theorem zK_len {r : Nd} (h : MapW r) : (zK r).length = r.kids.length := by unfold zK; rw [List.length_zip, h.len, Nat.min_self]
theorem zK_in {r : Nd} (h : MapW r) {x : ByteArray} {v : Nd} (hm : (x, v) ∈ zK r) : mem r.names x = true ∧ kidOf r x = v := by
  obtain ⟨i, he⟩ := List.getElem?_of_mem hm
  unfold zK at he
  rw [List.getElem?_zip_eq_some] at he
  obtain ⟨e3, e4⟩ := he
  obtain ⟨h1, e1⟩ := List.getElem?_eq_some_iff.1 e3
  obtain ⟨h2, e2⟩ := List.getElem?_eq_some_iff.1 e4
  clear e3 e4
  dsimp only at e1 e2
  subst e1 e2
  have hlb := lb_at h.asc h1
  have hmm : mem r.names r.names[i] = true := mem_iff.2 (List.getElem_mem h1)
  refine ⟨hmm, ?_⟩
  rw [kidOf_yes hmm (by rw [hlb]; exact h2)]
  simp only [hlb]
theorem zK_of {r : Nd} (h : MapW r) {x : ByteArray} (hm : mem r.names x = true) : (x, kidOf r x) ∈ zK r := by
  obtain ⟨h1, h2⟩ := Go.Proofs.Ytgfnmhfdmmnaoaa.lb_lt h.asc hm
  have h3 : lbound r.names x < r.kids.length := by rw [← h.len]; exact h1
  rw [kidOf_yes hm h3]
  have : (zK r)[lbound r.names x]? = some (x, r.kids[lbound r.names x]) := by
    unfold zK
    rw [List.getElem?_zip_eq_some]
    exact ⟨by rw [List.getElem?_eq_getElem h1, h2], List.getElem?_eq_getElem h3⟩
  exact List.mem_of_getElem? this
theorem putK_w {r : Nd} (h : MapW r) (nm : ByteArray) (v : Nd) : MapW (putK r nm v) ∧ (nm, v) ∈ zK (putK r nm v) ∧ (∀ x w, x ≠ nm → (x, w) ∈ zK r → (x, w) ∈ zK (putK r nm v)) ∧ (∀ x, mem (putK r nm v).names x = true → x = nm ∨ mem r.names x = true) := by
  cases hm : mem r.names nm
  · rw [putK_no hm]
    have hle := lbn_le r.names nm
    have hl := h.len
    obtain ⟨s1, s2⟩ := lb_split (s := nm) (asc_pw.1 h.asc)
    have hz : zK ⟨r.kind, r.num, r.text, r.names.take (lbound r.names nm) ++ (nm :: r.names.drop (lbound r.names nm)), r.kids.take (lbound r.names nm) ++ (v :: r.kids.drop (lbound r.names nm))⟩ = (zK r).take (lbound r.names nm) ++ ((nm, v) :: (zK r).drop (lbound r.names nm)) := by
      unfold zK
      dsimp only
      rw [List.zip_append (by rw [List.length_take, List.length_take]; omega), List.zip_cons_cons]
      congr 1
      · exact (List.take_zipWith ..).symm
      · congr 1; exact (List.drop_zipWith ..).symm
    refine ⟨⟨h.kd, h.nz, h.tz, ?_, by dsimp only; simp only [List.length_append, List.length_cons, List.length_take, List.length_drop]; omega⟩, ?_, fun x w hx hxw => ?_, fun x hx => ?_⟩
    · rw [asc_pw]
      dsimp only
      have hp := asc_pw.1 h.asc
      rw [← List.take_append_drop (lbound r.names nm) r.names, List.pairwise_append] at hp
      rw [List.pairwise_append, List.pairwise_cons]
      have hb : ∀ b ∈ r.names.drop (lbound r.names nm), lt nm b = true := fun b hb => lt_tot (s2 b hb) (fun e => by
        subst e
        have := mem_iff.2 (List.mem_of_mem_drop hb)
        rw [hm] at this; cases this)
      refine ⟨hp.1, ⟨hb, hp.2.1⟩, fun a ha b hb' => ?_⟩
      rcases List.mem_cons.1 hb' with rfl | hb'
      · exact s1 a ha
      · exact hp.2.2 a ha b hb'
    · rw [hz]; simp
    · rw [hz]
      rw [← List.take_append_drop (lbound r.names nm) (zK r)] at hxw
      rcases List.mem_append.1 hxw with h | h
      · exact List.mem_append.2 (.inl h)
      · exact List.mem_append.2 (.inr (List.mem_cons.2 (.inr h)))
    · rw [mem_iff] at hx
      dsimp only at hx
      rw [List.mem_append, List.mem_cons] at hx
      rcases hx with hx | rfl | hx
      · exact .inr (mem_iff.2 (List.mem_of_mem_take hx))
      · exact .inl rfl
      · exact .inr (mem_iff.2 (List.mem_of_mem_drop hx))
  · rw [putK_yes hm]
    obtain ⟨h1, h2⟩ := Go.Proofs.Ytgfnmhfdmmnaoaa.lb_lt h.asc hm
    have h3 : lbound r.names nm < r.kids.length := by rw [← h.len]; exact h1
    have hW : MapW ⟨r.kind, r.num, r.text, r.names, r.kids.set (lbound r.names nm) v⟩ := ⟨h.kd, h.nz, h.tz, h.asc, by dsimp only; rw [List.length_set]; exact h.len⟩
    refine ⟨hW, ?_, fun x w hx hxw => ?_, fun x hx => .inr hx⟩
    · have : (zK ⟨r.kind, r.num, r.text, r.names, r.kids.set (lbound r.names nm) v⟩)[lbound r.names nm]? = some (nm, v) := by
        unfold zK
        rw [List.getElem?_zip_eq_some]
        exact ⟨by dsimp only; rw [List.getElem?_eq_getElem h1, h2], by dsimp only; rw [List.getElem?_set_self h3]⟩
      exact List.mem_of_getElem? this
    · obtain ⟨i, hi⟩ := List.getElem?_of_mem hxw
      unfold zK at hi
      rw [List.getElem?_zip_eq_some] at hi
      have hne : lbound r.names nm ≠ i := fun e => by
        subst e
        have := hi.1
        dsimp only at this
        rw [List.getElem?_eq_getElem h1, h2] at this
        exact hx (Option.some.inj this).symm
      have : (zK ⟨r.kind, r.num, r.text, r.names, r.kids.set (lbound r.names nm) v⟩)[i]? = some (x, w) := by
        unfold zK
        rw [List.getElem?_zip_eq_some]
        exact ⟨hi.1, by dsimp only; rw [List.getElem?_set_ne hne]; exact hi.2⟩
      exact List.mem_of_getElem? this
theorem dropK_w {r : Nd} (h : MapW r) (nm : ByteArray) : MapW (dropK r nm) ∧ mem (dropK r nm).names nm = false ∧ (∀ x w, x ≠ nm → (x, w) ∈ zK r → (x, w) ∈ zK (dropK r nm)) ∧ (∀ x, mem (dropK r nm).names x = true → x ≠ nm ∧ mem r.names x = true) := by
  cases hm : mem r.names nm
  · rw [dropK_no hm]
    exact ⟨h, hm, fun x w _ hx => hx, fun x hx => ⟨(fun e => by subst e; rw [hm] at hx; cases hx), hx⟩⟩
  · rw [dropK_yes hm]
    obtain ⟨h1, h2⟩ := Go.Proofs.Ytgfnmhfdmmnaoaa.lb_lt h.asc hm
    have h3 : lbound r.names nm < r.kids.length := by rw [← h.len]; exact h1
    have hl := h.len
    have hp := asc_pw.1 h.asc
    have hsp : r.names = r.names.take (lbound r.names nm) ++ (nm :: r.names.drop (lbound r.names nm + 1)) := by
      conv => lhs; rw [← List.take_append_drop (lbound r.names nm) r.names, List.drop_eq_getElem_cons h1, h2]
    have hp2 := hp
    rw [hsp, List.pairwise_append, List.pairwise_cons] at hp2
    obtain ⟨p1, ⟨p2, p3⟩, p4⟩ := hp2
    have hin : ∀ x, x ∈ r.names.take (lbound r.names nm) ++ r.names.drop (lbound r.names nm + 1) → x ≠ nm ∧ x ∈ r.names := fun x hx => by
      rcases List.mem_append.1 hx with hx | hx
      · refine ⟨fun e => ?_, List.mem_of_mem_take hx⟩
        subst e
        have := p4 x hx x (by simp)
        rw [lt_irr] at this; cases this
      · refine ⟨fun e => ?_, List.mem_of_mem_drop hx⟩
        subst e
        have := p2 x hx
        rw [lt_irr] at this; cases this
    refine ⟨⟨h.kd, h.nz, h.tz, ?_, by dsimp only; simp only [List.length_append, List.length_take, List.length_drop]; omega⟩, ?_, fun x w hx hxw => ?_, fun x hx => ?_⟩
    · rw [asc_pw]
      dsimp only
      rw [List.pairwise_append]
      exact ⟨p1, p3, fun a ha b hb => p4 a ha b (by simp [hb])⟩
    · exact mem_no (fun hx => (hin nm hx).1 rfl)
    · have hz : zK ⟨r.kind, r.num, r.text, r.names.take (lbound r.names nm) ++ r.names.drop (lbound r.names nm + 1), r.kids.take (lbound r.names nm) ++ r.kids.drop (lbound r.names nm + 1)⟩ = (zK r).take (lbound r.names nm) ++ (zK r).drop (lbound r.names nm + 1) := by
        unfold zK
        dsimp only
        rw [List.zip_append (by rw [List.length_take, List.length_take]; omega)]
        congr 1
        · exact (List.take_zipWith ..).symm
        · exact (List.drop_zipWith ..).symm
      rw [hz]
      have hzl : lbound r.names nm < (zK r).length := by rw [zK_len h]; exact h3
      have hzg : (zK r)[lbound r.names nm] = (nm, r.kids[lbound r.names nm]) := by
        have : (zK r)[lbound r.names nm]? = some (nm, r.kids[lbound r.names nm]) := by
          unfold zK
          rw [List.getElem?_zip_eq_some]
          exact ⟨by rw [List.getElem?_eq_getElem h1, h2], List.getElem?_eq_getElem h3⟩
        rw [List.getElem?_eq_getElem hzl] at this
        exact Option.some.inj this
      rw [← List.take_append_drop (lbound r.names nm) (zK r), List.drop_eq_getElem_cons hzl, hzg] at hxw
      rcases List.mem_append.1 hxw with hq | hq
      · exact List.mem_append.2 (.inl hq)
      · rcases List.mem_cons.1 hq with hq | hq
        · exact absurd (congrArg Prod.fst hq) hx
        · exact List.mem_append.2 (.inr hq)
    · have := hin x (mem_iff.1 hx)
      exact ⟨this.1, mem_iff.2 this.2⟩
theorem kidOf_put {r : Nd} (h : MapW r) (nm : ByteArray) (v : Nd) (x : ByteArray) : kidOf (putK r nm v) x = if x = nm then v else kidOf r x := by
  obtain ⟨h1, h2, h3, h4⟩ := putK_w h nm v
  by_cases e : x = nm
  · subst e; rw [if_pos rfl]; exact (zK_in h1 h2).2
  · rw [if_neg e]
    cases hm : mem r.names x
    · have : mem (putK r nm v).names x = false := by
        cases hq : mem (putK r nm v).names x
        · rfl
        · rcases h4 x hq with h | h
          · exact absurd h e
          · rw [hm] at h; cases h
      rw [kidOf_no this, kidOf_no hm]
    · exact (zK_in h1 (h3 x _ e (zK_of h hm))).2
theorem kidOf_drop {r : Nd} (h : MapW r) (nm : ByteArray) (x : ByteArray) : kidOf (dropK r nm) x = if x = nm then Nd.zero else kidOf r x := by
  obtain ⟨h1, h2, h3, h4⟩ := dropK_w h nm
  by_cases e : x = nm
  · subst e; rw [if_pos rfl]; exact kidOf_no h2
  · rw [if_neg e]
    cases hm : mem r.names x
    · have : mem (dropK r nm).names x = false := by
        cases hq : mem (dropK r nm).names x
        · rfl
        · rw [(h4 x hq).2] at hm; cases hm
      rw [kidOf_no this, kidOf_no hm]
    · exact (zK_in h1 (h3 x _ e (zK_of h hm))).2
theorem putK_kids {r v k : Nd} {nm : ByteArray} (h : k ∈ (putK r nm v).kids) : k = v ∨ k ∈ r.kids := by
  cases hm : mem r.names nm
  · rw [putK_no hm] at h
    rcases List.mem_append.1 h with h | h
    · exact .inr (List.mem_of_mem_take h)
    · rcases List.mem_cons.1 h with h | h
      · exact .inl h
      · exact .inr (List.mem_of_mem_drop h)
  · rw [putK_yes hm] at h
    exact (List.mem_or_eq_of_mem_set h).symm
theorem dropK_kids {r k : Nd} {nm : ByteArray} (h : k ∈ (dropK r nm).kids) : k ∈ r.kids := by
  cases hm : mem r.names nm
  · rw [dropK_no hm] at h; exact h
  · rw [dropK_yes hm] at h
    rcases List.mem_append.1 h with h | h
    · exact List.mem_of_mem_take h
    · exact List.mem_of_mem_drop h
theorem putK_klen {r v : Nd} {nm : ByteArray} : (putK r nm v).kids.length ≤ r.kids.length + 1 := by
  cases hm : mem r.names nm
  · rw [putK_no hm]; simp; omega
  · rw [putK_yes hm]; simp
theorem dropK_klen {r : Nd} {nm : ByteArray} : (dropK r nm).kids.length ≤ r.kids.length := by
  cases hm : mem r.names nm
  · rw [dropK_no hm]; exact Nat.le_refl _
  · rw [dropK_yes hm]; simp; omega
def baseM (n : Nd) : Nd := if n.kind = 4 then n else ⟨4, 0, ⟨#[]⟩, [], []⟩
mutual
def mrg : Nd → Nd → Nd
  | ⟨kind, num, text, names, kids⟩, n => if kind = 4 then mrgL names kids (baseM n) else ⟨kind, num, text, names, kids⟩
def mrgL : List ByteArray → List Nd → Nd → Nd
  | _, [], r => r
  | ns, k :: ks, r => mrgL ns.tail ks (if k.kind = 0 then dropK r (ns.headD ⟨#[]⟩) else putK r (ns.headD ⟨#[]⟩) (mrg k (kidOf r (ns.headD ⟨#[]⟩))))
end
def stepN (r : Nd) (nm : ByteArray) (k : Nd) : Nd := if k.kind = 0 then dropK r nm else putK r nm (mrg k (kidOf r nm))
theorem mrg_map {p : Nd} (h : p.kind = 4) (n : Nd) : mrg p n = mrgL p.names p.kids (baseM n) := by cases p; rw [mrg, if_pos h]
theorem mrg_no {p : Nd} (h : p.kind ≠ 4) (n : Nd) : mrg p n = p := by cases p; rw [mrg, if_neg h]
theorem mrgL_step {ns : List ByteArray} {ks : List Nd} {i : Nat} (h1 : i < ns.length) (h2 : i < ks.length) (r : Nd) : mrgL (ns.drop i) (ks.drop i) r = mrgL (ns.drop (i + 1)) (ks.drop (i + 1)) (stepN r ns[i] ks[i]) := by
  rw [List.drop_eq_getElem_cons h1, List.drop_eq_getElem_cons h2, mrgL]
  rfl
theorem shp_zero : Shp Nd.zero := ⟨1, by simp [shapeB_eq, partsB, Nd.zero, shapeL]⟩
theorem base_w {n : Nd} (h : Shp n) : MapW (baseM n) := by
  unfold baseM
  split
  · rename_i h4
    have hp := h.parts
    unfold partsB at hp
    simp only [Bool.and_eq_true, Bool.or_eq_true, decide_eq_true_eq] at hp
    obtain ⟨⟨⟨h1, h2⟩, h3⟩, _⟩ := hp
    refine ⟨h4, by rcases h1 with h | h <;> omega, ?_, h.asc h4, ((h.map h4).2).symm⟩
    rcases h2 with h | h
    · omega
    · have ht : n.text.toList = [] := by simpa using h
      exact of_decide_eq_true (by rw [← beq_toList, ht]; decide +kernel)
  · exact ⟨rfl, rfl, rfl, fun i j hi => by simp at hi, rfl⟩
theorem base_kids {n : Nd} (h : Shp n) : (baseM n).kids.length ≤ 6 ∧ ∀ k ∈ (baseM n).kids, Shp k := by
  unfold baseM
  split
  · exact ⟨h.kids, fun k hk => h.kid hk⟩
  · exact ⟨by simp, fun k hk => by cases hk⟩
theorem base_old {n : Nd} (h : Shp n) (x : ByteArray) : Shp (kidOf (baseM n) x) := by
  have hw := base_w h
  cases hm : mem (baseM n).names x
  · rw [kidOf_no hm]; exact shp_zero
  · exact (base_kids h).2 _ (kidOf_mem hw.asc (by rw [hw.len]; exact Nat.le_refl _) hm)
structure Mid (n p : Nd) (i : Nat) (r : Nd) : Prop where
  w : MapW r
  wide : r.kids.length ≤ 6 + i
  sml : ∀ k ∈ r.kids, Sml k
  old : ∀ x, x ∉ p.names.take i → kidOf r x = kidOf (baseM n) x
theorem Mid.start {n : Nd} (h : Shp n) (p : Nd) : Mid n p 0 (baseM n) := ⟨base_w h, (base_kids h).1, fun k hk => ((base_kids h).2 k hk).sml, fun _ _ => rfl⟩
theorem fresh_name {p : Nd} (hp : Shp p) (h4 : p.kind = 4) {i : Nat} (hi : i < p.names.length) : p.names[i] ∉ p.names.take i := fun hm => by
  obtain ⟨j, hj, he⟩ := List.getElem_of_mem hm
  rw [List.length_take] at hj
  rw [List.getElem_take] at he
  have := hp.asc h4 j i (by omega) hi (by omega)
  rw [he, lt_irr] at this; cases this
theorem Mid.kid {n p r : Nd} {i : Nat} (h : Mid n p i r) (hp : Shp p) (h4 : p.kind = 4) (hn : Shp n) (hi : i < p.names.length) : kidOf r p.names[i] = kidOf (baseM n) p.names[i] := h.old _ (fresh_name hp h4 hi)
theorem Mid.step {n p r : Nd} {i : Nat} (h : Mid n p i r) (hi : i < p.names.length) (hk : i < p.kids.length) (hs : p.kids[i].kind ≠ 0 → Sml (mrg p.kids[i] (kidOf r p.names[i]))) : Mid n p (i + 1) (stepN r p.names[i] p.kids[i]) := by
  have hx : ∀ x, x ∉ p.names.take (i + 1) → x ≠ p.names[i] ∧ x ∉ p.names.take i := fun x hx => by
    rw [List.take_add_one, List.getElem?_eq_getElem hi, Option.toList_some, List.mem_append, List.mem_singleton] at hx
    exact ⟨fun e => hx (.inr e), fun e => hx (.inl e)⟩
  unfold stepN
  split
  · exact ⟨(dropK_w h.w _).1, by have := h.wide; have := dropK_klen (r := r) (nm := p.names[i]); omega, fun k hk => h.sml k (dropK_kids hk), fun x hxn => by
      rw [kidOf_drop h.w, if_neg (hx x hxn).1]; exact h.old x (hx x hxn).2⟩
  · rename_i h0
    exact ⟨(putK_w h.w _ _).1, by have := h.wide; have := putK_klen (r := r) (nm := p.names[i]) (v := mrg p.kids[i] (kidOf r p.names[i])); omega, fun k hk => by
      rcases putK_kids hk with rfl | hk
      · exact hs h0
      · exact h.sml k hk, fun x hxn => by
      rw [kidOf_put h.w, if_neg (hx x hxn).1]; exact h.old x (hx x hxn).2⟩
theorem Mid.smlR {n p r : Nd} {i : Nat} (h : Mid n p i r) (hi : i ≤ 6) : Sml r := .mk _ (by rw [h.w.len]; have := h.wide; omega) (by have := h.wide; omega) h.sml
theorem mrg_loop {n p : Nd} (hp : Shp p) (h4 : p.kind = 4) (I : Nat → Nd → Prop) (h0 : I 0 (baseM n)) (hs : ∀ i (hi : i < p.names.length) (hk : i < p.kids.length) r, I i r → I (i + 1) (stepN r p.names[i] p.kids[i])) : I p.kids.length (mrg p n) := by
  have hl := (hp.map h4).2
  have key : ∀ j, j ≤ p.kids.length → ∃ r, I j r ∧ mrgL (p.names.drop j) (p.kids.drop j) r = mrg p n := fun j => by
    induction j with
    | zero => exact fun _ => ⟨_, h0, by rw [mrg_map h4]; rfl⟩
    | succ j ih =>
      intro hj
      obtain ⟨r, h1, h2⟩ := ih (by omega)
      rw [mrgL_step (by omega) (by omega)] at h2
      exact ⟨_, hs j (by omega) (by omega) r h1, h2⟩
  obtain ⟨r, h1, h2⟩ := key _ (Nat.le_refl _)
  rw [List.drop_of_length_le (Nat.le_refl _), List.drop_of_length_le (by omega), mrgL] at h2
  rw [← h2]; exact h1
theorem mrg_sml : ∀ p, Shp p → ∀ n, Shp n → Sml (mrg p n) := Nd.ind' _ (fun p ih hp n hn => by
  by_cases h4 : p.kind = 4
  · have h6 := hp.kids
    refine Mid.smlR (n := n) (p := p) (mrg_loop hp h4 (Mid n p) (Mid.start hn p) (fun i hi hk r h => h.step hi hk (fun _ => ?_))) h6
    rw [h.kid hp h4 hn hi]
    exact ih _ (List.getElem_mem hk) (hp.kid (List.getElem_mem hk)) _ (base_old hn _)
  · rw [mrg_no h4]; exact hp.sml)
theorem Mid.next {n p r : Nd} {i : Nat} (h : Mid n p i r) (hp : Shp p) (h4 : p.kind = 4) (hn : Shp n) (hi : i < p.names.length) (hk : i < p.kids.length) : Mid n p (i + 1) (stepN r p.names[i] p.kids[i]) := h.step hi hk (fun _ => by
  rw [h.kid hp h4 hn hi]
  exact mrg_sml _ (hp.kid (List.getElem_mem hk)) _ (base_old hn _))
end Go.Proofs.Ytgfnmhfdmmnaoaa.Eng
namespace Go.Proofs.Ytgfnmhfdmmnaoaa.Eng
open Go Go.RowKit
section
variable {P : Program} {w0 : W0} {S0 : Nat → Prop} {rd0 : Option Nat} {k0 : Nat} {w : World} {a : Act} {s : ASt} {ρ : Cx}
end
section
variable {P : Program} {T : Tab} {hT : Tab.Ok P T} {hm : P.follows .mixedOrders = true} {w0 : W0} {S0 : Nat → Prop} {rd0 : Option Nat} {k0 : Nat} {Q : Exit → ASt → Prop} {s : ASt} {code : Code}
end
section
variable {P : Program} {T : Tab} {k0 : Nat} {md : List Nat} {Av : Nat → Prop} {ops : Array Oper} {K : ASt → Prop} {o : Oper} {l : List Oper} {s : ASt}
end
end Go.Proofs.Ytgfnmhfdmmnaoaa.Eng
-- EV: fresh
namespace Go.Proofs.Ytgfnmhfdmmnaoaa
open Go.RowKit
theorem openV_node {w : World} {S : Nat → Prop} {x : Nd} {v : Value} (h : RV nodeRep packA w S x v) : ∃ na nc ka kc, v = nodeV x na nc ka kc := by
  obtain ⟨na, nc, ka, kc, hv, _⟩ := node_open h
  exact ⟨na, nc, ka, kc, hv⟩
theorem cntT_zero : cntT Nd.zero = 0 := by unfold cntT Nd.zero; simp [cntL]
namespace Eng
def rNB (m : Nd) (b : Bool) (r : AV) : Prop := ∃ l : Lb, l.nd = m ∧ l.fp.Nodup ∧ r = .tup [labA l, .bool b]
theorem rNB_none {r : AV} (h : r = .tup [node0 0 0 ⟨#[]⟩, .bool false]) : Pur r ∧ (∀ B : Nat, ∀ b ∈ atB r, B ≤ b) ∧ ∃ r', Wk r r' ∧ (∀ b ∈ atB r', b ∈ atB r) ∧ rNB Nd.zero false r' := by
  subst h
  refine ⟨tup2_pur (node0_pur _ _ _) pur_bool, ?_, .tup [labA ⟨0, 0, ⟨#[]⟩, [], 0, [], 0⟩, .bool false], Wk.tup (.cons ?_ (.cons (Wk.refl _) .nil)), ?_, ⟨0, 0, ⟨#[]⟩, [], 0, [], 0⟩, by rw [nd_eq]; rfl, by rw [fp_eq]; simp [frB_fr], rfl⟩
  · intro B b hb
    simp [node0, at_tup, at_agg, atL_cons, atL_nil, at_int, at_str, at_bool, at_view, atE_nil, frB_tight] at hb
  · unfold node0 labA
    rw [labL_eq]
    exact .agg (.cons (Wk.refl _) (.cons (Wk.refl _) (.cons (Wk.refl _) (.cons (Wk.nil (fun h => by cases h)) (.cons (Wk.nil (fun h => by cases h)) .nil)))))
  · intro b hb
    rw [at_tup, atL_cons, at_lab, fp_eq] at hb
    simp [frB_fr, atL_cons, atL_nil, at_bool] at hb
theorem ACF.weak {P : Program} {f : FuncId} {args : List AV} {c : Nat} {Q : AV → Prop} (h : ACF P f args c (fun r => ∃ r', Wk r r' ∧ (∀ b ∈ atB r', b ∈ atB r) ∧ Q r')) : ACF P f args c Q :=
  ⟨h.1, fun w L S rb k vs h0 h1 h2 h3 => (h.2 w L S rb k vs h0 h1 h2 h3).mono fun e w' ⟨v, r, S', k1, k2, k3, k4, k5, k6, ⟨r', q1, q2, q3⟩, k8⟩ => ⟨v, r', S', k1, k2, k3, k4, k5, q1 _ _ _ k6, q3, fun b hb => k8 b (q2 b hb)⟩⟩
theorem at_tup2 (l : Lb) (b : Bool) : atB (.tup [labA l, .bool b]) = l.fp := by
  rw [at_tup, atL_cons, atL_cons, atL_nil, at_lab, at_bool]; simp
theorem acf_nb {P : Program} {f : FuncId} {args : List AV} {m : Nd} {b : Bool} (h : ACF P f args 0 (rNB m b)) (w : World) (vs : List Value) (hargs : RepL w (pureC nil (fun k => k < w.heap.size) none) args vs) :
    Calls P f vs.toArray w fun e w' => ∃ v fp, e = .returned (.tuple #[v, .bool b]) ∧ Grow w w' ∧ FV nodeRep packA w' m v fp ∧ Free w.heap.size w' fp := by
  refine (h.2 w nil (fun k => k < w.heap.size) none 0 vs (fun _ h => h.elim) (fun _ h => h) (fun _ h => by cases h) hargs).mono ?_
  rintro e w' ⟨v, r, S', rfl, hx, hS1, hS2, _, hr, ⟨l, rfl, hnp, rfl⟩, hb⟩
  rw [at_tup2] at hb
  obtain ⟨us, rfl, h2⟩ := rep_tup.1 hr
  obtain ⟨v0, p0, q0⟩ := h2.get (i := 0) rfl
  obtain ⟨v1, p1, q1⟩ := h2.get (i := 1) rfl
  have hl := h2.length
  simp only [List.length_cons, List.length_nil] at hl
  have hus : us = [v0, v1] := by
    apply List.ext_getElem?
    intro i
    rcases i with _ | _ | i
    · exact p0
    · exact p1
    · rw [List.getElem?_eq_none (by omega), List.getElem?_eq_none (by simp)]
  subst hus
  rw [rep_bool] at q1
  subst q1
  have hg := Grow.ofNone hx
  refine ⟨v0, l.fp, rfl, hg, fv_of_rep q0, hnp, fun k hk => ?_⟩
  have hat := q0.at k (by rw [at_lab]; exact hk)
  refine ⟨hb k hk, ?_, hat.2⟩
  rcases hS2 k hat.1 with h | h
  · exact Nat.lt_of_lt_of_le h hg.size
  · exact h.2
theorem ac_of_nb {P : Program} {f : FuncId} {args : List AV} {m : Nd} {b : Bool} (h : ACF P f args 0 (rNB m b)) : AC P f args 0 (fun r => r = .tup [nodeA m, .bool b]) := by
  refine AC.weak (h.toAC.mono ?_)
  rintro r ⟨l, rfl, _, rfl⟩
  exact ⟨.tup [nodeA l.nd, .bool b], Wk.tup (.cons (Wk.agg (labL_wk l)) (.cons (Wk.refl _) .nil)), rfl⟩
theorem arg_node {w : World} {n : Nd} {v : Value} (h : RV nodeRep packA w Go.Proofs.Ytgfnmhfdmmnaoaa.any n v) : Rep w (pureC nil (fun k => k < w.heap.size) none) (nodeA n) v := rep_of_node (node_open h.under)
theorem args1 {w : World} {ρ : Cx} {a : AV} {v : Value} (h : Rep w ρ a v) : RepL w ρ [a] [v] := by unfold RepL; exact ⟨_, _, rfl, h, by unfold RepL; rfl⟩
theorem args2 {w : World} {ρ : Cx} {a b : AV} {v u : Value} (h : Rep w ρ a v) (k : Rep w ρ b u) : RepL w ρ [a, b] [v, u] := by unfold RepL; exact ⟨_, _, rfl, h, args1 k⟩
end Eng
end Go.Proofs.Ytgfnmhfdmmnaoaa
namespace Go.Proofs.Ytgfnmhfdmmnaoaa.Eng
open Go Go.RowKit
def setK (n : Nd) (k : Nat) (v : Nd) : Nd := ⟨n.kind, n.num, n.text, n.names, n.kids.set k v⟩
def setS : Nd → List ByteArray → Nd → Option Nd
  | _, [], v => some v
  | n, s :: p, v => if 0 ≤ placeI n s then (setS ((n.kids[(placeI n s).toNat]?).getD Nd.zero) p v).map (setK n (placeI n s).toNat) else none
def delK (n : Nd) (k : Nat) : Nd := ⟨n.kind, 0, ⟨#[]⟩, if n.kind = 4 then n.names.take k ++ n.names.drop (k + 1) else [], n.kids.take k ++ n.kids.drop (k + 1)⟩
theorem delK_sml {n : Nd} {k : Nat} (hn : Sml n) : Sml (delK n k) :=
  .mk _ (by
    have := hn.names
    unfold delK
    dsimp only
    split
    · simp only [List.length_append, List.length_take, List.length_drop]; omega
    · simp) (by
    have := hn.kids
    simp only [delK, List.length_append, List.length_take, List.length_drop]; omega) (fun x hx => by
    simp only [delK, List.mem_append] at hx
    rcases hx with h | h
    · exact hn.kid (List.mem_of_mem_take h)
    · exact hn.kid (List.mem_of_mem_drop h))
def remS (n : Nd) (p : List ByteArray) : Option Nd :=
  match p.getLast? with
  | none => none
  | some s => (getS n p.dropLast).bind (fun m => if 0 ≤ placeI m s then setS n p.dropLast (delK m (placeI m s).toNat) else none)
def nmI (st : ByteArray) : List ByteArray → Nat
  | [] => 0
  | x :: xs => if lts st x then 0 else nmI st xs + 1
theorem nmI_le (st : ByteArray) : ∀ l : List ByteArray, nmI st l ≤ l.length
  | [] => Nat.le_refl _
  | x :: xs => by
    rw [nmI]
    split
    · exact Nat.zero_le _
    · have := nmI_le st xs; simp; omega
theorem nmI_drop {st : ByteArray} {l : List ByteArray} {i : Nat} (hi : i < l.length) (h : lts st l[i] = false) : nmI st (l.drop i) + i = nmI st (l.drop (i + 1)) + (i + 1) := by
  rw [List.drop_eq_getElem_cons hi, nmI, h]
  simp only [Bool.false_eq_true, if_false]; omega
theorem nmI_at {st : ByteArray} {l : List ByteArray} {i : Nat} (hi : i < l.length) (h : lts st l[i] = true) : nmI st (l.drop i) = 0 := by
  rw [List.drop_eq_getElem_cons hi, nmI, h]; rfl
def insL {α : Type} (l : List α) (i : Nat) (x : α) : List α := l.take i ++ [x] ++ l.drop i
def insKid (n : Nd) (i : Nat) (st : ByteArray) (v : Nd) : Nd := ⟨n.kind, 0, ⟨#[]⟩, if n.kind = 4 then insL n.names i st else [], insL n.kids i v⟩
def dash : ByteArray := ⟨#[45]⟩
def slotS (n : Nd) (st : ByteArray) : Option (Nat × Bool) :=
  if 0 ≤ placeI n st then some ((placeI n st).toNat, decide (n.kind = 4))
  else if n.kind = 3 ∧ (eqs st dash || eqs st (txt (dig1 n.kids.length))) = true then some (n.kids.length, false)
  else if n.kind = 4 then some (nmI st n.names, false) else none
def addK (n : Nd) (st : ByteArray) (v : Nd) : Option Nd :=
  (slotS n st).map (fun x => if x.2 then setK n x.1 v else insKid n x.1 st v)
structure Slt (n : Nd) : Prop where
  map : n.kind = 4 → n.names.length = n.kids.length
  lst : n.kind = 3 → n.kids.length ≤ 6
  sml : Sml n
theorem Slt.plc {n : Nd} (h : Slt n) : Plc n := ⟨fun h4 => by have := h.map h4; omega, fun h3 => by have := h.lst h3; omega⟩
theorem Shp.slt {n : Nd} (h : Shp n) : Slt n := ⟨fun h4 => ((h.map h4).2).symm, fun _ => h.kids, h.sml⟩
theorem slotS_lt {n : Nd} {st : ByteArray} (h : Slt n) {i : Nat} {b : Bool} (he : slotS n st = some (i, b)) : (b = true → n.kind = 4 ∧ i < n.kids.length) ∧ (b = false → (n.kind = 3 ∨ n.kind = 4) ∧ i ≤ n.kids.length) := by
  unfold slotS at he
  rcases placeI_cases n st with ⟨h1, _⟩ | ⟨k, h1, h2, h3⟩
  · rw [h1, if_neg (by omega)] at he
    split at he
    · rename_i h3
      cases he
      exact ⟨fun h => (by cases h), fun _ => ⟨.inl h3.1, Nat.le_refl _⟩⟩
    · split at he
      · rename_i h4
        cases he
        refine ⟨fun h => (by cases h), fun _ => ⟨.inr h4, ?_⟩⟩
        rw [← h.map h4]
        exact nmI_le _ _
      · cases he
  · rw [h2, if_pos (by omega), Int.toNat_natCast] at he
    cases he
    refine ⟨fun h => ⟨by simpa using h, h1⟩, fun h4 => ⟨.inl ?_, by omega⟩⟩
    simp at h4
    simp [hitP, h4] at h3
    exact h3.1
end Go.Proofs.Ytgfnmhfdmmnaoaa.Eng
-- EV: fresh
namespace Go.Proofs.Ytgfnmhfdmmnaoaa.Eng
open Go Go.RowKit
attribute [local simp] big size_mk ASt.pay Option.map_map Function.comp_def awant aop acall ado aev ofVal ofVal0 ASt.put ASt.add ASt.turn ASt.kill abox aalloc astore aload aloadD astoreD idOf ASt.at cellsTo afieldAddr afield aindexAddr aindex alen abin aint acmp astr aun apick aextract anil aslice abound abuild afill abuildSlice asCells aps avCells over upd aappend asrc amax amin aconv mkSt slots rowsOf_cons rowsOf_nil usedOf_cons usedOf_nil ZK.av List.replicate ASt.back ASt.addL ASt.killL nodeA nodeT nodeTL_eq nodeL_eq strsE_get strsE_len intsE_get intsE_len strsE_at intsE_at tab2 tab3 tab4 tab5 tab6 tab7 tab8 tab9 tab10 tab11 tab12 tab13 tab14 tab15 tab16 tab17 tab18 tab19 tab21 tab22 tab23 tab24 tab25 tab26 tab27 tab28 tab29 tab30 tab39 tab40 tab41 tab42 tab43 tab47 tab48 tab55 tab56 tab57 tab60 tab61 tab62 tab73 tab74 tab75 tab85 tab92 tab115 tab116 tab143 tab144 tab145 tab154 tab155 tab170 tab175 tab182 tab197 tab198 tab203 tab204 tab205 tab207 tab208 tab209
theorem back_copyF {s : ASt} {n : Nd} {ks : List Lb} {A B : Nat} (hAB : A ≠ B) (uA : s.used A = false) (uB : s.used B = false) : Back s [] (fun _ => 0) (fun k => if k = 20 then A else B) [(20, namesR n.names), (34, labsR ks)] [(A, namesR n.names), (B, labsR ks)] (nodeRR n 20 34) (nodeRR n A B) := by
  refine ⟨?_, ?_, ?_, ?_⟩
  · intro k hk k' hk'
    simp only [List.map_cons, List.map_nil, List.mem_cons, List.not_mem_nil, or_false] at hk hk'
    rcases hk with rfl | rfl <;> rcases hk' with rfl | rfl <;> simp <;> intro h <;> first | exact absurd h hAB | exact absurd h.symm hAB
  · intro k R hk
    right
    show s.used (if k = 20 then A else B) = false
    split
    · exact uA
    · exact uB
  · exact .cons (es := (namesR n.names).es) rfl (.refl (strsE_pur _)) (.cons (es := (labsR ks).es) rfl (.refl (labsE_pur _)) .nil)
  · exact .base (.agg (.cons (.pur pur_int) (.cons (.pur pur_int) (.cons (.pur pur_str) (.cons (.own (by simp) rfl) (.cons (.own (by simp) rfl) .nil))))))
theorem fp_set {ks : List Lb} {l : Lb} (k : Nat) (h : (ks.flatMap Lb.fp).Nodup) (hl : l.fp.Nodup) (ha : ∀ b ∈ l.fp, ¬ b ∈ ks.flatMap Lb.fp) : ((ks.set k l).flatMap Lb.fp).Nodup := by
  induction ks generalizing k with
  | nil => simp
  | cons x ks ih =>
    rw [List.flatMap_cons] at h ha
    obtain ⟨h1, h2, h3⟩ := List.nodup_append.1 h
    cases k with
    | zero =>
      rw [List.set_cons_zero, List.flatMap_cons]
      exact List.nodup_append.2 ⟨hl, h2, fun a ha1 b hb e => ha a ha1 (List.mem_append_right _ (e ▸ hb))⟩
    | succ k =>
      rw [List.set_cons_succ, List.flatMap_cons]
      refine List.nodup_append.2 ⟨h1, ih k h2 (fun b hb hm => ha b hb (List.mem_append_right _ hm)), fun a ha1 b hb e => ?_⟩
      subst e
      obtain ⟨y, hy, hb⟩ := List.mem_flatMap.1 hb
      rcases List.mem_or_eq_of_mem_set hy with hy | hy
      · exact h3 a ha1 a (List.mem_flatMap.2 ⟨y, hy, hb⟩) rfl
      · exact ha a (hy ▸ hb) (List.mem_append_left _ ha1)
theorem fp_set_mem {ks : List Lb} {l : Lb} {k b : Nat} (h : b ∈ (ks.set k l).flatMap Lb.fp) : b ∈ ks.flatMap Lb.fp ∨ b ∈ l.fp := by
  obtain ⟨y, hy, hb⟩ := List.mem_flatMap.1 h
  rcases List.mem_or_eq_of_mem_set hy with hy | rfl
  · exact .inl (List.mem_flatMap.2 ⟨y, hy, hb⟩)
  · exact .inr hb
end Go.Proofs.Ytgfnmhfdmmnaoaa.Eng
-- EV: rows fresh
namespace Go.Proofs.Ytgfnmhfdmmnaoaa.Eng
open Go Go.RowKit
attribute [local simp] big size_mk ASt.pay Option.map_map Function.comp_def awant aop acall ado aev ofVal ofVal0 ASt.put ASt.add ASt.turn ASt.kill abox aalloc astore aload aloadD astoreD idOf ASt.at cellsTo afieldAddr afield aindexAddr aindex alen abin aint acmp astr aun apick aextract anil aslice abound abuild afill abuildSlice asCells aps avCells over upd aappend asrc amax amin aconv mkSt slots rowsOf_cons rowsOf_nil usedOf_cons usedOf_nil ZK.av List.replicate ASt.back ASt.addL ASt.killL nodeA nodeT nodeTL_eq nodeL_eq strsE_get strsE_len intsE_get intsE_len strsE_at intsE_at nodeN namesRow nodeO kidsRow tab2 tab3 tab4 tab5 tab6 tab7 tab8 tab9 tab10 tab11 tab12 tab13 tab14 tab15 tab16 tab17 tab18 tab19 tab21 tab22 tab23 tab24 tab25 tab26 tab27 tab28 tab29 tab30 tab39 tab40 tab41 tab42 tab43 tab47 tab48 tab55 tab56 tab57 tab60 tab61 tab62 tab73 tab74 tab75 tab85 tab92 tab115 tab116 tab143 tab144 tab145 tab154 tab155 tab170 tab175 tab182 tab197 tab198 tab203 tab204 tab205 tab207 tab208 tab209
theorem ndNames (l : Lb) : l.nd.names = l.names := by rw [nd_eq]
theorem ndKids (l : Lb) : l.nd.kids = l.kids.map Lb.nd := by rw [nd_eq]
theorem ndKlen (l : Lb) : l.nd.kids.length = l.kids.length := by rw [nd_eq]; exact List.length_map _
theorem putLb_nd (l v : Lb) (nm : ByteArray) : (putLb l nm v).nd = putK l.nd nm v.nd := by
  rw [nd_eq]
  cases hm : mem l.names nm
  · rw [putLb_no hm, putK_no (by rw [ndNames]; exact hm)]
    rw [nd_eq l]
    simp [List.map_take, List.map_drop]
  · rw [putLb_yes hm, putK_yes (by rw [ndNames]; exact hm)]
    rw [nd_eq l]
    simp [List.map_set]
theorem dropLb_nd (l : Lb) (nm : ByteArray) : (dropLb l nm).nd = dropK l.nd nm := by
  cases hm : mem l.names nm
  · rw [dropLb_no hm, dropK_no (by rw [ndNames]; exact hm)]
  · rw [dropLb_yes hm, dropK_yes (by rw [ndNames]; exact hm)]
    rw [nd_eq, nd_eq l]
    simp [List.map_take, List.map_drop]
theorem fpSub {ks ks' : List Lb} (h : ks'.Sublist ks) : (ks'.flatMap Lb.fp).Sublist (ks.flatMap Lb.fp) := by
  induction h with
  | slnil => exact List.Sublist.refl _
  | cons a _ ih => rw [List.flatMap_cons]; exact ih.trans (List.sublist_append_right _ _)
  | cons_cons a _ ih => rw [List.flatMap_cons, List.flatMap_cons]; exact (List.Sublist.refl _).append ih
theorem tdSubL {α : Type} (l : List α) (k : Nat) : (l.take k ++ l.drop (k + 1)).Sublist l := by
  conv => rhs; rw [← List.take_append_drop k l]
  refine (List.Sublist.refl _).append ?_
  rw [← List.drop_drop]
  exact List.drop_sublist _ _
theorem fp_ins {ks : List Lb} {l : Lb} (k : Nat) : ((ks.take k ++ (l :: ks.drop k)).flatMap Lb.fp).Perm (l.fp ++ ks.flatMap Lb.fp) := by
  have h : (ks.take k ++ (l :: ks.drop k)).Perm (l :: ks) := by
    have := List.perm_middle (a := l) (l₁ := ks.take k) (l₂ := ks.drop k)
    rwa [List.take_append_drop] at this
  have := h.flatMap_right Lb.fp
  rwa [List.flatMap_cons] at this
theorem putLb_fp {l v : Lb} (nm : ByteArray) (h : (l.kids.flatMap Lb.fp).Nodup) (hv : v.fp.Nodup) (ha : ∀ b ∈ v.fp, ¬ b ∈ l.kids.flatMap Lb.fp) : ((putLb l nm v).kids.flatMap Lb.fp).Nodup := by
  cases hm : mem l.names nm
  · rw [putLb_no hm]
    dsimp only
    rw [(fp_ins _).nodup_iff]
    exact List.nodup_append.2 ⟨hv, h, fun a h1 b h2 e => ha a h1 (e ▸ h2)⟩
  · rw [putLb_yes hm]
    exact fp_set _ h hv ha
theorem putLb_fp_mem {l v : Lb} {nm : ByteArray} {b : Nat} (h : b ∈ (putLb l nm v).kids.flatMap Lb.fp) : b ∈ l.kids.flatMap Lb.fp ∨ b ∈ v.fp := by
  cases hm : mem l.names nm
  · rw [putLb_no hm] at h
    dsimp only at h
    rw [(fp_ins _).mem_iff, List.mem_append] at h
    exact h.symm
  · rw [putLb_yes hm] at h
    exact fp_set_mem h
theorem dropLb_fp {l : Lb} (nm : ByteArray) (h : (l.kids.flatMap Lb.fp).Nodup) : ((dropLb l nm).kids.flatMap Lb.fp).Nodup := by
  cases hm : mem l.names nm
  · rw [dropLb_no hm]; exact h
  · rw [dropLb_yes hm]
    exact h.sublist (fpSub (tdSubL _ _))
theorem dropLb_fp_mem {l : Lb} {nm : ByteArray} {b : Nat} (h : b ∈ (dropLb l nm).kids.flatMap Lb.fp) : b ∈ l.kids.flatMap Lb.fp := by
  cases hm : mem l.names nm
  · rw [dropLb_no hm] at h; exact h
  · rw [dropLb_yes hm] at h
    exact (fpSub (tdSubL _ _)).subset h
theorem mergeValidF_step (p n : Nd) (hp : Shp p) (hn : Shp n) (ih : ∀ k ∈ p.kids, ∀ m, Shp m → ACF Try.prog 119 [nodeA m, nodeA k] 0 (rLab (mrg k m))) : ACF Try.prog 119 [nodeA n, nodeA p] 0 (rLab (mrg p n)) := by
  have hcn := implCopyF_ACM n hn.sml
  have hcln := node_clo n
  unfold nodeA at hcn hcln ⊢
  rw [nodeL_eq n] at hcn hcln
  rw [nodeL_eq n, nodeL_eq p]
  refine ACF.of tab_ok mixed_ok Try.func119 (by rfl) (by kernel_rfl) ?_; rintro ⟨P, T, hT, hm, w0, S0, rd0, k0⟩ hP hTT hN; dsimp only at hP hTT hN; subst hP hTT; dsimp only; unfold initSt; rw [Try.ntmps119]
  by_cases h4 : p.kind = 4
  rotate_left
  · have hb : (p.kind != 4) = true := by simpa using h4
    have hpc := implCopyF_ACF p hp.sml
    unfold nodeA at hpc
    rw [nodeL_eq p] at hpc
    (repeat (first | with_reducible refine AW.seq ?_ | ((first | refine arun_kn 4 rfl (fun C hC => ?_) | refine arunD_kn 4 rfl (fun C hC => ?_)); (repeat ((conv => whnf); simp [hb])); refine hC _ ?_; clear hC C; simp only [List.drop, Nat.reduceAdd]) | ((first | refine arun_kn 1 rfl (fun C hC => ?_) | refine arunD_kn 1 rfl (fun C hC => ?_)); (repeat ((conv => whnf); simp [hb])); refine hC _ ?_; clear hC C; simp only [List.drop, Nat.reduceAdd]) | (refine arun_skip ?_ ?_; (focus (simp [awant, hb]; done))) | (refine arun_cF (0) (hpc) ?_; (rintro _ ⟨l, hl, hlp, rfl⟩ hA)) | (refine arunD_cF (0) (hpc) (by refine ⟨_, rfl, ?_⟩; first | exact node_in _ | exact storeA_in _ | exact item_in _ | exact in_int | exact in_bool | exact in_str | (simp [NoId, in_tup, in_agg, in_int, in_bool, in_str, node_in, nodes_in, strs_in]; done)) ?_; (rintro _ ⟨l, hl, hlp, rfl⟩ hA); intro _) | (refine AW.regionK [] (fun K hK => ?_)) | (refine AW.regionDK [] (pcs [] []) (by kernel_rfl) (by kernel_rfl) (fun K hK => ?_)) | (refine AW.condT ?_ ?_; (focus (simp [aev, hb]; done))) | (refine AW.condF ?_ ?_; (focus (simp [aev, hb]; done))) | with_reducible refine AW.block ?_ | ((first | ((first | refine arun_nil ?_ | refine arunD_nil ?_); refine hK _ ?_; clear hK K) | refine AW.skip ?_ | refine AW.exit ?_ | refine AW.ret ?_); simp only [thenA_exit, inBlockA_exit, if_true, if_false, Nat.reduceEqDiff, thenA_normal, inBlockA_normal, reduceIte, thenA_ret, inBlockA_ret, endQ_ret, endR_ret, endG_ret, endQ_normal, endR_normal, endG_normal, endF_ret, endF_normal])))
    have hA' : ∀ b ∈ l.fp, ¬ w0.A b := fun b hb => hA b (by rw [at_agg, ← labL_eq]; exact hb)
    exact ⟨labA l, by simp [labA, labL_eq, ares, aresL, upd, rowsOf_cons], lab_pur l, fun b hb => by rw [at_lab] at hb; exact hN.ge (hA' b hb), l, by rw [mrg_no h4]; exact hl, hlp, rfl⟩
  have hb : (p.kind != 4) = false := by simp [h4]
  have h6 := hp.kids
  have hln := (hp.map h4).2
  (repeat (first | with_reducible refine AW.seq ?_ | ((first | refine arun_kn 4 rfl (fun C hC => ?_) | refine arunD_kn 4 rfl (fun C hC => ?_)); (repeat ((conv => whnf); simp [hb])); refine hC _ ?_; clear hC C; simp only [List.drop, Nat.reduceAdd]) | ((first | refine arun_kn 1 rfl (fun C hC => ?_) | refine arunD_kn 1 rfl (fun C hC => ?_)); (repeat ((conv => whnf); simp [hb])); refine hC _ ?_; clear hC C; simp only [List.drop, Nat.reduceAdd]) | (refine arun_skip ?_ ?_; (focus (simp [awant, hb]; done))) | (refine AW.regionK [] (fun K hK => ?_)) | (refine AW.regionDK [] (pcs [] []) (by kernel_rfl) (by kernel_rfl) (fun K hK => ?_)) | (refine AW.condT ?_ ?_; (focus (simp [aev, hb]; done))) | (refine AW.condF ?_ ?_; (focus (simp [aev, hb]; done))) | with_reducible refine AW.block ?_ | ((first | ((first | refine arun_nil ?_ | refine arunD_nil ?_); refine hK _ ?_; clear hK K) | refine AW.skip ?_ | refine AW.exit ?_ | refine AW.ret ?_); simp only [thenA_exit, inBlockA_exit, if_true, if_false, Nat.reduceEqDiff, thenA_normal, inBlockA_normal, reduceIte, thenA_ret, inBlockA_ret, endQ_ret, endR_ret, endG_ret, endQ_normal, endR_normal, endG_normal, endF_ret, endF_normal])))
  refine AW.cutN (fun (L : Lb) => mkSt (slots 0 63 [(3, .ptr true 5 1 3 0 0), (4, .ptr true 5 1 4 0 0), (5, .ptr true 5 1 5 0 0)]) [(3, ⟨true, 30, 5, [nodeL p]⟩), (4, ⟨true, 30, 5, [zeroN]⟩), (5, boxLb L 100 101), (100, namesR L.names), (101, labsR L.kids)] [3, 4, 5, 100, 101] (rd0.map fun _ => 0)) (fun L => L.nd = baseM n ∧ (L.kids.flatMap Lb.fp).Nodup ∧ ∀ b ∈ L.kids.flatMap Lb.fp, w0.wd.heap.size ≤ b) ?_ ?_
  · by_cases hn4 : n.kind = 4
    · have hbn : (n.kind == 4) = true := by simpa using hn4
      have hbase : baseM n = n := by unfold baseM; rw [if_pos hn4]
      (repeat (first | with_reducible refine AW.seq ?_ | ((first | refine arun_kn 4 rfl (fun C hC => ?_) | refine arunD_kn 4 rfl (fun C hC => ?_)); (repeat ((conv => whnf); simp [hbn])); refine hC _ ?_; clear hC C; simp only [List.drop, Nat.reduceAdd]) | ((first | refine arun_kn 1 rfl (fun C hC => ?_) | refine arunD_kn 1 rfl (fun C hC => ?_)); (repeat ((conv => whnf); simp [hbn])); refine hC _ ?_; clear hC C; simp only [List.drop, Nat.reduceAdd]) | (refine arun_skip ?_ ?_; (focus (simp [awant, hbn]; done))) | (refine AW.regionK [] (fun K hK => ?_)) | (refine AW.regionDK [] (pcs [] []) (by kernel_rfl) (by kernel_rfl) (fun K hK => ?_)) | (refine AW.condT ?_ ?_; (focus (simp [aev, hbn]; done))) | (refine AW.condF ?_ ?_; (focus (simp [aev, hbn]; done))) | with_reducible refine AW.block ?_ | ((first | ((first | refine arun_nil ?_ | refine arunD_nil ?_); refine hK _ ?_; clear hK K) | refine AW.skip ?_ | refine AW.exit ?_ | refine AW.ret ?_); simp only [thenA_exit, inBlockA_exit, if_true, if_false, Nat.reduceEqDiff, thenA_normal, inBlockA_normal, reduceIte, thenA_ret, inBlockA_ret, endQ_ret, endR_ret, endG_ret, endQ_normal, endR_normal, endG_normal, endF_ret, endF_normal])))
      refine arun_callM (hw := by simp [awant]) (ha := rfl) hcn (hargs := .cons (.base (.clo hcln.cloTo)) .nil) (hcan := can_of (Nat.le_refl _)) ?_
      rintro r l' ⟨ks, hks, hkn, rfl, rfl⟩ hA2
      refine ⟨_, _, _, back_copyF (A := 100) (B := 101) (by decide) (by simp [upd]) (by simp [upd]), ?_⟩
      have hA4 : ∀ b ∈ ks.flatMap Lb.fp, w0.wd.heap.size ≤ b := fun b hb => hN.ge (fun h => hA2 b (.inr ⟨(34, labsR ks), by simp, by rw [show (labsR ks).es = ks.map labL from rfl, atE_labs]; exact hb⟩) h)
      have hlk : ks.length = n.kids.length := by rw [← hks, List.length_map]
      (repeat (first | with_reducible refine AW.seq ?_ | ((first | refine arun_kn 4 rfl (fun C hC => ?_) | refine arunD_kn 4 rfl (fun C hC => ?_)); (repeat ((conv => whnf); simp [hbn, nodeRR])); refine hC _ ?_; clear hC C; simp only [List.drop, Nat.reduceAdd]) | ((first | refine arun_kn 1 rfl (fun C hC => ?_) | refine arunD_kn 1 rfl (fun C hC => ?_)); (repeat ((conv => whnf); simp [hbn, nodeRR])); refine hC _ ?_; clear hC C; simp only [List.drop, Nat.reduceAdd]) | (refine arun_skip ?_ ?_; (focus (simp [awant, hbn, nodeRR]; done))) | (refine AW.regionK [] (fun K hK => ?_)) | (refine AW.regionDK [] (pcs [] []) (by kernel_rfl) (by kernel_rfl) (fun K hK => ?_)) | (refine AW.condT ?_ ?_; (focus (simp [aev, hbn, nodeRR]; done))) | (refine AW.condF ?_ ?_; (focus (simp [aev, hbn, nodeRR]; done))) | with_reducible refine AW.block ?_ | ((first | ((first | refine arun_nil ?_ | refine arunD_nil ?_); refine hK _ ?_; clear hK K) | refine AW.skip ?_ | refine AW.exit ?_ | refine AW.ret ?_); simp only [thenA_exit, inBlockA_exit, if_true, if_false, Nat.reduceEqDiff, thenA_normal, inBlockA_normal, reduceIte, thenA_ret, inBlockA_ret, endQ_ret, endR_ret, endG_ret, endQ_normal, endR_normal, endG_normal, endF_ret, endF_normal])))
      have hin : ∀ U : Nat → Bool, ∀ e ∈ ks.map labL, ∀ c ∈ e, AV.In U c := fun U => labsE_in _
      exact ⟨⟨n.kind, n.num, n.text, n.names, 0, ks, 0⟩, ⟨by rw [nd_eq, hbase]; dsimp only; rw [hks]; cases n; rfl, hkn, hA4⟩, (less_of (by simp [lessL, mkSt, slots, namesR, labsR, boxLb, zeroN, hlk, nodeN, namesRow, nodeO, kidsRow]) (by simp [upd, mkSt, rowsOf_cons, namesR, labsR, boxLb, zeroN, hlk, nodeN, namesRow, nodeO, kidsRow]) (by simp [upd, mkSt, usedOf_cons, namesR, labsR, boxLb, zeroN, hlk, nodeN, namesRow, nodeO, kidsRow]) (by first | exact rd_less (by omega) | simp [mkSt, namesR, labsR, boxLb, zeroN, hlk, nodeN, namesRow, nodeO, kidsRow]) (by simp [slots, in_any, in_int, in_bool, in_str, in_ptr, in_own, in_agg, in_vnil, in_rdr, usedOf_cons, usedOf_nil, strs_in, ints_in, nodes_in, in_tup, namesR, labsR, boxLb, zeroN, hlk, nodeN, namesRow, nodeO, kidsRow]) (by simp only [List.forall_mem_cons, List.not_mem_nil, false_implies, implies_true, and_true, true_and, namesR, labsR, boxLb, zeroN, hlk, nodeN, namesRow, nodeO, kidsRow]; (repeat (first | with_reducible exact trivial | with_reducible refine And.intro ?_ ?_ | with_reducible exact in_int | with_reducible exact in_str | with_reducible exact in_bool | with_reducible exact strs_in _ | with_reducible exact nodes_in _ | with_reducible exact items_in _ | with_reducible exact in_vnil | with_reducible exact in_any | exact hin _ | with_reducible refine take_in ?_ | with_reducible exact strsE_in _ | with_reducible exact nodesE_in _ | with_reducible exact nodeL_in _ | with_reducible exact itemsE_in _ | with_reducible exact itemL_in _ | with_reducible refine app_in ?_ ?_ | with_reducible refine sing_in ?_ | (focus (simp [in_any, in_int, in_bool, in_str, in_ptr, in_own, in_agg, in_vnil, in_rdr, usedOf_cons, usedOf_nil, strs_in, ints_in, nodes_in, namesR, labsR, boxLb, zeroN, hlk, nodeN, namesRow, nodeO, kidsRow]; done)))); done))⟩
    · have hbn : (n.kind == 4) = false := by simpa using hn4
      have hbase : baseM n = ⟨4, 0, ⟨#[]⟩, [], []⟩ := by unfold baseM; rw [if_neg hn4]
      refine AW.adoptB 5 3 100 9 1 ⟨_, tab9, rfl⟩ (by simp [upd]; rfl) rfl rfl (by simp [upd]) ?_
      simp only [ASt.adoptB]
      refine AW.adoptB 5 4 101 30 5 ⟨_, tab30, rfl⟩ (by simp [upd]; rfl) rfl rfl (by simp [upd]) ?_
      simp only [ASt.adoptB]
      (repeat (first | with_reducible refine AW.seq ?_ | ((first | refine arun_kn 4 rfl (fun C hC => ?_) | refine arunD_kn 4 rfl (fun C hC => ?_)); (repeat ((conv => whnf); simp [hbn])); refine hC _ ?_; clear hC C; simp only [List.drop, Nat.reduceAdd]) | ((first | refine arun_kn 1 rfl (fun C hC => ?_) | refine arunD_kn 1 rfl (fun C hC => ?_)); (repeat ((conv => whnf); simp [hbn])); refine hC _ ?_; clear hC C; simp only [List.drop, Nat.reduceAdd]) | (refine arun_skip ?_ ?_; (focus (simp [awant, hbn]; done))) | (refine AW.regionK [] (fun K hK => ?_)) | (refine AW.regionDK [] (pcs [] []) (by kernel_rfl) (by kernel_rfl) (fun K hK => ?_)) | (refine AW.condT ?_ ?_; (focus (simp [aev, hbn]; done))) | (refine AW.condF ?_ ?_; (focus (simp [aev, hbn]; done))) | with_reducible refine AW.block ?_ | ((first | ((first | refine arun_nil ?_ | refine arunD_nil ?_); refine hK _ ?_; clear hK K) | refine AW.skip ?_ | refine AW.exit ?_ | refine AW.ret ?_); simp only [thenA_exit, inBlockA_exit, if_true, if_false, Nat.reduceEqDiff, thenA_normal, inBlockA_normal, reduceIte, thenA_ret, inBlockA_ret, endQ_ret, endR_ret, endG_ret, endQ_normal, endR_normal, endG_normal, endF_ret, endF_normal])))
      exact ⟨⟨4, 0, ⟨#[]⟩, [], 0, [], 0⟩, ⟨by rw [nd_eq, hbase]; rfl, by simp, by simp⟩, (less_of (by simp [lessL, mkSt, slots, namesR, labsR, boxLb, zeroN, strsE, nodeN, namesRow, nodeO, kidsRow]) (by simp [upd, mkSt, rowsOf_cons, namesR, labsR, boxLb, zeroN, strsE, nodeN, namesRow, nodeO, kidsRow]) (by simp [upd, mkSt, usedOf_cons, namesR, labsR, boxLb, zeroN, strsE, nodeN, namesRow, nodeO, kidsRow]) (by first | exact rd_less (by omega) | simp [mkSt, namesR, labsR, boxLb, zeroN, strsE, nodeN, namesRow, nodeO, kidsRow]) (by simp [slots, in_any, in_int, in_bool, in_str, in_ptr, in_own, in_agg, in_vnil, in_rdr, usedOf_cons, usedOf_nil, strs_in, ints_in, nodes_in, in_tup, namesR, labsR, boxLb, zeroN, strsE, nodeN, namesRow, nodeO, kidsRow]) (by simp only [List.forall_mem_cons, List.not_mem_nil, false_implies, implies_true, and_true, true_and, namesR, labsR, boxLb, zeroN, strsE, nodeN, namesRow, nodeO, kidsRow]; (repeat (first | with_reducible exact trivial | with_reducible refine And.intro ?_ ?_ | with_reducible exact in_int | with_reducible exact in_str | with_reducible exact in_bool | with_reducible exact strs_in _ | with_reducible exact nodes_in _ | with_reducible exact items_in _ | with_reducible exact in_vnil | with_reducible exact in_any | exact hin _ | with_reducible refine take_in ?_ | with_reducible exact strsE_in _ | with_reducible exact nodesE_in _ | with_reducible exact nodeL_in _ | with_reducible exact itemsE_in _ | with_reducible exact itemL_in _ | with_reducible refine app_in ?_ ?_ | with_reducible refine sing_in ?_ | (focus (simp [in_any, in_int, in_bool, in_str, in_ptr, in_own, in_agg, in_vnil, in_rdr, usedOf_cons, usedOf_nil, strs_in, ints_in, nodes_in, namesR, labsR, boxLb, zeroN, strsE, nodeN, namesRow, nodeO, kidsRow]; done)))); done))⟩
  rintro L0 s' ⟨hL1, hL2, hL3⟩ hls
  refine AW.less _ hls ?_
  clear hls s'
  (repeat (first | with_reducible refine AW.seq ?_ | ((first | refine arun_kn 4 rfl (fun C hC => ?_) | refine arunD_kn 4 rfl (fun C hC => ?_)); (repeat ((conv => whnf); simp [nodeL_eq p, strsE_len])); refine hC _ ?_; clear hC C; simp only [List.drop, Nat.reduceAdd]) | ((first | refine arun_kn 1 rfl (fun C hC => ?_) | refine arunD_kn 1 rfl (fun C hC => ?_)); (repeat ((conv => whnf); simp [nodeL_eq p, strsE_len])); refine hC _ ?_; clear hC C; simp only [List.drop, Nat.reduceAdd]) | (refine arun_skip ?_ ?_; (focus (simp [awant, nodeL_eq p, strsE_len]; done))) | (refine AW.regionK [] (fun K hK => ?_)) | (refine AW.regionDK [] (pcs [] []) (by kernel_rfl) (by kernel_rfl) (fun K hK => ?_)) | (refine AW.condT ?_ ?_; (focus (simp [aev, nodeL_eq p, strsE_len]; done))) | (refine AW.condF ?_ ?_; (focus (simp [aev, nodeL_eq p, strsE_len]; done))) | with_reducible refine AW.block ?_ | ((first | ((first | refine arun_nil ?_ | refine arunD_nil ?_); refine hK _ ?_; clear hK K) | refine AW.skip ?_ | refine AW.exit ?_ | refine AW.ret ?_); simp only [thenA_exit, inBlockA_exit, if_true, if_false, Nat.reduceEqDiff, thenA_normal, inBlockA_normal, reduceIte, thenA_ret, inBlockA_ret, endQ_ret, endR_ret, endG_ret, endQ_normal, endR_normal, endG_normal, endF_ret, endF_normal])))
  refine AW.loopS (fun (x : Nat × Lb) => mkSt (slots 0 63 [(3, .ptr true 5 1 3 0 0), (4, .ptr true 5 1 4 0 0), (5, .ptr true 5 1 5 0 0), (23, .view .loose 1 (strsE p.names)), (24, .int .i64 p.names.length), (25, .int .i64 x.1)]) [(3, ⟨true, 30, 5, [nodeL p]⟩), (4, ⟨true, 30, 5, [zeroN]⟩), (5, boxLb x.2 100 101), (100, namesR x.2.names), (101, labsR x.2.kids)] [3, 4, 5, 100, 101] (rd0.map fun _ => 0)) (fun x => p.names.length - x.1) (fun x => x.1 ≤ p.names.length ∧ Mid n p x.1 x.2.nd ∧ mrgL (p.names.drop x.1) (p.kids.drop x.1) x.2.nd = mrg p n ∧ (x.2.kids.flatMap Lb.fp).Nodup ∧ ∀ b ∈ x.2.kids.flatMap Lb.fp, w0.wd.heap.size ≤ b) (0, L0) ?_ ⟨Nat.zero_le _, by dsimp only; rw [hL1]; exact Mid.start hn p, by dsimp only; rw [hL1, mrg_map h4]; rfl, hL2, hL3⟩ ?_
  · dsimp only
    rw [nodeL_eq p]
    have hin : ∀ U : Nat → Bool, ∀ e ∈ L0.kids.map labL, ∀ c ∈ e, AV.In U c := fun U => labsE_in _
    exact (less_of (by simp [lessL, mkSt, slots, boxLb, namesR, labsR, zeroN, nodeN, namesRow, nodeO, kidsRow]) (by simp [upd, mkSt, rowsOf_cons, boxLb, namesR, labsR, zeroN, nodeN, namesRow, nodeO, kidsRow]) (by simp [upd, mkSt, usedOf_cons, boxLb, namesR, labsR, zeroN, nodeN, namesRow, nodeO, kidsRow]) (by first | exact rd_less (by omega) | simp [mkSt, boxLb, namesR, labsR, zeroN, nodeN, namesRow, nodeO, kidsRow]) (by simp [slots, in_any, in_int, in_bool, in_str, in_ptr, in_own, in_agg, in_vnil, in_rdr, usedOf_cons, usedOf_nil, strs_in, ints_in, nodes_in, in_tup, boxLb, namesR, labsR, zeroN, nodeN, namesRow, nodeO, kidsRow]) (by simp only [List.forall_mem_cons, List.not_mem_nil, false_implies, implies_true, and_true, true_and, boxLb, namesR, labsR, zeroN, nodeN, namesRow, nodeO, kidsRow]; (repeat (first | with_reducible exact trivial | with_reducible refine And.intro ?_ ?_ | with_reducible exact in_int | with_reducible exact in_str | with_reducible exact in_bool | with_reducible exact strs_in _ | with_reducible exact nodes_in _ | with_reducible exact items_in _ | with_reducible exact in_vnil | with_reducible exact in_any | exact hin _ | with_reducible refine take_in ?_ | with_reducible exact strsE_in _ | with_reducible exact nodesE_in _ | with_reducible exact nodeL_in _ | with_reducible exact itemsE_in _ | with_reducible exact itemL_in _ | with_reducible refine app_in ?_ ?_ | with_reducible refine sing_in ?_ | (focus (simp [in_any, in_int, in_bool, in_str, in_ptr, in_own, in_agg, in_vnil, in_rdr, usedOf_cons, usedOf_nil, strs_in, ints_in, nodes_in, boxLb, namesR, labsR, zeroN, nodeN, namesRow, nodeO, kidsRow]; done)))); done))
  clear hL1 hL2 hL3 L0
  rintro ⟨i, r0⟩ ⟨hi, hm, hf, hkn, hkA⟩
  dsimp only at hi hm hf hkn hkA ⊢
  rw [nodeL_eq p]
  by_cases hlt : i < p.names.length
  rotate_left
  · obtain rfl : i = p.names.length := by omega
    rw [List.drop_of_length_le (Nat.le_refl _), List.drop_of_length_le (by omega), mrgL] at hf
    refine AW.holdF 100 hN (fun g1 hg1 ht1 hr1 => ?_)
    have f1 := hr1 101 ⟨false, 30, 5, r0.kids.map labL⟩ (by simp [mkSt, upd, rowsOf_cons, labsR])
    refine AW.holdF 101 hN (fun g2 hg2 ht2 hr2 => ?_)
    have f2 := hr2 101 ⟨false, 30, 5, r0.kids.map labL⟩ (by simp [ASt.holdF, mkSt, rowsOf_cons, upd, Row.sub, labsE_sub, namesR, labsR]; exact fun a _ => labL_sub a)
    have f3 := hr2 5 ⟨true, 30, 5, [[.int .i64 r0.kind, .int .i64 r0.num, .str r0.text, .view (.fr g1) 1 (strsE r0.names), .own 101 r0.kids.length]]⟩ (by simp [ASt.holdF, mkSt, rowsOf_cons, upd, AV.subL, AV.sub, Row.sub, strsE_len, namesR, labsR, boxLb])
    clear ht1 hr1 ht2 hr2
    (repeat (first | with_reducible refine AW.seq ?_ | ((first | refine arun_kn 4 rfl (fun C hC => ?_) | refine arunD_kn 4 rfl (fun C hC => ?_)); (repeat ((conv => whnf); simp [strsE_len, ASt.holdF, boxLb, namesR, labsR, zeroN, AV.subL, AV.sub, Row.sub, rowsOf_cons, upd, labsE_sub])); refine hC _ ?_; clear hC C; simp only [List.drop, Nat.reduceAdd]) | ((first | refine arun_kn 1 rfl (fun C hC => ?_) | refine arunD_kn 1 rfl (fun C hC => ?_)); (repeat ((conv => whnf); simp [strsE_len, ASt.holdF, boxLb, namesR, labsR, zeroN, AV.subL, AV.sub, Row.sub, rowsOf_cons, upd, labsE_sub])); refine hC _ ?_; clear hC C; simp only [List.drop, Nat.reduceAdd]) | (refine arun_skip ?_ ?_; (focus (simp [awant, strsE_len, ASt.holdF, boxLb, namesR, labsR, zeroN, AV.subL, AV.sub, Row.sub, rowsOf_cons, upd, labsE_sub]; done))) | (refine AW.regionK [] (fun K hK => ?_)) | (refine AW.regionDK [] (pcs [] []) (by kernel_rfl) (by kernel_rfl) (fun K hK => ?_)) | (refine AW.condT ?_ ?_; (focus (simp [aev, strsE_len, ASt.holdF, boxLb, namesR, labsR, zeroN, AV.subL, AV.sub, Row.sub, rowsOf_cons, upd, labsE_sub]; done))) | (refine AW.condF ?_ ?_; (focus (simp [aev, strsE_len, ASt.holdF, boxLb, namesR, labsR, zeroN, AV.subL, AV.sub, Row.sub, rowsOf_cons, upd, labsE_sub]; done))) | with_reducible refine AW.block ?_ | ((first | ((first | refine arun_nil ?_ | refine arunD_nil ?_); refine hK _ ?_; clear hK K) | refine AW.skip ?_ | refine AW.exit ?_ | refine AW.ret ?_); simp only [thenA_exit, inBlockA_exit, if_true, if_false, Nat.reduceEqDiff, thenA_normal, inBlockA_normal, reduceIte, thenA_ret, inBlockA_ret, endQ_ret, endR_ret, endG_ret, endQ_normal, endR_normal, endG_normal, endF_ret, endF_normal])))
    rw [atE_labs] at f1 f2
    refine ⟨labA ⟨r0.kind, r0.num, r0.text, r0.names, g1, r0.kids, g2⟩, by unfold labA; rw [labL_eq]; simp [ares, aresL, upd, rowsOf_cons, labL_sub, boxLb, namesR, labsR, AV.subL, AV.sub, Row.sub], lab_pur _, fun b hb => ?_, ⟨_, _, _, _, _, _, _⟩, ?_, fp_nodup hkn f1 f2 (fun h1 _ => f3 g1 ?_), rfl⟩
    · rw [at_lab] at hb
      exact fp_ge (l := ⟨r0.kind, r0.num, r0.text, r0.names, g1, r0.kids, g2⟩) hkA hg1 hg2 b hb
    · rw [← hf, nd_eq, nd_eq r0]
    · dsimp only at h1
      have : (strsE r0.names).isEmpty = false := by unfold strsE; cases hh : r0.names with | nil => exact absurd hh h1 | cons _ _ => rfl
      simp [atE_cons, atE_nil, atL_cons, atL_nil, at_int, at_str, at_own, at_view, frB_fr, this]
  have hk : i < p.kids.length := by omega
  have hwi : IntKind.i64.wrap ((i : Int) + 1) = ((i + 1 : Nat) : Int) := by rw [i64_nat (by omega) (by omega)]; simp
  have hnext := hm.next hp h4 hn hlt hk
  rw [mrgL_step hlt hk] at hf
  have hwd := hm.wide
  have hrk := ndKlen r0
  have hrn := ndNames r0
  cases hkk : p.kids[i].kind == 0
  rotate_left
  · have hst : stepN r0.nd p.names[i] p.kids[i] = dropK r0.nd p.names[i] := by unfold stepN; rw [if_pos (by simpa using hkk)]
    rw [hst] at hf hnext
    have hdn := dropNameF_ACG r0 p.names[i] (by rw [← hrn]; exact hm.w.asc) (by rw [← hrn, ← hrk]; exact hm.w.len) (by omega)
    (repeat (first | with_reducible refine AW.seq ?_ | ((first | refine arun_kn 4 rfl (fun C hC => ?_) | refine arunD_kn 4 rfl (fun C hC => ?_)); (repeat ((conv => whnf); simp [hlt, hk, hkk, strsE_len])); refine hC _ ?_; clear hC C; simp only [List.drop, Nat.reduceAdd]) | ((first | refine arun_kn 1 rfl (fun C hC => ?_) | refine arunD_kn 1 rfl (fun C hC => ?_)); (repeat ((conv => whnf); simp [hlt, hk, hkk, strsE_len])); refine hC _ ?_; clear hC C; simp only [List.drop, Nat.reduceAdd]) | (refine arun_skip ?_ ?_; (focus (simp [awant, hlt, hk, hkk, strsE_len]; done))) | (refine AW.regionK [] (fun K hK => ?_)) | (refine AW.regionDK [] (pcs [] []) (by kernel_rfl) (by kernel_rfl) (fun K hK => ?_)) | (refine AW.condT ?_ ?_; (focus (simp [aev, hlt, hk, hkk, strsE_len]; done))) | (refine AW.condF ?_ ?_; (focus (simp [aev, hlt, hk, hkk, strsE_len]; done))) | with_reducible refine AW.block ?_ | ((first | ((first | refine arun_nil ?_ | refine arunD_nil ?_); refine hK _ ?_; clear hK K) | refine AW.skip ?_ | refine AW.exit ?_ | refine AW.ret ?_); simp only [thenA_exit, inBlockA_exit, if_true, if_false, Nat.reduceEqDiff, thenA_normal, inBlockA_normal, reduceIte, thenA_ret, inBlockA_ret, endQ_ret, endR_ret, endG_ret, endQ_normal, endR_normal, endG_normal, endF_ret, endF_normal])))
    refine arun_callL5 5 100 101 102 103 (hac := hdn) (h1 := by simp [rowsOf_cons]) (h2 := by simp [rowsOf_cons]) (h3 := by simp [rowsOf_cons]) (hd := by decide) (hD := by decide) (uA := by simp [usedOf_cons, usedOf_nil, upd]) (uB := by simp [usedOf_cons, usedOf_nil, upd]) (hw := by simp [awant]) (ha := rfl) (hargs := .cons (.base (.ptr (by simp [rowsLb]) rfl)) (.cons (.base (.clo (Clo.cloTo clo_str))) .nil)) (hcan := can_of (Nat.le_refl _)) (h := ?_)
    (repeat (first | with_reducible refine AW.seq ?_ | ((first | refine arun_kn 4 rfl (fun C hC => ?_) | refine arunD_kn 4 rfl (fun C hC => ?_)); (repeat ((conv => whnf); simp [hlt, hk, hkk, hwi, backLb, rowsLb, nuLb])); refine hC _ ?_; clear hC C; simp only [List.drop, Nat.reduceAdd]) | ((first | refine arun_kn 1 rfl (fun C hC => ?_) | refine arunD_kn 1 rfl (fun C hC => ?_)); (repeat ((conv => whnf); simp [hlt, hk, hkk, hwi, backLb, rowsLb, nuLb])); refine hC _ ?_; clear hC C; simp only [List.drop, Nat.reduceAdd]) | (refine arun_skip ?_ ?_; (focus (simp [awant, hlt, hk, hkk, hwi, backLb, rowsLb, nuLb]; done))) | (refine AW.regionK [] (fun K hK => ?_)) | (refine AW.regionDK [] (pcs [] []) (by kernel_rfl) (by kernel_rfl) (fun K hK => ?_)) | (refine AW.condT ?_ ?_; (focus (simp [aev, hlt, hk, hkk, hwi, backLb, rowsLb, nuLb]; done))) | (refine AW.condF ?_ ?_; (focus (simp [aev, hlt, hk, hkk, hwi, backLb, rowsLb, nuLb]; done))) | with_reducible refine AW.block ?_ | ((first | ((first | refine arun_nil ?_ | refine arunD_nil ?_); refine hK _ ?_; clear hK K) | refine AW.skip ?_ | refine AW.exit ?_ | refine AW.ret ?_); simp only [thenA_exit, inBlockA_exit, if_true, if_false, Nat.reduceEqDiff, thenA_normal, inBlockA_normal, reduceIte, thenA_ret, inBlockA_ret, endQ_ret, endR_ret, endG_ret, endQ_normal, endR_normal, endG_normal, endF_ret, endF_normal])))
    have hnd : (dropLb r0 p.names[i]).nd = dropK r0.nd p.names[i] := dropLb_nd _ _
    rw [← hnd] at hnext hf
    refine ⟨(i + 1, dropLb r0 p.names[i]), by dsimp only; omega, ⟨by dsimp only; omega, hnext, hf, dropLb_fp _ hkn, fun b hb => hkA b (dropLb_fp_mem hb)⟩, ?_⟩
    dsimp only
    generalize dropLb r0 p.names[i] = m at *
    have hin : ∀ U : Nat → Bool, ∀ e ∈ m.kids.map labL, ∀ c ∈ e, AV.In U c := fun U => labsE_in _
    refine Less.trans (s' := mkSt (slots 0 63 [(3, .ptr true 5 1 3 0 0), (4, .ptr true 5 1 4 0 0), (5, .ptr true 5 1 5 0 0), (23, .view .loose 1 (strsE p.names)), (24, .int .i64 p.names.length), (25, .int .i64 ((i + 1 : Nat) : Int))]) [(3, ⟨true, 30, 5, [[.int .i64 p.kind, .int .i64 p.num, .str p.text, .view .loose 1 (strsE p.names), .view .loose 5 (p.kids.map nodeL)]]⟩), (4, ⟨true, 30, 5, [zeroN]⟩), (5, boxLb m 102 103), (102, namesR m.names), (103, labsR m.kids)] [3, 4, 5, 102, 103] (rd0.map fun _ => 0)) (less_of (by simp [lessL, mkSt, slots, backLb, boxLb, namesR, labsR, zeroN, nodeN, namesRow, nodeO, kidsRow]) (by simp [upd, mkSt, rowsOf_cons, backLb, boxLb, namesR, labsR, zeroN, nodeN, namesRow, nodeO, kidsRow]) (by simp [upd, mkSt, usedOf_cons, backLb, boxLb, namesR, labsR, zeroN, nodeN, namesRow, nodeO, kidsRow]) (by first | exact rd_less (by omega) | simp [mkSt, backLb, boxLb, namesR, labsR, zeroN, nodeN, namesRow, nodeO, kidsRow]) (by simp [slots, in_any, in_int, in_bool, in_str, in_ptr, in_own, in_agg, in_vnil, in_rdr, usedOf_cons, usedOf_nil, strs_in, ints_in, nodes_in, in_tup, backLb, boxLb, namesR, labsR, zeroN, nodeN, namesRow, nodeO, kidsRow]) (by simp only [List.forall_mem_cons, List.not_mem_nil, false_implies, implies_true, and_true, true_and, backLb, boxLb, namesR, labsR, zeroN, nodeN, namesRow, nodeO, kidsRow]; (repeat (first | with_reducible exact trivial | with_reducible refine And.intro ?_ ?_ | with_reducible exact in_int | with_reducible exact in_str | with_reducible exact in_bool | with_reducible exact strs_in _ | with_reducible exact nodes_in _ | with_reducible exact items_in _ | with_reducible exact in_vnil | with_reducible exact in_any | exact hin _ | with_reducible refine take_in ?_ | with_reducible exact strsE_in _ | with_reducible exact nodesE_in _ | with_reducible exact nodeL_in _ | with_reducible exact itemsE_in _ | with_reducible exact itemL_in _ | with_reducible refine app_in ?_ ?_ | with_reducible refine sing_in ?_ | (focus (simp [in_any, in_int, in_bool, in_str, in_ptr, in_own, in_agg, in_vnil, in_rdr, usedOf_cons, usedOf_nil, strs_in, ints_in, nodes_in, backLb, boxLb, namesR, labsR, zeroN, nodeN, namesRow, nodeO, kidsRow]; done)))); done)) (Less.trans (Less.rename 102 100 (by simp [mkSt, usedOf_cons, usedOf_nil])) (Less.trans (Less.rename 103 101 (by simp [ASt.rename, mkSt, rowsOf_cons, usedOf_cons, usedOf_nil, upd])) ?_))
    simp only [ASt.rename, mkSt, rowsOf_cons, Nat.reduceEqDiff, if_true, if_false, reduceIte, upd, boxLb, namesR, labsR, zeroN]
    exact (less_of (by simp [lessL, mkSt, slots, AV.subL, AV.sub, Row.sub, rowsOf_nil, strsE_sub, labsE_sub, labL_sub, strsE_len, boxLb, namesR, labsR, zeroN, nodeN, namesRow, nodeO, kidsRow]) (by simp [upd, mkSt, rowsOf_cons, AV.subL, AV.sub, Row.sub, rowsOf_nil, strsE_sub, labsE_sub, labL_sub, strsE_len, boxLb, namesR, labsR, zeroN, nodeN, namesRow, nodeO, kidsRow]) (by simp [upd, mkSt, usedOf_cons, AV.subL, AV.sub, Row.sub, rowsOf_nil, strsE_sub, labsE_sub, labL_sub, strsE_len, boxLb, namesR, labsR, zeroN, nodeN, namesRow, nodeO, kidsRow]) (by first | exact rd_less (by omega) | simp [mkSt, AV.subL, AV.sub, Row.sub, rowsOf_nil, strsE_sub, labsE_sub, labL_sub, strsE_len, boxLb, namesR, labsR, zeroN, nodeN, namesRow, nodeO, kidsRow]) (by simp [slots, in_any, in_int, in_bool, in_str, in_ptr, in_own, in_agg, in_vnil, in_rdr, usedOf_cons, usedOf_nil, strs_in, ints_in, nodes_in, in_tup, AV.subL, AV.sub, Row.sub, rowsOf_nil, strsE_sub, labsE_sub, labL_sub, strsE_len, boxLb, namesR, labsR, zeroN, nodeN, namesRow, nodeO, kidsRow]) (by simp only [List.forall_mem_cons, List.not_mem_nil, false_implies, implies_true, and_true, true_and, AV.subL, AV.sub, Row.sub, rowsOf_nil, strsE_sub, labsE_sub, labL_sub, strsE_len, boxLb, namesR, labsR, zeroN, nodeN, namesRow, nodeO, kidsRow]; (repeat (first | with_reducible exact trivial | with_reducible refine And.intro ?_ ?_ | with_reducible exact in_int | with_reducible exact in_str | with_reducible exact in_bool | with_reducible exact strs_in _ | with_reducible exact nodes_in _ | with_reducible exact items_in _ | with_reducible exact in_vnil | with_reducible exact in_any | exact hin _ | with_reducible refine take_in ?_ | with_reducible exact strsE_in _ | with_reducible exact nodesE_in _ | with_reducible exact nodeL_in _ | with_reducible exact itemsE_in _ | with_reducible exact itemL_in _ | with_reducible refine app_in ?_ ?_ | with_reducible refine sing_in ?_ | (focus (simp [in_any, in_int, in_bool, in_str, in_ptr, in_own, in_agg, in_vnil, in_rdr, usedOf_cons, usedOf_nil, strs_in, ints_in, nodes_in, AV.subL, AV.sub, Row.sub, rowsOf_nil, strsE_sub, labsE_sub, labL_sub, strsE_len, boxLb, namesR, labsR, zeroN, nodeN, namesRow, nodeO, kidsRow]; done)))); done))
  · have h0 : ¬ p.kids[i].kind = 0 := by simpa using hkk
    have hst : stepN r0.nd p.names[i] p.kids[i] = putK r0.nd p.names[i] (mrg p.kids[i] (kidOf r0.nd p.names[i])) := by unfold stepN; rw [if_neg h0]
    rw [hst] at hf hnext
    have hold := base_old hn p.names[i]
    rw [← hm.kid hp h4 hn hlt] at hold
    have hmg := (ih _ (List.getElem_mem hk) _ hold).mono (fun r h => rLab_X h)
    have hasc : Asc r0.names := by rw [← hrn]; exact hm.w.asc
    have hrl : r0.names.length = r0.kids.length := by rw [← hrn, ← hrk]; exact hm.w.len
    have pb := bsearch_AC r0.names p.names[i] .lent hasc (by omega)
    generalize mrg p.kids[i] (kidOf r0.nd p.names[i]) = y at *
    unfold nodeA at hmg
    rw [nodeL_eq p.kids[i]] at hmg
    refine AW.noteR 101 (r := labsR r0.kids) (by simp [mkSt, rowsOf_cons]) ?_
    cases hmm : mem r0.names p.names[i]
    · rw [hmm] at pb
      rw [kidOf_no (by rw [hrn]; exact hmm), zeroA] at hmg
      have hcz := node_clo Nd.zero
      unfold nodeA at hcz
      rw [zeroA] at hcz
      (repeat (first | with_reducible refine AW.seq ?_ | ((first | refine arun_kn 4 rfl (fun C hC => ?_) | refine arunD_kn 4 rfl (fun C hC => ?_)); (repeat ((conv => whnf); simp [hlt, hk, hkk, strsE_len, boxLb, namesR])); refine hC _ ?_; clear hC C; simp only [List.drop, Nat.reduceAdd]) | ((first | refine arun_kn 1 rfl (fun C hC => ?_) | refine arunD_kn 1 rfl (fun C hC => ?_)); (repeat ((conv => whnf); simp [hlt, hk, hkk, strsE_len, boxLb, namesR])); refine hC _ ?_; clear hC C; simp only [List.drop, Nat.reduceAdd]) | (refine arun_skip ?_ ?_; (focus (simp [awant, hlt, hk, hkk, strsE_len, boxLb, namesR]; done))) | (refine arun_cL (0) (pb) ?_; rintro _ rfl) | (refine AW.regionK [] (fun K hK => ?_)) | (refine AW.condT ?_ ?_; (focus (simp [aev, hlt, hk, hkk, strsE_len, boxLb, namesR]; done))) | (refine AW.condF ?_ ?_; (focus (simp [aev, hlt, hk, hkk, strsE_len, boxLb, namesR]; done))) | with_reducible refine AW.block ?_ | ((first | ((first | refine arun_nil ?_ | refine arunD_nil ?_); refine hK _ ?_; clear hK K) | refine AW.skip ?_ | refine AW.exit ?_ | refine AW.ret ?_); simp only [thenA_exit, inBlockA_exit, if_true, if_false, Nat.reduceEqDiff, thenA_normal, inBlockA_normal, reduceIte, thenA_ret, inBlockA_ret, endQ_ret, endR_ret, endG_ret, endQ_normal, endR_normal, endG_normal, endF_ret, endF_normal])))
      refine AW.wkB 8 3 (.view .loose 1 []) (Wk.nil (fun h => by cases h)) (by simp [upd]; rfl) rfl rfl ?_
      simp only [ASt.wkB]
      refine AW.wkB 8 4 (.view .loose 5 []) (Wk.nil (fun h => by cases h)) (by simp [upd]; rfl) rfl rfl ?_
      simp only [ASt.wkB]
      refine AW.bound (fun N hNb => ?_)
      refine AW.regionDK [] (pcs [(7, 0, fun r => rLabX y r ∧ ∀ b ∈ atB r, ¬ (w0.note (atE (labsR r0.kids).es)).A b)] [1008]) (by kernel_rfl) (by kernel_rfl) (fun K hK => ?_)
      (repeat (first | with_reducible refine AW.seq ?_ | ((first | refine arun_kn 4 rfl (fun C hC => ?_) | refine arunD_kn 4 rfl (fun C hC => ?_)); (repeat ((conv => whnf); simp [hlt, hk, hkk, strsE_len, boxLb, namesR, labsR])); refine hC _ ?_; clear hC C; simp only [List.drop, Nat.reduceAdd]) | ((first | refine arun_kn 1 rfl (fun C hC => ?_) | refine arunD_kn 1 rfl (fun C hC => ?_)); (repeat ((conv => whnf); simp [hlt, hk, hkk, strsE_len, boxLb, namesR, labsR])); refine hC _ ?_; clear hC C; simp only [List.drop, Nat.reduceAdd]) | (refine arun_skip ?_ ?_; (focus (simp [awant, hlt, hk, hkk, strsE_len, boxLb, namesR, labsR]; done))) | (refine arun_cF (0) (hmg) ?_; (rintro _ ⟨l, hl, hlp, rfl⟩ hA)) | (refine arunD_cF (0) (hmg) (by exact rLabX_ex _ hNb) ?_; (rintro _ ⟨l, hl, hlp, rfl⟩ hA); intro _) | (refine AW.regionK [] (fun K hK => ?_)) | (refine AW.regionDK [] (pcs [] []) (by kernel_rfl) (by kernel_rfl) (fun K hK => ?_)) | (refine AW.condT ?_ ?_; (focus (simp [aev, hlt, hk, hkk, strsE_len, boxLb, namesR, labsR]; done))) | (refine AW.condF ?_ ?_; (focus (simp [aev, hlt, hk, hkk, strsE_len, boxLb, namesR, labsR]; done))) | with_reducible refine AW.block ?_ | ((first | ((first | refine arun_nil ?_ | refine arunD_nil ?_); refine hK _ ?_; clear hK K) | refine AW.skip ?_ | refine AW.exit ?_ | refine AW.ret ?_); simp only [thenA_exit, inBlockA_exit, if_true, if_false, Nat.reduceEqDiff, thenA_normal, inBlockA_normal, reduceIte, thenA_ret, inBlockA_ret, endQ_ret, endR_ret, endG_ret, endQ_normal, endR_normal, endG_normal, endF_ret, endF_normal])))
      have hpn := putNameF_ACG r0 l p.names[i] (by rw [← ndNames]; exact hm.w.asc) (by rw [← ndNames, ← ndKlen]; exact hm.w.len) (by rw [← ndKlen]; omega)
      unfold labA at hpn
      rw [labL_eq l] at hpn
      have hcy := lab_clo l
      unfold labA at hcy
      rw [labL_eq l] at hcy
      have hA1 : ∀ b ∈ l.fp, ¬ w0.A b := fun b hb h => hA b (by rw [at_agg, ← labL_eq]; exact hb) (.inl h)
      have hA2 : ∀ b ∈ l.fp, ¬ b ∈ r0.kids.flatMap Lb.fp := fun b hb h => hA b (by rw [at_agg, ← labL_eq]; exact hb) (.inr (by rw [show (labsR r0.kids).es = r0.kids.map labL from rfl, atE_labs]; exact h))
      refine arunD_callL5 5 100 101 102 103 (hac := hpn) (h1 := by simp [rowsOf_cons, upd, boxLb]) (h2 := by simp [rowsOf_cons, upd, namesR]) (h3 := by simp [rowsOf_cons, upd, labsR]) (hd := by decide) (hD := by decide) (uA := by simp [usedOf_cons, usedOf_nil, upd]) (uB := by simp [usedOf_cons, usedOf_nil, upd]) (hl := rfl) (hw := by simp [awant]) (ha := rfl) (hargs := .cons (.base (.ptr (by simp [rowsLb]) rfl)) (.cons (.base (.clo (Clo.cloTo clo_str))) (.cons (.base (.clo (Clo.cloTo hcy))) .nil))) (hcan := by (simp only [ASt.put, ASt.pay, Option.map_map, Function.comp_def]; exact can_of (Nat.zero_le _))) (h := ?_)
      (repeat (first | with_reducible refine AW.seq ?_ | ((first | refine arun_kn 4 rfl (fun C hC => ?_) | refine arunD_kn 4 rfl (fun C hC => ?_)); (repeat ((conv => whnf); simp [hlt, hk, hkk, hwi, backLb, rowsLb, nuLb])); refine hC _ ?_; clear hC C; simp only [List.drop, Nat.reduceAdd]) | ((first | refine arun_kn 1 rfl (fun C hC => ?_) | refine arunD_kn 1 rfl (fun C hC => ?_)); (repeat ((conv => whnf); simp [hlt, hk, hkk, hwi, backLb, rowsLb, nuLb])); refine hC _ ?_; clear hC C; simp only [List.drop, Nat.reduceAdd]) | (refine arun_skip ?_ ?_; (focus (simp [awant, hlt, hk, hkk, hwi, backLb, rowsLb, nuLb]; done))) | (refine AW.regionK [] (fun K hK => ?_)) | (refine AW.regionDK [] (pcs [] []) (by kernel_rfl) (by kernel_rfl) (fun K hK => ?_)) | (refine AW.condT ?_ ?_; (focus (simp [aev, hlt, hk, hkk, hwi, backLb, rowsLb, nuLb]; done))) | (refine AW.condF ?_ ?_; (focus (simp [aev, hlt, hk, hkk, hwi, backLb, rowsLb, nuLb]; done))) | with_reducible refine AW.block ?_ | ((first | ((first | refine arun_nil ?_ | refine arunD_nil ?_); refine hK _ ?_; clear hK K) | refine AW.skip ?_ | refine AW.exit ?_ | refine AW.ret ?_); simp only [thenA_exit, inBlockA_exit, if_true, if_false, Nat.reduceEqDiff, thenA_normal, inBlockA_normal, reduceIte, thenA_ret, inBlockA_ret, endQ_ret, endR_ret, endG_ret, endQ_normal, endR_normal, endG_normal, endF_ret, endF_normal])))
      have hnd : (putLb r0 p.names[i] l).nd = putK r0.nd p.names[i] y := by rw [putLb_nd, hl]
      rw [← hnd] at hnext hf
      have hfp1 := putLb_fp p.names[i] hkn hlp hA2
      have hfp2 : ∀ b ∈ (putLb r0 p.names[i] l).kids.flatMap Lb.fp, w0.wd.heap.size ≤ b := fun b hb => (putLb_fp_mem hb).elim (hkA b) (fun h => hN.ge (hA1 b h))
      refine ⟨(i + 1, putLb r0 p.names[i] l), by dsimp only; omega, ⟨by dsimp only; omega, hnext, hf, hfp1, hfp2⟩, ?_⟩
      dsimp only
      generalize putLb r0 p.names[i] l = m at *
      have hin : ∀ U : Nat → Bool, ∀ e ∈ m.kids.map labL, ∀ c ∈ e, AV.In U c := fun U => labsE_in _
      refine Less.trans (s' := mkSt (slots 0 63 [(3, .ptr true 5 1 3 0 0), (4, .ptr true 5 1 4 0 0), (5, .ptr true 5 1 5 0 0), (23, .view .loose 1 (strsE p.names)), (24, .int .i64 p.names.length), (25, .int .i64 ((i + 1 : Nat) : Int))]) [(3, ⟨true, 30, 5, [[.int .i64 p.kind, .int .i64 p.num, .str p.text, .view .loose 1 (strsE p.names), .view .loose 5 (p.kids.map nodeL)]]⟩), (4, ⟨true, 30, 5, [zeroN]⟩), (5, boxLb m 102 103), (102, namesR m.names), (103, labsR m.kids)] [3, 4, 5, 102, 103] (rd0.map fun _ => 0)) (less_of (by simp [lessL, mkSt, slots, backLb, boxLb, namesR, labsR, zeroN, nodeN, namesRow, nodeO, kidsRow]) (by simp [upd, mkSt, rowsOf_cons, backLb, boxLb, namesR, labsR, zeroN, nodeN, namesRow, nodeO, kidsRow]) (by simp [upd, mkSt, usedOf_cons, backLb, boxLb, namesR, labsR, zeroN, nodeN, namesRow, nodeO, kidsRow]) (by first | exact rd_less (by omega) | simp [mkSt, backLb, boxLb, namesR, labsR, zeroN, nodeN, namesRow, nodeO, kidsRow]) (by simp [slots, in_any, in_int, in_bool, in_str, in_ptr, in_own, in_agg, in_vnil, in_rdr, usedOf_cons, usedOf_nil, strs_in, ints_in, nodes_in, in_tup, backLb, boxLb, namesR, labsR, zeroN, nodeN, namesRow, nodeO, kidsRow]) (by simp only [List.forall_mem_cons, List.not_mem_nil, false_implies, implies_true, and_true, true_and, backLb, boxLb, namesR, labsR, zeroN, nodeN, namesRow, nodeO, kidsRow]; (repeat (first | with_reducible exact trivial | with_reducible refine And.intro ?_ ?_ | with_reducible exact in_int | with_reducible exact in_str | with_reducible exact in_bool | with_reducible exact strs_in _ | with_reducible exact nodes_in _ | with_reducible exact items_in _ | with_reducible exact in_vnil | with_reducible exact in_any | exact hin _ | with_reducible refine take_in ?_ | with_reducible exact strsE_in _ | with_reducible exact nodesE_in _ | with_reducible exact nodeL_in _ | with_reducible exact itemsE_in _ | with_reducible exact itemL_in _ | with_reducible refine app_in ?_ ?_ | with_reducible refine sing_in ?_ | (focus (simp [in_any, in_int, in_bool, in_str, in_ptr, in_own, in_agg, in_vnil, in_rdr, usedOf_cons, usedOf_nil, strs_in, ints_in, nodes_in, backLb, boxLb, namesR, labsR, zeroN, nodeN, namesRow, nodeO, kidsRow]; done)))); done)) (Less.trans (Less.rename 102 100 (by simp [mkSt, usedOf_cons, usedOf_nil])) (Less.trans (Less.rename 103 101 (by simp [ASt.rename, mkSt, rowsOf_cons, usedOf_cons, usedOf_nil, upd])) ?_))
      simp only [ASt.rename, mkSt, rowsOf_cons, Nat.reduceEqDiff, if_true, if_false, reduceIte, upd, boxLb, namesR, labsR, zeroN]
      exact (less_of (by simp [lessL, mkSt, slots, AV.subL, AV.sub, Row.sub, rowsOf_nil, strsE_sub, labsE_sub, labL_sub, strsE_len, boxLb, namesR, labsR, zeroN, nodeN, namesRow, nodeO, kidsRow]) (by simp [upd, mkSt, rowsOf_cons, AV.subL, AV.sub, Row.sub, rowsOf_nil, strsE_sub, labsE_sub, labL_sub, strsE_len, boxLb, namesR, labsR, zeroN, nodeN, namesRow, nodeO, kidsRow]) (by simp [upd, mkSt, usedOf_cons, AV.subL, AV.sub, Row.sub, rowsOf_nil, strsE_sub, labsE_sub, labL_sub, strsE_len, boxLb, namesR, labsR, zeroN, nodeN, namesRow, nodeO, kidsRow]) (by first | exact rd_less (by omega) | simp [mkSt, AV.subL, AV.sub, Row.sub, rowsOf_nil, strsE_sub, labsE_sub, labL_sub, strsE_len, boxLb, namesR, labsR, zeroN, nodeN, namesRow, nodeO, kidsRow]) (by simp [slots, in_any, in_int, in_bool, in_str, in_ptr, in_own, in_agg, in_vnil, in_rdr, usedOf_cons, usedOf_nil, strs_in, ints_in, nodes_in, in_tup, AV.subL, AV.sub, Row.sub, rowsOf_nil, strsE_sub, labsE_sub, labL_sub, strsE_len, boxLb, namesR, labsR, zeroN, nodeN, namesRow, nodeO, kidsRow]) (by simp only [List.forall_mem_cons, List.not_mem_nil, false_implies, implies_true, and_true, true_and, AV.subL, AV.sub, Row.sub, rowsOf_nil, strsE_sub, labsE_sub, labL_sub, strsE_len, boxLb, namesR, labsR, zeroN, nodeN, namesRow, nodeO, kidsRow]; (repeat (first | with_reducible exact trivial | with_reducible refine And.intro ?_ ?_ | with_reducible exact in_int | with_reducible exact in_str | with_reducible exact in_bool | with_reducible exact strs_in _ | with_reducible exact nodes_in _ | with_reducible exact items_in _ | with_reducible exact in_vnil | with_reducible exact in_any | exact hin _ | with_reducible refine take_in ?_ | with_reducible exact strsE_in _ | with_reducible exact nodesE_in _ | with_reducible exact nodeL_in _ | with_reducible exact itemsE_in _ | with_reducible exact itemL_in _ | with_reducible refine app_in ?_ ?_ | with_reducible refine sing_in ?_ | (focus (simp [in_any, in_int, in_bool, in_str, in_ptr, in_own, in_agg, in_vnil, in_rdr, usedOf_cons, usedOf_nil, strs_in, ints_in, nodes_in, AV.subL, AV.sub, Row.sub, rowsOf_nil, strsE_sub, labsE_sub, labL_sub, strsE_len, boxLb, namesR, labsR, zeroN, nodeN, namesRow, nodeO, kidsRow]; done)))); done))
    · rw [hmm] at pb
      have hlb := lbn_lt hasc hmm
      have hlk : lbound r0.names p.names[i] < r0.kids.length := by omega
      have hko : kidOf r0.nd p.names[i] = (r0.kids[lbound r0.names p.names[i]]).nd := by
        rw [kidOf_yes (by rw [hrn]; exact hmm) (by rw [hrn, hrk]; exact hlk)]
        simp only [hrn, ndKids, List.getElem_map]
      rw [hko] at hmg
      replace hmg : ACF Try.prog 119 [labA r0.kids[lbound r0.names p.names[i]], .agg [.int .i64 p.kids[i].kind, .int .i64 p.kids[i].num, .str p.kids[i].text, .view .loose 1 (strsE p.kids[i].names), .view .loose 5 (p.kids[i].kids.map nodeL)]] 0 (rLabX y) := ACF.arg hmg (.cons (.agg (labL_wk _)) (.cons (Wk.refl _) .nil))
      unfold labA at hmg
      have hcz := lab_clo r0.kids[lbound r0.names p.names[i]]
      unfold labA at hcz
      rw [labL_eq r0.kids[lbound r0.names p.names[i]]] at hmg hcz
      have hll := labL_eq r0.kids[lbound r0.names p.names[i]]
      (repeat (first | with_reducible refine AW.seq ?_ | ((first | refine arun_kn 4 rfl (fun C hC => ?_) | refine arunD_kn 4 rfl (fun C hC => ?_)); (repeat ((conv => whnf); simp [hlt, hk, hkk, hlb, hlk, hll, strsE_len, boxLb, namesR, labsR])); refine hC _ ?_; clear hC C; simp only [List.drop, Nat.reduceAdd]) | ((first | refine arun_kn 1 rfl (fun C hC => ?_) | refine arunD_kn 1 rfl (fun C hC => ?_)); (repeat ((conv => whnf); simp [hlt, hk, hkk, hlb, hlk, hll, strsE_len, boxLb, namesR, labsR])); refine hC _ ?_; clear hC C; simp only [List.drop, Nat.reduceAdd]) | (refine arun_skip ?_ ?_; (focus (simp [awant, hlt, hk, hkk, hlb, hlk, hll, strsE_len, boxLb, namesR, labsR]; done))) | (refine arun_cL (0) (pb) ?_; rintro _ rfl) | (refine AW.regionK [] (fun K hK => ?_)) | (refine AW.condT ?_ ?_; (focus (simp [aev, hlt, hk, hkk, hlb, hlk, hll, strsE_len, boxLb, namesR, labsR]; done))) | (refine AW.condF ?_ ?_; (focus (simp [aev, hlt, hk, hkk, hlb, hlk, hll, strsE_len, boxLb, namesR, labsR]; done))) | with_reducible refine AW.block ?_ | ((first | ((first | refine arun_nil ?_ | refine arunD_nil ?_); refine hK _ ?_; clear hK K) | refine AW.skip ?_ | refine AW.exit ?_ | refine AW.ret ?_); simp only [thenA_exit, inBlockA_exit, if_true, if_false, Nat.reduceEqDiff, thenA_normal, inBlockA_normal, reduceIte, thenA_ret, inBlockA_ret, endQ_ret, endR_ret, endG_ret, endQ_normal, endR_normal, endG_normal, endF_ret, endF_normal])))
      refine AW.bound (fun N hNb => ?_)
      refine AW.regionDK [] (pcs [(7, 0, fun r => rLabX y r ∧ ∀ b ∈ atB r, ¬ (w0.note (atE (labsR r0.kids).es)).A b)] [1008]) (by kernel_rfl) (by kernel_rfl) (fun K hK => ?_)
      (repeat (first | with_reducible refine AW.seq ?_ | ((first | refine arun_kn 4 rfl (fun C hC => ?_) | refine arunD_kn 4 rfl (fun C hC => ?_)); (repeat ((conv => whnf); simp [hlt, hk, hkk, strsE_len, boxLb, namesR, labsR])); refine hC _ ?_; clear hC C; simp only [List.drop, Nat.reduceAdd]) | ((first | refine arun_kn 1 rfl (fun C hC => ?_) | refine arunD_kn 1 rfl (fun C hC => ?_)); (repeat ((conv => whnf); simp [hlt, hk, hkk, strsE_len, boxLb, namesR, labsR])); refine hC _ ?_; clear hC C; simp only [List.drop, Nat.reduceAdd]) | (refine arun_skip ?_ ?_; (focus (simp [awant, hlt, hk, hkk, strsE_len, boxLb, namesR, labsR]; done))) | (refine arun_cF (0) (hmg) ?_; (rintro _ ⟨l, hl, hlp, rfl⟩ hA)) | (refine arunD_cF (0) (hmg) (by exact rLabX_ex _ hNb) ?_; (rintro _ ⟨l, hl, hlp, rfl⟩ hA); intro _) | (refine AW.regionK [] (fun K hK => ?_)) | (refine AW.regionDK [] (pcs [] []) (by kernel_rfl) (by kernel_rfl) (fun K hK => ?_)) | (refine AW.condT ?_ ?_; (focus (simp [aev, hlt, hk, hkk, strsE_len, boxLb, namesR, labsR]; done))) | (refine AW.condF ?_ ?_; (focus (simp [aev, hlt, hk, hkk, strsE_len, boxLb, namesR, labsR]; done))) | with_reducible refine AW.block ?_ | ((first | ((first | refine arun_nil ?_ | refine arunD_nil ?_); refine hK _ ?_; clear hK K) | refine AW.skip ?_ | refine AW.exit ?_ | refine AW.ret ?_); simp only [thenA_exit, inBlockA_exit, if_true, if_false, Nat.reduceEqDiff, thenA_normal, inBlockA_normal, reduceIte, thenA_ret, inBlockA_ret, endQ_ret, endR_ret, endG_ret, endQ_normal, endR_normal, endG_normal, endF_ret, endF_normal])))
      have hpn := putNameF_ACG r0 l p.names[i] (by rw [← ndNames]; exact hm.w.asc) (by rw [← ndNames, ← ndKlen]; exact hm.w.len) (by rw [← ndKlen]; omega)
      unfold labA at hpn
      rw [labL_eq l] at hpn
      have hcy := lab_clo l
      unfold labA at hcy
      rw [labL_eq l] at hcy
      have hA1 : ∀ b ∈ l.fp, ¬ w0.A b := fun b hb h => hA b (by rw [at_agg, ← labL_eq]; exact hb) (.inl h)
      have hA2 : ∀ b ∈ l.fp, ¬ b ∈ r0.kids.flatMap Lb.fp := fun b hb h => hA b (by rw [at_agg, ← labL_eq]; exact hb) (.inr (by rw [show (labsR r0.kids).es = r0.kids.map labL from rfl, atE_labs]; exact h))
      refine arunD_callL5 5 100 101 102 103 (hac := hpn) (h1 := by simp [rowsOf_cons, upd, boxLb]) (h2 := by simp [rowsOf_cons, upd, namesR]) (h3 := by simp [rowsOf_cons, upd, labsR]) (hd := by decide) (hD := by decide) (uA := by simp [usedOf_cons, usedOf_nil, upd]) (uB := by simp [usedOf_cons, usedOf_nil, upd]) (hl := rfl) (hw := by simp [awant]) (ha := rfl) (hargs := .cons (.base (.ptr (by simp [rowsLb]) rfl)) (.cons (.base (.clo (Clo.cloTo clo_str))) (.cons (.base (.clo (Clo.cloTo hcy))) .nil))) (hcan := by (simp only [ASt.put, ASt.pay, Option.map_map, Function.comp_def]; exact can_of (Nat.zero_le _))) (h := ?_)
      (repeat (first | with_reducible refine AW.seq ?_ | ((first | refine arun_kn 4 rfl (fun C hC => ?_) | refine arunD_kn 4 rfl (fun C hC => ?_)); (repeat ((conv => whnf); simp [hlt, hk, hkk, hwi, backLb, rowsLb, nuLb])); refine hC _ ?_; clear hC C; simp only [List.drop, Nat.reduceAdd]) | ((first | refine arun_kn 1 rfl (fun C hC => ?_) | refine arunD_kn 1 rfl (fun C hC => ?_)); (repeat ((conv => whnf); simp [hlt, hk, hkk, hwi, backLb, rowsLb, nuLb])); refine hC _ ?_; clear hC C; simp only [List.drop, Nat.reduceAdd]) | (refine arun_skip ?_ ?_; (focus (simp [awant, hlt, hk, hkk, hwi, backLb, rowsLb, nuLb]; done))) | (refine AW.regionK [] (fun K hK => ?_)) | (refine AW.regionDK [] (pcs [] []) (by kernel_rfl) (by kernel_rfl) (fun K hK => ?_)) | (refine AW.condT ?_ ?_; (focus (simp [aev, hlt, hk, hkk, hwi, backLb, rowsLb, nuLb]; done))) | (refine AW.condF ?_ ?_; (focus (simp [aev, hlt, hk, hkk, hwi, backLb, rowsLb, nuLb]; done))) | with_reducible refine AW.block ?_ | ((first | ((first | refine arun_nil ?_ | refine arunD_nil ?_); refine hK _ ?_; clear hK K) | refine AW.skip ?_ | refine AW.exit ?_ | refine AW.ret ?_); simp only [thenA_exit, inBlockA_exit, if_true, if_false, Nat.reduceEqDiff, thenA_normal, inBlockA_normal, reduceIte, thenA_ret, inBlockA_ret, endQ_ret, endR_ret, endG_ret, endQ_normal, endR_normal, endG_normal, endF_ret, endF_normal])))
      have hnd : (putLb r0 p.names[i] l).nd = putK r0.nd p.names[i] y := by rw [putLb_nd, hl]
      rw [← hnd] at hnext hf
      have hfp1 := putLb_fp p.names[i] hkn hlp hA2
      have hfp2 : ∀ b ∈ (putLb r0 p.names[i] l).kids.flatMap Lb.fp, w0.wd.heap.size ≤ b := fun b hb => (putLb_fp_mem hb).elim (hkA b) (fun h => hN.ge (hA1 b h))
      refine ⟨(i + 1, putLb r0 p.names[i] l), by dsimp only; omega, ⟨by dsimp only; omega, hnext, hf, hfp1, hfp2⟩, ?_⟩
      dsimp only
      generalize putLb r0 p.names[i] l = m at *
      have hin : ∀ U : Nat → Bool, ∀ e ∈ m.kids.map labL, ∀ c ∈ e, AV.In U c := fun U => labsE_in _
      refine Less.trans (s' := mkSt (slots 0 63 [(3, .ptr true 5 1 3 0 0), (4, .ptr true 5 1 4 0 0), (5, .ptr true 5 1 5 0 0), (23, .view .loose 1 (strsE p.names)), (24, .int .i64 p.names.length), (25, .int .i64 ((i + 1 : Nat) : Int))]) [(3, ⟨true, 30, 5, [[.int .i64 p.kind, .int .i64 p.num, .str p.text, .view .loose 1 (strsE p.names), .view .loose 5 (p.kids.map nodeL)]]⟩), (4, ⟨true, 30, 5, [zeroN]⟩), (5, boxLb m 102 103), (102, namesR m.names), (103, labsR m.kids)] [3, 4, 5, 102, 103] (rd0.map fun _ => 0)) (less_of (by simp [lessL, mkSt, slots, backLb, boxLb, namesR, labsR, zeroN, nodeN, namesRow, nodeO, kidsRow]) (by simp [upd, mkSt, rowsOf_cons, backLb, boxLb, namesR, labsR, zeroN, nodeN, namesRow, nodeO, kidsRow]) (by simp [upd, mkSt, usedOf_cons, backLb, boxLb, namesR, labsR, zeroN, nodeN, namesRow, nodeO, kidsRow]) (by first | exact rd_less (by omega) | simp [mkSt, backLb, boxLb, namesR, labsR, zeroN, nodeN, namesRow, nodeO, kidsRow]) (by simp [slots, in_any, in_int, in_bool, in_str, in_ptr, in_own, in_agg, in_vnil, in_rdr, usedOf_cons, usedOf_nil, strs_in, ints_in, nodes_in, in_tup, backLb, boxLb, namesR, labsR, zeroN, nodeN, namesRow, nodeO, kidsRow]) (by simp only [List.forall_mem_cons, List.not_mem_nil, false_implies, implies_true, and_true, true_and, backLb, boxLb, namesR, labsR, zeroN, nodeN, namesRow, nodeO, kidsRow]; (repeat (first | with_reducible exact trivial | with_reducible refine And.intro ?_ ?_ | with_reducible exact in_int | with_reducible exact in_str | with_reducible exact in_bool | with_reducible exact strs_in _ | with_reducible exact nodes_in _ | with_reducible exact items_in _ | with_reducible exact in_vnil | with_reducible exact in_any | exact hin _ | with_reducible refine take_in ?_ | with_reducible exact strsE_in _ | with_reducible exact nodesE_in _ | with_reducible exact nodeL_in _ | with_reducible exact itemsE_in _ | with_reducible exact itemL_in _ | with_reducible refine app_in ?_ ?_ | with_reducible refine sing_in ?_ | (focus (simp [in_any, in_int, in_bool, in_str, in_ptr, in_own, in_agg, in_vnil, in_rdr, usedOf_cons, usedOf_nil, strs_in, ints_in, nodes_in, backLb, boxLb, namesR, labsR, zeroN, nodeN, namesRow, nodeO, kidsRow]; done)))); done)) (Less.trans (Less.rename 102 100 (by simp [mkSt, usedOf_cons, usedOf_nil])) (Less.trans (Less.rename 103 101 (by simp [ASt.rename, mkSt, rowsOf_cons, usedOf_cons, usedOf_nil, upd])) ?_))
      simp only [ASt.rename, mkSt, rowsOf_cons, Nat.reduceEqDiff, if_true, if_false, reduceIte, upd, boxLb, namesR, labsR, zeroN]
      exact (less_of (by simp [lessL, mkSt, slots, AV.subL, AV.sub, Row.sub, rowsOf_nil, strsE_sub, labsE_sub, labL_sub, strsE_len, boxLb, namesR, labsR, zeroN, nodeN, namesRow, nodeO, kidsRow]) (by simp [upd, mkSt, rowsOf_cons, AV.subL, AV.sub, Row.sub, rowsOf_nil, strsE_sub, labsE_sub, labL_sub, strsE_len, boxLb, namesR, labsR, zeroN, nodeN, namesRow, nodeO, kidsRow]) (by simp [upd, mkSt, usedOf_cons, AV.subL, AV.sub, Row.sub, rowsOf_nil, strsE_sub, labsE_sub, labL_sub, strsE_len, boxLb, namesR, labsR, zeroN, nodeN, namesRow, nodeO, kidsRow]) (by first | exact rd_less (by omega) | simp [mkSt, AV.subL, AV.sub, Row.sub, rowsOf_nil, strsE_sub, labsE_sub, labL_sub, strsE_len, boxLb, namesR, labsR, zeroN, nodeN, namesRow, nodeO, kidsRow]) (by simp [slots, in_any, in_int, in_bool, in_str, in_ptr, in_own, in_agg, in_vnil, in_rdr, usedOf_cons, usedOf_nil, strs_in, ints_in, nodes_in, in_tup, AV.subL, AV.sub, Row.sub, rowsOf_nil, strsE_sub, labsE_sub, labL_sub, strsE_len, boxLb, namesR, labsR, zeroN, nodeN, namesRow, nodeO, kidsRow]) (by simp only [List.forall_mem_cons, List.not_mem_nil, false_implies, implies_true, and_true, true_and, AV.subL, AV.sub, Row.sub, rowsOf_nil, strsE_sub, labsE_sub, labL_sub, strsE_len, boxLb, namesR, labsR, zeroN, nodeN, namesRow, nodeO, kidsRow]; (repeat (first | with_reducible exact trivial | with_reducible refine And.intro ?_ ?_ | with_reducible exact in_int | with_reducible exact in_str | with_reducible exact in_bool | with_reducible exact strs_in _ | with_reducible exact nodes_in _ | with_reducible exact items_in _ | with_reducible exact in_vnil | with_reducible exact in_any | exact hin _ | with_reducible refine take_in ?_ | with_reducible exact strsE_in _ | with_reducible exact nodesE_in _ | with_reducible exact nodeL_in _ | with_reducible exact itemsE_in _ | with_reducible exact itemL_in _ | with_reducible refine app_in ?_ ?_ | with_reducible refine sing_in ?_ | (focus (simp [in_any, in_int, in_bool, in_str, in_ptr, in_own, in_agg, in_vnil, in_rdr, usedOf_cons, usedOf_nil, strs_in, ints_in, nodes_in, AV.subL, AV.sub, Row.sub, rowsOf_nil, strsE_sub, labsE_sub, labL_sub, strsE_len, boxLb, namesR, labsR, zeroN, nodeN, namesRow, nodeO, kidsRow]; done)))); done))
theorem mergeValid_ACF : ∀ p, Shp p → ∀ n, Shp n → ACF Try.prog 119 [nodeA n, nodeA p] 0 (rLab (mrg p n)) := Nd.ind' _ (fun p ih hp n hn =>
  mergeValidF_step p n hp hn (fun k hk m hm => ih k hk (hp.kid hk) m hm))
end Go.Proofs.Ytgfnmhfdmmnaoaa.Eng
namespace Go.Proofs.Ytgfnmhfdmmnaoaa.Eng
open Go Go.RowKit
section
variable {P : Program} {T : Tab} {k0 : Nat} {md : List Nat} {Av : Nat → Prop} {pc : Pc} {ops : Array Oper} {K : ASt → Prop} {o : Oper} {l : List Oper} {s : ASt} {f : FuncId} {xs : List Operand} {args : List AV}
end
end Go.Proofs.Ytgfnmhfdmmnaoaa.Eng
-- EV: rows
namespace Go.Proofs.Ytgfnmhfdmmnaoaa.Eng
open Go Go.RowKit
attribute [local simp] big size_mk ASt.pay Option.map_map Function.comp_def awant aop acall ado aev ofVal ofVal0 ASt.put ASt.add ASt.turn ASt.kill abox aalloc astore aload aloadD astoreD idOf ASt.at cellsTo afieldAddr afield aindexAddr aindex alen abin aint acmp astr aun apick aextract anil aslice abound abuild afill abuildSlice asCells aps avCells over upd aappend asrc amax amin aconv mkSt slots rowsOf_cons rowsOf_nil usedOf_cons usedOf_nil ZK.av List.replicate ASt.back ASt.addL ASt.killL nodeA nodeT nodeTL_eq nodeL_eq strsE_get strsE_len intsE_get intsE_len strsE_at intsE_at nodeN namesRow nodeO kidsRow tab2 tab3 tab4 tab5 tab6 tab7 tab8 tab9 tab10 tab11 tab12 tab13 tab14 tab15 tab16 tab17 tab18 tab19 tab21 tab22 tab23 tab24 tab25 tab26 tab27 tab28 tab29 tab30 tab39 tab40 tab41 tab42 tab43 tab47 tab48 tab55 tab56 tab57 tab60 tab61 tab62 tab73 tab74 tab75 tab85 tab92 tab115 tab116 tab143 tab144 tab145 tab154 tab155 tab170 tab175 tab182 tab197 tab198 tab203 tab204 tab205 tab207 tab208 tab209
end Go.Proofs.Ytgfnmhfdmmnaoaa.Eng
-- EV: rows
namespace Go.Proofs.Ytgfnmhfdmmnaoaa.Eng
open Go Go.RowKit
attribute [local simp] big size_mk ASt.pay Option.map_map Function.comp_def awant aop acall ado aev ofVal ofVal0 ASt.put ASt.add ASt.turn ASt.kill abox aalloc astore aload aloadD astoreD idOf ASt.at cellsTo afieldAddr afield aindexAddr aindex alen abin aint acmp astr aun apick aextract anil aslice abound abuild afill abuildSlice asCells aps avCells over upd aappend asrc amax amin aconv mkSt slots rowsOf_cons rowsOf_nil usedOf_cons usedOf_nil ZK.av List.replicate ASt.back ASt.addL ASt.killL nodeA nodeT nodeTL_eq nodeL_eq strsE_get strsE_len intsE_get intsE_len strsE_at intsE_at nodeN namesRow nodeO kidsRow tab2 tab3 tab4 tab5 tab6 tab7 tab8 tab9 tab10 tab11 tab12 tab13 tab14 tab15 tab16 tab17 tab18 tab19 tab21 tab22 tab23 tab24 tab25 tab26 tab27 tab28 tab29 tab30 tab39 tab40 tab41 tab42 tab43 tab47 tab48 tab55 tab56 tab57 tab60 tab61 tab62 tab73 tab74 tab75 tab85 tab92 tab115 tab116 tab143 tab144 tab145 tab154 tab155 tab170 tab175 tab182 tab197 tab198 tab203 tab204 tab205 tab207 tab208 tab209
theorem nodeO_res (n : Nd) (id0 : Nat) : Res1 id0 (nodeO n) := Res1.agg [fun _ => .int .i64 n.kind, fun _ => .int .i64 n.num, fun _ => .str n.text, fun _ => .view .loose 1 (strsE n.names), fun id => .own id n.kids.length] (by
  simp only [List.forall_mem_cons, List.not_mem_nil, false_implies, implies_true, and_true]
  exact ⟨Res1.pur _ pur_int, Res1.pur _ pur_int, Res1.pur _ pur_str, Res1.pur _ (strs_pur _ (by decide)), Res1.own _ _⟩)
theorem optA_in (o : Option Nd) : NoId (optA o) := by
  unfold optA NoId
  have h := node_in (U := fun _ => false) (o.getD Nd.zero)
  unfold nodeA at h
  rw [nodeL_eq] at h
  simp [in_tup, in_bool]
  exact h
def optL (o : Option Nd) : AV := .tup [.agg [.int .i64 (o.getD Nd.zero).kind, .int .i64 (o.getD Nd.zero).num, .str (o.getD Nd.zero).text, .view .loose 1 (strsE (o.getD Nd.zero).names), .view .loose 5 ((o.getD Nd.zero).kids.map nodeL)], .bool o.isSome]
theorem optA_eq (o : Option Nd) : optA o = optL o := by unfold optA optL nodeA; rw [nodeL_eq]
theorem optL_in (o : Option Nd) : NoId (optL o) := by rw [← optA_eq]; exact optA_in o
theorem optA_pur (o : Option Nd) : Pur (optA o) := tup2_pur (node_pur _) pur_bool
theorem optN_in : NoId (.tup [.agg [.int .i64 0, .int .i64 0, .str ⟨#[]⟩, .view .loose 1 [], .view .loose 5 []], .bool false]) := by
  have h := optA_in none
  unfold optA nodeA at h
  rw [show nodeL ((none : Option Nd).getD Nd.zero) = nodeL Nd.zero from rfl, zeroA] at h
  exact h
theorem optS_in (m : Nd) : NoId (.tup [.agg [.int .i64 m.kind, .int .i64 m.num, .str m.text, .view .loose 1 (strsE m.names), .view .loose 5 (m.kids.map nodeL)], .bool true]) := by
  have h := optA_in (some m)
  unfold optA nodeA at h
  rw [show nodeL ((some m : Option Nd).getD Nd.zero) = nodeL m from rfl, nodeL_eq] at h
  exact h
theorem kids_set (n v : Nd) (k : Nat) : (setK n k v).kids.map nodeL = (n.kids.map nodeL).set k (nodeL v) := by simp [setK, List.map_set]
theorem withKid_ACR (n v : Nd) (k : Nat) (hn : Sml n) (hv : Sml v) (hk : k < n.kids.length) : ACR Try.prog 156 [nodeA n, .int .i64 k, nodeA v] 0 (fun _ => False) (fun f R => f = nodeO (setK n k v) ∧ R = kidsRow (setK n k v)) := by
  unfold nodeA
  rw [nodeL_eq n, nodeL_eq v]
  refine ACR.of tab_ok mixed_ok Try.func156 (by rfl) (by kernel_rfl) ?_; rintro ⟨P, T, hT, hm, w0, S0, rd0, k0⟩ hP hTT; dsimp only at hP hTT; subst hP hTT; unfold initSt; rw [Try.ntmps156]
  (repeat (first | with_reducible refine AW.seq ?_ | ((first | refine arun_kn 4 rfl (fun C hC => ?_) | refine arunD_kn 4 rfl (fun C hC => ?_)); (repeat ((conv => whnf); simp [hk])); refine hC _ ?_; clear hC C; simp only [List.drop, Nat.reduceAdd]) | ((first | refine arun_kn 1 rfl (fun C hC => ?_) | refine arunD_kn 1 rfl (fun C hC => ?_)); (repeat ((conv => whnf); simp [hk])); refine hC _ ?_; clear hC C; simp only [List.drop, Nat.reduceAdd]) | (refine arun_skip ?_ ?_; (focus (simp [awant, hk]; done))) | (refine arun_cR (0) 30 (copyNode_ACR n hn .loose) ?_; (rintro _ _ ⟨rfl, rfl⟩; unfold nodeO kidsRow)) | (refine arun_c0 (copyNode_AC v hv .loose) ?_; rintro _ rfl) | (refine arunD_c (0) (copyNode_AC v hv .loose) ?_; rintro _ rfl; intro _) | (refine AW.regionK [] (fun K hK => ?_)) | (refine AW.regionDK [] (pcs [(4, 0, fun r => r = nodeA v)] []) (by kernel_rfl) (by kernel_rfl) (fun K hK => ?_)) | (refine AW.condT ?_ ?_; (focus (simp [aev, hk]; done))) | (refine AW.condF ?_ ?_; (focus (simp [aev, hk]; done))) | with_reducible refine AW.block ?_ | ((first | ((first | refine arun_nil ?_ | refine arunD_nil ?_); refine hK _ ?_; clear hK K) | refine AW.skip ?_ | refine AW.exit ?_ | refine AW.ret ?_); simp only [thenA_exit, inBlockA_exit, if_true, if_false, Nat.reduceEqDiff, thenA_normal, inBlockA_normal, reduceIte, thenA_ret, inBlockA_ret, endQ_ret, endR_ret, endG_ret, endQ_normal, endR_normal, endG_normal])))
  exact ⟨nodeO (setK n k v) 30, by simp [nodeO, setK, ares, aresL, upd, rowsOf_cons], .inr ⟨nodeO (setK n k v), 30, kidsRow (setK n k v), rfl, by unfold kidsRow; rw [kids_set]; simp [upd, kidsRow, nodeL_eq], nodeO_res _ 30, nodesE_pur _, rfl, rfl⟩⟩
theorem withKid_AC (n v : Nd) (k : Nat) (hn : Sml n) (hv : Sml v) (hk : k < n.kids.length) : AC Try.prog 156 [nodeA n, .int .i64 k, nodeA v] 0 (fun r => r = nodeA (setK n k v)) := by
  refine (AC.ofR (withKid_ACR n v k hn hv hk) ?_).mono ?_
  · rintro r R ⟨rfl, rfl⟩
    rw [nodeO_sub]
    exact node_in _
  · rintro r (h | ⟨f, R, ⟨rfl, rfl⟩, rfl⟩)
    · exact h.elim
    · exact nodeO_sub _
end Go.Proofs.Ytgfnmhfdmmnaoaa.Eng
-- EV: rows
namespace Go.Proofs.Ytgfnmhfdmmnaoaa.Eng
open Go Go.RowKit
attribute [local simp] big size_mk ASt.pay Option.map_map Function.comp_def awant aop acall ado aev ofVal ofVal0 ASt.put ASt.add ASt.turn ASt.kill abox aalloc astore aload aloadD astoreD idOf ASt.at cellsTo afieldAddr afield aindexAddr aindex alen abin aint acmp astr aun apick aextract anil aslice abound abuild afill abuildSlice asCells aps avCells over upd aappend asrc amax amin aconv mkSt slots rowsOf_cons rowsOf_nil usedOf_cons usedOf_nil ZK.av List.replicate ASt.back ASt.addL ASt.killL nodeA nodeT nodeTL_eq nodeL_eq strsE_get strsE_len intsE_get intsE_len strsE_at intsE_at nodeN namesRow nodeO kidsRow tab2 tab3 tab4 tab5 tab6 tab7 tab8 tab9 tab10 tab11 tab12 tab13 tab14 tab15 tab16 tab17 tab18 tab19 tab21 tab22 tab23 tab24 tab25 tab26 tab27 tab28 tab29 tab30 tab39 tab40 tab41 tab42 tab43 tab47 tab48 tab55 tab56 tab57 tab60 tab61 tab62 tab73 tab74 tab75 tab85 tab92 tab115 tab116 tab143 tab144 tab145 tab154 tab155 tab170 tab175 tab182 tab197 tab198 tab203 tab204 tab205 tab207 tab208 tab209
theorem strs_snoc (q : List ByteArray) (s : ByteArray) : strsE (q ++ [s]) = strsE q ++ [[.str s]] := by simp [strsE]
theorem remS_snoc (n : Nd) (q : List ByteArray) (s : ByteArray) : remS n (q ++ [s]) = (getS n q).bind (fun m => if 0 ≤ placeI m s then setS n q (delK m (placeI m s).toNat) else none) := by
  unfold remS
  simp
theorem removeAt_gen (n : Nd) (q : List ByteArray) (s : ByteArray) (t : VC) (hlen : q.length ≤ 999) (pa : AC Try.prog 162 [nodeA n, .view t.cut 1 (strsE q)] 0 (fun r => r = optA (getS n q))) (hmS : ∀ m, getS n q = some m → Slt m)
    (pset : ∀ (t' : VC) (m x : Nd), getS n q = some m → Sml x → AC Try.prog 166 [nodeA n, .view t.cut 1 (strsE q), nodeT t' x] 0 (fun r => r = optA (setS n q x))) : AC Try.prog 155 [nodeA n, .view t 1 (strsE (q ++ [s]))] 0 (fun r => r = optA (remS n (q ++ [s]))) := by
  rw [remS_snoc]
  refine AC.weak ?_
  have hw : IntKind.i64.wrap (q.length : Int) = (q.length : Int) := i64_nat (by omega) (by omega)
  have htk : (strsE q ++ [[AV.str s]]).take q.length = strsE q := by rw [List.take_append_of_le_length (by rw [strsE_len]; exact Nat.le_refl _), List.take_of_length_le (by rw [strsE_len]; exact Nat.le_refl _)]
  have hget : (strsE q ++ [[AV.str s]])[q.length]? = some [AV.str s] := by rw [List.getElem?_append_right (by rw [strsE_len]; exact Nat.le_refl _), strsE_len]; simp
  have hget' : ∀ h, (strsE q ++ [[AV.str s]])[q.length]'h = [AV.str s] := fun h => by rw [List.getElem?_eq_getElem h] at hget; exact Option.some.inj hget
  have hlt : q.length < q.length + 1 := by omega
  have hle : q.length ≤ q.length + 1 := by omega
  have hle' : (q.length : Int) ≤ (q.length : Int) + 1 := by omega
  have hlt' : (q.length : Int) < (q.length : Int) + 1 := by omega
  have hn0 : ¬ (q.length : Int) < 0 := by omega
  unfold nodeA at pa ⊢
  rw [nodeL_eq] at pa ⊢
  rw [strs_snoc]
  refine AC.of tab_ok mixed_ok Try.func155 (by rfl) (by kernel_rfl) ?_; rintro ⟨P, T, hT, hm, w0, S0, rd0, k0⟩ hP hTT; dsimp only at hP hTT; subst hP hTT; unfold initSt; rw [Try.ntmps155]
  cases hg : getS n q with
  | none =>
    rw [hg] at pa
    unfold optA nodeA at pa
    rw [show nodeL ((none : Option Nd).getD Nd.zero) = nodeL Nd.zero from rfl, zeroA, Option.isSome_none] at pa
    (repeat (first | with_reducible refine AW.seq ?_ | ((first | refine arun_kn 4 rfl (fun C hC => ?_) | refine arunD_kn 4 rfl (fun C hC => ?_)); (repeat ((conv => whnf); simp [strsE_len, hw, htk, hlt, hle, hle', hlt', hn0])); refine hC _ ?_; clear hC C; simp only [List.drop, Nat.reduceAdd]) | ((first | refine arun_kn 1 rfl (fun C hC => ?_) | refine arunD_kn 1 rfl (fun C hC => ?_)); (repeat ((conv => whnf); simp [strsE_len, hw, htk, hlt, hle, hle', hlt', hn0])); refine hC _ ?_; clear hC C; simp only [List.drop, Nat.reduceAdd]) | (refine arun_skip ?_ ?_; (focus (simp [awant, strsE_len, hw, htk, hlt, hle, hle', hlt', hn0]; done))) | (refine arun_c0 (pa) ?_; rintro _ rfl) | (refine arunD_cE (0) (pa) (by exact ⟨_, rfl, optN_in⟩) ?_; rintro _ rfl; intro _) | (refine AW.regionK [] (fun K hK => ?_)) | (refine AW.regionDK [] (pcs [(4, 0, fun r => r = .tup [.agg [.int .i64 0, .int .i64 0, .str ⟨#[]⟩, .view .loose 1 [], .view .loose 5 []], .bool false])] []) (by kernel_rfl) (by kernel_rfl) (fun K hK => ?_)) | (refine AW.condT ?_ ?_; (focus (simp [aev, strsE_len, hw, htk, hlt, hle, hle', hlt', hn0]; done))) | (refine AW.condF ?_ ?_; (focus (simp [aev, strsE_len, hw, htk, hlt, hle, hle', hlt', hn0]; done))) | with_reducible refine AW.block ?_ | ((first | ((first | refine arun_nil ?_ | refine arunD_nil ?_); refine hK _ ?_; clear hK K) | refine AW.skip ?_ | refine AW.exit ?_ | refine AW.ret ?_); simp only [thenA_exit, inBlockA_exit, if_true, if_false, Nat.reduceEqDiff, thenA_normal, inBlockA_normal, reduceIte, thenA_ret, inBlockA_ret, endQ_ret, endR_ret, endG_ret, endQ_normal, endR_normal, endG_normal])))
    exact ⟨.tup [node0 0 0 ⟨#[]⟩, .bool false], by simp [node0, ares, aresL, upd, rowsOf_cons], none_end.1, _, none_end.2, rfl⟩
  | some m =>
    have hm := hmS m hg
    have pk := place_ok .loose m s hm.plc
    rw [hg] at pa
    unfold optA nodeA at pa
    rw [show nodeL ((some m : Option Nd).getD Nd.zero) = nodeL m from rfl, nodeL_eq m, Option.isSome_some] at pa
    unfold nodeT at pk
    rw [nodeTL_eq] at pk
    rw [Option.bind_some]
    rcases placeI_cases m s with ⟨h1, _⟩ | ⟨k, h1, h2, _⟩
    · rw [h1] at pk ⊢
      rw [if_neg (by omega)]
      (repeat (first | with_reducible refine AW.seq ?_ | ((first | refine arun_kn 4 rfl (fun C hC => ?_) | refine arunD_kn 4 rfl (fun C hC => ?_)); (repeat ((conv => whnf); simp [strsE_len, hw, htk, hget, hget', hlt, hle, hle', hlt', hn0])); refine hC _ ?_; clear hC C; simp only [List.drop, Nat.reduceAdd]) | ((first | refine arun_kn 1 rfl (fun C hC => ?_) | refine arunD_kn 1 rfl (fun C hC => ?_)); (repeat ((conv => whnf); simp [strsE_len, hw, htk, hget, hget', hlt, hle, hle', hlt', hn0])); refine hC _ ?_; clear hC C; simp only [List.drop, Nat.reduceAdd]) | (refine arun_skip ?_ ?_; (focus (simp [awant, strsE_len, hw, htk, hget, hget', hlt, hle, hle', hlt', hn0]; done))) | (refine arun_c0 (pa) ?_; rintro _ rfl) | (refine arun_c0 (pk) ?_; rintro _ rfl) | (refine arunD_cE (0) (pa) (by exact ⟨_, rfl, optS_in m⟩) ?_; rintro _ rfl; intro _) | (refine arunD_c (0) (pk) ?_; rintro _ rfl; intro _) | (refine AW.regionK [] (fun K hK => ?_)) | (refine AW.regionDK [] (pcs [(4, 0, fun r => r = .tup [.agg [.int .i64 m.kind, .int .i64 m.num, .str m.text, .view .loose 1 (strsE m.names), .view .loose 5 (m.kids.map nodeL)], .bool true]), (5, 0, fun r => r = .int .i64 (-1))] []) (by kernel_rfl) (by kernel_rfl) (fun K hK => ?_)) | (refine AW.condT ?_ ?_; (focus (simp [aev, strsE_len, hw, htk, hget, hget', hlt, hle, hle', hlt', hn0]; done))) | (refine AW.condF ?_ ?_; (focus (simp [aev, strsE_len, hw, htk, hget, hget', hlt, hle, hle', hlt', hn0]; done))) | with_reducible refine AW.block ?_ | ((first | ((first | refine arun_nil ?_ | refine arunD_nil ?_); refine hK _ ?_; clear hK K) | refine AW.skip ?_ | refine AW.exit ?_ | refine AW.ret ?_); simp only [thenA_exit, inBlockA_exit, if_true, if_false, Nat.reduceEqDiff, thenA_normal, inBlockA_normal, reduceIte, thenA_ret, inBlockA_ret, endQ_ret, endR_ret, endG_ret, endQ_normal, endR_normal, endG_normal])))
      exact ⟨.tup [node0 0 0 ⟨#[]⟩, .bool false], by simp [node0, ares, aresL, upd, rowsOf_cons], none_end.1, _, none_end.2, rfl⟩
    · rw [h2] at pk ⊢
      rw [if_pos (by omega), Int.toNat_natCast]
      have hk0 : ¬ ((k : Int) < 0) := by omega
      have h6 := hm.sml.kids
      have hwk : IntKind.i64.wrap ((k : Int) + 1) = (k : Int) + 1 := i64_nat (by omega) (by omega)
      have hb0 : k ≤ m.kids.length := by omega
      have hb1 : k + 1 ≤ m.kids.length := by omega
      have hb1' : (k : Int) + 1 ≤ (m.kids.length : Int) := by omega
      have hl1 : ((m.kids.map nodeL).take k).length = k := by rw [List.length_take, List.length_map]; omega
      have hl2 : ((m.kids.map nodeL).drop (k + 1)).length = m.kids.length - (k + 1) := by rw [List.length_drop, List.length_map]
      have htm : (m.kids.map nodeL).take m.kids.length = m.kids.map nodeL := List.take_of_length_le (by rw [List.length_map]; exact Nat.le_refl _)
      have hs1 : k * 80 ≤ 140737488355328 := by omega
      have hs2 : k ≤ 140737488355328 := by omega
      have hs3 : (k + (m.kids.length - (k + 1))) * 80 ≤ 140737488355328 := by omega
      have hs4 : k + (m.kids.length - (k + 1)) ≤ 140737488355328 := by omega
      (repeat (first | with_reducible refine AW.seq ?_ | ((first | refine arun_kn 4 rfl (fun C hC => ?_) | refine arunD_kn 4 rfl (fun C hC => ?_)); (repeat ((conv => whnf); simp [strsE_len, hw, htk, hget, hget', hlt, hle, hle', hlt', hn0, hk0, hwk, hb0, hb1, hb1', hl1, hl2, htm, hs1, hs2, hs3, hs4])); refine hC _ ?_; clear hC C; simp only [List.drop, Nat.reduceAdd]) | ((first | refine arun_kn 1 rfl (fun C hC => ?_) | refine arunD_kn 1 rfl (fun C hC => ?_)); (repeat ((conv => whnf); simp [strsE_len, hw, htk, hget, hget', hlt, hle, hle', hlt', hn0, hk0, hwk, hb0, hb1, hb1', hl1, hl2, htm, hs1, hs2, hs3, hs4])); refine hC _ ?_; clear hC C; simp only [List.drop, Nat.reduceAdd]) | (refine arun_skip ?_ ?_; (focus (simp [awant, strsE_len, hw, htk, hget, hget', hlt, hle, hle', hlt', hn0, hk0, hwk, hb0, hb1, hb1', hl1, hl2, htm, hs1, hs2, hs3, hs4]; done))) | (refine arun_c0 (pa) ?_; rintro _ rfl) | (refine arun_c0 (pk) ?_; rintro _ rfl) | (refine arunD_cE (0) (pa) (by exact ⟨_, rfl, optS_in m⟩) ?_; rintro _ rfl; intro _) | (refine arunD_c (0) (pk) ?_; rintro _ rfl; intro _) | (refine AW.regionK [] (fun K hK => ?_)) | (refine AW.regionDK [] (pcs [(4, 0, fun r => r = .tup [.agg [.int .i64 m.kind, .int .i64 m.num, .str m.text, .view .loose 1 (strsE m.names), .view .loose 5 (m.kids.map nodeL)], .bool true]), (5, 0, fun r => r = .int .i64 (k : Int))] []) (by kernel_rfl) (by kernel_rfl) (fun K hK => ?_)) | (refine AW.condT ?_ ?_; (focus (simp [aev, strsE_len, hw, htk, hget, hget', hlt, hle, hle', hlt', hn0, hk0, hwk, hb0, hb1, hb1', hl1, hl2, htm, hs1, hs2, hs3, hs4]; done))) | (refine AW.condF ?_ ?_; (focus (simp [aev, strsE_len, hw, htk, hget, hget', hlt, hle, hle', hlt', hn0, hk0, hwk, hb0, hb1, hb1', hl1, hl2, htm, hs1, hs2, hs3, hs4]; done))) | with_reducible refine AW.block ?_ | ((first | ((first | refine arun_nil ?_ | refine arunD_nil ?_); refine hK _ ?_; clear hK K) | refine AW.skip ?_ | refine AW.exit ?_ | refine AW.ret ?_); simp only [thenA_exit, inBlockA_exit, if_true, if_false, Nat.reduceEqDiff, thenA_normal, inBlockA_normal, reduceIte, thenA_ret, inBlockA_ret, endQ_ret, endR_ret, endG_ret, endQ_normal, endR_normal, endG_normal])))
      have hkl : (m.kids.map nodeL).take k ++ (m.kids.map nodeL).drop (k + 1) = (delK m k).kids.map nodeL := by simp [delK, List.map_take, List.map_drop]
      have hkn : k + (m.kids.length - (k + 1)) = (delK m k).kids.length := by simp [delK]; omega
      have hmin : min k m.kids.length = k := Nat.min_eq_left hb0
      have hdk : (delK m k).kind = m.kind := rfl
      have hdn : (delK m k).num = 0 := rfl
      have hdt : (delK m k).text = ⟨#[]⟩ := rfl
      have hsml := delK_sml (k := k) hm.sml
      refine AW.hold 43 ?_
      by_cases h4 : m.kind = 4
      · have hnl := hm.map h4
        have hn1 : k ≤ m.names.length := by omega
        have hn2 : k + 1 ≤ m.names.length := by omega
        have hn2' : (k : Int) + 1 ≤ (m.names.length : Int) := by omega
        have hl3 : ((strsE m.names).take k).length = k := by rw [List.length_take, strsE_len]; omega
        have hl4 : ((strsE m.names).drop (k + 1)).length = m.names.length - (k + 1) := by rw [List.length_drop, strsE_len]
        have htn : (strsE m.names).take m.names.length = strsE m.names := List.take_of_length_le (by rw [strsE_len]; exact Nat.le_refl _)
        have hs5 : k * 16 ≤ 140737488355328 := by omega
        have hs6 : (k + (m.names.length - (k + 1))) * 16 ≤ 140737488355328 := by omega
        have hs7 : k + (m.names.length - (k + 1)) ≤ 140737488355328 := by omega
        have hnn : (strsE m.names).take k ++ (strsE m.names).drop (k + 1) = strsE (delK m k).names := by simp [delK, h4, strsE, List.map_take, List.map_drop]
        have hnk : k + (m.names.length - (k + 1)) = (delK m k).names.length := by simp [delK, h4]; omega
        have hminn : min k m.names.length = k := Nat.min_eq_left hn1
        have ps := pset .loose m (delK m k) hg hsml
        refine AW.condT (by simp [aev, ASt.hold, AV.subL, AV.sub, h4]) ?_
        have hclo := nodeT_clo .loose (delK m k)
        unfold nodeA nodeT at ps
        unfold nodeT at hclo
        rw [nodeTL_eq, hdk, hdn, hdt] at hclo
        rw [nodeTL_eq, nodeL_eq, hdk, hdn, hdt, optA_eq] at ps
        (refine AW.regionDK [] (pcs [] []) (by kernel_rfl) (by kernel_rfl) (fun K hK => ?_); (repeat (refine arunD_ks 4 rfl (fun C hC => ?_); (repeat ((conv => whnf); simp [ASt.hold, upd, hmin, AV.subL, AV.sub, rowsOf_cons, Row.sub, strsE_len, hwk, hn1, hn2, hn2', hl3, hl4, htn, hs5, hs2, hs6, hs7])); refine hC _ ?_; clear hC C; simp only [List.drop_succ_cons, List.drop_zero, List.drop_nil, Nat.reduceAdd])); refine arunD_nil ?_; refine hK _ ?_; clear hK K; simp only [thenA_normal, inBlockA_normal, endQ_normal, endR_normal])
        refine AW.hold 59 ?_
        (repeat (first | with_reducible refine AW.seq ?_ | ((first | refine arun_kn 4 rfl (fun C hC => ?_) | refine arunD_kn 4 rfl (fun C hC => ?_)); (repeat ((conv => whnf); simp [ASt.hold, upd, AV.subL, AV.sub, rowsOf_cons, Row.sub, hmin, hminn, hkl, hnn, hkn, hnk, htk, hle, hle', optL])); refine hC _ ?_; clear hC C; simp only [List.drop, Nat.reduceAdd]) | ((first | refine arun_kn 1 rfl (fun C hC => ?_) | refine arunD_kn 1 rfl (fun C hC => ?_)); (repeat ((conv => whnf); simp [ASt.hold, upd, AV.subL, AV.sub, rowsOf_cons, Row.sub, hmin, hminn, hkl, hnn, hkn, hnk, htk, hle, hle', optL])); refine hC _ ?_; clear hC C; simp only [List.drop, Nat.reduceAdd]) | (refine arun_skip ?_ ?_; (focus (simp [awant, ASt.hold, upd, AV.subL, AV.sub, rowsOf_cons, Row.sub, hmin, hminn, hkl, hnn, hkn, hnk, htk, hle, hle', optL]; done))) | (refine arun_c0 (ps) ?_; rintro _ rfl) | (refine arunD_cE (0) (ps) (by exact ⟨_, rfl, optL_in _⟩) ?_; rintro _ rfl; intro _) | (refine AW.regionK [] (fun K hK => ?_)) | (refine AW.regionDK [] (pcs [(9, 0, fun r => r = optL (setS n q (delK m k)))] []) (by kernel_rfl) (by kernel_rfl) (fun K hK => ?_)) | (refine AW.condT ?_ ?_; (focus (simp [aev, ASt.hold, upd, AV.subL, AV.sub, rowsOf_cons, Row.sub, hmin, hminn, hkl, hnn, hkn, hnk, htk, hle, hle', optL]; done))) | (refine AW.condF ?_ ?_; (focus (simp [aev, ASt.hold, upd, AV.subL, AV.sub, rowsOf_cons, Row.sub, hmin, hminn, hkl, hnn, hkn, hnk, htk, hle, hle', optL]; done))) | with_reducible refine AW.block ?_ | ((first | ((first | refine arun_nil ?_ | refine arunD_nil ?_); refine hK _ ?_; clear hK K) | refine AW.skip ?_ | refine AW.exit ?_ | refine AW.ret ?_); simp only [thenA_exit, inBlockA_exit, if_true, if_false, Nat.reduceEqDiff, thenA_normal, inBlockA_normal, reduceIte, thenA_ret, inBlockA_ret, endQ_ret, endR_ret, endG_ret, endQ_normal, endR_normal, endG_normal])))
        exact ⟨optA (setS n q (delK m k)), by rw [optA_eq]; simp [optL, ares, aresL, upd, rowsOf_cons, AV.subL, AV.sub, Row.sub], optA_pur _, _, Wk.refl _, rfl⟩
      · have hnn : strsE (delK m k).names = [] := by simp [delK, h4, strsE]
        have ps := pset .tight m (delK m k) hg hsml
        have hclo := nodeT_clo .tight (delK m k)
        unfold nodeA nodeT at ps
        unfold nodeT at hclo
        rw [nodeTL_eq, hnn, hdk, hdn, hdt] at hclo
        rw [nodeTL_eq, nodeL_eq, hnn, hdk, hdn, hdt, optA_eq] at ps
        (repeat (first | with_reducible refine AW.seq ?_ | ((first | refine arun_kn 4 rfl (fun C hC => ?_) | refine arunD_kn 4 rfl (fun C hC => ?_)); (repeat ((conv => whnf); simp [h4, ASt.hold, upd, AV.subL, AV.sub, rowsOf_cons, Row.sub, hmin, hkl, hkn, htk, hle, hle', optL])); refine hC _ ?_; clear hC C; simp only [List.drop, Nat.reduceAdd]) | ((first | refine arun_kn 1 rfl (fun C hC => ?_) | refine arunD_kn 1 rfl (fun C hC => ?_)); (repeat ((conv => whnf); simp [h4, ASt.hold, upd, AV.subL, AV.sub, rowsOf_cons, Row.sub, hmin, hkl, hkn, htk, hle, hle', optL])); refine hC _ ?_; clear hC C; simp only [List.drop, Nat.reduceAdd]) | (refine arun_skip ?_ ?_; (focus (simp [awant, h4, ASt.hold, upd, AV.subL, AV.sub, rowsOf_cons, Row.sub, hmin, hkl, hkn, htk, hle, hle', optL]; done))) | (refine arun_c0 (ps) ?_; rintro _ rfl) | (refine arunD_cE (0) (ps) (by exact ⟨_, rfl, optL_in _⟩) ?_; rintro _ rfl; intro _) | (refine AW.regionK [] (fun K hK => ?_)) | (refine AW.regionDK [] (pcs [(9, 0, fun r => r = optL (setS n q (delK m k)))] []) (by kernel_rfl) (by kernel_rfl) (fun K hK => ?_)) | (refine AW.condT ?_ ?_; (focus (simp [aev, h4, ASt.hold, upd, AV.subL, AV.sub, rowsOf_cons, Row.sub, hmin, hkl, hkn, htk, hle, hle', optL]; done))) | (refine AW.condF ?_ ?_; (focus (simp [aev, h4, ASt.hold, upd, AV.subL, AV.sub, rowsOf_cons, Row.sub, hmin, hkl, hkn, htk, hle, hle', optL]; done))) | with_reducible refine AW.block ?_ | ((first | ((first | refine arun_nil ?_ | refine arunD_nil ?_); refine hK _ ?_; clear hK K) | refine AW.skip ?_ | refine AW.exit ?_ | refine AW.ret ?_); simp only [thenA_exit, inBlockA_exit, if_true, if_false, Nat.reduceEqDiff, thenA_normal, inBlockA_normal, reduceIte, thenA_ret, inBlockA_ret, endQ_ret, endR_ret, endG_ret, endQ_normal, endR_normal, endG_normal])))
        exact ⟨optA (setS n q (delK m k)), by rw [optA_eq]; simp [optL, ares, aresL, upd, rowsOf_cons, AV.subL, AV.sub, Row.sub], optA_pur _, _, Wk.refl _, rfl⟩
end Go.Proofs.Ytgfnmhfdmmnaoaa.Eng
-- EV: rows skip
namespace Go.Proofs.Ytgfnmhfdmmnaoaa.Eng
open Go Go.RowKit
attribute [local simp] big size_mk ASt.pay Option.map_map Function.comp_def awant aop acall ado aev ofVal ofVal0 ASt.put ASt.add ASt.turn ASt.kill abox aalloc astore aload aloadD astoreD idOf ASt.at cellsTo afieldAddr afield aindexAddr aindex alen abin aint acmp astr aun apick aextract anil aslice abound abuild afill abuildSlice asCells aps avCells over upd aappend asrc amax amin aconv mkSt slots rowsOf_cons rowsOf_nil usedOf_cons usedOf_nil ZK.av List.replicate ASt.back ASt.addL ASt.killL nodeA nodeT nodeTL_eq nodeL_eq strsE_get strsE_len intsE_get intsE_len strsE_at intsE_at nodeN namesRow nodeO kidsRow tab2 tab3 tab4 tab5 tab6 tab7 tab8 tab9 tab10 tab11 tab12 tab13 tab14 tab15 tab16 tab17 tab18 tab19 tab21 tab22 tab23 tab24 tab25 tab26 tab27 tab28 tab29 tab30 tab39 tab40 tab41 tab42 tab43 tab47 tab48 tab55 tab56 tab57 tab60 tab61 tab62 tab73 tab74 tab75 tab85 tab92 tab115 tab116 tab143 tab144 tab145 tab154 tab155 tab170 tab175 tab182 tab197 tab198 tab203 tab204 tab205 tab207 tab208 tab209
def slotA (o : Option (Nat × Bool)) : AV := match o with
  | none => .tup [.int .i64 (-1), .bool false]
  | some x => .tup [.int .i64 (x.1 : Nat), .bool x.2]
theorem slotG_AC (n : Nd) (st : ByteArray) (hn : Slt n) : AC Try.prog 181 [nodeA n, .str st] 0 (fun r => r = slotA (slotS n st)) := by
  have h6 := hn.sml.kids
  have pk := place_ok .loose n st hn.plc
  unfold nodeT at pk
  rw [nodeTL_eq] at pk
  unfold nodeA
  rw [nodeL_eq]
  refine AC.of tab_ok mixed_ok Try.func181 (by rfl) (by kernel_rfl) ?_; rintro ⟨P, T, hT, hm, w0, S0, rd0, k0⟩ hP hTT; dsimp only at hP hTT; subst hP hTT; unfold initSt; rw [Try.ntmps181]
  rcases placeI_cases n st with ⟨h1, _⟩ | ⟨k, h1, h2, _⟩
  · rw [h1] at pk
    by_cases h3 : n.kind = 3
    · have h4 : (n.kind == 4) = false := by rw [h3]; rfl
      have pd := decimal_AC n.kids.length (by have := hn.lst h3; omega)
      cases e1 : eqs st ⟨#[45]⟩
      · cases e2 : eqs st (txt (dig1 n.kids.length))
        · have e : slotS n st = none := by unfold slotS dash; rw [h1, if_neg (by omega), if_neg (by rw [e1, e2]; simp), if_neg (by omega)]
          generalize txt (dig1 n.kids.length) = dd at *
          (repeat (first | with_reducible refine AW.seq ?_ | ((first | refine arun_kn 4 rfl (fun C hC => ?_) | refine arunD_kn 4 rfl (fun C hC => ?_)); (repeat ((conv => whnf); simp [h3, e1, e2])); refine hC _ ?_; clear hC C; simp only [List.drop, Nat.reduceAdd]) | ((first | refine arun_kn 1 rfl (fun C hC => ?_) | refine arunD_kn 1 rfl (fun C hC => ?_)); (repeat ((conv => whnf); simp [h3, e1, e2])); refine hC _ ?_; clear hC C; simp only [List.drop, Nat.reduceAdd]) | (refine arun_skip ?_ ?_; (focus (simp [awant, h3, e1, e2]; done))) | (refine arun_c0 (hx := by (simp [h3, e1, e2] <;> fail)) (pk) ?_; rintro _ rfl) | (refine arun_c0 (pd) ?_; rintro _ rfl) | (refine arunD_skip ?_ ?_; (focus (simp [awant, h3, e1, e2]; done))) | (refine AW.regionK [] (fun K hK => ?_)) | (refine AW.regionDK [] (pcs [] []) (by kernel_rfl) (by kernel_rfl) (fun K hK => ?_)) | (refine AW.condT ?_ ?_; (focus (simp [aev, h3, e1, e2]; done))) | (refine AW.condF ?_ ?_; (focus (simp [aev, h3, e1, e2]; done))) | with_reducible refine AW.block ?_ | ((first | ((first | refine arun_nil ?_ | refine arunD_nil ?_); refine hK _ ?_; clear hK K) | refine AW.skip ?_ | refine AW.exit ?_ | refine AW.ret ?_); simp only [thenA_exit, inBlockA_exit, if_true, if_false, Nat.reduceEqDiff, thenA_normal, inBlockA_normal, reduceIte, thenA_ret, inBlockA_ret, endQ_ret, endR_ret, endG_ret, endQ_normal, endR_normal, endG_normal])))
          refine AW.loopS (fun (i : Nat) => mkSt (slots 0 62 [(1, .str st), (2, .ptr true 5 1 2 0 0), (7, .int .i64 i)]) [(2, ⟨true, 30, 5, [nodeL n]⟩)] [2] (rd0.map fun _ => 0)) (fun i => 0) (fun i => i = 0) 0 ?_ rfl ?_
          · rw [nodeL_eq]
            exact (less_of (by simp [lessL, mkSt, slots, h3, nodeN, namesRow, nodeO, kidsRow]) (by simp [upd, mkSt, rowsOf_cons, h3, nodeN, namesRow, nodeO, kidsRow]) (by simp [upd, mkSt, usedOf_cons, h3, nodeN, namesRow, nodeO, kidsRow]) (by first | exact rd_less (by omega) | simp [mkSt, h3, nodeN, namesRow, nodeO, kidsRow]) (by simp [slots, in_any, in_int, in_bool, in_str, in_ptr, in_own, in_agg, in_vnil, in_rdr, usedOf_cons, usedOf_nil, strs_in, ints_in, nodes_in, in_tup, h3, nodeN, namesRow, nodeO, kidsRow]) (by simp only [List.forall_mem_cons, List.not_mem_nil, false_implies, implies_true, and_true, true_and, h3, nodeN, namesRow, nodeO, kidsRow]; (repeat (first | with_reducible exact trivial | with_reducible refine And.intro ?_ ?_ | with_reducible exact in_int | with_reducible exact in_str | with_reducible exact in_bool | with_reducible exact strs_in _ | with_reducible exact nodes_in _ | with_reducible exact items_in _ | with_reducible exact in_vnil | with_reducible exact in_any | exact hin _ | with_reducible refine take_in ?_ | with_reducible exact strsE_in _ | with_reducible exact nodesE_in _ | with_reducible exact nodeL_in _ | with_reducible exact itemsE_in _ | with_reducible exact itemL_in _ | with_reducible refine app_in ?_ ?_ | with_reducible refine sing_in ?_ | (focus (simp [in_any, in_int, in_bool, in_str, in_ptr, in_own, in_agg, in_vnil, in_rdr, usedOf_cons, usedOf_nil, strs_in, ints_in, nodes_in, h3, nodeN, namesRow, nodeO, kidsRow]; done)))); done))
          · rintro i rfl
            rw [nodeL_eq]
            (repeat (first | with_reducible refine AW.seq ?_ | ((first | refine arun_kn 4 rfl (fun C hC => ?_) | refine arunD_kn 4 rfl (fun C hC => ?_)); (repeat ((conv => whnf); simp [h3])); refine hC _ ?_; clear hC C; simp only [List.drop, Nat.reduceAdd]) | ((first | refine arun_kn 1 rfl (fun C hC => ?_) | refine arunD_kn 1 rfl (fun C hC => ?_)); (repeat ((conv => whnf); simp [h3])); refine hC _ ?_; clear hC C; simp only [List.drop, Nat.reduceAdd]) | (refine arun_skip ?_ ?_; (focus (simp [awant, h3]; done))) | (refine arunD_skip ?_ ?_; (focus (simp [awant, h3]; done))) | (refine AW.regionK [] (fun K hK => ?_)) | (refine AW.regionDK [] (pcs [] []) (by kernel_rfl) (by kernel_rfl) (fun K hK => ?_)) | (refine AW.condT ?_ ?_; (focus (simp [aev, h3]; done))) | (refine AW.condF ?_ ?_; (focus (simp [aev, h3]; done))) | with_reducible refine AW.block ?_ | ((first | ((first | refine arun_nil ?_ | refine arunD_nil ?_); refine hK _ ?_; clear hK K) | refine AW.skip ?_ | refine AW.exit ?_ | refine AW.ret ?_); simp only [thenA_exit, inBlockA_exit, if_true, if_false, Nat.reduceEqDiff, thenA_normal, inBlockA_normal, reduceIte, thenA_ret, inBlockA_ret, endQ_ret, endR_ret, endG_ret, endQ_normal, endR_normal, endG_normal])))
            exact ⟨.tup [.int .i64 (-1), .bool false], by simp [ares, aresL], tup2_pur pur_int pur_bool, by rw [e]; rfl⟩
        · have e : slotS n st = some (n.kids.length, false) := by unfold slotS dash; rw [h1, if_neg (by omega), if_pos ⟨h3, by rw [e2]; simp⟩]
          generalize txt (dig1 n.kids.length) = dd at *
          (repeat (first | with_reducible refine AW.seq ?_ | ((first | refine arun_kn 4 rfl (fun C hC => ?_) | refine arunD_kn 4 rfl (fun C hC => ?_)); (repeat ((conv => whnf); simp [h3, e1, e2])); refine hC _ ?_; clear hC C; simp only [List.drop, Nat.reduceAdd]) | ((first | refine arun_kn 1 rfl (fun C hC => ?_) | refine arunD_kn 1 rfl (fun C hC => ?_)); (repeat ((conv => whnf); simp [h3, e1, e2])); refine hC _ ?_; clear hC C; simp only [List.drop, Nat.reduceAdd]) | (refine arun_skip ?_ ?_; (focus (simp [awant, h3, e1, e2]; done))) | (refine arun_c0 (hx := by (simp [h3, e1, e2] <;> fail)) (pk) ?_; rintro _ rfl) | (refine arun_c0 (pd) ?_; rintro _ rfl) | (refine arunD_skip ?_ ?_; (focus (simp [awant, h3, e1, e2]; done))) | (refine AW.regionK [] (fun K hK => ?_)) | (refine AW.regionDK [] (pcs [] []) (by kernel_rfl) (by kernel_rfl) (fun K hK => ?_)) | (refine AW.condT ?_ ?_; (focus (simp [aev, h3, e1, e2]; done))) | (refine AW.condF ?_ ?_; (focus (simp [aev, h3, e1, e2]; done))) | with_reducible refine AW.block ?_ | ((first | ((first | refine arun_nil ?_ | refine arunD_nil ?_); refine hK _ ?_; clear hK K) | refine AW.skip ?_ | refine AW.exit ?_ | refine AW.ret ?_); simp only [thenA_exit, inBlockA_exit, if_true, if_false, Nat.reduceEqDiff, thenA_normal, inBlockA_normal, reduceIte, thenA_ret, inBlockA_ret, endQ_ret, endR_ret, endG_ret, endQ_normal, endR_normal, endG_normal])))
          exact ⟨.tup [.int .i64 n.kids.length, .bool false], by simp [ares, aresL], tup2_pur pur_int pur_bool, by rw [e]; rfl⟩
      · have e : slotS n st = some (n.kids.length, false) := by unfold slotS dash; rw [h1, if_neg (by omega), if_pos ⟨h3, by rw [e1]; simp⟩]
        (repeat (first | with_reducible refine AW.seq ?_ | ((first | refine arun_kn 4 rfl (fun C hC => ?_) | refine arunD_kn 4 rfl (fun C hC => ?_)); (repeat ((conv => whnf); simp [h3, e1])); refine hC _ ?_; clear hC C; simp only [List.drop, Nat.reduceAdd]) | ((first | refine arun_kn 1 rfl (fun C hC => ?_) | refine arunD_kn 1 rfl (fun C hC => ?_)); (repeat ((conv => whnf); simp [h3, e1])); refine hC _ ?_; clear hC C; simp only [List.drop, Nat.reduceAdd]) | (refine arun_skip ?_ ?_; (focus (simp [awant, h3, e1]; done))) | (refine arun_c0 (hx := by (simp [h3, e1] <;> fail)) (pk) ?_; rintro _ rfl) | (refine arun_c0 (pd) ?_; rintro _ rfl) | (refine arunD_skip ?_ ?_; (focus (simp [awant, h3, e1]; done))) | (refine AW.regionK [] (fun K hK => ?_)) | (refine AW.regionDK [] (pcs [] []) (by kernel_rfl) (by kernel_rfl) (fun K hK => ?_)) | (refine AW.condT ?_ ?_; (focus (simp [aev, h3, e1]; done))) | (refine AW.condF ?_ ?_; (focus (simp [aev, h3, e1]; done))) | with_reducible refine AW.block ?_ | ((first | ((first | refine arun_nil ?_ | refine arunD_nil ?_); refine hK _ ?_; clear hK K) | refine AW.skip ?_ | refine AW.exit ?_ | refine AW.ret ?_); simp only [thenA_exit, inBlockA_exit, if_true, if_false, Nat.reduceEqDiff, thenA_normal, inBlockA_normal, reduceIte, thenA_ret, inBlockA_ret, endQ_ret, endR_ret, endG_ret, endQ_normal, endR_normal, endG_normal])))
        exact ⟨.tup [.int .i64 n.kids.length, .bool false], by simp [ares, aresL], tup2_pur pur_int pur_bool, by rw [e]; rfl⟩
    · have h3' : (n.kind == 3) = false := by simpa using h3
      by_cases h4 : n.kind = 4
      · have hnl := hn.map h4
        have e : slotS n st = some (nmI st n.names, false) := by unfold slotS; rw [h1, if_neg (by omega), if_neg (by simp [h3]), if_pos h4]
        (repeat (first | with_reducible refine AW.seq ?_ | ((first | refine arun_kn 4 rfl (fun C hC => ?_) | refine arunD_kn 4 rfl (fun C hC => ?_)); (repeat ((conv => whnf); simp [h4, h3, h3'])); refine hC _ ?_; clear hC C; simp only [List.drop, Nat.reduceAdd]) | ((first | refine arun_kn 1 rfl (fun C hC => ?_) | refine arunD_kn 1 rfl (fun C hC => ?_)); (repeat ((conv => whnf); simp [h4, h3, h3'])); refine hC _ ?_; clear hC C; simp only [List.drop, Nat.reduceAdd]) | (refine arun_skip ?_ ?_; (focus (simp [awant, h4, h3, h3']; done))) | (refine arun_c0 (hx := by (simp [h4, h3, h3'] <;> fail)) (pk) ?_; rintro _ rfl) | (refine arunD_skip ?_ ?_; (focus (simp [awant, h4, h3, h3']; done))) | (refine AW.regionK [] (fun K hK => ?_)) | (refine AW.regionDK [] (pcs [] []) (by kernel_rfl) (by kernel_rfl) (fun K hK => ?_)) | (refine AW.condT ?_ ?_; (focus (simp [aev, h4, h3, h3']; done))) | (refine AW.condF ?_ ?_; (focus (simp [aev, h4, h3, h3']; done))) | with_reducible refine AW.block ?_ | ((first | ((first | refine arun_nil ?_ | refine arunD_nil ?_); refine hK _ ?_; clear hK K) | refine AW.skip ?_ | refine AW.exit ?_ | refine AW.ret ?_); simp only [thenA_exit, inBlockA_exit, if_true, if_false, Nat.reduceEqDiff, thenA_normal, inBlockA_normal, reduceIte, thenA_ret, inBlockA_ret, endQ_ret, endR_ret, endG_ret, endQ_normal, endR_normal, endG_normal])))
        refine AW.loopS (fun (i : Nat) => mkSt (slots 0 62 [(1, .str st), (2, .ptr true 5 1 2 0 0), (7, .int .i64 i)]) [(2, ⟨true, 30, 5, [nodeL n]⟩)] [2] (rd0.map fun _ => 0)) (fun i => n.kids.length - i) (fun i => i ≤ n.kids.length ∧ nmI st n.names = nmI st (n.names.drop i) + i) 0 ?_ ⟨Nat.zero_le _, rfl⟩ ?_
        · rw [nodeL_eq]
          exact (less_of (by simp [lessL, mkSt, slots, h4, nodeN, namesRow, nodeO, kidsRow]) (by simp [upd, mkSt, rowsOf_cons, h4, nodeN, namesRow, nodeO, kidsRow]) (by simp [upd, mkSt, usedOf_cons, h4, nodeN, namesRow, nodeO, kidsRow]) (by first | exact rd_less (by omega) | simp [mkSt, h4, nodeN, namesRow, nodeO, kidsRow]) (by simp [slots, in_any, in_int, in_bool, in_str, in_ptr, in_own, in_agg, in_vnil, in_rdr, usedOf_cons, usedOf_nil, strs_in, ints_in, nodes_in, in_tup, h4, nodeN, namesRow, nodeO, kidsRow]) (by simp only [List.forall_mem_cons, List.not_mem_nil, false_implies, implies_true, and_true, true_and, h4, nodeN, namesRow, nodeO, kidsRow]; (repeat (first | with_reducible exact trivial | with_reducible refine And.intro ?_ ?_ | with_reducible exact in_int | with_reducible exact in_str | with_reducible exact in_bool | with_reducible exact strs_in _ | with_reducible exact nodes_in _ | with_reducible exact items_in _ | with_reducible exact in_vnil | with_reducible exact in_any | exact hin _ | with_reducible refine take_in ?_ | with_reducible exact strsE_in _ | with_reducible exact nodesE_in _ | with_reducible exact nodeL_in _ | with_reducible exact itemsE_in _ | with_reducible exact itemL_in _ | with_reducible refine app_in ?_ ?_ | with_reducible refine sing_in ?_ | (focus (simp [in_any, in_int, in_bool, in_str, in_ptr, in_own, in_agg, in_vnil, in_rdr, usedOf_cons, usedOf_nil, strs_in, ints_in, nodes_in, h4, nodeN, namesRow, nodeO, kidsRow]; done)))); done))
        · rintro i ⟨hi, hf⟩
          rw [nodeL_eq]
          have hi' : (i : Int) ≤ (n.kids.length : Int) := by omega
          by_cases hlt : i < n.kids.length
          · have hni : i < n.names.length := by omega
            have hw : IntKind.i64.wrap ((i : Int) + 1) = (i : Int) + 1 := i64_nat (by omega) (by omega)
            have hne : ¬ i = n.kids.length := by omega
            have hbi : ((i : Int) == (n.kids.length : Int)) = false := beq_false_of_ne (by omega)
            cases hb : lts st n.names[i]
            · rw [nmI_drop hni hb] at hf
              (repeat (first | with_reducible refine AW.seq ?_ | ((first | refine arun_kn 4 rfl (fun C hC => ?_) | refine arunD_kn 4 rfl (fun C hC => ?_)); (repeat ((conv => whnf); simp [h4, hi', hi, hne, hbi, hni, hb, hw])); refine hC _ ?_; clear hC C; simp only [List.drop, Nat.reduceAdd]) | ((first | refine arun_kn 1 rfl (fun C hC => ?_) | refine arunD_kn 1 rfl (fun C hC => ?_)); (repeat ((conv => whnf); simp [h4, hi', hi, hne, hbi, hni, hb, hw])); refine hC _ ?_; clear hC C; simp only [List.drop, Nat.reduceAdd]) | (refine arun_skip ?_ ?_; (focus (simp [awant, h4, hi', hi, hne, hbi, hni, hb, hw]; done))) | (refine arunD_skip ?_ ?_; (focus (simp [awant, h4, hi', hi, hne, hbi, hni, hb, hw]; done))) | (refine AW.regionK [] (fun K hK => ?_)) | (refine AW.regionDK [] (pcs [] []) (by kernel_rfl) (by kernel_rfl) (fun K hK => ?_)) | (refine AW.condT ?_ ?_; (focus (simp [aev, h4, hi', hi, hne, hbi, hni, hb, hw]; done))) | (refine AW.condF ?_ ?_; (focus (simp [aev, h4, hi', hi, hne, hbi, hni, hb, hw]; done))) | with_reducible refine AW.block ?_ | ((first | ((first | refine arun_nil ?_ | refine arunD_nil ?_); refine hK _ ?_; clear hK K) | refine AW.skip ?_ | refine AW.exit ?_ | refine AW.ret ?_); simp only [thenA_exit, inBlockA_exit, if_true, if_false, Nat.reduceEqDiff, thenA_normal, inBlockA_normal, reduceIte, thenA_ret, inBlockA_ret, endQ_ret, endR_ret, endG_ret, endQ_normal, endR_normal, endG_normal])))
              exact ⟨i + 1, by omega, ⟨by omega, hf⟩, (less_of (by simp [lessL, mkSt, slots, h4, nodeN, namesRow, nodeO, kidsRow]) (by simp [upd, mkSt, rowsOf_cons, h4, nodeN, namesRow, nodeO, kidsRow]) (by simp [upd, mkSt, usedOf_cons, h4, nodeN, namesRow, nodeO, kidsRow]) (by first | exact rd_less (by omega) | simp [mkSt, h4, nodeN, namesRow, nodeO, kidsRow]) (by simp [slots, in_any, in_int, in_bool, in_str, in_ptr, in_own, in_agg, in_vnil, in_rdr, usedOf_cons, usedOf_nil, strs_in, ints_in, nodes_in, in_tup, h4, nodeN, namesRow, nodeO, kidsRow]) (by simp only [List.forall_mem_cons, List.not_mem_nil, false_implies, implies_true, and_true, true_and, h4, nodeN, namesRow, nodeO, kidsRow]; (repeat (first | with_reducible exact trivial | with_reducible refine And.intro ?_ ?_ | with_reducible exact in_int | with_reducible exact in_str | with_reducible exact in_bool | with_reducible exact strs_in _ | with_reducible exact nodes_in _ | with_reducible exact items_in _ | with_reducible exact in_vnil | with_reducible exact in_any | exact hin _ | with_reducible refine take_in ?_ | with_reducible exact strsE_in _ | with_reducible exact nodesE_in _ | with_reducible exact nodeL_in _ | with_reducible exact itemsE_in _ | with_reducible exact itemL_in _ | with_reducible refine app_in ?_ ?_ | with_reducible refine sing_in ?_ | (focus (simp [in_any, in_int, in_bool, in_str, in_ptr, in_own, in_agg, in_vnil, in_rdr, usedOf_cons, usedOf_nil, strs_in, ints_in, nodes_in, h4, nodeN, namesRow, nodeO, kidsRow]; done)))); done))⟩
            · rw [nmI_at hni hb] at hf
              (repeat (first | with_reducible refine AW.seq ?_ | ((first | refine arun_kn 4 rfl (fun C hC => ?_) | refine arunD_kn 4 rfl (fun C hC => ?_)); (repeat ((conv => whnf); simp [h4, hi', hi, hne, hbi, hni, hb, hw])); refine hC _ ?_; clear hC C; simp only [List.drop, Nat.reduceAdd]) | ((first | refine arun_kn 1 rfl (fun C hC => ?_) | refine arunD_kn 1 rfl (fun C hC => ?_)); (repeat ((conv => whnf); simp [h4, hi', hi, hne, hbi, hni, hb, hw])); refine hC _ ?_; clear hC C; simp only [List.drop, Nat.reduceAdd]) | (refine arun_skip ?_ ?_; (focus (simp [awant, h4, hi', hi, hne, hbi, hni, hb, hw]; done))) | (refine arunD_skip ?_ ?_; (focus (simp [awant, h4, hi', hi, hne, hbi, hni, hb, hw]; done))) | (refine AW.regionK [] (fun K hK => ?_)) | (refine AW.regionDK [] (pcs [] []) (by kernel_rfl) (by kernel_rfl) (fun K hK => ?_)) | (refine AW.condT ?_ ?_; (focus (simp [aev, h4, hi', hi, hne, hbi, hni, hb, hw]; done))) | (refine AW.condF ?_ ?_; (focus (simp [aev, h4, hi', hi, hne, hbi, hni, hb, hw]; done))) | with_reducible refine AW.block ?_ | ((first | ((first | refine arun_nil ?_ | refine arunD_nil ?_); refine hK _ ?_; clear hK K) | refine AW.skip ?_ | refine AW.exit ?_ | refine AW.ret ?_); simp only [thenA_exit, inBlockA_exit, if_true, if_false, Nat.reduceEqDiff, thenA_normal, inBlockA_normal, reduceIte, thenA_ret, inBlockA_ret, endQ_ret, endR_ret, endG_ret, endQ_normal, endR_normal, endG_normal])))
              exact ⟨.tup [.int .i64 i, .bool false], by simp [ares, aresL], tup2_pur pur_int pur_bool, by rw [e, hf, Nat.zero_add]; rfl⟩
          · obtain rfl : i = n.kids.length := by omega
            rw [List.drop_eq_nil_of_le (by omega), nmI, Nat.zero_add] at hf
            (repeat (first | with_reducible refine AW.seq ?_ | ((first | refine arun_kn 4 rfl (fun C hC => ?_) | refine arunD_kn 4 rfl (fun C hC => ?_)); (repeat ((conv => whnf); simp [h4])); refine hC _ ?_; clear hC C; simp only [List.drop, Nat.reduceAdd]) | ((first | refine arun_kn 1 rfl (fun C hC => ?_) | refine arunD_kn 1 rfl (fun C hC => ?_)); (repeat ((conv => whnf); simp [h4])); refine hC _ ?_; clear hC C; simp only [List.drop, Nat.reduceAdd]) | (refine arun_skip ?_ ?_; (focus (simp [awant, h4]; done))) | (refine arunD_skip ?_ ?_; (focus (simp [awant, h4]; done))) | (refine AW.regionK [] (fun K hK => ?_)) | (refine AW.regionDK [] (pcs [] []) (by kernel_rfl) (by kernel_rfl) (fun K hK => ?_)) | (refine AW.condT ?_ ?_; (focus (simp [aev, h4]; done))) | (refine AW.condF ?_ ?_; (focus (simp [aev, h4]; done))) | with_reducible refine AW.block ?_ | ((first | ((first | refine arun_nil ?_ | refine arunD_nil ?_); refine hK _ ?_; clear hK K) | refine AW.skip ?_ | refine AW.exit ?_ | refine AW.ret ?_); simp only [thenA_exit, inBlockA_exit, if_true, if_false, Nat.reduceEqDiff, thenA_normal, inBlockA_normal, reduceIte, thenA_ret, inBlockA_ret, endQ_ret, endR_ret, endG_ret, endQ_normal, endR_normal, endG_normal])))
            exact ⟨.tup [.int .i64 n.kids.length, .bool false], by simp [ares, aresL], tup2_pur pur_int pur_bool, by rw [e, hf]; rfl⟩
      · have h4' : (n.kind == 4) = false := by simpa using h4
        have e : slotS n st = none := by unfold slotS; rw [h1, if_neg (by omega), if_neg (by simp [h3]), if_neg h4]
        (repeat (first | with_reducible refine AW.seq ?_ | ((first | refine arun_kn 4 rfl (fun C hC => ?_) | refine arunD_kn 4 rfl (fun C hC => ?_)); (repeat ((conv => whnf); simp [h4', h3'])); refine hC _ ?_; clear hC C; simp only [List.drop, Nat.reduceAdd]) | ((first | refine arun_kn 1 rfl (fun C hC => ?_) | refine arunD_kn 1 rfl (fun C hC => ?_)); (repeat ((conv => whnf); simp [h4', h3'])); refine hC _ ?_; clear hC C; simp only [List.drop, Nat.reduceAdd]) | (refine arun_skip ?_ ?_; (focus (simp [awant, h4', h3']; done))) | (refine arun_c0 (hx := by (simp [h4', h3'] <;> fail)) (pk) ?_; rintro _ rfl) | (refine arunD_skip ?_ ?_; (focus (simp [awant, h4', h3']; done))) | (refine AW.regionK [] (fun K hK => ?_)) | (refine AW.regionDK [] (pcs [] []) (by kernel_rfl) (by kernel_rfl) (fun K hK => ?_)) | (refine AW.condT ?_ ?_; (focus (simp [aev, h4', h3']; done))) | (refine AW.condF ?_ ?_; (focus (simp [aev, h4', h3']; done))) | with_reducible refine AW.block ?_ | ((first | ((first | refine arun_nil ?_ | refine arunD_nil ?_); refine hK _ ?_; clear hK K) | refine AW.skip ?_ | refine AW.exit ?_ | refine AW.ret ?_); simp only [thenA_exit, inBlockA_exit, if_true, if_false, Nat.reduceEqDiff, thenA_normal, inBlockA_normal, reduceIte, thenA_ret, inBlockA_ret, endQ_ret, endR_ret, endG_ret, endQ_normal, endR_normal, endG_normal])))
        refine AW.loopS (fun (i : Nat) => mkSt (slots 0 62 [(1, .str st), (2, .ptr true 5 1 2 0 0), (7, .int .i64 i)]) [(2, ⟨true, 30, 5, [nodeL n]⟩)] [2] (rd0.map fun _ => 0)) (fun i => 0) (fun i => i = 0) 0 ?_ rfl ?_
        · rw [nodeL_eq]
          exact less_a
        · rintro i rfl
          rw [nodeL_eq]
          (repeat (first | with_reducible refine AW.seq ?_ | ((first | refine arun_kn 4 rfl (fun C hC => ?_) | refine arunD_kn 4 rfl (fun C hC => ?_)); (repeat ((conv => whnf); simp [h4'])); refine hC _ ?_; clear hC C; simp only [List.drop, Nat.reduceAdd]) | ((first | refine arun_kn 1 rfl (fun C hC => ?_) | refine arunD_kn 1 rfl (fun C hC => ?_)); (repeat ((conv => whnf); simp [h4'])); refine hC _ ?_; clear hC C; simp only [List.drop, Nat.reduceAdd]) | (refine arun_skip ?_ ?_; (focus (simp [awant, h4']; done))) | (refine arunD_skip ?_ ?_; (focus (simp [awant, h4']; done))) | (refine AW.regionK [] (fun K hK => ?_)) | (refine AW.regionDK [] (pcs [] []) (by kernel_rfl) (by kernel_rfl) (fun K hK => ?_)) | (refine AW.condT ?_ ?_; (focus (simp [aev, h4']; done))) | (refine AW.condF ?_ ?_; (focus (simp [aev, h4']; done))) | with_reducible refine AW.block ?_ | ((first | ((first | refine arun_nil ?_ | refine arunD_nil ?_); refine hK _ ?_; clear hK K) | refine AW.skip ?_ | refine AW.exit ?_ | refine AW.ret ?_); simp only [thenA_exit, inBlockA_exit, if_true, if_false, Nat.reduceEqDiff, thenA_normal, inBlockA_normal, reduceIte, thenA_ret, inBlockA_ret, endQ_ret, endR_ret, endG_ret, endQ_normal, endR_normal, endG_normal])))
          exact ⟨.tup [.int .i64 (-1), .bool false], by simp [ares, aresL], tup2_pur pur_int pur_bool, by rw [e]; rfl⟩
  · rw [h2] at pk
    have hk0 : (0 : Int) ≤ (k : Int) := by omega
    by_cases h4 : n.kind = 4
    · have e : slotS n st = some (k, true) := by unfold slotS; rw [h2, if_pos hk0, Int.toNat_natCast, decide_eq_true h4]
      (repeat (first | with_reducible refine AW.seq ?_ | ((first | refine arun_kn 4 rfl (fun C hC => ?_) | refine arunD_kn 4 rfl (fun C hC => ?_)); (repeat ((conv => whnf); simp [h4, hk0])); refine hC _ ?_; clear hC C; simp only [List.drop, Nat.reduceAdd]) | ((first | refine arun_kn 1 rfl (fun C hC => ?_) | refine arunD_kn 1 rfl (fun C hC => ?_)); (repeat ((conv => whnf); simp [h4, hk0])); refine hC _ ?_; clear hC C; simp only [List.drop, Nat.reduceAdd]) | (refine arun_skip ?_ ?_; (focus (simp [awant, h4, hk0]; done))) | (refine arun_c0 (hx := by (simp [h4, hk0] <;> fail)) (pk) ?_; rintro _ rfl) | (refine arunD_skip ?_ ?_; (focus (simp [awant, h4, hk0]; done))) | (refine AW.regionK [] (fun K hK => ?_)) | (refine AW.regionDK [] (pcs [] []) (by kernel_rfl) (by kernel_rfl) (fun K hK => ?_)) | (refine AW.condT ?_ ?_; (focus (simp [aev, h4, hk0]; done))) | (refine AW.condF ?_ ?_; (focus (simp [aev, h4, hk0]; done))) | with_reducible refine AW.block ?_ | ((first | ((first | refine arun_nil ?_ | refine arunD_nil ?_); refine hK _ ?_; clear hK K) | refine AW.skip ?_ | refine AW.exit ?_ | refine AW.ret ?_); simp only [thenA_exit, inBlockA_exit, if_true, if_false, Nat.reduceEqDiff, thenA_normal, inBlockA_normal, reduceIte, thenA_ret, inBlockA_ret, endQ_ret, endR_ret, endG_ret, endQ_normal, endR_normal, endG_normal])))
      exact ⟨.tup [.int .i64 k, .bool true], by simp [ares, aresL], tup2_pur pur_int pur_bool, by rw [e]; rfl⟩
    · have h4' : (n.kind == 4) = false := by simpa using h4
      have e : slotS n st = some (k, false) := by unfold slotS; rw [h2, if_pos hk0, Int.toNat_natCast, decide_eq_false h4]
      (repeat (first | with_reducible refine AW.seq ?_ | ((first | refine arun_kn 4 rfl (fun C hC => ?_) | refine arunD_kn 4 rfl (fun C hC => ?_)); (repeat ((conv => whnf); simp [h4, h4', hk0])); refine hC _ ?_; clear hC C; simp only [List.drop, Nat.reduceAdd]) | ((first | refine arun_kn 1 rfl (fun C hC => ?_) | refine arunD_kn 1 rfl (fun C hC => ?_)); (repeat ((conv => whnf); simp [h4, h4', hk0])); refine hC _ ?_; clear hC C; simp only [List.drop, Nat.reduceAdd]) | (refine arun_skip ?_ ?_; (focus (simp [awant, h4, h4', hk0]; done))) | (refine arun_c0 (hx := by (simp [h4, h4', hk0] <;> fail)) (pk) ?_; rintro _ rfl) | (refine arunD_skip ?_ ?_; (focus (simp [awant, h4, h4', hk0]; done))) | (refine AW.regionK [] (fun K hK => ?_)) | (refine AW.regionDK [] (pcs [] []) (by kernel_rfl) (by kernel_rfl) (fun K hK => ?_)) | (refine AW.condT ?_ ?_; (focus (simp [aev, h4, h4', hk0]; done))) | (refine AW.condF ?_ ?_; (focus (simp [aev, h4, h4', hk0]; done))) | with_reducible refine AW.block ?_ | ((first | ((first | refine arun_nil ?_ | refine arunD_nil ?_); refine hK _ ?_; clear hK K) | refine AW.skip ?_ | refine AW.exit ?_ | refine AW.ret ?_); simp only [thenA_exit, inBlockA_exit, if_true, if_false, Nat.reduceEqDiff, thenA_normal, inBlockA_normal, reduceIte, thenA_ret, inBlockA_ret, endQ_ret, endR_ret, endG_ret, endQ_normal, endR_normal, endG_normal])))
      exact ⟨.tup [.int .i64 k, .bool false], by simp [ares, aresL], tup2_pur pur_int pur_bool, by rw [e]; rfl⟩
theorem insKid_kids (n v : Nd) (i : Nat) (st : ByteArray) : (insKid n i st v).kids.map nodeL = (n.kids.map nodeL).take i ++ nodeL v :: (n.kids.map nodeL).drop i := by
  simp [insKid, insL, List.map_take, List.map_drop]
theorem insKid_names (n v : Nd) (i : Nat) (st : ByteArray) (h4 : n.kind = 4) : strsE (insKid n i st v).names = (strsE n.names).take i ++ [.str st] :: (strsE n.names).drop i := by
  simp [insKid, insL, h4, strsE, List.map_take, List.map_drop]
theorem insKid_klen {n v : Nd} {i : Nat} {st : ByteArray} (h : i ≤ n.kids.length) : (insKid n i st v).kids.length = i + (n.kids.length - i + 1) := by
  simp [insKid, insL]; omega
theorem ins3_pur (n : Nd) (ks : List Nd) : Pur (.tup [.agg [.int .i64 n.kind, .int .i64 0, .str ⟨#[]⟩, .view .tight 1 [], .view .loose 5 (ks.map nodeL)], .bool true]) := tup2_pur (pur_agg (by
  simp only [List.forall_mem_cons, List.not_mem_nil, false_implies, implies_true, and_true]
  exact ⟨pur_int, pur_int, pur_str, pur_view (by decide) (fun e he => by cases he), nodes_pur _ (by decide)⟩)) pur_bool
theorem ins3_wk {n v : Nd} {i : Nat} {st : ByteArray} (h : (insKid n i st v).names = []) : Wk (.tup [.agg [.int .i64 n.kind, .int .i64 0, .str ⟨#[]⟩, .view .tight 1 [], .view .loose 5 ((insKid n i st v).kids.map nodeL)], .bool true]) (optA (some (insKid n i st v))) := by
  rw [optA_eq]
  unfold optL
  dsimp only [Option.getD_some, Option.isSome_some]
  rw [h]
  exact tup2_wk' (Wk.agg (.cons (Wk.refl _) (.cons (Wk.refl _) (.cons (Wk.refl _) (.cons (Wk.nil (fun h => by cases h)) (.cons (Wk.refl _) .nil)))))) (Wk.refl _)
theorem addHereG_AC (n v : Nd) (st : ByteArray) (hn : Slt n) (hv : Sml v) : AC Try.prog 157 [nodeA n, .str st, nodeA v] 0 (fun r => r = optA (addK n st v)) := by
  have hs1 := hn.sml.names
  have hs2 := hn.sml.kids
  have psl := slotG_AC n st hn
  refine AC.weak ?_
  cases hs : slotS n st with
  | none =>
    have e : addK n st v = none := by unfold addK; rw [hs]; rfl
    rw [hs] at psl
    dsimp only [slotA] at psl
    unfold nodeA at psl ⊢
    rw [nodeL_eq] at psl
    rw [nodeL_eq n, nodeL_eq v]
    refine AC.of tab_ok mixed_ok Try.func157 (by rfl) (by kernel_rfl) ?_; rintro ⟨P, T, hT, hm, w0, S0, rd0, k0⟩ hP hTT; dsimp only at hP hTT; subst hP hTT; unfold initSt; rw [Try.ntmps157]
    (repeat (first | with_reducible refine AW.seq ?_ | ((first | refine arun_kn 4 rfl (fun C hC => ?_) | refine arunD_kn 4 rfl (fun C hC => ?_)); (repeat ((conv => whnf); simp)); refine hC _ ?_; clear hC C; simp only [List.drop, Nat.reduceAdd]) | ((first | refine arun_kn 1 rfl (fun C hC => ?_) | refine arunD_kn 1 rfl (fun C hC => ?_)); (repeat ((conv => whnf); simp)); refine hC _ ?_; clear hC C; simp only [List.drop, Nat.reduceAdd]) | (refine arun_skip ?_ ?_; (focus (simp [awant]; done))) | (refine arun_c0 (psl) ?_; rintro _ rfl) | (refine arunD_skip ?_ ?_; (focus (simp [awant]; done))) | (refine AW.regionK [] (fun K hK => ?_)) | (refine AW.regionDK [] (pcs [] []) (by kernel_rfl) (by kernel_rfl) (fun K hK => ?_)) | (refine AW.condT ?_ ?_; (focus (simp [aev]; done))) | (refine AW.condF ?_ ?_; (focus (simp [aev]; done))) | with_reducible refine AW.block ?_ | ((first | ((first | refine arun_nil ?_ | refine arunD_nil ?_); refine hK _ ?_; clear hK K) | refine AW.skip ?_ | refine AW.exit ?_ | refine AW.ret ?_); simp only [thenA_exit, inBlockA_exit, if_true, if_false, Nat.reduceEqDiff, thenA_normal, inBlockA_normal, reduceIte, thenA_ret, inBlockA_ret, endQ_ret, endR_ret, endG_ret, endQ_normal, endR_normal, endG_normal])))
    exact ⟨.tup [node0 0 0 ⟨#[]⟩, .bool false], by simp [node0, ares, aresL, upd, rowsOf_cons], none_end.1, _, none_end.2, by rw [e]; rfl⟩
  | some x =>
    obtain ⟨i, b⟩ := x
    have hlt := slotS_lt hn hs
    rw [hs] at psl
    dsimp only [slotA] at psl
    have hi0 : ¬ ((i : Int) < 0) := by omega
    cases b
    · obtain ⟨hk, hi⟩ := hlt.2 rfl
      have e : addK n st v = some (insKid n i st v) := by unfold addK; rw [hs]; rfl
      have pc := copyNode_AC n hn.sml .loose
      have pv := copyNode_AC v hv .loose
      unfold nodeT at pc pv
      rw [nodeTL_eq] at pc pv
      unfold nodeA at psl pc pv ⊢
      rw [nodeL_eq] at psl pc pv
      rw [nodeL_eq n, nodeL_eq v]
      have hl1 : ((n.kids.map nodeL).take i).length = i := by rw [List.length_take, List.length_map]; omega
      have hl2 : ((n.kids.map nodeL).drop i).length = n.kids.length - i := by rw [List.length_drop, List.length_map]
      have hb1 : i * 80 ≤ 140737488355328 := by omega
      have hb2 : i ≤ 140737488355328 := by omega
      have hb3 : (i + 1) * 80 ≤ 140737488355328 := by omega
      have hb4 : i + 1 ≤ 140737488355328 := by omega
      have hb5 : (i + 1 + (n.kids.length - i)) * 80 ≤ 140737488355328 := by omega
      have hb6 : i + 1 + (n.kids.length - i) ≤ 140737488355328 := by omega
      have htk1 : (n.kids.map nodeL).take n.kids.length = n.kids.map nodeL := List.take_of_length_le (by rw [List.length_map]; exact Nat.le_refl _)
      have hkl := insKid_kids n v i st
      rw [nodeL_eq v] at hkl
      have hkn := insKid_klen (v := v) (st := st) hi
      have q1 : (insKid n i st v).kind = n.kind := rfl
      have q2 : (insKid n i st v).num = 0 := rfl
      have q3 : (insKid n i st v).text = ⟨#[]⟩ := rfl
      refine AC.of tab_ok mixed_ok Try.func157 (by rfl) (by kernel_rfl) ?_; rintro ⟨P, T, hT, hm, w0, S0, rd0, k0⟩ hP hTT; dsimp only at hP hTT; subst hP hTT; unfold initSt; rw [Try.ntmps157]
      (repeat (first | with_reducible refine AW.seq ?_ | ((first | refine arun_kn 4 rfl (fun C hC => ?_) | refine arunD_kn 4 rfl (fun C hC => ?_)); (repeat ((conv => whnf); simp [hi0, hi, hl1, hl2, hb1, hb2, hb3, hb4, hb5, hb6, htk1])); refine hC _ ?_; clear hC C; simp only [List.drop, Nat.reduceAdd]) | ((first | refine arun_kn 1 rfl (fun C hC => ?_) | refine arunD_kn 1 rfl (fun C hC => ?_)); (repeat ((conv => whnf); simp [hi0, hi, hl1, hl2, hb1, hb2, hb3, hb4, hb5, hb6, htk1])); refine hC _ ?_; clear hC C; simp only [List.drop, Nat.reduceAdd]) | (refine arun_skip ?_ ?_; (focus (simp [awant, hi0, hi, hl1, hl2, hb1, hb2, hb3, hb4, hb5, hb6, htk1]; done))) | (refine arun_c0 (psl) ?_; rintro _ rfl) | (refine arun_c0 (pc) ?_; rintro _ rfl) | (refine arun_c0 (pv) ?_; rintro _ rfl) | (refine arunD_skip ?_ ?_; (focus (simp [awant, hi0, hi, hl1, hl2, hb1, hb2, hb3, hb4, hb5, hb6, htk1]; done))) | (refine arunD_c (0) (psl) ?_; rintro _ rfl; intro _) | (refine arunD_c (0) (pc) ?_; rintro _ rfl; intro _) | (refine arunD_c (0) (pv) ?_; rintro _ rfl; intro _) | (refine AW.regionK [] (fun K hK => ?_)) | (refine AW.regionDK [] (pcs [(7, 0, fun r => r = .agg [.int .i64 v.kind, .int .i64 v.num, .str v.text, .view .loose 1 (strsE v.names), .view .loose 5 (v.kids.map nodeL)])] []) (by kernel_rfl) (by kernel_rfl) (fun K hK => ?_)) | (refine AW.condT ?_ ?_; (focus (simp [aev, hi0, hi, hl1, hl2, hb1, hb2, hb3, hb4, hb5, hb6, htk1]; done))) | (refine AW.condF ?_ ?_; (focus (simp [aev, hi0, hi, hl1, hl2, hb1, hb2, hb3, hb4, hb5, hb6, htk1]; done))) | with_reducible refine AW.block ?_ | ((first | ((first | refine arun_nil ?_ | refine arunD_nil ?_); refine hK _ ?_; clear hK K) | refine AW.skip ?_ | refine AW.exit ?_ | refine AW.ret ?_); simp only [thenA_exit, inBlockA_exit, if_true, if_false, Nat.reduceEqDiff, thenA_normal, inBlockA_normal, reduceIte, thenA_ret, inBlockA_ret, endQ_ret, endR_ret, endG_ret, endQ_normal, endR_normal, endG_normal])))
      refine AW.hold 34 ?_
      rcases hk with h3 | h4
      · have q4 : (insKid n i st v).names = [] := by simp [insKid, h3]
        (repeat (first | with_reducible refine AW.seq ?_ | ((first | refine arun_kn 4 rfl (fun C hC => ?_) | refine arunD_kn 4 rfl (fun C hC => ?_)); (repeat ((conv => whnf); simp [h3, ASt.hold, upd, AV.subL, AV.sub, rowsOf_cons, Row.sub, hl1, hl2])); refine hC _ ?_; clear hC C; simp only [List.drop, Nat.reduceAdd]) | ((first | refine arun_kn 1 rfl (fun C hC => ?_) | refine arunD_kn 1 rfl (fun C hC => ?_)); (repeat ((conv => whnf); simp [h3, ASt.hold, upd, AV.subL, AV.sub, rowsOf_cons, Row.sub, hl1, hl2])); refine hC _ ?_; clear hC C; simp only [List.drop, Nat.reduceAdd]) | (refine arun_skip ?_ ?_; (focus (simp [awant, h3, ASt.hold, upd, AV.subL, AV.sub, rowsOf_cons, Row.sub, hl1, hl2]; done))) | (refine arunD_skip ?_ ?_; (focus (simp [awant, h3, ASt.hold, upd, AV.subL, AV.sub, rowsOf_cons, Row.sub, hl1, hl2]; done))) | (refine AW.regionK [] (fun K hK => ?_)) | (refine AW.regionDK [] (pcs [] []) (by kernel_rfl) (by kernel_rfl) (fun K hK => ?_)) | (refine AW.condT ?_ ?_; (focus (simp [aev, h3, ASt.hold, upd, AV.subL, AV.sub, rowsOf_cons, Row.sub, hl1, hl2]; done))) | (refine AW.condF ?_ ?_; (focus (simp [aev, h3, ASt.hold, upd, AV.subL, AV.sub, rowsOf_cons, Row.sub, hl1, hl2]; done))) | with_reducible refine AW.block ?_ | ((first | ((first | refine arun_nil ?_ | refine arunD_nil ?_); refine hK _ ?_; clear hK K) | refine AW.skip ?_ | refine AW.exit ?_ | refine AW.ret ?_); simp only [thenA_exit, inBlockA_exit, if_true, if_false, Nat.reduceEqDiff, thenA_normal, inBlockA_normal, reduceIte, thenA_ret, inBlockA_ret, endQ_ret, endR_ret, endG_ret, endQ_normal, endR_normal, endG_normal])))
        exact ⟨.tup [.agg [.int .i64 n.kind, .int .i64 0, .str ⟨#[]⟩, .view .tight 1 [], .view .loose 5 ((insKid n i st v).kids.map nodeL)], .bool true], by rw [hkl]; simp [ares, aresL, h3], ins3_pur n _, _, ins3_wk q4, by rw [e]⟩
      · have hl3 : ((strsE n.names).take i).length = i := by rw [List.length_take, strsE_len]; have := hn.map h4; omega
        have hl4 : ((strsE n.names).drop i).length = n.kids.length - i := by rw [List.length_drop, strsE_len]; have := hn.map h4; omega
        have hin : i ≤ n.names.length := by have := hn.map h4; omega
        have hb7 : i * 16 ≤ 140737488355328 := by omega
        have hb8 : (i + 1) * 16 ≤ 140737488355328 := by omega
        have hb9 : (i + 1 + (n.kids.length - i)) * 16 ≤ 140737488355328 := by omega
        have htk2 : (strsE n.names).take n.names.length = strsE n.names := List.take_of_length_le (by rw [strsE_len]; exact Nat.le_refl _)
        have hnn := insKid_names n v i st h4
        have hmin : min i n.kids.length = i := Nat.min_eq_left hi
        refine AW.condF (by simp [aev, ASt.hold, upd, AV.subL, AV.sub, h4]) ?_
        refine AW.skip ?_
        simp only [thenA_normal]
        repeat refine AW.seq ?_
        (refine AW.regionK [] (fun K hK => ?_); (repeat (refine arun_ks 4 rfl (fun C hC => ?_); (repeat ((conv => whnf); simp [hmin, ASt.hold, upd, AV.subL, AV.sub, rowsOf_cons, Row.sub, hin, hl3, strsE_len, hb7, hb8, hb2, hb4])); refine hC _ ?_; clear hC C; simp only [List.drop_succ_cons, List.drop_zero, List.drop_nil])); refine arun_nil ?_; refine hK _ ?_; clear hK K; simp only [thenA_normal, inBlockA_normal, endQ_normal, endR_normal])
        repeat refine AW.seq ?_
        (refine AW.regionK [] (fun K hK => ?_); (repeat (refine arun_ks 4 rfl (fun C hC => ?_); (repeat ((conv => whnf); simp [hmin, ASt.hold, upd, AV.subL, AV.sub, rowsOf_cons, Row.sub, hin, hl3, hl4, strsE_len, hb9, hb6, htk2])); refine hC _ ?_; clear hC C; simp only [List.drop_succ_cons, List.drop_zero, List.drop_nil])); refine arun_nil ?_; refine hK _ ?_; clear hK K; simp only [thenA_normal, inBlockA_normal, endQ_normal, endR_normal])
        refine AW.hold 58 ?_
        (repeat (first | with_reducible refine AW.seq ?_ | ((first | refine arun_kn 4 rfl (fun C hC => ?_) | refine arunD_kn 4 rfl (fun C hC => ?_)); (repeat ((conv => whnf); simp [h4, hmin, ASt.hold, upd, AV.subL, AV.sub, rowsOf_cons, Row.sub, hl1, hl2, hl3, hl4, strsE_len])); refine hC _ ?_; clear hC C; simp only [List.drop, Nat.reduceAdd]) | ((first | refine arun_kn 1 rfl (fun C hC => ?_) | refine arunD_kn 1 rfl (fun C hC => ?_)); (repeat ((conv => whnf); simp [h4, hmin, ASt.hold, upd, AV.subL, AV.sub, rowsOf_cons, Row.sub, hl1, hl2, hl3, hl4, strsE_len])); refine hC _ ?_; clear hC C; simp only [List.drop, Nat.reduceAdd]) | (refine arun_skip ?_ ?_; (focus (simp [awant, h4, hmin, ASt.hold, upd, AV.subL, AV.sub, rowsOf_cons, Row.sub, hl1, hl2, hl3, hl4, strsE_len]; done))) | (refine arunD_skip ?_ ?_; (focus (simp [awant, h4, hmin, ASt.hold, upd, AV.subL, AV.sub, rowsOf_cons, Row.sub, hl1, hl2, hl3, hl4, strsE_len]; done))) | (refine AW.regionK [] (fun K hK => ?_)) | (refine AW.regionDK [] (pcs [] []) (by kernel_rfl) (by kernel_rfl) (fun K hK => ?_)) | (refine AW.condT ?_ ?_; (focus (simp [aev, h4, hmin, ASt.hold, upd, AV.subL, AV.sub, rowsOf_cons, Row.sub, hl1, hl2, hl3, hl4, strsE_len]; done))) | (refine AW.condF ?_ ?_; (focus (simp [aev, h4, hmin, ASt.hold, upd, AV.subL, AV.sub, rowsOf_cons, Row.sub, hl1, hl2, hl3, hl4, strsE_len]; done))) | with_reducible refine AW.block ?_ | ((first | ((first | refine arun_nil ?_ | refine arunD_nil ?_); refine hK _ ?_; clear hK K) | refine AW.skip ?_ | refine AW.exit ?_ | refine AW.ret ?_); simp only [thenA_exit, inBlockA_exit, if_true, if_false, Nat.reduceEqDiff, thenA_normal, inBlockA_normal, reduceIte, thenA_ret, inBlockA_ret, endQ_ret, endR_ret, endG_ret, endQ_normal, endR_normal, endG_normal])))
        exact ⟨optA (some (insKid n i st v)), by rw [optA_eq]; simp [optL, ares, aresL, q1, q2, q3, hkl, hnn, h4], optA_pur _, _, Wk.refl _, by rw [e]⟩
    · obtain ⟨h4, hi⟩ := hlt.1 rfl
      have e : addK n st v = some (setK n i v) := by unfold addK; rw [hs]; rfl
      have pw := withKid_AC n v i hn.sml hv hi
      unfold nodeA at psl pw ⊢
      rw [nodeL_eq] at psl
      rw [nodeL_eq n, nodeL_eq v] at pw
      rw [nodeL_eq n, nodeL_eq v]
      refine AC.of tab_ok mixed_ok Try.func157 (by rfl) (by kernel_rfl) ?_; rintro ⟨P, T, hT, hm, w0, S0, rd0, k0⟩ hP hTT; dsimp only at hP hTT; subst hP hTT; unfold initSt; rw [Try.ntmps157]
      (repeat (first | with_reducible refine AW.seq ?_ | ((first | refine arun_kn 4 rfl (fun C hC => ?_) | refine arunD_kn 4 rfl (fun C hC => ?_)); (repeat ((conv => whnf); simp [hi0])); refine hC _ ?_; clear hC C; simp only [List.drop, Nat.reduceAdd]) | ((first | refine arun_kn 1 rfl (fun C hC => ?_) | refine arunD_kn 1 rfl (fun C hC => ?_)); (repeat ((conv => whnf); simp [hi0])); refine hC _ ?_; clear hC C; simp only [List.drop, Nat.reduceAdd]) | (refine arun_skip ?_ ?_; (focus (simp [awant, hi0]; done))) | (refine arun_c0 (psl) ?_; rintro _ rfl) | (refine arun_c0 (pw) ?_; rintro _ rfl) | (refine arunD_skip ?_ ?_; (focus (simp [awant, hi0]; done))) | (refine AW.regionK [] (fun K hK => ?_)) | (refine AW.regionDK [] (pcs [] []) (by kernel_rfl) (by kernel_rfl) (fun K hK => ?_)) | (refine AW.condT ?_ ?_; (focus (simp [aev, hi0]; done))) | (refine AW.condF ?_ ?_; (focus (simp [aev, hi0]; done))) | with_reducible refine AW.block ?_ | ((first | ((first | refine arun_nil ?_ | refine arunD_nil ?_); refine hK _ ?_; clear hK K) | refine AW.skip ?_ | refine AW.exit ?_ | refine AW.ret ?_); simp only [thenA_exit, inBlockA_exit, if_true, if_false, Nat.reduceEqDiff, thenA_normal, inBlockA_normal, reduceIte, thenA_ret, inBlockA_ret, endQ_ret, endR_ret, endG_ret, endQ_normal, endR_normal, endG_normal])))
      exact ⟨.tup [nodeA (setK n i v), .bool true], by simp [setK, ares, aresL, upd, rowsOf_cons], tup2_pur (node_pur _) pur_bool, _, Wk.refl _, by rw [e]; rfl⟩
end Go.Proofs.Ytgfnmhfdmmnaoaa.Eng
-- EV: rows
namespace Go.Proofs.Ytgfnmhfdmmnaoaa.Eng
open Go Go.RowKit
attribute [local simp] big size_mk ASt.pay Option.map_map Function.comp_def awant aop acall ado aev ofVal ofVal0 ASt.put ASt.add ASt.turn ASt.kill abox aalloc astore aload aloadD astoreD idOf ASt.at cellsTo afieldAddr afield aindexAddr aindex alen abin aint acmp astr aun apick aextract anil aslice abound abuild afill abuildSlice asCells aps avCells over upd aappend asrc amax amin aconv mkSt slots rowsOf_cons rowsOf_nil usedOf_cons usedOf_nil ZK.av List.replicate ASt.back ASt.addL ASt.killL nodeA nodeT nodeTL_eq nodeL_eq strsE_get strsE_len intsE_get intsE_len strsE_at intsE_at nodeN namesRow nodeO kidsRow tab2 tab3 tab4 tab5 tab6 tab7 tab8 tab9 tab10 tab11 tab12 tab13 tab14 tab15 tab16 tab17 tab18 tab19 tab21 tab22 tab23 tab24 tab25 tab26 tab27 tab28 tab29 tab30 tab39 tab40 tab41 tab42 tab43 tab47 tab48 tab55 tab56 tab57 tab60 tab61 tab62 tab73 tab74 tab75 tab85 tab92 tab115 tab116 tab143 tab144 tab145 tab154 tab155 tab170 tab175 tab182 tab197 tab198 tab203 tab204 tab205 tab207 tab208 tab209
end Go.Proofs.Ytgfnmhfdmmnaoaa.Eng
