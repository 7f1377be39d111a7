/-
  Texts of this claim, joined.
-/
import Derived.Test.YtgfnmhfdmmnaoaaOqF

set_option linter.unusedSimpArgs false
set_option linter.unusedVariables false
set_option linter.unnecessarySimpa false
set_option maxRecDepth 100000
set_option maxHeartbeats 16000000
namespace Go.Proofs.Ytgfnmhfdmmnaoaa.Eng
open Go Go.RowKit
def fcall : Op → Option (Tmp × List Operand)
  | .call { callee := .value (.tmp t), args, argTypes := _ } => some (t, args.toList)
  | _ => none
section
variable {P : Program} {w0 : W0} {S0 : Nat → Prop} {rd0 : Option Nat} {k0 : Nat} {w : World} {a : Act} {s : ASt} {ρ : Cx}
theorem exec_fn {o : Oper} {f : FuncId} {t : Tmp} {xs : List Operand} {us : List Value} (ha : fcall o.op = some (t, xs)) (hv : a.eval (.tmp t) = .func (.func f) #[] us.toArray) (he : Enters P f) : (execOp a.eval o).run P w = .ok (.enter f (xs.map a.eval ++ us).toArray) w := by
  unfold fcall at ha
  split at ha
  · rename_i t' args tys ho
    cases ha
    unfold execOp
    simp only [ho, resolve, hv, Deferred.ofValue, Sem.run_bind, Sem.run_pure, Result.andThen_ok, invoke]
    have q : (#[] ++ Array.map a.eval args ++ us.toArray) = (args.toList.map a.eval ++ us).toArray := by apply Array.ext'; simp
    rw [← q]
    exact he _ _
  · cases ha
theorem clo_fn {f : FuncId} {cs : List AV} (hp : ∀ c ∈ cs, Clo c) : Clo (.fn f cs) := fun _ _ _ h => by
  obtain ⟨vs, h1, h3⟩ := rep_fn.1 h
  exact rep_fn.2 ⟨vs, h1, RepL.of_get h3.length (fun i c v h1 h2 => by
    obtain ⟨u, hu, hr⟩ := h3.get h1
    rw [h2] at hu; cases hu
    exact hp c (List.mem_of_getElem? h1) _ _ _ hr)⟩
end
section
variable {P : Program} {T : Tab} {hT : Tab.Ok P T} {hm : P.follows .mixedOrders = true} {w0 : W0} {S0 : Nat → Prop} {rd0 : Option Nat} {k0 : Nat} {Q : Exit → ASt → Prop} {s : ASt} {code : Code}
end
section
variable {P : Program} {T : Tab} {k0 : Nat} {md : List Nat} {Av : Nat → Prop} {ops : Array Oper} {K : ASt → Prop} {o : Oper} {l : List Oper} {s : ASt}
theorem arun_callFn {f : FuncId} {t : Tmp} {xs : List Operand} {cs args : List AV} {c : Nat} {Post : AV → Prop} (hf : fcall o.op = some (t, xs)) (ht : s.tmps[t]? = some (.fn f cs)) (hw : awant ops o s = some true) (hx : xs.map (aev s) ++ cs = args) (hac : ACF P f args c Post) (hclo : cloL args) (hcan : s.can c)
    (h : ∀ r, Post r → (∀ b ∈ atB r, ¬ Av b) → ARun P T k0 Av md ops K l ((s.pay c).put o.dst r)) : ARun P T k0 Av md ops K (o :: l) s :=
  ARun.opA hw fun w0 S0 rd0 w a ρ hT hA hS next Q hn => by
    subst hx
    have hall : ∀ x ∈ xs.map (aev s) ++ cs, Clo x := by
      have aux : ∀ l : List AV, cloL l → ∀ x ∈ l, Clo x := fun l => by
        induction l with
        | nil => intro _ x hx; cases hx
        | cons y l ih =>
          intro hc x hx
          rcases List.mem_cons.1 hx with rfl | hx
          · exact hc.1
          · exact ih hc.2 x hx
      exact aux _ hclo
    have ev := aev_rep hS (.tmp t)
    have e1 : aev s (.tmp t) = .fn f cs := by simp only [aev, ht]; rfl
    rw [e1] at ev
    obtain ⟨us, hv, hus⟩ := rep_fn.1 ev
    refine callE_ok (vs := xs.map a.eval ++ us) hS (fun he => exec_fn hf hv he) hA hac.toV ?_ hcan (fun r v w' ρ' hp _ hs => hn _ _ _ _ hs (h r hp.1 hp.2))
    refine RepL.of_get (by simp [hus.length]) (fun i c v h1 h2 => (hall c (List.mem_of_getElem? h1) _ _ _ ?_).le (le_lent w ρ))
    have hall2 : RepL w ρ (xs.map (aev s) ++ cs) (xs.map a.eval ++ us) := RepL.append (RepL.of_get (by simp) (fun i c v h1 h2 => by
      rw [List.getElem?_map] at h1 h2
      cases hx : xs[i]? with
      | none => rw [hx] at h1; cases h1
      | some x => rw [hx] at h1 h2; cases h1; cases h2; exact aev_rep hS x)) hus
    obtain ⟨u, hu, hr⟩ := hall2.get h1
    rw [h2] at hu; cases hu
    exact hr
end
end Go.Proofs.Ytgfnmhfdmmnaoaa.Eng
namespace Go.Proofs.Ytgfnmhfdmmnaoaa.Eng
open Go Go.RowKit
end Go.Proofs.Ytgfnmhfdmmnaoaa.Eng
-- EV: fresh
namespace Go.Proofs.Ytgfnmhfdmmnaoaa.Eng
open Go Go.RowKit
attribute [local simp] big size_mk ASt.pay Option.map_map Function.comp_def awant aop acall ado aev ofVal ofVal0 ASt.put ASt.add ASt.turn ASt.kill abox aalloc astore aload aloadD astoreD idOf ASt.at cellsTo afieldAddr afield aindexAddr aindex alen abin aint acmp astr aun apick aextract anil aslice abound abuild afill abuildSlice asCells aps avCells over upd aappend asrc amax amin aconv mkSt slots rowsOf_cons rowsOf_nil usedOf_cons usedOf_nil ZK.av List.replicate ASt.back ASt.addL ASt.killL nodeA nodeT nodeTL_eq nodeL_eq strsE_get strsE_len intsE_get intsE_len strsE_at intsE_at tab2 tab3 tab4 tab5 tab6 tab7 tab8 tab9 tab10 tab11 tab12 tab13 tab14 tab15 tab16 tab17 tab18 tab19 tab21 tab22 tab23 tab24 tab25 tab26 tab27 tab28 tab29 tab30 tab39 tab40 tab41 tab42 tab43 tab47 tab48 tab55 tab56 tab57 tab60 tab61 tab62 tab73 tab74 tab75 tab85 tab92 tab115 tab116 tab143 tab144 tab145 tab154 tab155 tab170 tab175 tab182 tab197 tab198 tab203 tab204 tab205 tab207 tab208 tab209
end Go.Proofs.Ytgfnmhfdmmnaoaa.Eng
-- EV: rows
namespace Go.Proofs.Ytgfnmhfdmmnaoaa.Eng
open Go Go.RowKit
attribute [local simp] big size_mk ASt.pay Option.map_map Function.comp_def awant aop acall ado aev ofVal ofVal0 ASt.put ASt.add ASt.turn ASt.kill abox aalloc astore aload aloadD astoreD idOf ASt.at cellsTo afieldAddr afield aindexAddr aindex alen abin aint acmp astr aun apick aextract anil aslice abound abuild afill abuildSlice asCells aps avCells over upd aappend asrc amax amin aconv mkSt slots rowsOf_cons rowsOf_nil usedOf_cons usedOf_nil ZK.av List.replicate ASt.back ASt.addL ASt.killL nodeA nodeT nodeTL_eq nodeL_eq strsE_get strsE_len intsE_get intsE_len strsE_at intsE_at nodeN namesRow nodeO kidsRow tab2 tab3 tab4 tab5 tab6 tab7 tab8 tab9 tab10 tab11 tab12 tab13 tab14 tab15 tab16 tab17 tab18 tab19 tab21 tab22 tab23 tab24 tab25 tab26 tab27 tab28 tab29 tab30 tab39 tab40 tab41 tab42 tab43 tab47 tab48 tab55 tab56 tab57 tab60 tab61 tab62 tab73 tab74 tab75 tab85 tab92 tab115 tab116 tab143 tab144 tab145 tab154 tab155 tab170 tab175 tab182 tab197 tab198 tab203 tab204 tab205 tab207 tab208 tab209
end Go.Proofs.Ytgfnmhfdmmnaoaa.Eng
-- EV: fresh
namespace Go.Proofs.Ytgfnmhfdmmnaoaa.Eng
open Go Go.RowKit
attribute [local simp] big size_mk ASt.pay Option.map_map Function.comp_def awant aop acall ado aev ofVal ofVal0 ASt.put ASt.add ASt.turn ASt.kill abox aalloc astore aload aloadD astoreD idOf ASt.at cellsTo afieldAddr afield aindexAddr aindex alen abin aint acmp astr aun apick aextract anil aslice abound abuild afill abuildSlice asCells aps avCells over upd aappend asrc amax amin aconv mkSt slots rowsOf_cons rowsOf_nil usedOf_cons usedOf_nil ZK.av List.replicate ASt.back ASt.addL ASt.killL nodeA nodeT nodeTL_eq nodeL_eq strsE_get strsE_len intsE_get intsE_len strsE_at intsE_at tab2 tab3 tab4 tab5 tab6 tab7 tab8 tab9 tab10 tab11 tab12 tab13 tab14 tab15 tab16 tab17 tab18 tab19 tab21 tab22 tab23 tab24 tab25 tab26 tab27 tab28 tab29 tab30 tab39 tab40 tab41 tab42 tab43 tab47 tab48 tab55 tab56 tab57 tab60 tab61 tab62 tab73 tab74 tab75 tab85 tab92 tab115 tab116 tab143 tab144 tab145 tab154 tab155 tab170 tab175 tab182 tab197 tab198 tab203 tab204 tab205 tab207 tab208 tab209
def ckN (m : Nd) : Option Nd := if validB m then some m else none
set_option maxRecDepth 100000
set_option maxHeartbeats 8000000
theorem specChk (m : Nd) (b : Bool) : AC Try.prog 68 [nodeA m, .bool b] 0 (fun r => r = optA (if b then ckN m else none)) := by
  refine AC.weak ?_
  have p1 := validNode_AC m .loose
  unfold nodeA
  rw [nodeL_eq]
  cases b
  · have e : (if false then ckN m else none) = none := rfl
    refine AC.of tab_ok mixed_ok Try.func68 (by rfl) (by kernel_rfl) ?_; rintro ⟨P, T, hT, hm, w0, S0, rd0, k0⟩ hP hTT; dsimp only at hP hTT; subst hP hTT; unfold initSt; rw [Try.ntmps68]
    (repeat (first | with_reducible refine AW.seq ?_ | ((first | refine arun_kn 4 rfl (fun C hC => ?_) | refine arunD_kn 4 rfl (fun C hC => ?_)); (repeat ((conv => whnf); simp)); refine hC _ ?_; clear hC C; simp only [List.drop, Nat.reduceAdd]) | ((first | refine arun_kn 1 rfl (fun C hC => ?_) | refine arunD_kn 1 rfl (fun C hC => ?_)); (repeat ((conv => whnf); simp)); refine hC _ ?_; clear hC C; simp only [List.drop, Nat.reduceAdd]) | (refine arun_skip ?_ ?_; (focus (simp [awant]; done))) | (refine arun_c0 (p1) ?_; rintro _ rfl) | (refine AW.regionK [] (fun K hK => ?_)) | (refine AW.regionDK [] (pcs [] []) (by kernel_rfl) (by kernel_rfl) (fun K hK => ?_)) | (refine AW.condT ?_ ?_; (focus (simp [aev]; done))) | (refine AW.condF ?_ ?_; (focus (simp [aev]; done))) | with_reducible refine AW.block ?_ | ((first | ((first | refine arun_nil ?_ | refine arunD_nil ?_); refine hK _ ?_; clear hK K) | refine AW.skip ?_ | refine AW.exit ?_ | refine AW.ret ?_); simp only [thenA_exit, inBlockA_exit, if_true, if_false, Nat.reduceEqDiff, thenA_normal, inBlockA_normal, reduceIte, thenA_ret, inBlockA_ret, endQ_ret, endR_ret, endG_ret, endQ_normal, endR_normal, endG_normal, endF_ret, endF_normal])))
    exact ⟨.tup [node0 0 0 ⟨#[]⟩, .bool false], by simp [node0, ares, aresL, upd, rowsOf_cons], none_end.1, _, none_end.2, by rw [e]; rfl⟩
  cases h1 : validB m
  · have e : ckN m = none := by unfold ckN; rw [h1]; rfl
    rw [h1] at p1
    refine AC.of tab_ok mixed_ok Try.func68 (by rfl) (by kernel_rfl) ?_; rintro ⟨P, T, hT, hm, w0, S0, rd0, k0⟩ hP hTT; dsimp only at hP hTT; subst hP hTT; unfold initSt; rw [Try.ntmps68]
    (repeat (first | with_reducible refine AW.seq ?_ | ((first | refine arun_kn 4 rfl (fun C hC => ?_) | refine arunD_kn 4 rfl (fun C hC => ?_)); (repeat ((conv => whnf); simp)); refine hC _ ?_; clear hC C; simp only [List.drop, Nat.reduceAdd]) | ((first | refine arun_kn 1 rfl (fun C hC => ?_) | refine arunD_kn 1 rfl (fun C hC => ?_)); (repeat ((conv => whnf); simp)); refine hC _ ?_; clear hC C; simp only [List.drop, Nat.reduceAdd]) | (refine arun_skip ?_ ?_; (focus (simp [awant]; done))) | (refine arun_c0 (p1) ?_; rintro _ rfl) | (refine AW.regionK [] (fun K hK => ?_)) | (refine AW.regionDK [] (pcs [] []) (by kernel_rfl) (by kernel_rfl) (fun K hK => ?_)) | (refine AW.condT ?_ ?_; (focus (simp [aev]; done))) | (refine AW.condF ?_ ?_; (focus (simp [aev]; done))) | with_reducible refine AW.block ?_ | ((first | ((first | refine arun_nil ?_ | refine arunD_nil ?_); refine hK _ ?_; clear hK K) | refine AW.skip ?_ | refine AW.exit ?_ | refine AW.ret ?_); simp only [thenA_exit, inBlockA_exit, if_true, if_false, Nat.reduceEqDiff, thenA_normal, inBlockA_normal, reduceIte, thenA_ret, inBlockA_ret, endQ_ret, endR_ret, endG_ret, endQ_normal, endR_normal, endG_normal, endF_ret, endF_normal])))
    exact ⟨.tup [node0 0 0 ⟨#[]⟩, .bool false], by simp [node0, ares, aresL, upd, rowsOf_cons], none_end.1, _, none_end.2, by rw [e]; rfl⟩
  · have e : ckN m = some m := by unfold ckN; rw [h1]; rfl
    rw [h1] at p1
    refine AC.of tab_ok mixed_ok Try.func68 (by rfl) (by kernel_rfl) ?_; rintro ⟨P, T, hT, hm, w0, S0, rd0, k0⟩ hP hTT; dsimp only at hP hTT; subst hP hTT; unfold initSt; rw [Try.ntmps68]
    (repeat (first | with_reducible refine AW.seq ?_ | ((first | refine arun_kn 4 rfl (fun C hC => ?_) | refine arunD_kn 4 rfl (fun C hC => ?_)); (repeat ((conv => whnf); simp)); refine hC _ ?_; clear hC C; simp only [List.drop, Nat.reduceAdd]) | ((first | refine arun_kn 1 rfl (fun C hC => ?_) | refine arunD_kn 1 rfl (fun C hC => ?_)); (repeat ((conv => whnf); simp)); refine hC _ ?_; clear hC C; simp only [List.drop, Nat.reduceAdd]) | (refine arun_skip ?_ ?_; (focus (simp [awant]; done))) | (refine arun_c0 (p1) ?_; rintro _ rfl) | (refine AW.regionK [] (fun K hK => ?_)) | (refine AW.regionDK [] (pcs [] []) (by kernel_rfl) (by kernel_rfl) (fun K hK => ?_)) | (refine AW.condT ?_ ?_; (focus (simp [aev]; done))) | (refine AW.condF ?_ ?_; (focus (simp [aev]; done))) | with_reducible refine AW.block ?_ | ((first | ((first | refine arun_nil ?_ | refine arunD_nil ?_); refine hK _ ?_; clear hK K) | refine AW.skip ?_ | refine AW.exit ?_ | refine AW.ret ?_); simp only [thenA_exit, inBlockA_exit, if_true, if_false, Nat.reduceEqDiff, thenA_normal, inBlockA_normal, reduceIte, thenA_ret, inBlockA_ret, endQ_ret, endR_ret, endG_ret, endQ_normal, endR_normal, endG_normal, endF_ret, endF_normal])))
    exact ⟨.tup [nodeA m, .bool true], by simp [ares, aresL, upd, rowsOf_cons], tup2_pur (node_pur m) pur_bool, _, Wk.refl _, by rw [e]; rfl⟩
end Go.Proofs.Ytgfnmhfdmmnaoaa.Eng
-- EV: skip
namespace Go.Proofs.Ytgfnmhfdmmnaoaa
open Go.RowKit
def o2nB (o : Opr) : Bool := oprB o && validB (opOf o)
def o2nN (o : Opr) : Nd := if o2nB o then opOf o else Nd.zero
theorem oprB_parts {o : Opr} (h : oprB o = true) : ∃ k : Nat, o.1 = (k : Int) ∧ 1 ≤ k ∧ k ≤ 6 ∧ pathB o.2.1 = true ∧ pathB o.2.2.1 = true ∧ validB o.2.2.2 = true := by
  unfold oprB at h
  simp only [Bool.and_eq_true] at h
  obtain ⟨⟨⟨h1, h2⟩, h3⟩, h4⟩ := h
  unfold inR at h1
  simp at h1
  exact ⟨o.1.toNat, by omega, by omega, by omega, h2, h3, h4⟩
theorem n2o_o2n {o : Opr} (h : o2nB o = true) : n2oB (o2nN o) = true ∧ n2oN (o2nN o) = o := by
  have h' := h
  unfold o2nB at h'
  rw [Bool.and_eq_true] at h'
  obtain ⟨ho, hv⟩ := h'
  obtain ⟨k, hk, k1, k6, hp, hf, hvv⟩ := oprB_parts ho
  have eN : o2nN o = opOf o := by unfold o2nN; rw [h]; rfl
  have eo : opOf o = opNd k o.2.1 o.2.2.1 o.2.2.2 := by unfold opOf; rw [hk]; rfl
  have ep : partO (opOf o) = o := by
    rw [eo]
    show ((((kdN (wd k) : Nat) : Int)), txtsN (stepsN o.2.1), txtsN (stepsN o.2.2.1), o.2.2.2) = o
    rw [kdN_wd k1 k6, stepsN_txts, stepsN_txts, ← hk]
  have hB : n2oB (opOf o) = true := by
    unfold n2oB
    rw [hv, ep, ho, cmpN_refl]
    rw [eo]; rfl
  exact ⟨by rw [eN]; exact hB, by rw [eN]; unfold n2oN; rw [hB]; exact ep⟩
end Go.Proofs.Ytgfnmhfdmmnaoaa
namespace Go.Proofs.Ytgfnmhfdmmnaoaa.Eng
open Go Go.RowKit
attribute [local simp] big size_mk ASt.pay Option.map_map Function.comp_def awant aop acall ado aev ofVal ofVal0 ASt.put ASt.add ASt.turn ASt.kill abox aalloc astore aload aloadD astoreD idOf ASt.at cellsTo afieldAddr afield aindexAddr aindex alen abin aint acmp astr aun apick aextract anil aslice abound abuild afill abuildSlice asCells aps avCells over upd aappend asrc amax amin aconv mkSt slots rowsOf_cons rowsOf_nil usedOf_cons usedOf_nil ZK.av List.replicate ASt.back ASt.addL ASt.killL nodeA nodeT nodeTL_eq nodeL_eq strsE_get strsE_len intsE_get intsE_len strsE_at intsE_at tab2 tab3 tab4 tab5 tab6 tab7 tab8 tab9 tab10 tab11 tab12 tab13 tab14 tab15 tab16 tab17 tab18 tab19 tab21 tab22 tab23 tab24 tab25 tab26 tab27 tab28 tab29 tab30 tab39 tab40 tab41 tab42 tab43 tab47 tab48 tab55 tab56 tab57 tab60 tab61 tab62 tab73 tab74 tab75 tab85 tab92 tab115 tab116 tab143 tab144 tab145 tab154 tab155 tab170 tab175 tab182 tab197 tab198 tab203 tab204 tab205 tab207 tab208 tab209
set_option maxRecDepth 100000
set_option maxHeartbeats 8000000
theorem isOp_AC (o : Opr) : AC Try.prog 71 [oprA o] 0 (fun r => r = .bool (oprB o)) := by
  have p2 := isPath_AC o.2.1 .loose
  have p3 := isPath_AC o.2.2.1 .loose
  have p4 := ValidNode_AC o.2.2.2 .loose
  have hc := node_clo o.2.2.2
  have e0 : oprB o = (inR o.1 1 6 && pathB o.2.1 && pathB o.2.2.1 && validB o.2.2.2) := rfl
  unfold oprA
  rw [nodeT_loose] at p4
  unfold nodeA at p4 hc
  rw [nodeL_eq] at p4 hc
  by_cases h0 : 1 ≤ o.1
  rotate_left
  · have h1 : inR o.1 1 6 = false := by unfold inR; simp; omega
    have g1 : (1 ≤ o.1) = False := by simp; omega
    have g2 := g1
    rw [h1] at e0
    have e : oprB o = false := by rw [e0]; rfl
    refine AC.of tab_ok mixed_ok Try.func71 (by rfl) (by kernel_rfl) ?_; rintro ⟨P, T, hT, hm, w0, S0, rd0, k0⟩ hP hTT; dsimp only at hP hTT; subst hP hTT; unfold initSt; rw [Try.ntmps71]
    (repeat (first | with_reducible refine AW.seq ?_ | ((first | refine arun_kn 4 rfl (fun C hC => ?_) | refine arunD_kn 4 rfl (fun C hC => ?_)); (repeat ((conv => whnf); simp [g1, g2])); refine hC _ ?_; clear hC C; simp only [List.drop, Nat.reduceAdd]) | ((first | refine arun_kn 1 rfl (fun C hC => ?_) | refine arunD_kn 1 rfl (fun C hC => ?_)); (repeat ((conv => whnf); simp [g1, g2])); refine hC _ ?_; clear hC C; simp only [List.drop, Nat.reduceAdd]) | (refine arun_skip ?_ ?_; (focus (simp [awant, g1, g2]; done))) | (refine arun_c0 (p2) ?_; rintro _ rfl) | (refine arun_c0 (p3) ?_; rintro _ rfl) | (refine arun_c0 (p4) ?_; rintro _ rfl) | (refine arunD_skip ?_ ?_; (focus (simp [awant, g1, g2]; done))) | (refine AW.regionK [] (fun K hK => ?_)) | (refine AW.regionDK [] (pcs [] []) (by kernel_rfl) (by kernel_rfl) (fun K hK => ?_)) | (refine AW.condT ?_ ?_; (focus (simp [aev, g1, g2]; done))) | (refine AW.condF ?_ ?_; (focus (simp [aev, g1, g2]; done))) | with_reducible refine AW.block ?_ | ((first | ((first | refine arun_nil ?_ | refine arunD_nil ?_); refine hK _ ?_; clear hK K) | refine AW.skip ?_ | refine AW.exit ?_ | refine AW.ret ?_); simp only [thenA_exit, inBlockA_exit, if_true, if_false, Nat.reduceEqDiff, thenA_normal, inBlockA_normal, reduceIte, thenA_ret, inBlockA_ret, endQ_ret, endR_ret, endG_ret, endQ_normal, endR_normal, endG_normal])))
    exact ⟨.bool false, by simp [ares, aresL], pur_bool, by rw [e]⟩
  have g1 : (1 ≤ o.1) = True := by simp; omega
  by_cases h6 : o.1 ≤ 6
  rotate_left
  · have h1 : inR o.1 1 6 = false := by unfold inR; simp; omega
    have g2 : (o.1 ≤ 6) = False := by simp; omega
    rw [h1] at e0
    have e : oprB o = false := by rw [e0]; rfl
    refine AC.of tab_ok mixed_ok Try.func71 (by rfl) (by kernel_rfl) ?_; rintro ⟨P, T, hT, hm, w0, S0, rd0, k0⟩ hP hTT; dsimp only at hP hTT; subst hP hTT; unfold initSt; rw [Try.ntmps71]
    (repeat (first | with_reducible refine AW.seq ?_ | ((first | refine arun_kn 4 rfl (fun C hC => ?_) | refine arunD_kn 4 rfl (fun C hC => ?_)); (repeat ((conv => whnf); simp [g1, g2])); refine hC _ ?_; clear hC C; simp only [List.drop, Nat.reduceAdd]) | ((first | refine arun_kn 1 rfl (fun C hC => ?_) | refine arunD_kn 1 rfl (fun C hC => ?_)); (repeat ((conv => whnf); simp [g1, g2])); refine hC _ ?_; clear hC C; simp only [List.drop, Nat.reduceAdd]) | (refine arun_skip ?_ ?_; (focus (simp [awant, g1, g2]; done))) | (refine arun_c0 (p2) ?_; rintro _ rfl) | (refine arun_c0 (p3) ?_; rintro _ rfl) | (refine arun_c0 (p4) ?_; rintro _ rfl) | (refine arunD_skip ?_ ?_; (focus (simp [awant, g1, g2]; done))) | (refine AW.regionK [] (fun K hK => ?_)) | (refine AW.regionDK [] (pcs [] []) (by kernel_rfl) (by kernel_rfl) (fun K hK => ?_)) | (refine AW.condT ?_ ?_; (focus (simp [aev, g1, g2]; done))) | (refine AW.condF ?_ ?_; (focus (simp [aev, g1, g2]; done))) | with_reducible refine AW.block ?_ | ((first | ((first | refine arun_nil ?_ | refine arunD_nil ?_); refine hK _ ?_; clear hK K) | refine AW.skip ?_ | refine AW.exit ?_ | refine AW.ret ?_); simp only [thenA_exit, inBlockA_exit, if_true, if_false, Nat.reduceEqDiff, thenA_normal, inBlockA_normal, reduceIte, thenA_ret, inBlockA_ret, endQ_ret, endR_ret, endG_ret, endQ_normal, endR_normal, endG_normal])))
    exact ⟨.bool false, by simp [ares, aresL], pur_bool, by rw [e]⟩
  have g2 : (o.1 ≤ 6) = True := by simp; omega
  have h1 : inR o.1 1 6 = true := by unfold inR; simp; omega
  rw [h1] at e0
  cases h2 : pathB o.2.1
  · rw [h2] at e0; rw [h2] at p2
    have e : oprB o = false := by rw [e0]; rfl
    refine AC.of tab_ok mixed_ok Try.func71 (by rfl) (by kernel_rfl) ?_; rintro ⟨P, T, hT, hm, w0, S0, rd0, k0⟩ hP hTT; dsimp only at hP hTT; subst hP hTT; unfold initSt; rw [Try.ntmps71]
    (repeat (first | with_reducible refine AW.seq ?_ | ((first | refine arun_kn 4 rfl (fun C hC => ?_) | refine arunD_kn 4 rfl (fun C hC => ?_)); (repeat ((conv => whnf); simp [g1, g2])); refine hC _ ?_; clear hC C; simp only [List.drop, Nat.reduceAdd]) | ((first | refine arun_kn 1 rfl (fun C hC => ?_) | refine arunD_kn 1 rfl (fun C hC => ?_)); (repeat ((conv => whnf); simp [g1, g2])); refine hC _ ?_; clear hC C; simp only [List.drop, Nat.reduceAdd]) | (refine arun_skip ?_ ?_; (focus (simp [awant, g1, g2]; done))) | (refine arun_c0 (p2) ?_; rintro _ rfl) | (refine arun_c0 (p3) ?_; rintro _ rfl) | (refine arun_c0 (p4) ?_; rintro _ rfl) | (refine arunD_skip ?_ ?_; (focus (simp [awant, g1, g2]; done))) | (refine AW.regionK [] (fun K hK => ?_)) | (refine AW.regionDK [] (pcs [] []) (by kernel_rfl) (by kernel_rfl) (fun K hK => ?_)) | (refine AW.condT ?_ ?_; (focus (simp [aev, g1, g2]; done))) | (refine AW.condF ?_ ?_; (focus (simp [aev, g1, g2]; done))) | with_reducible refine AW.block ?_ | ((first | ((first | refine arun_nil ?_ | refine arunD_nil ?_); refine hK _ ?_; clear hK K) | refine AW.skip ?_ | refine AW.exit ?_ | refine AW.ret ?_); simp only [thenA_exit, inBlockA_exit, if_true, if_false, Nat.reduceEqDiff, thenA_normal, inBlockA_normal, reduceIte, thenA_ret, inBlockA_ret, endQ_ret, endR_ret, endG_ret, endQ_normal, endR_normal, endG_normal])))
    exact ⟨.bool false, by simp [ares, aresL], pur_bool, by rw [e]⟩
  cases h3 : pathB o.2.2.1
  · rw [h2, h3] at e0; rw [h2] at p2; rw [h3] at p3
    have e : oprB o = false := by rw [e0]; rfl
    refine AC.of tab_ok mixed_ok Try.func71 (by rfl) (by kernel_rfl) ?_; rintro ⟨P, T, hT, hm, w0, S0, rd0, k0⟩ hP hTT; dsimp only at hP hTT; subst hP hTT; unfold initSt; rw [Try.ntmps71]
    (repeat (first | with_reducible refine AW.seq ?_ | ((first | refine arun_kn 4 rfl (fun C hC => ?_) | refine arunD_kn 4 rfl (fun C hC => ?_)); (repeat ((conv => whnf); simp [g1, g2])); refine hC _ ?_; clear hC C; simp only [List.drop, Nat.reduceAdd]) | ((first | refine arun_kn 1 rfl (fun C hC => ?_) | refine arunD_kn 1 rfl (fun C hC => ?_)); (repeat ((conv => whnf); simp [g1, g2])); refine hC _ ?_; clear hC C; simp only [List.drop, Nat.reduceAdd]) | (refine arun_skip ?_ ?_; (focus (simp [awant, g1, g2]; done))) | (refine arun_c0 (p2) ?_; rintro _ rfl) | (refine arun_c0 (p3) ?_; rintro _ rfl) | (refine arun_c0 (p4) ?_; rintro _ rfl) | (refine arunD_skip ?_ ?_; (focus (simp [awant, g1, g2]; done))) | (refine AW.regionK [] (fun K hK => ?_)) | (refine AW.regionDK [] (pcs [] []) (by kernel_rfl) (by kernel_rfl) (fun K hK => ?_)) | (refine AW.condT ?_ ?_; (focus (simp [aev, g1, g2]; done))) | (refine AW.condF ?_ ?_; (focus (simp [aev, g1, g2]; done))) | with_reducible refine AW.block ?_ | ((first | ((first | refine arun_nil ?_ | refine arunD_nil ?_); refine hK _ ?_; clear hK K) | refine AW.skip ?_ | refine AW.exit ?_ | refine AW.ret ?_); simp only [thenA_exit, inBlockA_exit, if_true, if_false, Nat.reduceEqDiff, thenA_normal, inBlockA_normal, reduceIte, thenA_ret, inBlockA_ret, endQ_ret, endR_ret, endG_ret, endQ_normal, endR_normal, endG_normal])))
    exact ⟨.bool false, by simp [ares, aresL], pur_bool, by rw [e]⟩
  rw [h2, h3] at e0; rw [h2] at p2; rw [h3] at p3
  have e : oprB o = validB o.2.2.2 := by rw [e0]; rfl
  generalize validB o.2.2.2 = bb at *
  refine AC.of tab_ok mixed_ok Try.func71 (by rfl) (by kernel_rfl) ?_; rintro ⟨P, T, hT, hm, w0, S0, rd0, k0⟩ hP hTT; dsimp only at hP hTT; subst hP hTT; unfold initSt; rw [Try.ntmps71]
  (repeat (first | with_reducible refine AW.seq ?_ | ((first | refine arun_kn 4 rfl (fun C hC => ?_) | refine arunD_kn 4 rfl (fun C hC => ?_)); (repeat ((conv => whnf); simp [g1, g2])); refine hC _ ?_; clear hC C; simp only [List.drop, Nat.reduceAdd]) | ((first | refine arun_kn 1 rfl (fun C hC => ?_) | refine arunD_kn 1 rfl (fun C hC => ?_)); (repeat ((conv => whnf); simp [g1, g2])); refine hC _ ?_; clear hC C; simp only [List.drop, Nat.reduceAdd]) | (refine arun_skip ?_ ?_; (focus (simp [awant, g1, g2]; done))) | (refine arun_c0 (p2) ?_; rintro _ rfl) | (refine arun_c0 (p3) ?_; rintro _ rfl) | (refine arun_c0 (p4) ?_; rintro _ rfl) | (refine arunD_skip ?_ ?_; (focus (simp [awant, g1, g2]; done))) | (refine AW.regionK [] (fun K hK => ?_)) | (refine AW.regionDK [] (pcs [] []) (by kernel_rfl) (by kernel_rfl) (fun K hK => ?_)) | (refine AW.condT ?_ ?_; (focus (simp [aev, g1, g2]; done))) | (refine AW.condF ?_ ?_; (focus (simp [aev, g1, g2]; done))) | with_reducible refine AW.block ?_ | ((first | ((first | refine arun_nil ?_ | refine arunD_nil ?_); refine hK _ ?_; clear hK K) | refine AW.skip ?_ | refine AW.exit ?_ | refine AW.ret ?_); simp only [thenA_exit, inBlockA_exit, if_true, if_false, Nat.reduceEqDiff, thenA_normal, inBlockA_normal, reduceIte, thenA_ret, inBlockA_ret, endQ_ret, endR_ret, endG_ret, endQ_normal, endR_normal, endG_normal])))
  exact ⟨.bool bb, by simp [ares, aresL], pur_bool, by rw [e]⟩
end Go.Proofs.Ytgfnmhfdmmnaoaa.Eng
-- EV: skip
namespace Go.Proofs.Ytgfnmhfdmmnaoaa.Eng
open Go Go.RowKit
attribute [local simp] big size_mk ASt.pay Option.map_map Function.comp_def awant aop acall ado aev ofVal ofVal0 ASt.put ASt.add ASt.turn ASt.kill abox aalloc astore aload aloadD astoreD idOf ASt.at cellsTo afieldAddr afield aindexAddr aindex alen abin aint acmp astr aun apick aextract anil aslice abound abuild afill abuildSlice asCells aps avCells over upd aappend asrc amax amin aconv mkSt slots rowsOf_cons rowsOf_nil usedOf_cons usedOf_nil ZK.av List.replicate ASt.back ASt.addL ASt.killL nodeA nodeT nodeTL_eq nodeL_eq strsE_get strsE_len intsE_get intsE_len strsE_at intsE_at tab2 tab3 tab4 tab5 tab6 tab7 tab8 tab9 tab10 tab11 tab12 tab13 tab14 tab15 tab16 tab17 tab18 tab19 tab21 tab22 tab23 tab24 tab25 tab26 tab27 tab28 tab29 tab30 tab39 tab40 tab41 tab42 tab43 tab47 tab48 tab55 tab56 tab57 tab60 tab61 tab62 tab73 tab74 tab75 tab85 tab92 tab115 tab116 tab143 tab144 tab145 tab154 tab155 tab170 tab175 tab182 tab197 tab198 tab203 tab204 tab205 tab207 tab208 tab209
set_option maxRecDepth 100000
set_option maxHeartbeats 8000000
def wordT (s : ByteArray) : List AV := [.int .i64 2, .int .i64 0, .str s, .view .tight 0 [], .view .tight 0 []]
def stepsT (p : List ByteArray) : Row := ⟨false, 30, 5, p.map wordT⟩
theorem wordT_pur (p : List ByteArray) : ∀ e ∈ p.map wordT, ∀ c ∈ e, Pur c := fun e he c hc => by
  obtain ⟨s, _, rfl⟩ := List.mem_map.1 he
  have h0 := pur_view (t := .tight) (sz := 0) (es := []) (by decide) (fun e he => by cases he)
  simp only [wordT, List.mem_cons, List.not_mem_nil, or_false] at hc
  rcases hc with rfl | rfl | rfl | rfl | rfl
  · exact pur_int
  · exact pur_int
  · exact pur_str
  · exact h0
  · exact h0
theorem wordT_in {U : Nat → Bool} (p : List ByteArray) : ∀ e ∈ p.map wordT, ∀ c ∈ e, AV.In U c := fun e he c hc => by
  obtain ⟨s, _, rfl⟩ := List.mem_map.1 he
  simp only [wordT, List.mem_cons, List.not_mem_nil, or_false] at hc
  rcases hc with rfl | rfl | rfl | rfl | rfl
  · exact in_int
  · exact in_int
  · exact in_str
  · exact in_vnil
  · exact in_vnil
theorem wordT_wk : ∀ p : List ByteArray, WkE (p.map wordT) ((p.map wordN).map nodeL)
  | [] => .nil
  | s :: p => .cons (by
      show WkL (wordT s) (nodeL (wordN s))
      rw [nodeL_eq]
      exact .cons (Wk.refl _) (.cons (Wk.refl _) (.cons (Wk.refl _) (.cons (Wk.nil (fun h => by cases h)) (.cons (Wk.nil (fun h => by cases h)) .nil))))) (wordT_wk p)
theorem pathToNode_step (p : List ByteArray) (hp : p.length ≤ 6) : ACR Try.prog 73 [.view .loose 1 (strsE p)] 0 (fun _ => False) (fun f R => f = (fun id => .agg [.int .i64 3, .int .i64 0, .str ⟨#[]⟩, .view .tight 0 [], .own id p.length]) ∧ R = stepsT p) := by
  refine ACR.of tab_ok mixed_ok Try.func73 (by rfl) (by kernel_rfl) ?_; rintro ⟨P, T, hT, hm, w0, S0, rd0, k0⟩ hP hTT; dsimp only at hP hTT; subst hP hTT; unfold initSt; rw [Try.ntmps73]
  (repeat (first | with_reducible refine AW.seq ?_ | ((first | refine arun_kn 4 rfl (fun C hC => ?_) | refine arunD_kn 4 rfl (fun C hC => ?_)); (repeat ((conv => whnf); simp)); refine hC _ ?_; clear hC C; simp only [List.drop, Nat.reduceAdd]) | ((first | refine arun_kn 1 rfl (fun C hC => ?_) | refine arunD_kn 1 rfl (fun C hC => ?_)); (repeat ((conv => whnf); simp)); refine hC _ ?_; clear hC C; simp only [List.drop, Nat.reduceAdd]) | (refine arun_skip ?_ ?_; (focus (simp [awant]; done))) | (refine arunD_skip ?_ ?_; (focus (simp [awant]; done))) | (refine AW.regionK [] (fun K hK => ?_)) | (refine AW.regionDK [] (pcs [] []) (by kernel_rfl) (by kernel_rfl) (fun K hK => ?_)) | (refine AW.condT ?_ ?_; (focus (simp [aev]; done))) | (refine AW.condF ?_ ?_; (focus (simp [aev]; done))) | with_reducible refine AW.block ?_ | ((first | ((first | refine arun_nil ?_ | refine arunD_nil ?_); refine hK _ ?_; clear hK K) | refine AW.skip ?_ | refine AW.exit ?_ | refine AW.ret ?_); simp only [thenA_exit, inBlockA_exit, if_true, if_false, Nat.reduceEqDiff, thenA_normal, inBlockA_normal, reduceIte, thenA_ret, inBlockA_ret, endQ_ret, endR_ret, endG_ret, endQ_normal, endR_normal, endG_normal])))
  refine AW.adoptB 3 4 50 30 5 ⟨_, tab30, rfl⟩ (by simp [upd]; rfl) rfl rfl (by simp [upd]) ?_
  simp only [ASt.adoptB]
  refine AW.loopS (fun (i : Nat) => mkSt (slots 0 22 [(2, .ptr true 5 1 2 0 0), (3, .ptr true 5 1 3 0 0), (7, .view .loose 1 (strsE p)), (8, .int .i64 p.length), (9, .int .i64 i)]) [(2, ⟨true, 30, 5, [[.int .i64 0, .int .i64 0, .str ⟨#[]⟩, .view .tight 0 [], .view .tight 0 []]]⟩), (3, ⟨true, 30, 5, [[.int .i64 3, .int .i64 0, .str ⟨#[]⟩, .view .tight 0 [], .own 50 i]]⟩), (50, ⟨false, 30, 5, (p.take i).map wordT⟩)] [2, 3, 50] (rd0.map fun _ => 0)) (fun i => p.length - i) (fun i => i ≤ p.length) 0 ?_ (Nat.zero_le _) ?_
  · exact (less_of (by simp [lessL, mkSt, slots, ASt.adoptB, ASt.add]) (by simp [upd, mkSt, rowsOf_cons, ASt.adoptB, ASt.add]) (by simp [upd, mkSt, usedOf_cons, ASt.adoptB, ASt.add]) (by first | exact rd_less (by omega) | simp [mkSt, ASt.adoptB, ASt.add]) (by simp [slots, in_any, in_int, in_bool, in_str, in_ptr, in_own, in_agg, in_vnil, in_rdr, usedOf_cons, usedOf_nil, strs_in, ints_in, nodes_in, in_tup, ASt.adoptB, ASt.add]) (by simp only [List.forall_mem_cons, List.not_mem_nil, false_implies, implies_true, and_true, true_and, ASt.adoptB, ASt.add]; (repeat (first | with_reducible exact trivial | with_reducible refine And.intro ?_ ?_ | with_reducible exact in_int | with_reducible exact in_str | with_reducible exact in_bool | with_reducible exact strs_in _ | with_reducible exact nodes_in _ | with_reducible exact items_in _ | with_reducible exact in_vnil | with_reducible exact in_any | exact hin _ | with_reducible refine take_in ?_ | with_reducible exact strsE_in _ | with_reducible exact nodesE_in _ | with_reducible exact nodeL_in _ | with_reducible exact itemsE_in _ | with_reducible exact itemL_in _ | with_reducible refine app_in ?_ ?_ | with_reducible refine sing_in ?_ | (focus (simp [in_any, in_int, in_bool, in_str, in_ptr, in_own, in_agg, in_vnil, in_rdr, usedOf_cons, usedOf_nil, strs_in, ints_in, nodes_in, ASt.adoptB, ASt.add]; done)))); done))
  intro i hi
  have hl : ((p.take i).map wordT).length = i := by simp; omega
  by_cases hlt : i < p.length
  · have hw : IntKind.i64.wrap ((i : Int) + 1) = (i : Int) + 1 := i64_nat (by omega) (by omega)
    have hlt' : (i : Int) < (p.length : Int) := by omega
    have hb1 : (i + 1) * 80 ≤ 140737488355328 := by omega
    have hb2 : i + 1 ≤ 140737488355328 := by omega
    have htk : p.take (i + 1) = p.take i ++ [p[i]] := take_snoc' _ _ hlt
    obtain ⟨Ks, hK⟩ : ∃ Ks, Ks = (p.take i).map wordT := ⟨_, rfl⟩
    rw [← hK] at hl ⊢
    (repeat (first | with_reducible refine AW.seq ?_ | ((first | refine arun_kn 4 rfl (fun C hC => ?_) | refine arunD_kn 4 rfl (fun C hC => ?_)); (repeat ((conv => whnf); simp [hlt, hlt', hw, hl, hb1, hb2, strsE_len])); refine hC _ ?_; clear hC C; simp only [List.drop, Nat.reduceAdd]) | ((first | refine arun_kn 1 rfl (fun C hC => ?_) | refine arunD_kn 1 rfl (fun C hC => ?_)); (repeat ((conv => whnf); simp [hlt, hlt', hw, hl, hb1, hb2, strsE_len])); refine hC _ ?_; clear hC C; simp only [List.drop, Nat.reduceAdd]) | (refine arun_skip ?_ ?_; (focus (simp [awant, hlt, hlt', hw, hl, hb1, hb2, strsE_len]; done))) | (refine arunD_skip ?_ ?_; (focus (simp [awant, hlt, hlt', hw, hl, hb1, hb2, strsE_len]; done))) | (refine AW.regionK [] (fun K hK => ?_)) | (refine AW.regionDK [] (pcs [] []) (by kernel_rfl) (by kernel_rfl) (fun K hK => ?_)) | (refine AW.condT ?_ ?_; (focus (simp [aev, hlt, hlt', hw, hl, hb1, hb2, strsE_len]; done))) | (refine AW.condF ?_ ?_; (focus (simp [aev, hlt, hlt', hw, hl, hb1, hb2, strsE_len]; done))) | with_reducible refine AW.block ?_ | ((first | ((first | refine arun_nil ?_ | refine arunD_nil ?_); refine hK _ ?_; clear hK K) | refine AW.skip ?_ | refine AW.exit ?_ | refine AW.ret ?_); simp only [thenA_exit, inBlockA_exit, if_true, if_false, Nat.reduceEqDiff, thenA_normal, inBlockA_normal, reduceIte, thenA_ret, inBlockA_ret, endQ_ret, endR_ret, endG_ret, endQ_normal, endR_normal, endG_normal])))
    refine ⟨i + 1, by omega, by omega, ?_⟩
    have hin : ∀ U : Nat → Bool, ∀ e ∈ (p.take (i + 1)).map wordT, ∀ c ∈ e, AV.In U c := fun U => wordT_in _
    rw [htk, List.map_append, ← hK] at hin ⊢
    have e1 : List.map wordT [p[i]] = [[.int .i64 2, .int .i64 0, .str p[i], .view .tight 0 [], .view .tight 0 []]] := rfl
    rw [e1] at hin ⊢
    exact less_a
  · obtain rfl : i = p.length := by omega
    rw [List.take_length] at hl ⊢
    obtain ⟨Ks, hK⟩ : ∃ Ks, Ks = p.map wordT := ⟨_, rfl⟩
    rw [← hK] at hl ⊢
    (repeat (first | with_reducible refine AW.seq ?_ | ((first | refine arun_kn 4 rfl (fun C hC => ?_) | refine arunD_kn 4 rfl (fun C hC => ?_)); (repeat ((conv => whnf); simp [hlt, strsE_len])); refine hC _ ?_; clear hC C; simp only [List.drop, Nat.reduceAdd]) | ((first | refine arun_kn 1 rfl (fun C hC => ?_) | refine arunD_kn 1 rfl (fun C hC => ?_)); (repeat ((conv => whnf); simp [hlt, strsE_len])); refine hC _ ?_; clear hC C; simp only [List.drop, Nat.reduceAdd]) | (refine arun_skip ?_ ?_; (focus (simp [awant, hlt, strsE_len]; done))) | (refine arunD_skip ?_ ?_; (focus (simp [awant, hlt, strsE_len]; done))) | (refine AW.regionK [] (fun K hK => ?_)) | (refine AW.regionDK [] (pcs [] []) (by kernel_rfl) (by kernel_rfl) (fun K hK => ?_)) | (refine AW.condT ?_ ?_; (focus (simp [aev, hlt, strsE_len]; done))) | (refine AW.condF ?_ ?_; (focus (simp [aev, hlt, strsE_len]; done))) | with_reducible refine AW.block ?_ | ((first | ((first | refine arun_nil ?_ | refine arunD_nil ?_); refine hK _ ?_; clear hK K) | refine AW.skip ?_ | refine AW.exit ?_ | refine AW.ret ?_); simp only [thenA_exit, inBlockA_exit, if_true, if_false, Nat.reduceEqDiff, thenA_normal, inBlockA_normal, reduceIte, thenA_ret, inBlockA_ret, endQ_ret, endR_ret, endG_ret, endQ_normal, endR_normal, endG_normal])))
    refine ⟨.agg [.int .i64 3, .int .i64 0, .str ⟨#[]⟩, .view .tight 0 [], .own 50 p.length], ?_, .inr ⟨fun id => .agg [.int .i64 3, .int .i64 0, .str ⟨#[]⟩, .view .tight 0 [], .own id p.length], 50, stepsT p, rfl, ?_, ?_, wordT_pur _, rfl, rfl⟩⟩
    · simp [ares, aresL, upd, rowsOf_cons]
    · simp only [stepsT, ← hK]; simp [upd, rowsOf_cons]
    · exact Res1.agg [fun _ => .int .i64 3, fun _ => .int .i64 0, fun _ => .str ⟨#[]⟩, fun _ => .view .tight 0 [], fun id => .own id p.length] (by
          simp only [List.forall_mem_cons, List.not_mem_nil, false_implies, implies_true, and_true]
          exact ⟨Res1.pur _ pur_int, Res1.pur _ pur_int, Res1.pur _ pur_str, Res1.pur _ (pur_view (by decide) (fun e he => by cases he)), Res1.own _ _⟩)
theorem pathToNode_AC (p : List ByteArray) (hp : p.length ≤ 6) : AC Try.prog 73 [.view .loose 1 (strsE p)] 0 (fun r => r = nodeA (stepsN p)) := by
  refine AC.weak ((AC.ofR (pathToNode_step p hp) ?_).mono ?_)
  · rintro r R ⟨rfl, rfl⟩
    simp only [AV.sub, AV.subL, stepsT, List.length_map, if_true, reduceIte]
    refine in_agg.2 ?_
    simp only [List.forall_mem_cons, List.not_mem_nil, false_implies, implies_true, and_true]
    exact ⟨in_int, in_int, in_str, in_vnil, in_view.2 (wordT_in _)⟩
  · rintro r (h | ⟨f, R, ⟨rfl, rfl⟩, rfl⟩)
    · exact h.elim
    · refine ⟨nodeA (stepsN p), ?_, rfl⟩
      simp only [AV.sub, AV.subL, stepsT, List.length_map, if_true, reduceIte]
      unfold nodeA stepsN
      rw [nodeL_eq]
      exact Wk.agg (.cons (Wk.refl _) (.cons (Wk.refl _) (.cons (Wk.refl _) (.cons (Wk.nil (fun h => by cases h)) (.cons (Wk.view (by decide) (wordT_wk p)) .nil)))))
end Go.Proofs.Ytgfnmhfdmmnaoaa.Eng
namespace Go.Proofs.Ytgfnmhfdmmnaoaa
open Go.RowKit
end Go.Proofs.Ytgfnmhfdmmnaoaa
-- EV: fresh
namespace Go.Proofs.Ytgfnmhfdmmnaoaa.Eng
open Go Go.RowKit
attribute [local simp] big size_mk ASt.pay Option.map_map Function.comp_def awant aop acall ado aev ofVal ofVal0 ASt.put ASt.add ASt.turn ASt.kill abox aalloc astore aload aloadD astoreD idOf ASt.at cellsTo afieldAddr afield aindexAddr aindex alen abin aint acmp astr aun apick aextract anil aslice abound abuild afill abuildSlice asCells aps avCells over upd aappend asrc amax amin aconv mkSt slots rowsOf_cons rowsOf_nil usedOf_cons usedOf_nil ZK.av List.replicate ASt.back ASt.addL ASt.killL nodeA nodeT nodeTL_eq nodeL_eq strsE_get strsE_len intsE_get intsE_len strsE_at intsE_at tab2 tab3 tab4 tab5 tab6 tab7 tab8 tab9 tab10 tab11 tab12 tab13 tab14 tab15 tab16 tab17 tab18 tab19 tab21 tab22 tab23 tab24 tab25 tab26 tab27 tab28 tab29 tab30 tab39 tab40 tab41 tab42 tab43 tab47 tab48 tab55 tab56 tab57 tab60 tab61 tab62 tab73 tab74 tab75 tab85 tab92 tab115 tab116 tab143 tab144 tab145 tab154 tab155 tab170 tab175 tab182 tab197 tab198 tab203 tab204 tab205 tab207 tab208 tab209
section
variable {P : Program} {T : Tab} {md : List Nat} {Av : Nat → Prop} {pc : Pc} {ops : Array Oper} {K : ASt → Prop} {o : Oper} {l : List Oper} {s : ASt}
end
end Go.Proofs.Ytgfnmhfdmmnaoaa.Eng
-- EV: fresh
namespace Go.Proofs.Ytgfnmhfdmmnaoaa.Eng
open Go Go.RowKit
attribute [local simp] big size_mk ASt.pay Option.map_map Function.comp_def awant aop acall ado aev ofVal ofVal0 ASt.put ASt.add ASt.turn ASt.kill abox aalloc astore aload aloadD astoreD idOf ASt.at cellsTo afieldAddr afield aindexAddr aindex alen abin aint acmp astr aun apick aextract anil aslice abound abuild afill abuildSlice asCells aps avCells over upd aappend asrc amax amin aconv mkSt slots rowsOf_cons rowsOf_nil usedOf_cons usedOf_nil ZK.av List.replicate ASt.back ASt.addL ASt.killL nodeA nodeT nodeTL_eq nodeL_eq strsE_get strsE_len intsE_get intsE_len strsE_at intsE_at tab2 tab3 tab4 tab5 tab6 tab7 tab8 tab9 tab10 tab11 tab12 tab13 tab14 tab15 tab16 tab17 tab18 tab19 tab21 tab22 tab23 tab24 tab25 tab26 tab27 tab28 tab29 tab30 tab39 tab40 tab41 tab42 tab43 tab47 tab48 tab55 tab56 tab57 tab60 tab61 tab62 tab73 tab74 tab75 tab85 tab92 tab115 tab116 tab143 tab144 tab145 tab154 tab155 tab170 tab175 tab182 tab197 tab198 tab203 tab204 tab205 tab207 tab208 tab209
set_option maxRecDepth 100000
set_option maxHeartbeats 8000000
theorem opWord_ACF {k : Nat} (h1 : 1 ≤ k) (h6 : k ≤ 6) : ACF Try.prog 74 [.int .i64 (k : Int)] 0 (fun r => r = .str (wd k)) := by
  have : k = 1 ∨ k = 2 ∨ k = 3 ∨ k = 4 ∨ k = 5 ∨ k = 6 := by omega
  rcases this with rfl | rfl | rfl | rfl | rfl | rfl
  ·
    refine ACF.of tab_ok mixed_ok Try.func74 (by rfl) (by kernel_rfl) ?_; rintro ⟨P, T, hT, hm, w0, S0, rd0, k0⟩ hP hTT hN; dsimp only at hP hTT hN; subst hP hTT; dsimp only; unfold initSt; rw [Try.ntmps74]
    (repeat (first | with_reducible refine AW.seq ?_ | ((first | refine arun_kn 4 rfl (fun C hC => ?_) | refine arunD_kn 4 rfl (fun C hC => ?_)); (repeat ((conv => whnf); simp)); refine hC _ ?_; clear hC C; simp only [List.drop, Nat.reduceAdd]) | ((first | refine arun_kn 1 rfl (fun C hC => ?_) | refine arunD_kn 1 rfl (fun C hC => ?_)); (repeat ((conv => whnf); simp)); refine hC _ ?_; clear hC C; simp only [List.drop, Nat.reduceAdd]) | (refine arun_skip ?_ ?_; (focus (simp [awant]; done))) | (refine AW.regionK [] (fun K hK => ?_)) | (refine AW.regionDK [] (pcs [] []) (by kernel_rfl) (by kernel_rfl) (fun K hK => ?_)) | (refine AW.condT ?_ ?_; (focus (simp [aev]; done))) | (refine AW.condF ?_ ?_; (focus (simp [aev]; done))) | with_reducible refine AW.block ?_ | ((first | ((first | refine arun_nil ?_ | refine arunD_nil ?_); refine hK _ ?_; clear hK K) | refine AW.skip ?_ | refine AW.exit ?_ | refine AW.ret ?_); simp only [thenA_exit, inBlockA_exit, if_true, if_false, Nat.reduceEqDiff, thenA_normal, inBlockA_normal, reduceIte, thenA_ret, inBlockA_ret, endQ_ret, endR_ret, endG_ret, endQ_normal, endR_normal, endG_normal, endF_ret, endF_normal])))
    exact ⟨.str (wd 1), by simp [ares, aresL, wd], pur_str, fun b hb => by simp [at_str] at hb, rfl⟩
  ·
    refine ACF.of tab_ok mixed_ok Try.func74 (by rfl) (by kernel_rfl) ?_; rintro ⟨P, T, hT, hm, w0, S0, rd0, k0⟩ hP hTT hN; dsimp only at hP hTT hN; subst hP hTT; dsimp only; unfold initSt; rw [Try.ntmps74]
    (repeat (first | with_reducible refine AW.seq ?_ | ((first | refine arun_kn 4 rfl (fun C hC => ?_) | refine arunD_kn 4 rfl (fun C hC => ?_)); (repeat ((conv => whnf); simp)); refine hC _ ?_; clear hC C; simp only [List.drop, Nat.reduceAdd]) | ((first | refine arun_kn 1 rfl (fun C hC => ?_) | refine arunD_kn 1 rfl (fun C hC => ?_)); (repeat ((conv => whnf); simp)); refine hC _ ?_; clear hC C; simp only [List.drop, Nat.reduceAdd]) | (refine arun_skip ?_ ?_; (focus (simp [awant]; done))) | (refine AW.regionK [] (fun K hK => ?_)) | (refine AW.regionDK [] (pcs [] []) (by kernel_rfl) (by kernel_rfl) (fun K hK => ?_)) | (refine AW.condT ?_ ?_; (focus (simp [aev]; done))) | (refine AW.condF ?_ ?_; (focus (simp [aev]; done))) | with_reducible refine AW.block ?_ | ((first | ((first | refine arun_nil ?_ | refine arunD_nil ?_); refine hK _ ?_; clear hK K) | refine AW.skip ?_ | refine AW.exit ?_ | refine AW.ret ?_); simp only [thenA_exit, inBlockA_exit, if_true, if_false, Nat.reduceEqDiff, thenA_normal, inBlockA_normal, reduceIte, thenA_ret, inBlockA_ret, endQ_ret, endR_ret, endG_ret, endQ_normal, endR_normal, endG_normal, endF_ret, endF_normal])))
    exact ⟨.str (wd 2), by simp [ares, aresL, wd], pur_str, fun b hb => by simp [at_str] at hb, rfl⟩
  ·
    refine ACF.of tab_ok mixed_ok Try.func74 (by rfl) (by kernel_rfl) ?_; rintro ⟨P, T, hT, hm, w0, S0, rd0, k0⟩ hP hTT hN; dsimp only at hP hTT hN; subst hP hTT; dsimp only; unfold initSt; rw [Try.ntmps74]
    (repeat (first | with_reducible refine AW.seq ?_ | ((first | refine arun_kn 4 rfl (fun C hC => ?_) | refine arunD_kn 4 rfl (fun C hC => ?_)); (repeat ((conv => whnf); simp)); refine hC _ ?_; clear hC C; simp only [List.drop, Nat.reduceAdd]) | ((first | refine arun_kn 1 rfl (fun C hC => ?_) | refine arunD_kn 1 rfl (fun C hC => ?_)); (repeat ((conv => whnf); simp)); refine hC _ ?_; clear hC C; simp only [List.drop, Nat.reduceAdd]) | (refine arun_skip ?_ ?_; (focus (simp [awant]; done))) | (refine AW.regionK [] (fun K hK => ?_)) | (refine AW.regionDK [] (pcs [] []) (by kernel_rfl) (by kernel_rfl) (fun K hK => ?_)) | (refine AW.condT ?_ ?_; (focus (simp [aev]; done))) | (refine AW.condF ?_ ?_; (focus (simp [aev]; done))) | with_reducible refine AW.block ?_ | ((first | ((first | refine arun_nil ?_ | refine arunD_nil ?_); refine hK _ ?_; clear hK K) | refine AW.skip ?_ | refine AW.exit ?_ | refine AW.ret ?_); simp only [thenA_exit, inBlockA_exit, if_true, if_false, Nat.reduceEqDiff, thenA_normal, inBlockA_normal, reduceIte, thenA_ret, inBlockA_ret, endQ_ret, endR_ret, endG_ret, endQ_normal, endR_normal, endG_normal, endF_ret, endF_normal])))
    exact ⟨.str (wd 3), by simp [ares, aresL, wd], pur_str, fun b hb => by simp [at_str] at hb, rfl⟩
  ·
    refine ACF.of tab_ok mixed_ok Try.func74 (by rfl) (by kernel_rfl) ?_; rintro ⟨P, T, hT, hm, w0, S0, rd0, k0⟩ hP hTT hN; dsimp only at hP hTT hN; subst hP hTT; dsimp only; unfold initSt; rw [Try.ntmps74]
    (repeat (first | with_reducible refine AW.seq ?_ | ((first | refine arun_kn 4 rfl (fun C hC => ?_) | refine arunD_kn 4 rfl (fun C hC => ?_)); (repeat ((conv => whnf); simp)); refine hC _ ?_; clear hC C; simp only [List.drop, Nat.reduceAdd]) | ((first | refine arun_kn 1 rfl (fun C hC => ?_) | refine arunD_kn 1 rfl (fun C hC => ?_)); (repeat ((conv => whnf); simp)); refine hC _ ?_; clear hC C; simp only [List.drop, Nat.reduceAdd]) | (refine arun_skip ?_ ?_; (focus (simp [awant]; done))) | (refine AW.regionK [] (fun K hK => ?_)) | (refine AW.regionDK [] (pcs [] []) (by kernel_rfl) (by kernel_rfl) (fun K hK => ?_)) | (refine AW.condT ?_ ?_; (focus (simp [aev]; done))) | (refine AW.condF ?_ ?_; (focus (simp [aev]; done))) | with_reducible refine AW.block ?_ | ((first | ((first | refine arun_nil ?_ | refine arunD_nil ?_); refine hK _ ?_; clear hK K) | refine AW.skip ?_ | refine AW.exit ?_ | refine AW.ret ?_); simp only [thenA_exit, inBlockA_exit, if_true, if_false, Nat.reduceEqDiff, thenA_normal, inBlockA_normal, reduceIte, thenA_ret, inBlockA_ret, endQ_ret, endR_ret, endG_ret, endQ_normal, endR_normal, endG_normal, endF_ret, endF_normal])))
    exact ⟨.str (wd 4), by simp [ares, aresL, wd], pur_str, fun b hb => by simp [at_str] at hb, rfl⟩
  ·
    refine ACF.of tab_ok mixed_ok Try.func74 (by rfl) (by kernel_rfl) ?_; rintro ⟨P, T, hT, hm, w0, S0, rd0, k0⟩ hP hTT hN; dsimp only at hP hTT hN; subst hP hTT; dsimp only; unfold initSt; rw [Try.ntmps74]
    (repeat (first | with_reducible refine AW.seq ?_ | ((first | refine arun_kn 4 rfl (fun C hC => ?_) | refine arunD_kn 4 rfl (fun C hC => ?_)); (repeat ((conv => whnf); simp)); refine hC _ ?_; clear hC C; simp only [List.drop, Nat.reduceAdd]) | ((first | refine arun_kn 1 rfl (fun C hC => ?_) | refine arunD_kn 1 rfl (fun C hC => ?_)); (repeat ((conv => whnf); simp)); refine hC _ ?_; clear hC C; simp only [List.drop, Nat.reduceAdd]) | (refine arun_skip ?_ ?_; (focus (simp [awant]; done))) | (refine AW.regionK [] (fun K hK => ?_)) | (refine AW.regionDK [] (pcs [] []) (by kernel_rfl) (by kernel_rfl) (fun K hK => ?_)) | (refine AW.condT ?_ ?_; (focus (simp [aev]; done))) | (refine AW.condF ?_ ?_; (focus (simp [aev]; done))) | with_reducible refine AW.block ?_ | ((first | ((first | refine arun_nil ?_ | refine arunD_nil ?_); refine hK _ ?_; clear hK K) | refine AW.skip ?_ | refine AW.exit ?_ | refine AW.ret ?_); simp only [thenA_exit, inBlockA_exit, if_true, if_false, Nat.reduceEqDiff, thenA_normal, inBlockA_normal, reduceIte, thenA_ret, inBlockA_ret, endQ_ret, endR_ret, endG_ret, endQ_normal, endR_normal, endG_normal, endF_ret, endF_normal])))
    exact ⟨.str (wd 5), by simp [ares, aresL, wd], pur_str, fun b hb => by simp [at_str] at hb, rfl⟩
  ·
    refine ACF.of tab_ok mixed_ok Try.func74 (by rfl) (by kernel_rfl) ?_; rintro ⟨P, T, hT, hm, w0, S0, rd0, k0⟩ hP hTT hN; dsimp only at hP hTT hN; subst hP hTT; dsimp only; unfold initSt; rw [Try.ntmps74]
    (repeat (first | with_reducible refine AW.seq ?_ | ((first | refine arun_kn 4 rfl (fun C hC => ?_) | refine arunD_kn 4 rfl (fun C hC => ?_)); (repeat ((conv => whnf); simp)); refine hC _ ?_; clear hC C; simp only [List.drop, Nat.reduceAdd]) | ((first | refine arun_kn 1 rfl (fun C hC => ?_) | refine arunD_kn 1 rfl (fun C hC => ?_)); (repeat ((conv => whnf); simp)); refine hC _ ?_; clear hC C; simp only [List.drop, Nat.reduceAdd]) | (refine arun_skip ?_ ?_; (focus (simp [awant]; done))) | (refine AW.regionK [] (fun K hK => ?_)) | (refine AW.regionDK [] (pcs [] []) (by kernel_rfl) (by kernel_rfl) (fun K hK => ?_)) | (refine AW.condT ?_ ?_; (focus (simp [aev]; done))) | (refine AW.condF ?_ ?_; (focus (simp [aev]; done))) | with_reducible refine AW.block ?_ | ((first | ((first | refine arun_nil ?_ | refine arunD_nil ?_); refine hK _ ?_; clear hK K) | refine AW.skip ?_ | refine AW.exit ?_ | refine AW.ret ?_); simp only [thenA_exit, inBlockA_exit, if_true, if_false, Nat.reduceEqDiff, thenA_normal, inBlockA_normal, reduceIte, thenA_ret, inBlockA_ret, endQ_ret, endR_ret, endG_ret, endQ_normal, endR_normal, endG_normal, endF_ret, endF_normal])))
    exact ⟨.str (wd 6), by simp [ares, aresL, wd], pur_str, fun b hb => by simp [at_str] at hb, rfl⟩
theorem numberOf_AC (t : ByteArray) : AC Try.prog 99 [.str t, .int .i64 1, .int .i64 6, .fn 74 []] 0 (fun r => r = .tup [.int .i64 (kdN t : Nat), .bool (decide (1 ≤ kdN t))]) := by
  refine AC.of tab_ok mixed_ok Try.func99 (by rfl) (by kernel_rfl) ?_; rintro ⟨P, T, hT, hm, w0, S0, rd0, k0⟩ hP hTT; dsimp only at hP hTT; subst hP hTT; unfold initSt; rw [Try.ntmps99]
  (repeat (first | with_reducible refine AW.seq ?_ | ((first | refine arun_kn 4 rfl (fun C hC => ?_) | refine arunD_kn 4 rfl (fun C hC => ?_)); (repeat ((conv => whnf); simp)); refine hC _ ?_; clear hC C; simp only [List.drop, Nat.reduceAdd]) | ((first | refine arun_kn 1 rfl (fun C hC => ?_) | refine arunD_kn 1 rfl (fun C hC => ?_)); (repeat ((conv => whnf); simp)); refine hC _ ?_; clear hC C; simp only [List.drop, Nat.reduceAdd]) | (refine arun_skip ?_ ?_; (focus (simp [awant]; done))) | (refine AW.regionK [] (fun K hK => ?_)) | (refine AW.regionDK [] (pcs [] []) (by kernel_rfl) (by kernel_rfl) (fun K hK => ?_)) | (refine AW.condT ?_ ?_; (focus (simp [aev]; done))) | (refine AW.condF ?_ ?_; (focus (simp [aev]; done))) | with_reducible refine AW.block ?_ | ((first | ((first | refine arun_nil ?_ | refine arunD_nil ?_); refine hK _ ?_; clear hK K) | refine AW.skip ?_ | refine AW.exit ?_ | refine AW.ret ?_); simp only [thenA_exit, inBlockA_exit, if_true, if_false, Nat.reduceEqDiff, thenA_normal, inBlockA_normal, reduceIte, thenA_ret, inBlockA_ret, endQ_ret, endR_ret, endG_ret, endQ_normal, endR_normal, endG_normal, endF_ret, endF_normal])))
  refine AW.loopS (fun (i : Nat) => mkSt (slots 0 23 [(0, .str t), (2, .int .i64 6), (3, .fn 74 []), (10, .int .i64 i)]) [] [] (rd0.map fun _ => 0)) (fun i => 7 - i) (fun i => 1 ≤ i ∧ i ≤ 7 ∧ ∀ j, 1 ≤ j → j < i → t ≠ wd j) 1 ?_ ⟨Nat.le_refl _, by omega, fun j h1 h2 => by omega⟩ ?_
  · exact (less_of (by simp [lessL, mkSt, slots, in_fn]) (by simp [upd, mkSt, rowsOf_cons, in_fn]) (by simp [upd, mkSt, usedOf_cons, in_fn]) (by first | exact rd_less (by omega) | simp [mkSt, in_fn]) (by simp [slots, in_any, in_int, in_bool, in_str, in_ptr, in_own, in_agg, in_vnil, in_rdr, usedOf_cons, usedOf_nil, strs_in, ints_in, nodes_in, in_tup, in_fn]) (by simp only [List.forall_mem_cons, List.not_mem_nil, false_implies, implies_true, and_true, true_and, in_fn]; (repeat (first | with_reducible exact trivial | with_reducible refine And.intro ?_ ?_ | with_reducible exact in_int | with_reducible exact in_str | with_reducible exact in_bool | with_reducible exact strs_in _ | with_reducible exact nodes_in _ | with_reducible exact items_in _ | with_reducible exact in_vnil | with_reducible exact in_any | exact hin _ | with_reducible refine take_in ?_ | with_reducible exact strsE_in _ | with_reducible exact nodesE_in _ | with_reducible exact nodeL_in _ | with_reducible exact itemsE_in _ | with_reducible exact itemL_in _ | with_reducible refine app_in ?_ ?_ | with_reducible refine sing_in ?_ | (focus (simp [in_any, in_int, in_bool, in_str, in_ptr, in_own, in_agg, in_vnil, in_rdr, usedOf_cons, usedOf_nil, strs_in, ints_in, nodes_in, in_fn]; done)))); done))
  rintro i ⟨hi1, hi7, hno⟩
  by_cases hlt : i ≤ 6
  rotate_left
  · obtain rfl : i = 7 := by omega
    have hk : kdN t = 0 := kdT_none hno
    (repeat (first | with_reducible refine AW.seq ?_ | ((first | refine arun_kn 4 rfl (fun C hC => ?_) | refine arunD_kn 4 rfl (fun C hC => ?_)); (repeat ((conv => whnf); simp)); refine hC _ ?_; clear hC C; simp only [List.drop, Nat.reduceAdd]) | ((first | refine arun_kn 1 rfl (fun C hC => ?_) | refine arunD_kn 1 rfl (fun C hC => ?_)); (repeat ((conv => whnf); simp)); refine hC _ ?_; clear hC C; simp only [List.drop, Nat.reduceAdd]) | (refine arun_skip ?_ ?_; (focus (simp [awant]; done))) | (refine AW.regionK [] (fun K hK => ?_)) | (refine AW.regionDK [] (pcs [] []) (by kernel_rfl) (by kernel_rfl) (fun K hK => ?_)) | (refine AW.condT ?_ ?_; (focus (simp [aev]; done))) | (refine AW.condF ?_ ?_; (focus (simp [aev]; done))) | with_reducible refine AW.block ?_ | ((first | ((first | refine arun_nil ?_ | refine arunD_nil ?_); refine hK _ ?_; clear hK K) | refine AW.skip ?_ | refine AW.exit ?_ | refine AW.ret ?_); simp only [thenA_exit, inBlockA_exit, if_true, if_false, Nat.reduceEqDiff, thenA_normal, inBlockA_normal, reduceIte, thenA_ret, inBlockA_ret, endQ_ret, endR_ret, endG_ret, endQ_normal, endR_normal, endG_normal, endF_ret, endF_normal])))
    exact ⟨.tup [.int .i64 0, .bool false], by simp [ares, aresL], tup2_pur pur_int pur_bool, by rw [hk]; rfl⟩
  have hlt' : ((i : Int) ≤ 6) = True := by simp; omega
  have hw : IntKind.i64.wrap ((i : Int) + 1) = (i : Int) + 1 := i64_nat (by omega) (by omega)
  (repeat (first | with_reducible refine AW.seq ?_ | ((first | refine arun_kn 4 rfl (fun C hC => ?_) | refine arunD_kn 4 rfl (fun C hC => ?_)); (repeat ((conv => whnf); simp [hlt'])); refine hC _ ?_; clear hC C; simp only [List.drop, Nat.reduceAdd]) | ((first | refine arun_kn 1 rfl (fun C hC => ?_) | refine arunD_kn 1 rfl (fun C hC => ?_)); (repeat ((conv => whnf); simp [hlt'])); refine hC _ ?_; clear hC C; simp only [List.drop, Nat.reduceAdd]) | (refine arun_skip ?_ ?_; (focus (simp [awant, hlt']; done))) | (refine AW.regionK [] (fun K hK => ?_)) | (refine AW.regionDK [] (pcs [] []) (by kernel_rfl) (by kernel_rfl) (fun K hK => ?_)) | (refine AW.condT ?_ ?_; (focus (simp [aev, hlt']; done))) | (refine AW.condF ?_ ?_; (focus (simp [aev, hlt']; done))) | with_reducible refine AW.block ?_ | ((first | ((first | refine arun_nil ?_ | refine arunD_nil ?_); refine hK _ ?_; clear hK K) | refine AW.skip ?_ | refine AW.exit ?_ | refine AW.ret ?_); simp only [thenA_exit, inBlockA_exit, if_true, if_false, Nat.reduceEqDiff, thenA_normal, inBlockA_normal, reduceIte, thenA_ret, inBlockA_ret, endQ_ret, endR_ret, endG_ret, endQ_normal, endR_normal, endG_normal, endF_ret, endF_normal])))
  refine arun_callFn rfl (by rfl) (by simp [awant]) (by simp [aev]) (opWord_ACF hi1 hlt) ⟨clo_int, trivial⟩ (can_of (Nat.le_refl _)) ?_
  rintro _ rfl hA
  by_cases he : t = wd i
  · have e1 : eqs (wd i) t = true := eqs_iff.2 he.symm
    have hk : kdN t = i := kdT_of hi1 hlt he (by omega) (Nat.le_refl _)
    (repeat (first | with_reducible refine AW.seq ?_ | ((first | refine arun_kn 4 rfl (fun C hC => ?_) | refine arunD_kn 4 rfl (fun C hC => ?_)); (repeat ((conv => whnf); simp [e1])); refine hC _ ?_; clear hC C; simp only [List.drop, Nat.reduceAdd]) | ((first | refine arun_kn 1 rfl (fun C hC => ?_) | refine arunD_kn 1 rfl (fun C hC => ?_)); (repeat ((conv => whnf); simp [e1])); refine hC _ ?_; clear hC C; simp only [List.drop, Nat.reduceAdd]) | (refine arun_skip ?_ ?_; (focus (simp [awant, e1]; done))) | (refine AW.regionK [] (fun K hK => ?_)) | (refine AW.regionDK [] (pcs [] []) (by kernel_rfl) (by kernel_rfl) (fun K hK => ?_)) | (refine AW.condT ?_ ?_; (focus (simp [aev, e1]; done))) | (refine AW.condF ?_ ?_; (focus (simp [aev, e1]; done))) | with_reducible refine AW.block ?_ | ((first | ((first | refine arun_nil ?_ | refine arunD_nil ?_); refine hK _ ?_; clear hK K) | refine AW.skip ?_ | refine AW.exit ?_ | refine AW.ret ?_); simp only [thenA_exit, inBlockA_exit, if_true, if_false, Nat.reduceEqDiff, thenA_normal, inBlockA_normal, reduceIte, thenA_ret, inBlockA_ret, endQ_ret, endR_ret, endG_ret, endQ_normal, endR_normal, endG_normal, endF_ret, endF_normal])))
    exact ⟨.tup [.int .i64 i, .bool true], by simp [ares, aresL], tup2_pur pur_int pur_bool, by rw [hk]; simp; omega⟩
  · have e1 : eqs (wd i) t = false := eqs_false.2 (fun h => he h.symm)
    (repeat (first | with_reducible refine AW.seq ?_ | ((first | refine arun_kn 4 rfl (fun C hC => ?_) | refine arunD_kn 4 rfl (fun C hC => ?_)); (repeat ((conv => whnf); simp [e1, hw])); refine hC _ ?_; clear hC C; simp only [List.drop, Nat.reduceAdd]) | ((first | refine arun_kn 1 rfl (fun C hC => ?_) | refine arunD_kn 1 rfl (fun C hC => ?_)); (repeat ((conv => whnf); simp [e1, hw])); refine hC _ ?_; clear hC C; simp only [List.drop, Nat.reduceAdd]) | (refine arun_skip ?_ ?_; (focus (simp [awant, e1, hw]; done))) | (refine AW.regionK [] (fun K hK => ?_)) | (refine AW.regionDK [] (pcs [] []) (by kernel_rfl) (by kernel_rfl) (fun K hK => ?_)) | (refine AW.condT ?_ ?_; (focus (simp [aev, e1, hw]; done))) | (refine AW.condF ?_ ?_; (focus (simp [aev, e1, hw]; done))) | with_reducible refine AW.block ?_ | ((first | ((first | refine arun_nil ?_ | refine arunD_nil ?_); refine hK _ ?_; clear hK K) | refine AW.skip ?_ | refine AW.exit ?_ | refine AW.ret ?_); simp only [thenA_exit, inBlockA_exit, if_true, if_false, Nat.reduceEqDiff, thenA_normal, inBlockA_normal, reduceIte, thenA_ret, inBlockA_ret, endQ_ret, endR_ret, endG_ret, endQ_normal, endR_normal, endG_normal, endF_ret, endF_normal])))
    refine ⟨i + 1, by omega, ⟨by omega, by omega, fun j h1 h2 => ?_⟩, ?_⟩
    · rcases Nat.lt_or_ge j i with h | h
      · exact hno j h1 h
      · obtain rfl : j = i := by omega
        exact he
    · exact (less_of (by simp [lessL, mkSt, slots, in_fn]) (by simp [upd, mkSt, rowsOf_cons, in_fn]) (by simp [upd, mkSt, usedOf_cons, in_fn]) (by first | exact rd_less (by omega) | simp [mkSt, in_fn]) (by simp [slots, in_any, in_int, in_bool, in_str, in_ptr, in_own, in_agg, in_vnil, in_rdr, usedOf_cons, usedOf_nil, strs_in, ints_in, nodes_in, in_tup, in_fn]) (by simp only [List.forall_mem_cons, List.not_mem_nil, false_implies, implies_true, and_true, true_and, in_fn]; (repeat (first | with_reducible exact trivial | with_reducible refine And.intro ?_ ?_ | with_reducible exact in_int | with_reducible exact in_str | with_reducible exact in_bool | with_reducible exact strs_in _ | with_reducible exact nodes_in _ | with_reducible exact items_in _ | with_reducible exact in_vnil | with_reducible exact in_any | exact hin _ | with_reducible refine take_in ?_ | with_reducible exact strsE_in _ | with_reducible exact nodesE_in _ | with_reducible exact nodeL_in _ | with_reducible exact itemsE_in _ | with_reducible exact itemL_in _ | with_reducible refine app_in ?_ ?_ | with_reducible refine sing_in ?_ | (focus (simp [in_any, in_int, in_bool, in_str, in_ptr, in_own, in_agg, in_vnil, in_rdr, usedOf_cons, usedOf_nil, strs_in, ints_in, nodes_in, in_fn]; done)))); done))
theorem equalS_AC (t t' : VC) (xs ys : List ByteArray) (hx : xs.length ≤ 1000) : AC Try.prog 97 [.view t 1 (strsE xs), .view t' 1 (strsE ys)] 0 (fun r => r = .bool (decide (xs = ys))) := by
  refine AC.of tab_ok mixed_ok Try.func97 (by rfl) (by kernel_rfl) ?_; rintro ⟨P, T, hT, hm, w0, S0, rd0, k0⟩ hP hTT; dsimp only at hP hTT; subst hP hTT; unfold initSt; rw [Try.ntmps97]
  by_cases hl : xs.length = ys.length
  rotate_left
  · have e : (decide (xs = ys)) = false := by simp; intro h; exact hl (by rw [h])
    have e1 : ((xs.length : Int) != (ys.length : Int)) = true := by simp; omega
    (repeat (first | with_reducible refine AW.seq ?_ | ((first | refine arun_kn 4 rfl (fun C hC => ?_) | refine arunD_kn 4 rfl (fun C hC => ?_)); (repeat ((conv => whnf); simp [e1, strsE_len])); refine hC _ ?_; clear hC C; simp only [List.drop, Nat.reduceAdd]) | ((first | refine arun_kn 1 rfl (fun C hC => ?_) | refine arunD_kn 1 rfl (fun C hC => ?_)); (repeat ((conv => whnf); simp [e1, strsE_len])); refine hC _ ?_; clear hC C; simp only [List.drop, Nat.reduceAdd]) | (refine arun_skip ?_ ?_; (focus (simp [awant, e1, strsE_len]; done))) | (refine AW.regionK [] (fun K hK => ?_)) | (refine AW.regionDK [] (pcs [] []) (by kernel_rfl) (by kernel_rfl) (fun K hK => ?_)) | (refine AW.condT ?_ ?_; (focus (simp [aev, e1, strsE_len]; done))) | (refine AW.condF ?_ ?_; (focus (simp [aev, e1, strsE_len]; done))) | with_reducible refine AW.block ?_ | ((first | ((first | refine arun_nil ?_ | refine arunD_nil ?_); refine hK _ ?_; clear hK K) | refine AW.skip ?_ | refine AW.exit ?_ | refine AW.ret ?_); simp only [thenA_exit, inBlockA_exit, if_true, if_false, Nat.reduceEqDiff, thenA_normal, inBlockA_normal, reduceIte, thenA_ret, inBlockA_ret, endQ_ret, endR_ret, endG_ret, endQ_normal, endR_normal, endG_normal, endF_ret, endF_normal])))
    exact ⟨.bool false, by simp [ares, aresL], pur_bool, by rw [e]⟩
  have e1 : ((xs.length : Int) != (ys.length : Int)) = false := by simp; omega
  (repeat (first | with_reducible refine AW.seq ?_ | ((first | refine arun_kn 4 rfl (fun C hC => ?_) | refine arunD_kn 4 rfl (fun C hC => ?_)); (repeat ((conv => whnf); simp [e1, strsE_len])); refine hC _ ?_; clear hC C; simp only [List.drop, Nat.reduceAdd]) | ((first | refine arun_kn 1 rfl (fun C hC => ?_) | refine arunD_kn 1 rfl (fun C hC => ?_)); (repeat ((conv => whnf); simp [e1, strsE_len])); refine hC _ ?_; clear hC C; simp only [List.drop, Nat.reduceAdd]) | (refine arun_skip ?_ ?_; (focus (simp [awant, e1, strsE_len]; done))) | (refine AW.regionK [] (fun K hK => ?_)) | (refine AW.regionDK [] (pcs [] []) (by kernel_rfl) (by kernel_rfl) (fun K hK => ?_)) | (refine AW.condT ?_ ?_; (focus (simp [aev, e1, strsE_len]; done))) | (refine AW.condF ?_ ?_; (focus (simp [aev, e1, strsE_len]; done))) | with_reducible refine AW.block ?_ | ((first | ((first | refine arun_nil ?_ | refine arunD_nil ?_); refine hK _ ?_; clear hK K) | refine AW.skip ?_ | refine AW.exit ?_ | refine AW.ret ?_); simp only [thenA_exit, inBlockA_exit, if_true, if_false, Nat.reduceEqDiff, thenA_normal, inBlockA_normal, reduceIte, thenA_ret, inBlockA_ret, endQ_ret, endR_ret, endG_ret, endQ_normal, endR_normal, endG_normal, endF_ret, endF_normal])))
  refine AW.loopS (fun (i : Nat) => mkSt (slots 0 26 [(0, .view t 1 (strsE xs)), (1, .view t' 1 (strsE ys)), (12, .int .i64 xs.length), (13, .int .i64 i)]) [] [] (rd0.map fun _ => 0)) (fun i => xs.length - i) (fun i => i ≤ xs.length ∧ decide (xs = ys) = decide (xs.drop i = ys.drop i)) 0 ?_ ⟨Nat.zero_le _, rfl⟩ ?_
  · exact less_a
  rintro i ⟨hi, hd⟩
  by_cases hlt : i < xs.length
  · have hly : i < ys.length := by omega
    have hw : IntKind.i64.wrap ((i : Int) + 1) = (i : Int) + 1 := i64_nat (by omega) (by omega)
    rw [drop_cons _ _ hlt, drop_cons _ _ hly] at hd
    by_cases he : xs[i] = ys[i]
    · have e2 : eqs xs[i] ys[i] = true := eqs_iff.2 he
      (repeat (first | with_reducible refine AW.seq ?_ | ((first | refine arun_kn 4 rfl (fun C hC => ?_) | refine arunD_kn 4 rfl (fun C hC => ?_)); (repeat ((conv => whnf); simp [hlt, hly, e2, hw, strsE_len])); refine hC _ ?_; clear hC C; simp only [List.drop, Nat.reduceAdd]) | ((first | refine arun_kn 1 rfl (fun C hC => ?_) | refine arunD_kn 1 rfl (fun C hC => ?_)); (repeat ((conv => whnf); simp [hlt, hly, e2, hw, strsE_len])); refine hC _ ?_; clear hC C; simp only [List.drop, Nat.reduceAdd]) | (refine arun_skip ?_ ?_; (focus (simp [awant, hlt, hly, e2, hw, strsE_len]; done))) | (refine AW.regionK [] (fun K hK => ?_)) | (refine AW.regionDK [] (pcs [] []) (by kernel_rfl) (by kernel_rfl) (fun K hK => ?_)) | (refine AW.condT ?_ ?_; (focus (simp [aev, hlt, hly, e2, hw, strsE_len]; done))) | (refine AW.condF ?_ ?_; (focus (simp [aev, hlt, hly, e2, hw, strsE_len]; done))) | with_reducible refine AW.block ?_ | ((first | ((first | refine arun_nil ?_ | refine arunD_nil ?_); refine hK _ ?_; clear hK K) | refine AW.skip ?_ | refine AW.exit ?_ | refine AW.ret ?_); simp only [thenA_exit, inBlockA_exit, if_true, if_false, Nat.reduceEqDiff, thenA_normal, inBlockA_normal, reduceIte, thenA_ret, inBlockA_ret, endQ_ret, endR_ret, endG_ret, endQ_normal, endR_normal, endG_normal, endF_ret, endF_normal])))
      refine ⟨i + 1, by omega, ⟨by omega, by rw [hd, he]; exact decide_eq_decide.2 ⟨fun h => (List.cons.inj h).2, fun h => by rw [h]⟩⟩, ?_⟩
      exact less_a
    · have e2 : eqs xs[i] ys[i] = false := eqs_false.2 he
      (repeat (first | with_reducible refine AW.seq ?_ | ((first | refine arun_kn 4 rfl (fun C hC => ?_) | refine arunD_kn 4 rfl (fun C hC => ?_)); (repeat ((conv => whnf); simp [hlt, hly, e2, hw, strsE_len])); refine hC _ ?_; clear hC C; simp only [List.drop, Nat.reduceAdd]) | ((first | refine arun_kn 1 rfl (fun C hC => ?_) | refine arunD_kn 1 rfl (fun C hC => ?_)); (repeat ((conv => whnf); simp [hlt, hly, e2, hw, strsE_len])); refine hC _ ?_; clear hC C; simp only [List.drop, Nat.reduceAdd]) | (refine arun_skip ?_ ?_; (focus (simp [awant, hlt, hly, e2, hw, strsE_len]; done))) | (refine AW.regionK [] (fun K hK => ?_)) | (refine AW.regionDK [] (pcs [] []) (by kernel_rfl) (by kernel_rfl) (fun K hK => ?_)) | (refine AW.condT ?_ ?_; (focus (simp [aev, hlt, hly, e2, hw, strsE_len]; done))) | (refine AW.condF ?_ ?_; (focus (simp [aev, hlt, hly, e2, hw, strsE_len]; done))) | with_reducible refine AW.block ?_ | ((first | ((first | refine arun_nil ?_ | refine arunD_nil ?_); refine hK _ ?_; clear hK K) | refine AW.skip ?_ | refine AW.exit ?_ | refine AW.ret ?_); simp only [thenA_exit, inBlockA_exit, if_true, if_false, Nat.reduceEqDiff, thenA_normal, inBlockA_normal, reduceIte, thenA_ret, inBlockA_ret, endQ_ret, endR_ret, endG_ret, endQ_normal, endR_normal, endG_normal, endF_ret, endF_normal])))
      exact ⟨.bool false, by simp [ares, aresL], pur_bool, by rw [hd, decide_eq_false (fun h => he (List.cons.inj h).1)]⟩
  · have e : (decide (xs = ys)) = true := by rw [hd, List.drop_eq_nil_of_le (by omega), List.drop_eq_nil_of_le (by omega)]; rfl
    (repeat (first | with_reducible refine AW.seq ?_ | ((first | refine arun_kn 4 rfl (fun C hC => ?_) | refine arunD_kn 4 rfl (fun C hC => ?_)); (repeat ((conv => whnf); simp [hlt, strsE_len])); refine hC _ ?_; clear hC C; simp only [List.drop, Nat.reduceAdd]) | ((first | refine arun_kn 1 rfl (fun C hC => ?_) | refine arunD_kn 1 rfl (fun C hC => ?_)); (repeat ((conv => whnf); simp [hlt, strsE_len])); refine hC _ ?_; clear hC C; simp only [List.drop, Nat.reduceAdd]) | (refine arun_skip ?_ ?_; (focus (simp [awant, hlt, strsE_len]; done))) | (refine AW.regionK [] (fun K hK => ?_)) | (refine AW.regionDK [] (pcs [] []) (by kernel_rfl) (by kernel_rfl) (fun K hK => ?_)) | (refine AW.condT ?_ ?_; (focus (simp [aev, hlt, strsE_len]; done))) | (refine AW.condF ?_ ?_; (focus (simp [aev, hlt, strsE_len]; done))) | with_reducible refine AW.block ?_ | ((first | ((first | refine arun_nil ?_ | refine arunD_nil ?_); refine hK _ ?_; clear hK K) | refine AW.skip ?_ | refine AW.exit ?_ | refine AW.ret ?_); simp only [thenA_exit, inBlockA_exit, if_true, if_false, Nat.reduceEqDiff, thenA_normal, inBlockA_normal, reduceIte, thenA_ret, inBlockA_ret, endQ_ret, endR_ret, endG_ret, endQ_normal, endR_normal, endG_normal, endF_ret, endF_normal])))
    exact ⟨.bool true, by simp [ares, aresL], pur_bool, by rw [e]⟩
def rStB (n : Nd) (r : AV) : Prop := ∃ (g : Nat) (p : List ByteArray), (lstB n = true → p = txtsN n) ∧ r = .tup [.view (.fr g) 1 (strsE p), .bool (lstB n && pathB (txtsN n))]
theorem rStB_no {n : Nd} (h : lstB n = false) : rStB n (.tup [.view (.fr 0) 1 [], .bool false]) := ⟨0, [], (fun e => by rw [h] at e; cases e), by rw [h]; rfl⟩
theorem nodeToPath_ACF (n : Nd) (hn : Good n) : ACF Try.prog 98 [nodeA n] 0 (rStB n) := by
  refine ACF.weak ?_
  have hk6 := hn.kids6
  unfold nodeA
  rw [nodeL_eq]
  by_cases h3 : n.kind = 3
  rotate_left
  · have hb : lstB n = false := by unfold lstB; simp [h3]
    have e3 : (n.kind != 3) = true := by simpa using h3
    refine ACF.of tab_ok mixed_ok Try.func98 (by rfl) (by kernel_rfl) ?_; rintro ⟨P, T, hT, hm, w0, S0, rd0, k0⟩ hP hTT hN; dsimp only at hP hTT hN; subst hP hTT; dsimp only; unfold initSt; rw [Try.ntmps98]
    (repeat (first | with_reducible refine AW.seq ?_ | ((first | refine arun_kn 4 rfl (fun C hC => ?_) | refine arunD_kn 4 rfl (fun C hC => ?_)); (repeat ((conv => whnf); simp [e3])); refine hC _ ?_; clear hC C; simp only [List.drop, Nat.reduceAdd]) | ((first | refine arun_kn 1 rfl (fun C hC => ?_) | refine arunD_kn 1 rfl (fun C hC => ?_)); (repeat ((conv => whnf); simp [e3])); refine hC _ ?_; clear hC C; simp only [List.drop, Nat.reduceAdd]) | (refine arun_skip ?_ ?_; (focus (simp [awant, e3]; done))) | (refine AW.regionK [] (fun K hK => ?_)) | (refine AW.regionDK [] (pcs [] []) (by kernel_rfl) (by kernel_rfl) (fun K hK => ?_)) | (refine AW.condT ?_ ?_; (focus (simp [aev, e3]; done))) | (refine AW.condF ?_ ?_; (focus (simp [aev, e3]; done))) | with_reducible refine AW.block ?_ | ((first | ((first | refine arun_nil ?_ | refine arunD_nil ?_); refine hK _ ?_; clear hK K) | refine AW.skip ?_ | refine AW.exit ?_ | refine AW.ret ?_); simp only [thenA_exit, inBlockA_exit, if_true, if_false, Nat.reduceEqDiff, thenA_normal, inBlockA_normal, reduceIte, thenA_ret, inBlockA_ret, endQ_ret, endR_ret, endG_ret, endQ_normal, endR_normal, endG_normal, endF_ret, endF_normal])))
    exact ⟨.tup [.view .tight 0 [], .bool false], by simp [ares, aresL], tup2_pur (pur_view (by decide) (fun e he => by cases he)) pur_bool, fun b hb => by simp [at_tup, atL_cons, atL_nil, at_view, atE_nil, frB_tight, at_bool] at hb, .tup [.view (.fr 0) 1 [], .bool false], Wk.tup (.cons (Wk.nil (fun h => by cases h)) (.cons (Wk.refl _) .nil)), fun b hb => by simp [at_tup, atL_cons, atL_nil, at_view, atE_nil, frB_fr, at_bool] at hb, rStB_no hb⟩
  have e3 : (n.kind != 3) = false := by simp [h3]
  refine ACF.of tab_ok mixed_ok Try.func98 (by rfl) (by kernel_rfl) ?_; rintro ⟨P, T, hT, hm, w0, S0, rd0, k0⟩ hP hTT hN; dsimp only at hP hTT hN; subst hP hTT; dsimp only; unfold initSt; rw [Try.ntmps98]
  (repeat (first | with_reducible refine AW.seq ?_ | ((first | refine arun_kn 4 rfl (fun C hC => ?_) | refine arunD_kn 4 rfl (fun C hC => ?_)); (repeat ((conv => whnf); simp [e3])); refine hC _ ?_; clear hC C; simp only [List.drop, Nat.reduceAdd]) | ((first | refine arun_kn 1 rfl (fun C hC => ?_) | refine arunD_kn 1 rfl (fun C hC => ?_)); (repeat ((conv => whnf); simp [e3])); refine hC _ ?_; clear hC C; simp only [List.drop, Nat.reduceAdd]) | (refine arun_skip ?_ ?_; (focus (simp [awant, e3]; done))) | (refine AW.regionK [] (fun K hK => ?_)) | (refine AW.regionDK [] (pcs [] []) (by kernel_rfl) (by kernel_rfl) (fun K hK => ?_)) | (refine AW.condT ?_ ?_; (focus (simp [aev, e3]; done))) | (refine AW.condF ?_ ?_; (focus (simp [aev, e3]; done))) | with_reducible refine AW.block ?_ | ((first | ((first | refine arun_nil ?_ | refine arunD_nil ?_); refine hK _ ?_; clear hK K) | refine AW.skip ?_ | refine AW.exit ?_ | refine AW.ret ?_); simp only [thenA_exit, inBlockA_exit, if_true, if_false, Nat.reduceEqDiff, thenA_normal, inBlockA_normal, reduceIte, thenA_ret, inBlockA_ret, endQ_ret, endR_ret, endG_ret, endQ_normal, endR_normal, endG_normal, endF_ret, endF_normal])))
  refine AW.adopt 4 50 9 1 ⟨_, tab9, rfl⟩ rfl rfl ?_
  simp only [ASt.adopt, ASt.add, List.set_cons_zero, List.set_cons_succ]
  refine AW.loopS (fun (i : Nat) => mkSt (slots 0 29 [(1, .ptr true 5 1 1 0 0), (4, .own 50 i), (11, .view .loose 5 (n.kids.map nodeL)), (12, .int .i64 n.kids.length), (13, .int .i64 i)]) [(1, ⟨true, 30, 5, [nodeL n]⟩), (50, ⟨false, 9, 1, strsE ((txtsN n).take i)⟩)] [1, 50] (rd0.map fun _ => 0)) (fun i => n.kids.length - i) (fun i => i ≤ n.kids.length ∧ ∀ j (h : j < n.kids.length), j < i → n.kids[j].kind = 2) 0 ?_ ⟨Nat.zero_le _, fun j _ h => by omega⟩ ?_
  · have hs0 : strsE [] = [] := rfl
    rw [nodeL_eq]
    exact (less_of (by simp [lessL, mkSt, slots, ASt.adopt, ASt.add, hs0]) (by simp [upd, mkSt, rowsOf_cons, ASt.adopt, ASt.add, hs0]) (by simp [upd, mkSt, usedOf_cons, ASt.adopt, ASt.add, hs0]) (by first | exact rd_less (by omega) | simp [mkSt, ASt.adopt, ASt.add, hs0]) (by simp [slots, in_any, in_int, in_bool, in_str, in_ptr, in_own, in_agg, in_vnil, in_rdr, usedOf_cons, usedOf_nil, strs_in, ints_in, nodes_in, in_tup, ASt.adopt, ASt.add, hs0]) (by simp only [List.forall_mem_cons, List.not_mem_nil, false_implies, implies_true, and_true, true_and, ASt.adopt, ASt.add, hs0]; (repeat (first | with_reducible exact trivial | with_reducible refine And.intro ?_ ?_ | with_reducible exact in_int | with_reducible exact in_str | with_reducible exact in_bool | with_reducible exact strs_in _ | with_reducible exact nodes_in _ | with_reducible exact items_in _ | with_reducible exact in_vnil | with_reducible exact in_any | exact hin _ | with_reducible refine take_in ?_ | with_reducible exact strsE_in _ | with_reducible exact nodesE_in _ | with_reducible exact nodeL_in _ | with_reducible exact itemsE_in _ | with_reducible exact itemL_in _ | with_reducible refine app_in ?_ ?_ | with_reducible refine sing_in ?_ | (focus (simp [in_any, in_int, in_bool, in_str, in_ptr, in_own, in_agg, in_vnil, in_rdr, usedOf_cons, usedOf_nil, strs_in, ints_in, nodes_in, ASt.adopt, ASt.add, hs0]; done)))); done))
  rintro i ⟨hi, hall⟩
  rw [nodeL_eq]
  have hl : (strsE ((txtsN n).take i)).length = i := by rw [strsE_len, List.length_take, txtsN_len]; omega
  by_cases hlt : i < n.kids.length
  · have hw : IntKind.i64.wrap ((i : Int) + 1) = (i : Int) + 1 := i64_nat (by omega) (by omega)
    have hlt' : (i : Int) < (n.kids.length : Int) := by omega
    have hb1 : (i + 1) * 16 ≤ 140737488355328 := by omega
    have hb2 : i + 1 ≤ 140737488355328 := by omega
    have x1 : (n.kids.map nodeL)[i]? = some [.int .i64 n.kids[i].kind, .int .i64 n.kids[i].num, .str n.kids[i].text, .view .loose 1 (strsE n.kids[i].names), .view .loose 5 (n.kids[i].kids.map nodeL)] := by rw [List.getElem?_map, List.getElem?_eq_getElem hlt, ← nodeL_eq]; rfl
    have htk : strsE ((txtsN n).take (i + 1)) = strsE ((txtsN n).take i) ++ [[.str n.kids[i].text]] := by
      rw [take_snoc' _ _ (by rw [txtsN_len]; exact hlt)]
      unfold strsE txtsN
      rw [List.map_append, List.getElem_map]; rfl
    have hin := fun (U : Nat → Bool) => strsE_in (U := U) ((txtsN n).take (i + 1))
    rw [htk] at hin
    by_cases h2 : n.kids[i].kind = 2
    · have e2 : (n.kids[i].kind != 2) = false := by simp [h2]
      generalize strsE ((txtsN n).take i) = Ks at *
      (repeat (first | with_reducible refine AW.seq ?_ | ((first | refine arun_kn 4 rfl (fun C hC => ?_) | refine arunD_kn 4 rfl (fun C hC => ?_)); (repeat ((conv => whnf); simp [hlt, hlt', x1, e2, hw, hl, hb1, hb2])); refine hC _ ?_; clear hC C; simp only [List.drop, Nat.reduceAdd]) | ((first | refine arun_kn 1 rfl (fun C hC => ?_) | refine arunD_kn 1 rfl (fun C hC => ?_)); (repeat ((conv => whnf); simp [hlt, hlt', x1, e2, hw, hl, hb1, hb2])); refine hC _ ?_; clear hC C; simp only [List.drop, Nat.reduceAdd]) | (refine arun_skip ?_ ?_; (focus (simp [awant, hlt, hlt', x1, e2, hw, hl, hb1, hb2]; done))) | (refine AW.regionK [] (fun K hK => ?_)) | (refine AW.regionDK [] (pcs [] []) (by kernel_rfl) (by kernel_rfl) (fun K hK => ?_)) | (refine AW.condT ?_ ?_; (focus (simp [aev, hlt, hlt', x1, e2, hw, hl, hb1, hb2]; done))) | (refine AW.condF ?_ ?_; (focus (simp [aev, hlt, hlt', x1, e2, hw, hl, hb1, hb2]; done))) | with_reducible refine AW.block ?_ | ((first | ((first | refine arun_nil ?_ | refine arunD_nil ?_); refine hK _ ?_; clear hK K) | refine AW.skip ?_ | refine AW.exit ?_ | refine AW.ret ?_); simp only [thenA_exit, inBlockA_exit, if_true, if_false, Nat.reduceEqDiff, thenA_normal, inBlockA_normal, reduceIte, thenA_ret, inBlockA_ret, endQ_ret, endR_ret, endG_ret, endQ_normal, endR_normal, endG_normal, endF_ret, endF_normal])))
      refine ⟨i + 1, by omega, ⟨by omega, fun j h hj => ?_⟩, ?_⟩
      · rcases Nat.lt_or_ge j i with h' | h'
        · exact hall j h h'
        · obtain rfl : j = i := by omega
          exact h2
      · rw [htk]
        exact less_a
    · have hb : lstB n = false := by
        unfold lstB
        have : n.kids.all (fun k => decide (k.kind = 2)) = false := by
          rw [List.all_eq_false]
          exact ⟨n.kids[i], List.getElem_mem hlt, by simp [h2]⟩
        rw [this, Bool.and_false]
      have e2 : (n.kids[i].kind != 2) = true := by simpa using h2
      (repeat (first | with_reducible refine AW.seq ?_ | ((first | refine arun_kn 4 rfl (fun C hC => ?_) | refine arunD_kn 4 rfl (fun C hC => ?_)); (repeat ((conv => whnf); simp [hlt, hlt', x1, e2, hl])); refine hC _ ?_; clear hC C; simp only [List.drop, Nat.reduceAdd]) | ((first | refine arun_kn 1 rfl (fun C hC => ?_) | refine arunD_kn 1 rfl (fun C hC => ?_)); (repeat ((conv => whnf); simp [hlt, hlt', x1, e2, hl])); refine hC _ ?_; clear hC C; simp only [List.drop, Nat.reduceAdd]) | (refine arun_skip ?_ ?_; (focus (simp [awant, hlt, hlt', x1, e2, hl]; done))) | (refine AW.regionK [] (fun K hK => ?_)) | (refine AW.regionDK [] (pcs [] []) (by kernel_rfl) (by kernel_rfl) (fun K hK => ?_)) | (refine AW.condT ?_ ?_; (focus (simp [aev, hlt, hlt', x1, e2, hl]; done))) | (refine AW.condF ?_ ?_; (focus (simp [aev, hlt, hlt', x1, e2, hl]; done))) | with_reducible refine AW.block ?_ | ((first | ((first | refine arun_nil ?_ | refine arunD_nil ?_); refine hK _ ?_; clear hK K) | refine AW.skip ?_ | refine AW.exit ?_ | refine AW.ret ?_); simp only [thenA_exit, inBlockA_exit, if_true, if_false, Nat.reduceEqDiff, thenA_normal, inBlockA_normal, reduceIte, thenA_ret, inBlockA_ret, endQ_ret, endR_ret, endG_ret, endQ_normal, endR_normal, endG_normal, endF_ret, endF_normal])))
      exact ⟨.tup [.view .tight 0 [], .bool false], by simp [ares, aresL], tup2_pur (pur_view (by decide) (fun e he => by cases he)) pur_bool, fun b hb => by simp [at_tup, atL_cons, atL_nil, at_view, atE_nil, frB_tight, at_bool] at hb, .tup [.view (.fr 0) 1 [], .bool false], Wk.tup (.cons (Wk.nil (fun h => by cases h)) (.cons (Wk.refl _) .nil)), fun b hb => by simp [at_tup, atL_cons, atL_nil, at_view, atE_nil, frB_fr, at_bool] at hb, rStB_no hb⟩
  obtain rfl : i = n.kids.length := by omega
  have hb : lstB n = true := by
    unfold lstB
    rw [Bool.and_eq_true, decide_eq_true_eq, List.all_eq_true]
    refine ⟨h3, fun k hk => ?_⟩
    obtain ⟨j, hj, rfl⟩ := List.getElem_of_mem hk
    simpa using hall j hj hj
  have htk2 : (txtsN n).take n.kids.length = txtsN n := List.take_of_length_le (by rw [txtsN_len]; exact Nat.le_refl _)
  rw [htk2] at hl ⊢
  refine AW.holdF 50 hN (fun g hg ht hr => ?_)
  clear ht hr
  have pp := isPath_AC (txtsN n) (.fr g)
  (repeat (first | with_reducible refine AW.seq ?_ | ((first | refine arun_kn 4 rfl (fun C hC => ?_) | refine arunD_kn 4 rfl (fun C hC => ?_)); (repeat ((conv => whnf); simp [hlt, txtsN_len, ASt.holdF, AV.subL, AV.sub, Row.sub, rowsOf_cons, upd, strsE_len, strsE_sub])); refine hC _ ?_; clear hC C; simp only [List.drop, Nat.reduceAdd]) | ((first | refine arun_kn 1 rfl (fun C hC => ?_) | refine arunD_kn 1 rfl (fun C hC => ?_)); (repeat ((conv => whnf); simp [hlt, txtsN_len, ASt.holdF, AV.subL, AV.sub, Row.sub, rowsOf_cons, upd, strsE_len, strsE_sub])); refine hC _ ?_; clear hC C; simp only [List.drop, Nat.reduceAdd]) | (refine arun_skip ?_ ?_; (focus (simp [awant, hlt, txtsN_len, ASt.holdF, AV.subL, AV.sub, Row.sub, rowsOf_cons, upd, strsE_len, strsE_sub]; done))) | (refine arun_c0 (pp) ?_; rintro _ rfl) | (refine AW.regionK [] (fun K hK => ?_)) | (refine AW.regionDK [] (pcs [] []) (by kernel_rfl) (by kernel_rfl) (fun K hK => ?_)) | (refine AW.condT ?_ ?_; (focus (simp [aev, hlt, txtsN_len, ASt.holdF, AV.subL, AV.sub, Row.sub, rowsOf_cons, upd, strsE_len, strsE_sub]; done))) | (refine AW.condF ?_ ?_; (focus (simp [aev, hlt, txtsN_len, ASt.holdF, AV.subL, AV.sub, Row.sub, rowsOf_cons, upd, strsE_len, strsE_sub]; done))) | with_reducible refine AW.block ?_ | ((first | ((first | refine arun_nil ?_ | refine arunD_nil ?_); refine hK _ ?_; clear hK K) | refine AW.skip ?_ | refine AW.exit ?_ | refine AW.ret ?_); simp only [thenA_exit, inBlockA_exit, if_true, if_false, Nat.reduceEqDiff, thenA_normal, inBlockA_normal, reduceIte, thenA_ret, inBlockA_ret, endQ_ret, endR_ret, endG_ret, endQ_normal, endR_normal, endG_normal, endF_ret, endF_normal])))
  refine ⟨.tup [.view (.fr g) 1 (strsE (txtsN n)), .bool (pathB (txtsN n))], by simp [ares, aresL, upd, rowsOf_cons, strsE_sub], tup2_pur (pur_view (by simp) (strsE_pur _)) pur_bool, fun b hb' => ?_, _, Wk.refl _, fun _ h => h, g, txtsN n, fun _ => rfl, by rw [hb]; rfl⟩
  rw [at_tup, atL_cons, atL_cons, atL_nil, at_bool, at_view, at_strsE, frB_fr] at hb'
  simp only [List.append_nil] at hb'
  split at hb' <;> simp at hb'
  rw [hb']; exact hg
end Go.Proofs.Ytgfnmhfdmmnaoaa.Eng
-- EV: skip
namespace Go.Proofs.Ytgfnmhfdmmnaoaa.Eng
open Go Go.RowKit
attribute [local simp] big size_mk ASt.pay Option.map_map Function.comp_def awant aop acall ado aev ofVal ofVal0 ASt.put ASt.add ASt.turn ASt.kill abox aalloc astore aload aloadD astoreD idOf ASt.at cellsTo afieldAddr afield aindexAddr aindex alen abin aint acmp astr aun apick aextract anil aslice abound abuild afill abuildSlice asCells aps avCells over upd aappend asrc amax amin aconv mkSt slots rowsOf_cons rowsOf_nil usedOf_cons usedOf_nil ZK.av List.replicate ASt.back ASt.addL ASt.killL nodeA nodeT nodeTL_eq nodeL_eq strsE_get strsE_len intsE_get intsE_len strsE_at intsE_at tab2 tab3 tab4 tab5 tab6 tab7 tab8 tab9 tab10 tab11 tab12 tab13 tab14 tab15 tab16 tab17 tab18 tab19 tab21 tab22 tab23 tab24 tab25 tab26 tab27 tab28 tab29 tab30 tab39 tab40 tab41 tab42 tab43 tab47 tab48 tab55 tab56 tab57 tab60 tab61 tab62 tab73 tab74 tab75 tab85 tab92 tab115 tab116 tab143 tab144 tab145 tab154 tab155 tab170 tab175 tab182 tab197 tab198 tab203 tab204 tab205 tab207 tab208 tab209
set_option maxRecDepth 100000
set_option maxHeartbeats 16000000
theorem tupn_in (m : Nd) (b : Bool) : NoId (.tup [nodeA m, .bool b]) := by
  refine in_tup.2 ?_
  simp only [List.forall_mem_cons, List.not_mem_nil, false_implies, implies_true, and_true]
  exact ⟨node_in _, in_bool⟩
theorem o2n_no {o : Opr} (h : o2nB o = false) : o2nN o = Nd.zero := by unfold o2nN; rw [h]; rfl
theorem o2n_yes {o : Opr} (h : o2nB o = true) : o2nN o = opOf o := by unfold o2nN; rw [h]; rfl
theorem specOpToNode_AC (o : Opr) (hv : Sml o.2.2.2) : AC Try.prog 20 [oprA o] 0 (fun r => r = .tup [nodeA (o2nN o), .bool (o2nB o)]) := by
  refine AC.weak ?_
  have pv := validOp_AC o
  have co := oprA_clo o
  cases hvo : oprB o
  · have hb : o2nB o = false := by unfold o2nB; rw [hvo]; rfl
    rw [hvo] at pv
    unfold oprA at pv co ⊢
    refine AC.of tab_ok mixed_ok Try.func20 (by rfl) (by kernel_rfl) ?_; rintro ⟨P, T, hT, hm, w0, S0, rd0, k0⟩ hP hTT; dsimp only at hP hTT; subst hP hTT; unfold initSt; rw [Try.ntmps20]
    (repeat (first | with_reducible refine AW.seq ?_ | ((first | refine arun_kn 4 rfl (fun C hC => ?_) | refine arunD_kn 4 rfl (fun C hC => ?_)); (repeat ((conv => whnf); simp)); refine hC _ ?_; clear hC C; simp only [List.drop, Nat.reduceAdd]) | ((first | refine arun_kn 1 rfl (fun C hC => ?_) | refine arunD_kn 1 rfl (fun C hC => ?_)); (repeat ((conv => whnf); simp)); refine hC _ ?_; clear hC C; simp only [List.drop, Nat.reduceAdd]) | (refine arun_skip ?_ ?_; (focus (simp [awant]; done))) | (refine arun_c0 (pv) ?_; rintro _ rfl) | (refine arunD_skip ?_ ?_; (focus (simp [awant]; done))) | (refine AW.regionK [] (fun K hK => ?_)) | (refine AW.regionDK [] (pcs [] []) (by kernel_rfl) (by kernel_rfl) (fun K hK => ?_)) | (refine AW.condT ?_ ?_; (focus (simp [aev]; done))) | (refine AW.condF ?_ ?_; (focus (simp [aev]; done))) | with_reducible refine AW.block ?_ | ((first | ((first | refine arun_nil ?_ | refine arunD_nil ?_); refine hK _ ?_; clear hK K) | refine AW.skip ?_ | refine AW.exit ?_ | refine AW.ret ?_); simp only [thenA_exit, inBlockA_exit, if_true, if_false, Nat.reduceEqDiff, thenA_normal, inBlockA_normal, reduceIte, thenA_ret, inBlockA_ret, endQ_ret, endR_ret, endG_ret, endQ_normal, endR_normal, endG_normal])))
    exact ⟨.tup [node0 0 0 ⟨#[]⟩, .bool false], by simp [node0, ares, aresL, upd, rowsOf_cons], none_end.1, .tup [nodeA Nd.zero, .bool false], none_end.2, by rw [hb, o2n_no hb]⟩
  rw [hvo] at pv
  obtain ⟨k, hk, k1, k6, hp, hf, hvv⟩ := oprB_parts hvo
  have l1 : o.2.1.length ≤ 5 := by unfold pathB at hp; simp at hp; exact hp.1
  have l2 : o.2.2.1.length ≤ 5 := by unfold pathB at hf; simp at hf; exact hf.1
  have po := opNode_AC o k hk k1 k6 l1 l2 hv
  have pc := specChk (opOf o) true
  have hcM := node_clo (opOf o)
  have hB : o2nB o = validB (opOf o) := by unfold o2nB; rw [hvo]; rfl
  unfold ckN at pc
  cases hvv2 : validB (opOf o)
  · have hb : o2nB o = false := by rw [hB, hvv2]
    rw [hvv2] at pc
    simp only [if_true, Bool.false_eq_true, if_false, reduceIte, optA, Option.getD_none, Option.isSome_none] at pc
    unfold nodeA at po pc hcM
    rw [nodeL_eq] at po pc hcM
    unfold oprA at pv co po ⊢
    generalize opOf o = M at *
    have ez : nodeL Nd.zero = [.int .i64 0, .int .i64 0, .str ⟨#[]⟩, .view .loose 1 [], .view .loose 5 []] := by rw [nodeL_eq]; rfl
    rw [ez] at pc
    refine AC.of tab_ok mixed_ok Try.func20 (by rfl) (by kernel_rfl) ?_; rintro ⟨P, T, hT, hm, w0, S0, rd0, k0⟩ hP hTT; dsimp only at hP hTT; subst hP hTT; unfold initSt; rw [Try.ntmps20]
    (repeat (first | with_reducible refine AW.seq ?_ | ((first | refine arun_kn 4 rfl (fun C hC => ?_) | refine arunD_kn 4 rfl (fun C hC => ?_)); (repeat ((conv => whnf); simp)); refine hC _ ?_; clear hC C; simp only [List.drop, Nat.reduceAdd]) | ((first | refine arun_kn 1 rfl (fun C hC => ?_) | refine arunD_kn 1 rfl (fun C hC => ?_)); (repeat ((conv => whnf); simp)); refine hC _ ?_; clear hC C; simp only [List.drop, Nat.reduceAdd]) | (refine arun_skip ?_ ?_; (focus (simp [awant]; done))) | (refine arun_c0 (pv) ?_; rintro _ rfl) | (refine arun_c0 (po) ?_; rintro _ rfl) | (refine arun_c0 (pc) ?_; rintro _ rfl) | (refine arunD_skip ?_ ?_; (focus (simp [awant]; done))) | (refine AW.regionK [] (fun K hK => ?_)) | (refine AW.regionDK [] (pcs [] []) (by kernel_rfl) (by kernel_rfl) (fun K hK => ?_)) | (refine AW.condT ?_ ?_; (focus (simp [aev]; done))) | (refine AW.condF ?_ ?_; (focus (simp [aev]; done))) | with_reducible refine AW.block ?_ | ((first | ((first | refine arun_nil ?_ | refine arunD_nil ?_); refine hK _ ?_; clear hK K) | refine AW.skip ?_ | refine AW.exit ?_ | refine AW.ret ?_); simp only [thenA_exit, inBlockA_exit, if_true, if_false, Nat.reduceEqDiff, thenA_normal, inBlockA_normal, reduceIte, thenA_ret, inBlockA_ret, endQ_ret, endR_ret, endG_ret, endQ_normal, endR_normal, endG_normal])))
    exact ⟨.tup [.agg [.int .i64 0, .int .i64 0, .str ⟨#[]⟩, .view .loose 1 [], .view .loose 5 []], .bool false], by simp [ares, aresL, upd, rowsOf_cons], tup2_pur (by rw [← ez]; exact node_pur Nd.zero) pur_bool, _, Wk.refl _, by rw [hb, o2n_no hb]; unfold nodeA; rw [ez]⟩
  · have hb : o2nB o = true := by rw [hB, hvv2]
    have he := o2n_yes hb
    rw [hvv2] at pc
    simp only [if_true, reduceIte, optA, Option.getD_some, Option.isSome_some] at pc
    unfold nodeA at po pc hcM
    rw [nodeL_eq] at po pc hcM
    unfold oprA at pv co po ⊢
    generalize opOf o = M at *
    refine AC.of tab_ok mixed_ok Try.func20 (by rfl) (by kernel_rfl) ?_; rintro ⟨P, T, hT, hm, w0, S0, rd0, k0⟩ hP hTT; dsimp only at hP hTT; subst hP hTT; unfold initSt; rw [Try.ntmps20]
    (repeat (first | with_reducible refine AW.seq ?_ | ((first | refine arun_kn 4 rfl (fun C hC => ?_) | refine arunD_kn 4 rfl (fun C hC => ?_)); (repeat ((conv => whnf); simp)); refine hC _ ?_; clear hC C; simp only [List.drop, Nat.reduceAdd]) | ((first | refine arun_kn 1 rfl (fun C hC => ?_) | refine arunD_kn 1 rfl (fun C hC => ?_)); (repeat ((conv => whnf); simp)); refine hC _ ?_; clear hC C; simp only [List.drop, Nat.reduceAdd]) | (refine arun_skip ?_ ?_; (focus (simp [awant]; done))) | (refine arun_c0 (pv) ?_; rintro _ rfl) | (refine arun_c0 (po) ?_; rintro _ rfl) | (refine arun_c0 (pc) ?_; rintro _ rfl) | (refine arunD_skip ?_ ?_; (focus (simp [awant]; done))) | (refine AW.regionK [] (fun K hK => ?_)) | (refine AW.regionDK [] (pcs [] []) (by kernel_rfl) (by kernel_rfl) (fun K hK => ?_)) | (refine AW.condT ?_ ?_; (focus (simp [aev]; done))) | (refine AW.condF ?_ ?_; (focus (simp [aev]; done))) | with_reducible refine AW.block ?_ | ((first | ((first | refine arun_nil ?_ | refine arunD_nil ?_); refine hK _ ?_; clear hK K) | refine AW.skip ?_ | refine AW.exit ?_ | refine AW.ret ?_); simp only [thenA_exit, inBlockA_exit, if_true, if_false, Nat.reduceEqDiff, thenA_normal, inBlockA_normal, reduceIte, thenA_ret, inBlockA_ret, endQ_ret, endR_ret, endG_ret, endQ_normal, endR_normal, endG_normal])))
    refine ⟨.tup [nodeA M, .bool true], by unfold nodeA; rw [nodeL_eq]; simp [ares, aresL, upd, rowsOf_cons], tup2_pur (node_pur M) pur_bool, _, Wk.refl _, by rw [hb, he]⟩
theorem implChk (m : Nd) : AC Try.prog 72 [nodeA m, .bool true] 0 (fun r => r = optA (ckN m)) := by
  refine AC.weak ?_
  have p1 := ValidNode_AC m .loose
  rw [nodeT_loose] at p1
  have hc := node_clo m
  unfold nodeA at p1 hc ⊢
  rw [nodeL_eq] at p1 hc ⊢
  cases hv : validB m
  · rw [hv] at p1
    have e : ckN m = none := by unfold ckN; rw [hv]; rfl
    refine AC.of tab_ok mixed_ok Try.func72 (by rfl) (by kernel_rfl) ?_; rintro ⟨P, T, hT, hm, w0, S0, rd0, k0⟩ hP hTT; dsimp only at hP hTT; subst hP hTT; unfold initSt; rw [Try.ntmps72]
    (repeat (first | with_reducible refine AW.seq ?_ | ((first | refine arun_kn 4 rfl (fun C hC => ?_) | refine arunD_kn 4 rfl (fun C hC => ?_)); (repeat ((conv => whnf); simp)); refine hC _ ?_; clear hC C; simp only [List.drop, Nat.reduceAdd]) | ((first | refine arun_kn 1 rfl (fun C hC => ?_) | refine arunD_kn 1 rfl (fun C hC => ?_)); (repeat ((conv => whnf); simp)); refine hC _ ?_; clear hC C; simp only [List.drop, Nat.reduceAdd]) | (refine arun_skip ?_ ?_; (focus (simp [awant]; done))) | (refine arun_c0 (p1) ?_; rintro _ rfl) | (refine arunD_skip ?_ ?_; (focus (simp [awant]; done))) | (refine AW.regionK [] (fun K hK => ?_)) | (refine AW.regionDK [] (pcs [] []) (by kernel_rfl) (by kernel_rfl) (fun K hK => ?_)) | (refine AW.condT ?_ ?_; (focus (simp [aev]; done))) | (refine AW.condF ?_ ?_; (focus (simp [aev]; done))) | with_reducible refine AW.block ?_ | ((first | ((first | refine arun_nil ?_ | refine arunD_nil ?_); refine hK _ ?_; clear hK K) | refine AW.skip ?_ | refine AW.exit ?_ | refine AW.ret ?_); simp only [thenA_exit, inBlockA_exit, if_true, if_false, Nat.reduceEqDiff, thenA_normal, inBlockA_normal, reduceIte, thenA_ret, inBlockA_ret, endQ_ret, endR_ret, endG_ret, endQ_normal, endR_normal, endG_normal])))
    exact ⟨.tup [node0 0 0 ⟨#[]⟩, .bool false], by simp [node0, ares, aresL, upd, rowsOf_cons], none_end.1, .tup [nodeA Nd.zero, .bool false], none_end.2, by rw [e]; rfl⟩
  · rw [hv] at p1
    have e : ckN m = some m := by unfold ckN; rw [hv]; rfl
    refine AC.of tab_ok mixed_ok Try.func72 (by rfl) (by kernel_rfl) ?_; rintro ⟨P, T, hT, hm, w0, S0, rd0, k0⟩ hP hTT; dsimp only at hP hTT; subst hP hTT; unfold initSt; rw [Try.ntmps72]
    (repeat (first | with_reducible refine AW.seq ?_ | ((first | refine arun_kn 4 rfl (fun C hC => ?_) | refine arunD_kn 4 rfl (fun C hC => ?_)); (repeat ((conv => whnf); simp)); refine hC _ ?_; clear hC C; simp only [List.drop, Nat.reduceAdd]) | ((first | refine arun_kn 1 rfl (fun C hC => ?_) | refine arunD_kn 1 rfl (fun C hC => ?_)); (repeat ((conv => whnf); simp)); refine hC _ ?_; clear hC C; simp only [List.drop, Nat.reduceAdd]) | (refine arun_skip ?_ ?_; (focus (simp [awant]; done))) | (refine arun_c0 (p1) ?_; rintro _ rfl) | (refine arunD_skip ?_ ?_; (focus (simp [awant]; done))) | (refine AW.regionK [] (fun K hK => ?_)) | (refine AW.regionDK [] (pcs [] []) (by kernel_rfl) (by kernel_rfl) (fun K hK => ?_)) | (refine AW.condT ?_ ?_; (focus (simp [aev]; done))) | (refine AW.condF ?_ ?_; (focus (simp [aev]; done))) | with_reducible refine AW.block ?_ | ((first | ((first | refine arun_nil ?_ | refine arunD_nil ?_); refine hK _ ?_; clear hK K) | refine AW.skip ?_ | refine AW.exit ?_ | refine AW.ret ?_); simp only [thenA_exit, inBlockA_exit, if_true, if_false, Nat.reduceEqDiff, thenA_normal, inBlockA_normal, reduceIte, thenA_ret, inBlockA_ret, endQ_ret, endR_ret, endG_ret, endQ_normal, endR_normal, endG_normal])))
    exact ⟨.tup [nodeA m, .bool true], by unfold nodeA; rw [nodeL_eq]; simp [ares, aresL, upd, rowsOf_cons], tup2_pur (node_pur m) pur_bool, _, Wk.refl _, by rw [e]; rfl⟩
theorem implOpToNode_AC (o : Opr) (hv : Sml o.2.2.2) : AC Try.prog 22 [oprA o] 0 (fun r => r = .tup [nodeA (o2nN o), .bool (o2nB o)]) := by
  refine AC.weak ?_
  have pv := isOp_AC o
  have co := oprA_clo o
  cases hvo : oprB o
  · have hb : o2nB o = false := by unfold o2nB; rw [hvo]; rfl
    rw [hvo] at pv
    unfold oprA at pv co ⊢
    refine AC.of tab_ok mixed_ok Try.func22 (by rfl) (by kernel_rfl) ?_; rintro ⟨P, T, hT, hm, w0, S0, rd0, k0⟩ hP hTT; dsimp only at hP hTT; subst hP hTT; unfold initSt; rw [Try.ntmps22]
    (repeat (first | with_reducible refine AW.seq ?_ | ((first | refine arun_kn 4 rfl (fun C hC => ?_) | refine arunD_kn 4 rfl (fun C hC => ?_)); (repeat ((conv => whnf); simp)); refine hC _ ?_; clear hC C; simp only [List.drop, Nat.reduceAdd]) | ((first | refine arun_kn 1 rfl (fun C hC => ?_) | refine arunD_kn 1 rfl (fun C hC => ?_)); (repeat ((conv => whnf); simp)); refine hC _ ?_; clear hC C; simp only [List.drop, Nat.reduceAdd]) | (refine arun_skip ?_ ?_; (focus (simp [awant]; done))) | (refine arun_c0 (pv) ?_; rintro _ rfl) | (refine arunD_skip ?_ ?_; (focus (simp [awant]; done))) | (refine AW.regionK [] (fun K hK => ?_)) | (refine AW.regionDK [] (pcs [] []) (by kernel_rfl) (by kernel_rfl) (fun K hK => ?_)) | (refine AW.condT ?_ ?_; (focus (simp [aev]; done))) | (refine AW.condF ?_ ?_; (focus (simp [aev]; done))) | with_reducible refine AW.block ?_ | ((first | ((first | refine arun_nil ?_ | refine arunD_nil ?_); refine hK _ ?_; clear hK K) | refine AW.skip ?_ | refine AW.exit ?_ | refine AW.ret ?_); simp only [thenA_exit, inBlockA_exit, if_true, if_false, Nat.reduceEqDiff, thenA_normal, inBlockA_normal, reduceIte, thenA_ret, inBlockA_ret, endQ_ret, endR_ret, endG_ret, endQ_normal, endR_normal, endG_normal])))
    exact ⟨.tup [node0 0 0 ⟨#[]⟩, .bool false], by simp [node0, ares, aresL, upd, rowsOf_cons], none_end.1, .tup [nodeA Nd.zero, .bool false], none_end.2, by rw [hb, o2n_no hb]⟩
  rw [hvo] at pv
  obtain ⟨k, hk, k1, k6, hp, hf, hvv⟩ := oprB_parts hvo
  have l1 : o.2.1.length ≤ 5 := by unfold pathB at hp; simp at hp; exact hp.1
  have l2 : o.2.2.1.length ≤ 5 := by unfold pathB at hf; simp at hf; exact hf.1
  have pp := pathToNode_AC o.2.1 (by omega)
  have pf := pathToNode_AC o.2.2.1 (by omega)
  have pw := (opWord_ACF k1 k6).toAC
  have pd := implCopy_AC o.2.2.2 hv
  have hcd := node_clo o.2.2.2
  have id := node_in (U := fun _ => false) o.2.2.2
  have i1 := node_in (U := fun _ => false) (stepsN o.2.1)
  have i2 := node_in (U := fun _ => false) (stepsN o.2.2.1)
  have hB : o2nB o = validB (opOf o) := by unfold o2nB; rw [hvo]; rfl
  have eo : opOf o = opNd k o.2.1 o.2.2.1 o.2.2.2 := by unfold opOf; rw [hk]; rfl
  obtain ⟨S1, hS1⟩ : ∃ S1, S1 = stepsN o.2.1 := ⟨_, rfl⟩
  obtain ⟨S2, hS2⟩ : ∃ S2, S2 = stepsN o.2.2.1 := ⟨_, rfl⟩
  rw [← hS1] at pp i1
  rw [← hS2] at pf i2
  obtain ⟨T, hT0⟩ : ∃ T : AV, T = .agg [.int .i64 4, .int .i64 0, .str ⟨#[]⟩, .view .tight 1 [[.str ⟨#[102, 114, 111, 109]⟩], [.str ⟨#[111, 112]⟩], [.str ⟨#[112, 97, 116, 104]⟩], [.str ⟨#[118, 97, 108, 117, 101]⟩]], .view .tight 5 [nodeL S2, [.int .i64 2, .int .i64 0, .str (wd k), .view .tight 0 [], .view .tight 0 []], nodeL S1, nodeL o.2.2.2]] := ⟨_, rfl⟩
  have hwT : Wk T (nodeA (opOf o)) := by
    rw [eo, hT0, hS1, hS2]
    unfold nodeA opNd
    rw [nodeL_eq ⟨4, 0, ⟨#[]⟩, opNms, [stepsN o.2.2.1, wordN (wd k), stepsN o.2.1, o.2.2.2]⟩]
    refine Wk.agg (.cons (Wk.refl _) (.cons (Wk.refl _) (.cons (Wk.refl _) (.cons (Wk.loose (by decide)) (.cons (Wk.view (by decide) ?_) .nil)))))
    refine .cons (WkL.refl _) (.cons ?_ (.cons (WkL.refl _) (.cons (WkL.refl _) .nil)))
    show WkL _ (nodeL (wordN (wd k)))
    rw [nodeL_eq]
    exact .cons (Wk.refl _) (.cons (Wk.refl _) (.cons (Wk.refl _) (.cons (Wk.nil (fun h => by cases h)) (.cons (Wk.nil (fun h => by cases h)) .nil))))
  have pc := AC.arg (bs := [T, .bool true]) (implChk (opOf o)) (.cons hwT (.cons (Wk.refl _) .nil))
  have hcT : Clo T := by
    rw [hT0]
    refine (pur_agg ?_).clo
    have h0 := pur_view (t := .tight) (sz := 0) (es := []) (by decide) (fun e he => by cases he)
    simp only [List.forall_mem_cons, List.not_mem_nil, false_implies, implies_true, and_true]
    refine ⟨pur_int, pur_int, pur_str, pur_view (by decide) (strsE_pur opNms), pur_view (by decide) ?_⟩
    simp only [List.forall_mem_cons, List.not_mem_nil, false_implies, implies_true, and_true]
    exact ⟨nodeL_pur S2, ⟨pur_int, pur_int, pur_str, h0, h0⟩, nodeL_pur S1, nodeL_pur o.2.2.2⟩
  rw [hT0] at pc hcT
  clear hT0 hwT
  unfold ckN at pc
  unfold nodeA at pp pf pd hcd id i1 i2
  rw [nodeL_eq] at pp pf pd hcd id i1 i2
  rw [nodeL_eq S1, nodeL_eq S2, nodeL_eq o.2.2.2] at pc hcT
  unfold oprA at pv co ⊢
  rw [hk] at pv co ⊢
  generalize hM : opOf o = M at *
  cases hvv2 : validB M
  · have hb : o2nB o = false := by rw [hB, hvv2]
    rw [hvv2] at pc
    simp only [Bool.false_eq_true, if_false, reduceIte, optA, Option.getD_none, Option.isSome_none] at pc
    unfold nodeA at pc
    have ez : nodeL Nd.zero = [.int .i64 0, .int .i64 0, .str ⟨#[]⟩, .view .loose 1 [], .view .loose 5 []] := by rw [nodeL_eq]; rfl
    have iz : NoId (.tup [.agg [.int .i64 0, .int .i64 0, .str ⟨#[]⟩, .view .loose 1 [], .view .loose 5 []], .bool false]) := by rw [← ez]; exact tupn_in Nd.zero false
    rw [ez] at pc
    refine AC.of tab_ok mixed_ok Try.func22 (by rfl) (by kernel_rfl) ?_; rintro ⟨P, T, hT, hm, w0, S0, rd0, k0⟩ hP hTT; dsimp only at hP hTT; subst hP hTT; unfold initSt; rw [Try.ntmps22]
    (repeat (first | with_reducible refine AW.seq ?_ | ((first | refine arun_kn 4 rfl (fun C hC => ?_) | refine arunD_kn 4 rfl (fun C hC => ?_)); (repeat ((conv => whnf); simp)); refine hC _ ?_; clear hC C; simp only [List.drop, Nat.reduceAdd]) | ((first | refine arun_kn 1 rfl (fun C hC => ?_) | refine arunD_kn 1 rfl (fun C hC => ?_)); (repeat ((conv => whnf); simp)); refine hC _ ?_; clear hC C; simp only [List.drop, Nat.reduceAdd]) | (refine arun_skip ?_ ?_; (focus (simp [awant]; done))) | (refine arun_c0 (pv) ?_; rintro _ rfl) | (refine arunD_skip ?_ ?_; (focus (simp [awant]; done))) | (refine AW.regionK [] (fun K hK => ?_)) | (refine AW.condT ?_ ?_; (focus (simp [aev]; done))) | (refine AW.condF ?_ ?_; (focus (simp [aev]; done))) | with_reducible refine AW.block ?_ | ((first | ((first | refine arun_nil ?_ | refine arunD_nil ?_); refine hK _ ?_; clear hK K) | refine AW.skip ?_ | refine AW.exit ?_ | refine AW.ret ?_); simp only [thenA_exit, inBlockA_exit, if_true, if_false, Nat.reduceEqDiff, thenA_normal, inBlockA_normal, reduceIte, thenA_ret, inBlockA_ret, endQ_ret, endR_ret, endG_ret, endQ_normal, endR_normal, endG_normal])))
    refine AW.regionDK [] (pcs [(3, 0, fun r => r = .agg [.int .i64 S2.kind, .int .i64 S2.num, .str S2.text, .view .loose 1 (strsE S2.names), .view .loose 5 (S2.kids.map nodeL)]), (6, 0, fun r => r = .str (wd k)), (10, 0, fun r => r = .agg [.int .i64 S1.kind, .int .i64 S1.num, .str S1.text, .view .loose 1 (strsE S1.names), .view .loose 5 (S1.kids.map nodeL)]), (13, 0, fun r => r = .agg [.int .i64 o.2.2.2.kind, .int .i64 o.2.2.2.num, .str o.2.2.2.text, .view .loose 1 (strsE o.2.2.2.names), .view .loose 5 (o.2.2.2.kids.map nodeL)]), (16, 0, fun r => r = .tup [.agg [.int .i64 0, .int .i64 0, .str ⟨#[]⟩, .view .loose 1 [], .view .loose 5 []], .bool false])] []) (by kernel_rfl) (by kernel_rfl) (fun K hK => ?_)
    (repeat (first | with_reducible refine AW.seq ?_ | ((first | refine arun_kn 4 rfl (fun C hC => ?_) | refine arunD_kn 4 rfl (fun C hC => ?_)); (repeat ((conv => whnf); simp)); refine hC _ ?_; clear hC C; simp only [List.drop, Nat.reduceAdd]) | ((first | refine arun_kn 1 rfl (fun C hC => ?_) | refine arunD_kn 1 rfl (fun C hC => ?_)); (repeat ((conv => whnf); simp)); refine hC _ ?_; clear hC C; simp only [List.drop, Nat.reduceAdd]) | (refine arun_skip ?_ ?_; (focus (simp [awant]; done))) | (refine arun_c0 (pf) ?_; rintro _ rfl) | (refine arun_c0 (pw) ?_; rintro _ rfl) | (refine arun_c0 (pp) ?_; rintro _ rfl) | (refine arun_c0 (pd) ?_; rintro _ rfl) | (refine arun_c0 (pc) ?_; rintro _ rfl) | (refine arunD_skip ?_ ?_; (focus (simp [awant]; done))) | (refine arunD_cE (0) (pf) (by exact ⟨_, rfl, i2⟩) ?_; rintro _ rfl; intro _) | (refine arunD_cE (0) (pw) (by exact ⟨_, rfl, in_str⟩) ?_; rintro _ rfl; intro _) | (refine arunD_cE (0) (pp) (by exact ⟨_, rfl, i1⟩) ?_; rintro _ rfl; intro _) | (refine arunD_cE (0) (pd) (by exact ⟨_, rfl, id⟩) ?_; rintro _ rfl; intro _) | (refine arunD_cE (0) (pc) (by exact ⟨_, rfl, iz⟩) ?_; rintro _ rfl; intro _) | (refine AW.regionK [] (fun K hK => ?_)) | (refine AW.regionDK [] (pcs [] []) (by kernel_rfl) (by kernel_rfl) (fun K hK => ?_)) | (refine AW.condT ?_ ?_; (focus (simp [aev]; done))) | (refine AW.condF ?_ ?_; (focus (simp [aev]; done))) | with_reducible refine AW.block ?_ | ((first | ((first | refine arun_nil ?_ | refine arunD_nil ?_); refine hK _ ?_; clear hK K) | refine AW.skip ?_ | refine AW.exit ?_ | refine AW.ret ?_); simp only [thenA_exit, inBlockA_exit, if_true, if_false, Nat.reduceEqDiff, thenA_normal, inBlockA_normal, reduceIte, thenA_ret, inBlockA_ret, endQ_ret, endR_ret, endG_ret, endQ_normal, endR_normal, endG_normal])))
    exact ⟨.tup [.agg [.int .i64 0, .int .i64 0, .str ⟨#[]⟩, .view .loose 1 [], .view .loose 5 []], .bool false], by simp [ares, aresL, upd, rowsOf_cons], tup2_pur (by rw [← ez]; exact node_pur Nd.zero) pur_bool, _, Wk.refl _, by rw [hb, o2n_no hb]; unfold nodeA; rw [ez]⟩
  · have hb : o2nB o = true := by rw [hB, hvv2]
    have he := o2n_yes hb
    rw [hM] at he
    rw [hvv2] at pc
    simp only [if_true, reduceIte, optA, Option.getD_some, Option.isSome_some] at pc
    unfold nodeA at pc
    have iz : NoId (.tup [.agg (nodeL M), .bool true]) := tupn_in M true
    rw [nodeL_eq M] at pc iz
    refine AC.of tab_ok mixed_ok Try.func22 (by rfl) (by kernel_rfl) ?_; rintro ⟨P, T, hT, hm, w0, S0, rd0, k0⟩ hP hTT; dsimp only at hP hTT; subst hP hTT; unfold initSt; rw [Try.ntmps22]
    (repeat (first | with_reducible refine AW.seq ?_ | ((first | refine arun_kn 4 rfl (fun C hC => ?_) | refine arunD_kn 4 rfl (fun C hC => ?_)); (repeat ((conv => whnf); simp)); refine hC _ ?_; clear hC C; simp only [List.drop, Nat.reduceAdd]) | ((first | refine arun_kn 1 rfl (fun C hC => ?_) | refine arunD_kn 1 rfl (fun C hC => ?_)); (repeat ((conv => whnf); simp)); refine hC _ ?_; clear hC C; simp only [List.drop, Nat.reduceAdd]) | (refine arun_skip ?_ ?_; (focus (simp [awant]; done))) | (refine arun_c0 (pv) ?_; rintro _ rfl) | (refine arunD_skip ?_ ?_; (focus (simp [awant]; done))) | (refine AW.regionK [] (fun K hK => ?_)) | (refine AW.condT ?_ ?_; (focus (simp [aev]; done))) | (refine AW.condF ?_ ?_; (focus (simp [aev]; done))) | with_reducible refine AW.block ?_ | ((first | ((first | refine arun_nil ?_ | refine arunD_nil ?_); refine hK _ ?_; clear hK K) | refine AW.skip ?_ | refine AW.exit ?_ | refine AW.ret ?_); simp only [thenA_exit, inBlockA_exit, if_true, if_false, Nat.reduceEqDiff, thenA_normal, inBlockA_normal, reduceIte, thenA_ret, inBlockA_ret, endQ_ret, endR_ret, endG_ret, endQ_normal, endR_normal, endG_normal])))
    refine AW.regionDK [] (pcs [(3, 0, fun r => r = .agg [.int .i64 S2.kind, .int .i64 S2.num, .str S2.text, .view .loose 1 (strsE S2.names), .view .loose 5 (S2.kids.map nodeL)]), (6, 0, fun r => r = .str (wd k)), (10, 0, fun r => r = .agg [.int .i64 S1.kind, .int .i64 S1.num, .str S1.text, .view .loose 1 (strsE S1.names), .view .loose 5 (S1.kids.map nodeL)]), (13, 0, fun r => r = .agg [.int .i64 o.2.2.2.kind, .int .i64 o.2.2.2.num, .str o.2.2.2.text, .view .loose 1 (strsE o.2.2.2.names), .view .loose 5 (o.2.2.2.kids.map nodeL)]), (16, 0, fun r => r = .tup [.agg [.int .i64 M.kind, .int .i64 M.num, .str M.text, .view .loose 1 (strsE M.names), .view .loose 5 (M.kids.map nodeL)], .bool true])] []) (by kernel_rfl) (by kernel_rfl) (fun K hK => ?_)
    (repeat (first | with_reducible refine AW.seq ?_ | ((first | refine arun_kn 4 rfl (fun C hC => ?_) | refine arunD_kn 4 rfl (fun C hC => ?_)); (repeat ((conv => whnf); simp)); refine hC _ ?_; clear hC C; simp only [List.drop, Nat.reduceAdd]) | ((first | refine arun_kn 1 rfl (fun C hC => ?_) | refine arunD_kn 1 rfl (fun C hC => ?_)); (repeat ((conv => whnf); simp)); refine hC _ ?_; clear hC C; simp only [List.drop, Nat.reduceAdd]) | (refine arun_skip ?_ ?_; (focus (simp [awant]; done))) | (refine arun_c0 (pf) ?_; rintro _ rfl) | (refine arun_c0 (pw) ?_; rintro _ rfl) | (refine arun_c0 (pp) ?_; rintro _ rfl) | (refine arun_c0 (pd) ?_; rintro _ rfl) | (refine arun_c0 (pc) ?_; rintro _ rfl) | (refine arunD_skip ?_ ?_; (focus (simp [awant]; done))) | (refine arunD_cE (0) (pf) (by exact ⟨_, rfl, i2⟩) ?_; rintro _ rfl; intro _) | (refine arunD_cE (0) (pw) (by exact ⟨_, rfl, in_str⟩) ?_; rintro _ rfl; intro _) | (refine arunD_cE (0) (pp) (by exact ⟨_, rfl, i1⟩) ?_; rintro _ rfl; intro _) | (refine arunD_cE (0) (pd) (by exact ⟨_, rfl, id⟩) ?_; rintro _ rfl; intro _) | (refine arunD_cE (0) (pc) (by exact ⟨_, rfl, iz⟩) ?_; rintro _ rfl; intro _) | (refine AW.regionK [] (fun K hK => ?_)) | (refine AW.regionDK [] (pcs [] []) (by kernel_rfl) (by kernel_rfl) (fun K hK => ?_)) | (refine AW.condT ?_ ?_; (focus (simp [aev]; done))) | (refine AW.condF ?_ ?_; (focus (simp [aev]; done))) | with_reducible refine AW.block ?_ | ((first | ((first | refine arun_nil ?_ | refine arunD_nil ?_); refine hK _ ?_; clear hK K) | refine AW.skip ?_ | refine AW.exit ?_ | refine AW.ret ?_); simp only [thenA_exit, inBlockA_exit, if_true, if_false, Nat.reduceEqDiff, thenA_normal, inBlockA_normal, reduceIte, thenA_ret, inBlockA_ret, endQ_ret, endR_ret, endG_ret, endQ_normal, endR_normal, endG_normal])))
    exact ⟨.tup [nodeA M, .bool true], by unfold nodeA; rw [nodeL_eq]; simp [ares, aresL, upd, rowsOf_cons], tup2_pur (node_pur M) pur_bool, _, Wk.refl _, by rw [hb, he]⟩
def strsRow (p : List ByteArray) : Row := ⟨false, 9, 1, strsE p⟩
def rPath (r : AV) : Prop := ∃ p : List ByteArray, p.length ≤ 1000 ∧ r = .view .loose 1 (strsE p)
theorem rPath_ex : ∃ r, rPath r ∧ NoId r := ⟨_, ⟨[], by simp, rfl⟩, strs_in []⟩
theorem anyPath_ACR : ACR Try.prog 149 [.rdr] 10 (fun _ => False) (fun f R => ∃ p : List ByteArray, p.length ≤ 6 ∧ f = (fun id => .own id p.length) ∧ R = strsRow p) := by
  refine ACR.of tab_ok mixed_ok Try.func149 (by rfl) (by kernel_rfl) ?_; rintro ⟨P, T, hT, hm, w0, S0, rd0, k0⟩ hP hTT; dsimp only at hP hTT; subst hP hTT; unfold initSt; rw [Try.ntmps149]
  (repeat (first | with_reducible refine AW.seq ?_ | ((first | refine arun_kn 4 rfl (fun C hC => ?_) | refine arunD_kn 4 rfl (fun C hC => ?_)); (repeat ((conv => whnf); simp)); refine hC _ ?_; clear hC C; simp only [List.drop, Nat.reduceAdd]) | ((first | refine arun_kn 1 rfl (fun C hC => ?_) | refine arunD_kn 1 rfl (fun C hC => ?_)); (repeat ((conv => whnf); simp)); refine hC _ ?_; clear hC C; simp only [List.drop, Nat.reduceAdd]) | (refine arun_skip ?_ ?_; (focus (simp [awant]; done))) | (refine arun_cU (1) rfl (one_ACU _ _ (by rfl) (by simp) (by simp)) ?_; (rintro _ ⟨y, hy, rfl⟩)) | (refine AW.regionK [] (fun K hK => ?_)) | (refine AW.regionDK [] (pcs [] []) (by kernel_rfl) (by kernel_rfl) (fun K hK => ?_)) | (refine AW.condT ?_ ?_; (focus (simp [aev]; done))) | (refine AW.condF ?_ ?_; (focus (simp [aev]; done))) | with_reducible refine AW.block ?_ | ((first | ((first | refine arun_nil ?_ | refine arunD_nil ?_); refine hK _ ?_; clear hK K) | refine AW.skip ?_ | refine AW.exit ?_ | refine AW.ret ?_); simp only [thenA_exit, inBlockA_exit, if_true, if_false, Nat.reduceEqDiff, thenA_normal, inBlockA_normal, reduceIte, thenA_ret, inBlockA_ret, endQ_ret, endR_ret, endG_ret, endQ_normal, endR_normal, endG_normal])))
  have hy' : 0 ≤ y ∧ y ≤ 6 := by
    simp [intOf] at hy
    omega
  clear hy
  obtain ⟨c0, rfl⟩ := Int.eq_ofNat_of_zero_le hy'.1
  refine AW.adopt 3 3 9 1 ⟨_, tab9, rfl⟩ rfl (by simp [upd]) ?_
  simp only [ASt.adopt, ASt.add]
  refine AW.loopS (fun (x : List ByteArray × Nat × Nat) => mkSt (slots 0 33 [(0, .rdr), (3, .own 3 x.1.length), (4, .int .i64 x.2.1)]) [(3, strsRow x.1)] [3] (rd0.map fun _ => x.2.2)) (fun x => x.2.1) (fun x => x.1.length + x.2.1 ≤ 6 ∧ x.2.1 + 2 ≤ x.2.2) ([], c0, 9) ?_ ⟨by simp; omega, by dsimp only; omega⟩ ?_
  · dsimp only [List.length_nil]
    exact (less_of (by simp [lessL, mkSt, slots, strsRow, strsE]) (by simp [upd, mkSt, rowsOf_cons, strsRow, strsE]) (by simp [upd, mkSt, usedOf_cons, strsRow, strsE]) (by first | exact rd_less (by omega) | simp [mkSt, strsRow, strsE]) (by simp [slots, in_any, in_int, in_bool, in_str, in_ptr, in_own, in_agg, in_vnil, in_rdr, usedOf_cons, usedOf_nil, strs_in, ints_in, nodes_in, in_tup, strsRow, strsE]) (by simp only [List.forall_mem_cons, List.not_mem_nil, false_implies, implies_true, and_true, true_and, strsRow, strsE]; (repeat (first | with_reducible exact trivial | with_reducible refine And.intro ?_ ?_ | with_reducible exact in_int | with_reducible exact in_str | with_reducible exact in_bool | with_reducible exact strs_in _ | with_reducible exact nodes_in _ | with_reducible exact items_in _ | with_reducible exact in_vnil | with_reducible exact in_any | exact hin _ | with_reducible refine take_in ?_ | with_reducible exact strsE_in _ | with_reducible exact nodesE_in _ | with_reducible exact nodeL_in _ | with_reducible exact itemsE_in _ | with_reducible exact itemL_in _ | with_reducible refine app_in ?_ ?_ | with_reducible refine sing_in ?_ | (focus (simp [in_any, in_int, in_bool, in_str, in_ptr, in_own, in_agg, in_vnil, in_rdr, usedOf_cons, usedOf_nil, strs_in, ints_in, nodes_in, strsRow, strsE]; done)))); done))
  · rintro ⟨p, c, b⟩ ⟨h1, h2⟩
    dsimp only at h1 h2 ⊢
    by_cases hlt : 0 < c
    · have hlt' : (0 : Int) < (c : Int) := by omega
      have hw : IntKind.i64.wrap ((c : Int) - 1) = ((c - 1 : Nat) : Int) := by
        rw [i64_nat (by omega) (by omega)]; omega
      have hb1 : (p.length + 1) * 16 ≤ 140737488355328 := by omega
      have hb2 : p.length + 1 ≤ 140737488355328 := by omega
      (repeat (first | with_reducible refine AW.seq ?_ | ((first | refine arun_kn 4 rfl (fun C hC => ?_) | refine arunD_kn 4 rfl (fun C hC => ?_)); (repeat ((conv => whnf); simp [hlt', hlt, hw, hb1, hb2, strsRow, strsE_len])); refine hC _ ?_; clear hC C; simp only [List.drop, Nat.reduceAdd]) | ((first | refine arun_kn 1 rfl (fun C hC => ?_) | refine arunD_kn 1 rfl (fun C hC => ?_)); (repeat ((conv => whnf); simp [hlt', hlt, hw, hb1, hb2, strsRow, strsE_len])); refine hC _ ?_; clear hC C; simp only [List.drop, Nat.reduceAdd]) | (refine arun_skip ?_ ?_; (focus (simp [awant, hlt', hlt, hw, hb1, hb2, strsRow, strsE_len]; done))) | (refine arun_cU (1) rfl (of_ACU _ _ (by rfl) (by simp) (by simp)) ?_; (rintro _ ⟨x, -, rfl⟩)) | (refine AW.regionK [] (fun K hK => ?_)) | (refine AW.regionDK [] (pcs [] []) (by kernel_rfl) (by kernel_rfl) (fun K hK => ?_)) | (refine AW.condT ?_ ?_; (focus (simp [aev, hlt', hlt, hw, hb1, hb2, strsRow, strsE_len]; done))) | (refine AW.condF ?_ ?_; (focus (simp [aev, hlt', hlt, hw, hb1, hb2, strsRow, strsE_len]; done))) | with_reducible refine AW.block ?_ | ((first | ((first | refine arun_nil ?_ | refine arunD_nil ?_); refine hK _ ?_; clear hK K) | refine AW.skip ?_ | refine AW.exit ?_ | refine AW.ret ?_); simp only [thenA_exit, inBlockA_exit, if_true, if_false, Nat.reduceEqDiff, thenA_normal, inBlockA_normal, reduceIte, thenA_ret, inBlockA_ret, endQ_ret, endR_ret, endG_ret, endQ_normal, endR_normal, endG_normal])))
      refine ⟨(p ++ [x], c - 1, b - 1), by dsimp only; omega, ⟨by simp only [List.length_append, List.length_cons, List.length_nil]; omega, by dsimp only; omega⟩, ?_⟩
      have e1 : strsE (p ++ [x]) = strsE p ++ [[.str x]] := by simp [strsE]
      have hl : (p ++ [x]).length = p.length + 1 := by simp
      dsimp only
      rw [hl]
      exact (less_of (by simp [lessL, mkSt, slots, strsRow, e1, strsE_len]) (by simp [upd, mkSt, rowsOf_cons, strsRow, e1, strsE_len]) (by simp [upd, mkSt, usedOf_cons, strsRow, e1, strsE_len]) (by first | exact rd_less (by omega) | simp [mkSt, strsRow, e1, strsE_len]) (by simp [slots, in_any, in_int, in_bool, in_str, in_ptr, in_own, in_agg, in_vnil, in_rdr, usedOf_cons, usedOf_nil, strs_in, ints_in, nodes_in, in_tup, strsRow, e1, strsE_len]) (by simp only [List.forall_mem_cons, List.not_mem_nil, false_implies, implies_true, and_true, true_and, strsRow, e1, strsE_len]; (repeat (first | with_reducible exact trivial | with_reducible refine And.intro ?_ ?_ | with_reducible exact in_int | with_reducible exact in_str | with_reducible exact in_bool | with_reducible exact strs_in _ | with_reducible exact nodes_in _ | with_reducible exact items_in _ | with_reducible exact in_vnil | with_reducible exact in_any | exact hin _ | with_reducible refine take_in ?_ | with_reducible exact strsE_in _ | with_reducible exact nodesE_in _ | with_reducible exact nodeL_in _ | with_reducible exact itemsE_in _ | with_reducible exact itemL_in _ | with_reducible refine app_in ?_ ?_ | with_reducible refine sing_in ?_ | (focus (simp [in_any, in_int, in_bool, in_str, in_ptr, in_own, in_agg, in_vnil, in_rdr, usedOf_cons, usedOf_nil, strs_in, ints_in, nodes_in, strsRow, e1, strsE_len]; done)))); done))
    · have hlt' : ¬ (0 : Int) < (c : Int) := by omega
      cases p with
      | nil =>
        (repeat (first | with_reducible refine AW.seq ?_ | ((first | refine arun_kn 4 rfl (fun C hC => ?_) | refine arunD_kn 4 rfl (fun C hC => ?_)); (repeat ((conv => whnf); simp [hlt', hlt, strsRow, strsE_len])); refine hC _ ?_; clear hC C; simp only [List.drop, Nat.reduceAdd]) | ((first | refine arun_kn 1 rfl (fun C hC => ?_) | refine arunD_kn 1 rfl (fun C hC => ?_)); (repeat ((conv => whnf); simp [hlt', hlt, strsRow, strsE_len])); refine hC _ ?_; clear hC C; simp only [List.drop, Nat.reduceAdd]) | (refine arun_skip ?_ ?_; (focus (simp [awant, hlt', hlt, strsRow, strsE_len]; done))) | (refine AW.regionK [] (fun K hK => ?_)) | (refine AW.regionDK [] (pcs [] []) (by kernel_rfl) (by kernel_rfl) (fun K hK => ?_)) | (refine AW.condT ?_ ?_; (focus (simp [aev, hlt', hlt, strsRow, strsE_len]; done))) | (refine AW.condF ?_ ?_; (focus (simp [aev, hlt', hlt, strsRow, strsE_len]; done))) | with_reducible refine AW.block ?_ | ((first | ((first | refine arun_nil ?_ | refine arunD_nil ?_); refine hK _ ?_; clear hK K) | refine AW.skip ?_ | refine AW.exit ?_ | refine AW.ret ?_); simp only [thenA_exit, inBlockA_exit, if_true, if_false, Nat.reduceEqDiff, thenA_normal, inBlockA_normal, reduceIte, thenA_ret, inBlockA_ret, endQ_ret, endR_ret, endG_ret, endQ_normal, endR_normal, endG_normal])))
        exact ⟨.own 3 0, by simp [ares, aresL], .inr ⟨fun id => .own id 0, 3, strsRow [], rfl, by simp [upd, rowsOf_cons, strsRow], Res1.own _ _, strsE_pur _, [], by simp, rfl, rfl⟩⟩
      | cons q p =>
        have hl : 0 < p.length + 1 := by omega
        have hl' : (0 : Int) < (p.length : Int) + 1 := by omega
        have e1 : strsE (q :: p) = [.str q] :: strsE p := rfl
        simp only [List.length_cons] at h1
        (repeat (first | with_reducible refine AW.seq ?_ | ((first | refine arun_kn 4 rfl (fun C hC => ?_) | refine arunD_kn 4 rfl (fun C hC => ?_)); (repeat ((conv => whnf); simp [hlt', hlt, hl, hl', strsRow, strsE_len, e1])); refine hC _ ?_; clear hC C; simp only [List.drop, Nat.reduceAdd]) | ((first | refine arun_kn 1 rfl (fun C hC => ?_) | refine arunD_kn 1 rfl (fun C hC => ?_)); (repeat ((conv => whnf); simp [hlt', hlt, hl, hl', strsRow, strsE_len, e1])); refine hC _ ?_; clear hC C; simp only [List.drop, Nat.reduceAdd]) | (refine arun_skip ?_ ?_; (focus (simp [awant, hlt', hlt, hl, hl', strsRow, strsE_len, e1]; done))) | (refine arun_c (1) (pick_AC 20 (by omega) (by omega)) ?_; (rintro _ ⟨v, rfl, -⟩)) | (refine AW.regionK [] (fun K hK => ?_)) | (refine AW.regionDK [] (pcs [] []) (by kernel_rfl) (by kernel_rfl) (fun K hK => ?_)) | (refine AW.condT ?_ ?_; (focus (simp [aev, hlt', hlt, hl, hl', strsRow, strsE_len, e1]; done))) | (refine AW.condF ?_ ?_; (focus (simp [aev, hlt', hlt, hl, hl', strsRow, strsE_len, e1]; done))) | with_reducible refine AW.block ?_ | ((first | ((first | refine arun_nil ?_ | refine arunD_nil ?_); refine hK _ ?_; clear hK K) | refine AW.skip ?_ | refine AW.exit ?_ | refine AW.ret ?_); simp only [thenA_exit, inBlockA_exit, if_true, if_false, Nat.reduceEqDiff, thenA_normal, inBlockA_normal, reduceIte, thenA_ret, inBlockA_ret, endQ_ret, endR_ret, endG_ret, endQ_normal, endR_normal, endG_normal])))
        by_cases hv : v = 0
        · subst hv
          (repeat (first | with_reducible refine AW.seq ?_ | ((first | refine arun_kn 4 rfl (fun C hC => ?_) | refine arunD_kn 4 rfl (fun C hC => ?_)); (repeat ((conv => whnf); simp [hl, hl', strsE_len, e1])); refine hC _ ?_; clear hC C; simp only [List.drop, Nat.reduceAdd]) | ((first | refine arun_kn 1 rfl (fun C hC => ?_) | refine arunD_kn 1 rfl (fun C hC => ?_)); (repeat ((conv => whnf); simp [hl, hl', strsE_len, e1])); refine hC _ ?_; clear hC C; simp only [List.drop, Nat.reduceAdd]) | (refine arun_skip ?_ ?_; (focus (simp [awant, hl, hl', strsE_len, e1]; done))) | (refine arun_cU (1) rfl (of_ACU _ _ (by rfl) (by simp) (by simp)) ?_; (rintro _ ⟨x, -, rfl⟩)) | (refine AW.regionK [] (fun K hK => ?_)) | (refine AW.regionDK [] (pcs [] []) (by kernel_rfl) (by kernel_rfl) (fun K hK => ?_)) | (refine AW.condT ?_ ?_; (focus (simp [aev, hl, hl', strsE_len, e1]; done))) | (refine AW.condF ?_ ?_; (focus (simp [aev, hl, hl', strsE_len, e1]; done))) | with_reducible refine AW.block ?_ | ((first | ((first | refine arun_nil ?_ | refine arunD_nil ?_); refine hK _ ?_; clear hK K) | refine AW.skip ?_ | refine AW.exit ?_ | refine AW.ret ?_); simp only [thenA_exit, inBlockA_exit, if_true, if_false, Nat.reduceEqDiff, thenA_normal, inBlockA_normal, reduceIte, thenA_ret, inBlockA_ret, endQ_ret, endR_ret, endG_ret, endQ_normal, endR_normal, endG_normal])))
          exact ⟨.own 3 (p.length + 1), by simp [ares, aresL], .inr ⟨fun id => .own id (p.length + 1), 3, strsRow (x :: p), rfl, by simp [upd, rowsOf_cons, strsRow, strsE], Res1.own _ _, strsE_pur _, x :: p, by simp; omega, rfl, rfl⟩⟩
        · have hv' : (v == 0) = false := by simpa using hv
          (repeat (first | with_reducible refine AW.seq ?_ | ((first | refine arun_kn 4 rfl (fun C hC => ?_) | refine arunD_kn 4 rfl (fun C hC => ?_)); (repeat ((conv => whnf); simp [hl, hl', hv', strsE_len, e1])); refine hC _ ?_; clear hC C; simp only [List.drop, Nat.reduceAdd]) | ((first | refine arun_kn 1 rfl (fun C hC => ?_) | refine arunD_kn 1 rfl (fun C hC => ?_)); (repeat ((conv => whnf); simp [hl, hl', hv', strsE_len, e1])); refine hC _ ?_; clear hC C; simp only [List.drop, Nat.reduceAdd]) | (refine arun_skip ?_ ?_; (focus (simp [awant, hl, hl', hv', strsE_len, e1]; done))) | (refine AW.regionK [] (fun K hK => ?_)) | (refine AW.regionDK [] (pcs [] []) (by kernel_rfl) (by kernel_rfl) (fun K hK => ?_)) | (refine AW.condT ?_ ?_; (focus (simp [aev, hl, hl', hv', strsE_len, e1]; done))) | (refine AW.condF ?_ ?_; (focus (simp [aev, hl, hl', hv', strsE_len, e1]; done))) | with_reducible refine AW.block ?_ | ((first | ((first | refine arun_nil ?_ | refine arunD_nil ?_); refine hK _ ?_; clear hK K) | refine AW.skip ?_ | refine AW.exit ?_ | refine AW.ret ?_); simp only [thenA_exit, inBlockA_exit, if_true, if_false, Nat.reduceEqDiff, thenA_normal, inBlockA_normal, reduceIte, thenA_ret, inBlockA_ret, endQ_ret, endR_ret, endG_ret, endQ_normal, endR_normal, endG_normal])))
          exact ⟨.own 3 (p.length + 1), by simp [ares, aresL], .inr ⟨fun id => .own id (p.length + 1), 3, strsRow (q :: p), rfl, by simp [upd, rowsOf_cons, strsRow, strsE], Res1.own _ _, strsE_pur _, q :: p, by simp; omega, rfl, rfl⟩⟩
theorem strs_sub (p : List ByteArray) : AV.sub 0 (strsRow p).es.length (.view .loose (strsRow p).sz (strsRow p).es) (.own 0 p.length) = .view .loose 1 (strsE p) := by
  simp [AV.sub, strsRow, strsE_len]
theorem anyPath_AC : AC Try.prog 149 [.rdr] 10 rPath := by
  refine (AC.ofR anyPath_ACR ?_).mono ?_
  · rintro r R ⟨p, _, rfl, rfl⟩
    rw [strs_sub]; exact strs_in _
  · rintro r (h | ⟨f, R, ⟨p, hp, rfl, rfl⟩, rfl⟩)
    · exact h.elim
    · exact ⟨p, by omega, strs_sub p⟩
theorem pathIn_AC (n : Nd) : AC Try.prog 161 [.rdr, nodeA n] 12 rPath := by
  have p1 := specAllPaths_AC n
  have p2 := anyPath_AC
  unfold nodeA at p1 ⊢
  rw [nodeL_eq] at p1 ⊢
  refine AC.of tab_ok mixed_ok Try.func161 (by rfl) (by kernel_rfl) ?_; rintro ⟨P, T, hT, hm, w0, S0, rd0, k0⟩ hP hTT; dsimp only at hP hTT; subst hP hTT; unfold initSt; rw [Try.ntmps161]
  cases hv : validB n
  · have e : wayS n = [] := by unfold wayS; rw [hv]; rfl
    rw [e] at p1
    have hclo : Clo (.view .loose 1 (pathsE [])) := paths_clo []
    (repeat (first | with_reducible refine AW.seq ?_ | ((first | refine arun_kn 4 rfl (fun C hC => ?_) | refine arunD_kn 4 rfl (fun C hC => ?_)); (repeat ((conv => whnf); simp [pathsE_len])); refine hC _ ?_; clear hC C; simp only [List.drop, Nat.reduceAdd]) | ((first | refine arun_kn 1 rfl (fun C hC => ?_) | refine arunD_kn 1 rfl (fun C hC => ?_)); (repeat ((conv => whnf); simp [pathsE_len])); refine hC _ ?_; clear hC C; simp only [List.drop, Nat.reduceAdd]) | (refine arun_skip ?_ ?_; (focus (simp [awant, pathsE_len]; done))) | (refine arun_c0 (p1) ?_; rintro _ rfl) | (refine arun_c (10) (p2) ?_; (rintro _ ⟨p, hp, rfl⟩)) | (refine AW.regionK [] (fun K hK => ?_)) | (refine AW.regionDK [] (pcs [] []) (by kernel_rfl) (by kernel_rfl) (fun K hK => ?_)) | (refine AW.condT ?_ ?_; (focus (simp [aev, pathsE_len]; done))) | (refine AW.condF ?_ ?_; (focus (simp [aev, pathsE_len]; done))) | with_reducible refine AW.block ?_ | ((first | ((first | refine arun_nil ?_ | refine arunD_nil ?_); refine hK _ ?_; clear hK K) | refine AW.skip ?_ | refine AW.exit ?_ | refine AW.ret ?_); simp only [thenA_exit, inBlockA_exit, if_true, if_false, Nat.reduceEqDiff, thenA_normal, inBlockA_normal, reduceIte, thenA_ret, inBlockA_ret, endQ_ret, endR_ret, endG_ret, endQ_normal, endR_normal, endG_normal])))
    exact ⟨.view .loose 1 (strsE p), by simp [ares, aresL], strs_pur p (by decide), p, hp, rfl⟩
  · have e : wayS n = allS n := by unfold wayS; rw [hv]; rfl
    rw [e] at p1
    obtain ⟨hw, hd, hc⟩ := valid_way hv
    have hlen := allS_len n
    have hpos : 0 < (allS n).length := by rw [hlen, Nd.count_eq]; omega
    have hsh := allS_short n
    have hclo : Clo (.view .loose 1 (pathsE (allS n))) := paths_clo (allS n)
    generalize allS n = P at *
    have hpos' : (0 : Int) < (P.length : Int) := by omega
    (repeat (first | with_reducible refine AW.seq ?_ | ((first | refine arun_kn 4 rfl (fun C hC => ?_) | refine arunD_kn 4 rfl (fun C hC => ?_)); (repeat ((conv => whnf); simp [pathsE_len, hpos, hpos'])); refine hC _ ?_; clear hC C; simp only [List.drop, Nat.reduceAdd]) | ((first | refine arun_kn 1 rfl (fun C hC => ?_) | refine arunD_kn 1 rfl (fun C hC => ?_)); (repeat ((conv => whnf); simp [pathsE_len, hpos, hpos'])); refine hC _ ?_; clear hC C; simp only [List.drop, Nat.reduceAdd]) | (refine arun_skip ?_ ?_; (focus (simp [awant, pathsE_len, hpos, hpos']; done))) | (refine arun_c0 (p1) ?_; rintro _ rfl) | (refine arun_c (1) (pick_AC 4 (by omega) (by omega)) ?_; (rintro _ ⟨v, rfl, -⟩)) | (refine AW.regionK [] (fun K hK => ?_)) | (refine AW.regionDK [] (pcs [] []) (by kernel_rfl) (by kernel_rfl) (fun K hK => ?_)) | (refine AW.condT ?_ ?_; (focus (simp [aev, pathsE_len, hpos, hpos']; done))) | (refine AW.condF ?_ ?_; (focus (simp [aev, pathsE_len, hpos, hpos']; done))) | with_reducible refine AW.block ?_ | ((first | ((first | refine arun_nil ?_ | refine arunD_nil ?_); refine hK _ ?_; clear hK K) | refine AW.skip ?_ | refine AW.exit ?_ | refine AW.ret ?_); simp only [thenA_exit, inBlockA_exit, if_true, if_false, Nat.reduceEqDiff, thenA_normal, inBlockA_normal, reduceIte, thenA_ret, inBlockA_ret, endQ_ret, endR_ret, endG_ret, endQ_normal, endR_normal, endG_normal])))
    rcases Int.lt_or_le 0 v with h0 | h0
    · (repeat (first | with_reducible refine AW.seq ?_ | ((first | refine arun_kn 4 rfl (fun C hC => ?_) | refine arunD_kn 4 rfl (fun C hC => ?_)); (repeat ((conv => whnf); simp [pathsE_len, h0])); refine hC _ ?_; clear hC C; simp only [List.drop, Nat.reduceAdd]) | ((first | refine arun_kn 1 rfl (fun C hC => ?_) | refine arunD_kn 1 rfl (fun C hC => ?_)); (repeat ((conv => whnf); simp [pathsE_len, h0])); refine hC _ ?_; clear hC C; simp only [List.drop, Nat.reduceAdd]) | (refine arun_skip ?_ ?_; (focus (simp [awant, pathsE_len, h0]; done))) | (refine arun_c (1) (pick_AC P.length (by omega) (by omega)) ?_; (rintro _ ⟨u, rfl, hu⟩; obtain ⟨u0, u1⟩ := hu.1 (by omega); obtain ⟨k, rfl⟩ := Int.eq_ofNat_of_zero_le u0)) | (refine AW.regionK [] (fun K hK => ?_)) | (refine AW.regionDK [] (pcs [] []) (by kernel_rfl) (by kernel_rfl) (fun K hK => ?_)) | (refine AW.condT ?_ ?_; (focus (simp [aev, pathsE_len, h0]; done))) | (refine AW.condF ?_ ?_; (focus (simp [aev, pathsE_len, h0]; done))) | with_reducible refine AW.block ?_ | ((first | ((first | refine arun_nil ?_ | refine arunD_nil ?_); refine hK _ ?_; clear hK K) | refine AW.skip ?_ | refine AW.exit ?_ | refine AW.ret ?_); simp only [thenA_exit, inBlockA_exit, if_true, if_false, Nat.reduceEqDiff, thenA_normal, inBlockA_normal, reduceIte, thenA_ret, inBlockA_ret, endQ_ret, endR_ret, endG_ret, endQ_normal, endR_normal, endG_normal])))
      have hk : k < P.length := by omega
      have hpl := hsh _ (List.getElem_mem hk)
      (repeat (first | with_reducible refine AW.seq ?_ | ((first | refine arun_kn 4 rfl (fun C hC => ?_) | refine arunD_kn 4 rfl (fun C hC => ?_)); (repeat ((conv => whnf); simp [pathsE_len, hk, pathsE_get, pathsE_at])); refine hC _ ?_; clear hC C; simp only [List.drop, Nat.reduceAdd]) | ((first | refine arun_kn 1 rfl (fun C hC => ?_) | refine arunD_kn 1 rfl (fun C hC => ?_)); (repeat ((conv => whnf); simp [pathsE_len, hk, pathsE_get, pathsE_at])); refine hC _ ?_; clear hC C; simp only [List.drop, Nat.reduceAdd]) | (refine arun_skip ?_ ?_; (focus (simp [awant, pathsE_len, hk, pathsE_get, pathsE_at]; done))) | (refine AW.regionK [] (fun K hK => ?_)) | (refine AW.regionDK [] (pcs [] []) (by kernel_rfl) (by kernel_rfl) (fun K hK => ?_)) | (refine AW.condT ?_ ?_; (focus (simp [aev, pathsE_len, hk, pathsE_get, pathsE_at]; done))) | (refine AW.condF ?_ ?_; (focus (simp [aev, pathsE_len, hk, pathsE_get, pathsE_at]; done))) | with_reducible refine AW.block ?_ | ((first | ((first | refine arun_nil ?_ | refine arunD_nil ?_); refine hK _ ?_; clear hK K) | refine AW.skip ?_ | refine AW.exit ?_ | refine AW.ret ?_); simp only [thenA_exit, inBlockA_exit, if_true, if_false, Nat.reduceEqDiff, thenA_normal, inBlockA_normal, reduceIte, thenA_ret, inBlockA_ret, endQ_ret, endR_ret, endG_ret, endQ_normal, endR_normal, endG_normal])))
      exact ⟨.view .loose 1 (strsE P[k]), by simp [ares, aresL], strs_pur _ (by decide), _, by omega, rfl⟩
    · have h0' : ¬ 0 < v := by omega
      (repeat (first | with_reducible refine AW.seq ?_ | ((first | refine arun_kn 4 rfl (fun C hC => ?_) | refine arunD_kn 4 rfl (fun C hC => ?_)); (repeat ((conv => whnf); simp [pathsE_len, h0'])); refine hC _ ?_; clear hC C; simp only [List.drop, Nat.reduceAdd]) | ((first | refine arun_kn 1 rfl (fun C hC => ?_) | refine arunD_kn 1 rfl (fun C hC => ?_)); (repeat ((conv => whnf); simp [pathsE_len, h0'])); refine hC _ ?_; clear hC C; simp only [List.drop, Nat.reduceAdd]) | (refine arun_skip ?_ ?_; (focus (simp [awant, pathsE_len, h0']; done))) | (refine arun_c (10) (p2) ?_; (rintro _ ⟨p, hp, rfl⟩)) | (refine AW.regionK [] (fun K hK => ?_)) | (refine AW.regionDK [] (pcs [] []) (by kernel_rfl) (by kernel_rfl) (fun K hK => ?_)) | (refine AW.condT ?_ ?_; (focus (simp [aev, pathsE_len, h0']; done))) | (refine AW.condF ?_ ?_; (focus (simp [aev, pathsE_len, h0']; done))) | with_reducible refine AW.block ?_ | ((first | ((first | refine arun_nil ?_ | refine arunD_nil ?_); refine hK _ ?_; clear hK K) | refine AW.skip ?_ | refine AW.exit ?_ | refine AW.ret ?_); simp only [thenA_exit, inBlockA_exit, if_true, if_false, Nat.reduceEqDiff, thenA_normal, inBlockA_normal, reduceIte, thenA_ret, inBlockA_ret, endQ_ret, endR_ret, endG_ret, endQ_normal, endR_normal, endG_normal])))
      exact ⟨.view .loose 1 (strsE p), by simp [ares, aresL], strs_pur p (by decide), p, hp, rfl⟩
end Go.Proofs.Ytgfnmhfdmmnaoaa.Eng
-- EV: rows
namespace Go.Proofs.Ytgfnmhfdmmnaoaa.Eng
open Go Go.RowKit
attribute [local simp] big size_mk ASt.pay Option.map_map Function.comp_def awant aop acall ado aev ofVal ofVal0 ASt.put ASt.add ASt.turn ASt.kill abox aalloc astore aload aloadD astoreD idOf ASt.at cellsTo afieldAddr afield aindexAddr aindex alen abin aint acmp astr aun apick aextract anil aslice abound abuild afill abuildSlice asCells aps avCells over upd aappend asrc amax amin aconv mkSt slots rowsOf_cons rowsOf_nil usedOf_cons usedOf_nil ZK.av List.replicate ASt.back ASt.addL ASt.killL nodeA nodeT nodeTL_eq nodeL_eq strsE_get strsE_len intsE_get intsE_len strsE_at intsE_at nodeN namesRow nodeO kidsRow tab2 tab3 tab4 tab5 tab6 tab7 tab8 tab9 tab10 tab11 tab12 tab13 tab14 tab15 tab16 tab17 tab18 tab19 tab21 tab22 tab23 tab24 tab25 tab26 tab27 tab28 tab29 tab30 tab39 tab40 tab41 tab42 tab43 tab47 tab48 tab55 tab56 tab57 tab60 tab61 tab62 tab73 tab74 tab75 tab85 tab92 tab115 tab116 tab143 tab144 tab145 tab154 tab155 tab170 tab175 tab182 tab197 tab198 tab203 tab204 tab205 tab207 tab208 tab209
end Go.Proofs.Ytgfnmhfdmmnaoaa.Eng
-- EV: rows skip
namespace Go.Proofs.Ytgfnmhfdmmnaoaa.Eng
open Go Go.RowKit
attribute [local simp] big size_mk ASt.pay Option.map_map Function.comp_def awant aop acall ado aev ofVal ofVal0 ASt.put ASt.add ASt.turn ASt.kill abox aalloc astore aload aloadD astoreD idOf ASt.at cellsTo afieldAddr afield aindexAddr aindex alen abin aint acmp astr aun apick aextract anil aslice abound abuild afill abuildSlice asCells aps avCells over upd aappend asrc amax amin aconv mkSt slots rowsOf_cons rowsOf_nil usedOf_cons usedOf_nil ZK.av List.replicate ASt.back ASt.addL ASt.killL nodeA nodeT nodeTL_eq nodeL_eq strsE_get strsE_len intsE_get intsE_len strsE_at intsE_at nodeN namesRow nodeO kidsRow tab2 tab3 tab4 tab5 tab6 tab7 tab8 tab9 tab10 tab11 tab12 tab13 tab14 tab15 tab16 tab17 tab18 tab19 tab21 tab22 tab23 tab24 tab25 tab26 tab27 tab28 tab29 tab30 tab39 tab40 tab41 tab42 tab43 tab47 tab48 tab55 tab56 tab57 tab60 tab61 tab62 tab73 tab74 tab75 tab85 tab92 tab115 tab116 tab143 tab144 tab145 tab154 tab155 tab170 tab175 tab182 tab197 tab198 tab203 tab204 tab205 tab207 tab208 tab209
end Go.Proofs.Ytgfnmhfdmmnaoaa.Eng
-- EV: rows
namespace Go.Proofs.Ytgfnmhfdmmnaoaa.Eng
open Go Go.RowKit
attribute [local simp] big size_mk ASt.pay Option.map_map Function.comp_def awant aop acall ado aev ofVal ofVal0 ASt.put ASt.add ASt.turn ASt.kill abox aalloc astore aload aloadD astoreD idOf ASt.at cellsTo afieldAddr afield aindexAddr aindex alen abin aint acmp astr aun apick aextract anil aslice abound abuild afill abuildSlice asCells aps avCells over upd aappend asrc amax amin aconv mkSt slots rowsOf_cons rowsOf_nil usedOf_cons usedOf_nil ZK.av List.replicate ASt.back ASt.addL ASt.killL nodeA nodeT nodeTL_eq nodeL_eq strsE_get strsE_len intsE_get intsE_len strsE_at intsE_at nodeN namesRow nodeO kidsRow tab2 tab3 tab4 tab5 tab6 tab7 tab8 tab9 tab10 tab11 tab12 tab13 tab14 tab15 tab16 tab17 tab18 tab19 tab21 tab22 tab23 tab24 tab25 tab26 tab27 tab28 tab29 tab30 tab39 tab40 tab41 tab42 tab43 tab47 tab48 tab55 tab56 tab57 tab60 tab61 tab62 tab73 tab74 tab75 tab85 tab92 tab115 tab116 tab143 tab144 tab145 tab154 tab155 tab170 tab175 tab182 tab197 tab198 tab203 tab204 tab205 tab207 tab208 tab209
end Go.Proofs.Ytgfnmhfdmmnaoaa.Eng
-- EV: rows skip
namespace Go.Proofs.Ytgfnmhfdmmnaoaa.Eng
open Go Go.RowKit
attribute [local simp] big size_mk ASt.pay Option.map_map Function.comp_def awant aop acall ado aev ofVal ofVal0 ASt.put ASt.add ASt.turn ASt.kill abox aalloc astore aload aloadD astoreD idOf ASt.at cellsTo afieldAddr afield aindexAddr aindex alen abin aint acmp astr aun apick aextract anil aslice abound abuild afill abuildSlice asCells aps avCells over upd aappend asrc amax amin aconv mkSt slots rowsOf_cons rowsOf_nil usedOf_cons usedOf_nil ZK.av List.replicate ASt.back ASt.addL ASt.killL nodeA nodeT nodeTL_eq nodeL_eq strsE_get strsE_len intsE_get intsE_len strsE_at intsE_at nodeN namesRow nodeO kidsRow tab2 tab3 tab4 tab5 tab6 tab7 tab8 tab9 tab10 tab11 tab12 tab13 tab14 tab15 tab16 tab17 tab18 tab19 tab21 tab22 tab23 tab24 tab25 tab26 tab27 tab28 tab29 tab30 tab39 tab40 tab41 tab42 tab43 tab47 tab48 tab55 tab56 tab57 tab60 tab61 tab62 tab73 tab74 tab75 tab85 tab92 tab115 tab116 tab143 tab144 tab145 tab154 tab155 tab170 tab175 tab182 tab197 tab198 tab203 tab204 tab205 tab207 tab208 tab209
theorem AC.toR {P : Program} {f : FuncId} {args : List AV} {c : Nat} {Q : AV → Prop} (h : AC P f args c Q) : ACR P f args c Q (fun _ _ => False) :=
  ⟨h.1, fun w L S rb k vs h0 h1 h2 h3 => (h.2 w L S rb k vs h0 h1 h2 h3).mono fun _ _ ⟨v, r, S', k1, k2, k3, k4, k5, k6, k7⟩ => ⟨v, S', k1, k2, k3, k4, k5, .inl ⟨r, k6, k7⟩⟩⟩
end Go.Proofs.Ytgfnmhfdmmnaoaa.Eng
