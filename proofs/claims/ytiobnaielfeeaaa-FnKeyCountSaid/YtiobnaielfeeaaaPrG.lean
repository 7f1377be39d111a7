/-
  Texts of this claim, joined.
-/
import Derived.Test.YtiobnaielfeeaaaPrF

set_option linter.unusedSimpArgs false
set_option linter.unusedVariables false
set_option linter.unnecessarySimpa false
set_option maxRecDepth 100000
set_option maxHeartbeats 16000000
-- EV: store
namespace Go.Proofs.Ytiobnaielfeeaaa.Eng
open Go Go.RowKit
attribute [local simp] big size_mk ASt.pay Option.map_map Function.comp_def awant aop acall ado aev ofVal ofVal0 ASt.put ASt.add ASt.turn ASt.kill abox aalloc astore aload aloadD astoreD idOf ASt.at cellsTo afieldAddr afield aindexAddr aindex alen abin aint acmp astr aun apick aextract anil aslice abound abuild afill abuildSlice asCells aps avCells over upd aappend asrc amax amin aconv mkSt slots rowsOf_cons rowsOf_nil usedOf_cons usedOf_nil ZK.av List.replicate ASt.back ASt.addL ASt.killL nodeA nodeT nodeTL_eq nodeL_eq strsE_get strsE_len intsE_get intsE_len strsE_at intsE_at itemA itemL_eq storeA storeT storeO itemsRow tab2 tab3 tab4 tab5 tab6 tab7 tab8 tab9 tab10 tab11 tab12 tab13 tab14 tab15 tab16 tab17 tab18 tab19 tab21 tab22 tab23 tab24 tab25 tab26 tab27 tab28 tab29 tab30 tab48 tab51 tab52 tab59 tab77 tab78 tab79 tab91 tab95 tab96 tab97 tab109 tab116 tab132 tab133 tab138 tab139 tab144 tab145 tab146 tab148 tab149 tab150
theorem copyStore_ACR (t : VC) (s : Sto) (hs : SmlS s) : ACR Try.prog 137 [storeT t s] 0 (fun _ => False) (fun f R => f = storeO s ∧ R = itemsRow s) := by
  obtain ⟨hs1, hs2⟩ := hs
  unfold storeT
  refine ACR.of tab_ok mixed_ok Try.func137 (by rfl) (by kernel_rfl) ?_; rintro ⟨P, T, hT, hm, w0, S0, rd0, k0⟩ hP hTT; dsimp only at hP hTT; subst hP hTT; unfold initSt; rw [Try.ntmps137]
  (repeat (first | with_reducible refine AW.seq ?_ | ((first | refine arun_kn 4 rfl (fun C hC => ?_) | refine arunD_kn 4 rfl (fun C hC => ?_)); (repeat ((conv => whnf); simp)); refine hC _ ?_; clear hC C; simp only [List.drop, Nat.reduceAdd]) | ((first | refine arun_kn 1 rfl (fun C hC => ?_) | refine arunD_kn 1 rfl (fun C hC => ?_)); (repeat ((conv => whnf); simp)); refine hC _ ?_; clear hC C; simp only [List.drop, Nat.reduceAdd]) | (refine arun_skip ?_ ?_; (focus (simp [awant]; done))) | (refine AW.regionK [] (fun K hK => ?_)) | (refine AW.regionDK [] (pcs [] []) (by kernel_rfl) (by kernel_rfl) (fun K hK => ?_)) | (refine AW.condT ?_ ?_; (focus (simp [aev]; done))) | (refine AW.condF ?_ ?_; (focus (simp [aev]; done))) | with_reducible refine AW.block ?_ | ((first | ((first | refine arun_nil ?_ | refine arunD_nil ?_); refine hK _ ?_; clear hK K) | refine AW.skip ?_ | refine AW.exit ?_ | refine AW.ret ?_); simp only [thenA_exit, inBlockA_exit, if_true, if_false, Nat.reduceEqDiff, thenA_normal, inBlockA_normal, reduceIte, thenA_ret, inBlockA_ret, endQ_ret, endR_ret, endG_ret, endQ_normal, endR_normal, endG_normal])))
  refine AW.adopt 3 3 133 7 ⟨_, tab133, rfl⟩ rfl (by simp [upd]) ?_
  simp only [ASt.adopt, ASt.add]
  refine AW.loopS (fun (i : Nat) => mkSt (slots 0 40 [(1, .ptr true 2 1 1 0 0), (2, .ptr true 2 1 2 0 0), (3, .own 3 i), (4, .int .i64 i)]) [(1, ⟨true, 97, 2, [[.view t 7 (s.1.map itemL), .int .i64 s.2]]⟩), (2, ⟨true, 97, 2, [[.view .tight 0 [], .int .i64 0]]⟩), (3, ⟨false, 133, 7, (s.1.map itemL).take i⟩)] [1, 2, 3] (rd0.map fun _ => 0)) (fun i => s.1.length - i) (fun i => i ≤ s.1.length) 0 ?_ (Nat.zero_le _) ?_
  · exact less_s
  · intro i hi
    have hl : ((s.1.map itemL).take i).length = i := by rw [List.length_take, List.length_map]; omega
    by_cases hlt : i < s.1.length
    · have hw : IntKind.i64.wrap ((i : Int) + 1) = (i : Int) + 1 := i64_nat (by omega) (by omega)
      have hsx := hs2 s.1[i] (List.getElem_mem hlt)
      have htk : (s.1.map itemL).take (i + 1) = (s.1.map itemL).take i ++ [itemL s.1[i]] := by
        rw [List.take_add_one, List.getElem?_map, List.getElem?_eq_getElem hlt]; rfl
      have hb1 : (i + 1) * 104 ≤ 140737488355328 := by omega
      have hb2 : i + 1 ≤ 140737488355328 := by omega
      (repeat (first | with_reducible refine AW.seq ?_ | ((first | refine arun_kn 4 rfl (fun C hC => ?_) | refine arunD_kn 4 rfl (fun C hC => ?_)); (repeat ((conv => whnf); simp [hlt, hw, hl, hb1, hb2])); refine hC _ ?_; clear hC C; simp only [List.drop, Nat.reduceAdd]) | ((first | refine arun_kn 1 rfl (fun C hC => ?_) | refine arunD_kn 1 rfl (fun C hC => ?_)); (repeat ((conv => whnf); simp [hlt, hw, hl, hb1, hb2])); refine hC _ ?_; clear hC C; simp only [List.drop, Nat.reduceAdd]) | (refine arun_skip ?_ ?_; (focus (simp [awant, hlt, hw, hl, hb1, hb2]; done))) | (refine arun_c0 (copyNode_AC s.1[i].2.2 hsx .loose) ?_; rintro _ rfl) | (refine arunD_c (0) (copyNode_AC s.1[i].2.2 hsx .loose) ?_; rintro _ rfl; intro _) | (refine AW.regionK [] (fun K hK => ?_)) | (refine AW.regionDK [] (pcs [(19, 0, fun r => r = nodeA s.1[i].2.2)] []) (by kernel_rfl) (by kernel_rfl) (fun K hK => ?_)) | (refine AW.condT ?_ ?_; (focus (simp [aev, hlt, hw, hl, hb1, hb2]; done))) | (refine AW.condF ?_ ?_; (focus (simp [aev, hlt, hw, hl, hb1, hb2]; done))) | with_reducible refine AW.block ?_ | ((first | ((first | refine arun_nil ?_ | refine arunD_nil ?_); refine hK _ ?_; clear hK K) | refine AW.skip ?_ | refine AW.exit ?_ | refine AW.ret ?_); simp only [thenA_exit, inBlockA_exit, if_true, if_false, Nat.reduceEqDiff, thenA_normal, inBlockA_normal, reduceIte, thenA_ret, inBlockA_ret, endQ_ret, endR_ret, endG_ret, endQ_normal, endR_normal, endG_normal])))
      refine ⟨i + 1, by omega, by omega, ?_⟩
      have hin : ∀ U : Nat → Bool, ∀ e ∈ (s.1.map itemL).take (i + 1), ∀ c ∈ e, AV.In U c := fun U e he => itemsE_in s.1 e (List.mem_of_mem_take he)
      rw [htk] at hin ⊢
      exact less_s
    · obtain rfl : i = s.1.length := by omega
      have hall : (s.1.map itemL).take s.1.length = s.1.map itemL := by rw [List.take_of_length_le (by rw [List.length_map]; omega)]
      rw [hall]
      (repeat (first | with_reducible refine AW.seq ?_ | ((first | refine arun_kn 4 rfl (fun C hC => ?_) | refine arunD_kn 4 rfl (fun C hC => ?_)); (repeat ((conv => whnf); simp)); refine hC _ ?_; clear hC C; simp only [List.drop, Nat.reduceAdd]) | ((first | refine arun_kn 1 rfl (fun C hC => ?_) | refine arunD_kn 1 rfl (fun C hC => ?_)); (repeat ((conv => whnf); simp)); refine hC _ ?_; clear hC C; simp only [List.drop, Nat.reduceAdd]) | (refine arun_skip ?_ ?_; (focus (simp [awant]; done))) | (refine AW.regionK [] (fun K hK => ?_)) | (refine AW.regionDK [] (pcs [] []) (by kernel_rfl) (by kernel_rfl) (fun K hK => ?_)) | (refine AW.condT ?_ ?_; (focus (simp [aev]; done))) | (refine AW.condF ?_ ?_; (focus (simp [aev]; done))) | with_reducible refine AW.block ?_ | ((first | ((first | refine arun_nil ?_ | refine arunD_nil ?_); refine hK _ ?_; clear hK K) | refine AW.skip ?_ | refine AW.exit ?_ | refine AW.ret ?_); simp only [thenA_exit, inBlockA_exit, if_true, if_false, Nat.reduceEqDiff, thenA_normal, inBlockA_normal, reduceIte, thenA_ret, inBlockA_ret, endQ_ret, endR_ret, endG_ret, endQ_normal, endR_normal, endG_normal])))
      exact ⟨storeO s 3, by simp [ares, aresL, upd, rowsOf_cons], .inr ⟨storeO s, 3, itemsRow s, rfl, by simp [upd, rowsOf_cons, itemsRow], storeO_res s 3, itemsE_pur _, rfl, rfl⟩⟩
theorem copyStore_AC (t : VC) (s : Sto) (hs : SmlS s) : AC Try.prog 137 [storeT t s] 0 (fun r => r = storeA s) :=
  (AC.ofS (p := fun s' => s' = s) ((copyStore_ACR t s hs).mono (fun _ h => h) (fun r o ⟨h1, h2⟩ => ⟨s, rfl, h1, h2⟩))).mono (fun r ⟨s', h, e⟩ => by rw [e, h])
def findF (nm : ByteArray) : List Itm → Nat → Int
  | [], _ => -1
  | x :: l, k => if eqs x.1 nm then k else findF nm l (k + 1)
def findI (s : Sto) (nm : ByteArray) : Int := findF nm s.1 0
theorem find_AC (t : VC) (s : Sto) (nm : ByteArray) (hs : s.1.length ≤ 1000000) : AC Try.prog 133 [storeT t s, .str nm] 0 (fun r => r = .int .i64 (findI s nm)) := by
  unfold storeT
  refine AC.of tab_ok mixed_ok Try.func133 (by rfl) (by kernel_rfl) ?_; rintro ⟨P, T, hT, hm, w0, S0, rd0, k0⟩ hP hTT; dsimp only at hP hTT; subst hP hTT; unfold initSt; rw [Try.ntmps133]
  (repeat (first | with_reducible refine AW.seq ?_ | ((first | refine arun_kn 4 rfl (fun C hC => ?_) | refine arunD_kn 4 rfl (fun C hC => ?_)); (repeat ((conv => whnf); simp)); refine hC _ ?_; clear hC C; simp only [List.drop, Nat.reduceAdd]) | ((first | refine arun_kn 1 rfl (fun C hC => ?_) | refine arunD_kn 1 rfl (fun C hC => ?_)); (repeat ((conv => whnf); simp)); refine hC _ ?_; clear hC C; simp only [List.drop, Nat.reduceAdd]) | (refine arun_skip ?_ ?_; (focus (simp [awant]; done))) | (refine AW.regionK [] (fun K hK => ?_)) | (refine AW.regionDK [] (pcs [] []) (by kernel_rfl) (by kernel_rfl) (fun K hK => ?_)) | (refine AW.condT ?_ ?_; (focus (simp [aev]; done))) | (refine AW.condF ?_ ?_; (focus (simp [aev]; done))) | with_reducible refine AW.block ?_ | ((first | ((first | refine arun_nil ?_ | refine arunD_nil ?_); refine hK _ ?_; clear hK K) | refine AW.skip ?_ | refine AW.exit ?_ | refine AW.ret ?_); simp only [thenA_exit, inBlockA_exit, if_true, if_false, Nat.reduceEqDiff, thenA_normal, inBlockA_normal, reduceIte, thenA_ret, inBlockA_ret, endQ_ret, endR_ret, endG_ret, endQ_normal, endR_normal, endG_normal])))
  refine AW.loopS (fun (i : Nat) => mkSt (slots 0 22 [(1, .str nm), (2, .ptr true 2 1 2 0 0), (5, .int .i64 i)]) [(2, ⟨true, 97, 2, [[.view t 7 (s.1.map itemL), .int .i64 s.2]]⟩)] [2] (rd0.map fun _ => 0)) (fun i => s.1.length - i) (fun i => i ≤ s.1.length ∧ findI s nm = findF nm (s.1.drop i) i) 0 ?_ ⟨Nat.zero_le _, rfl⟩ ?_
  · exact less_s
  · rintro i ⟨hi, hf⟩
    by_cases hlt : i < s.1.length
    · have hw : IntKind.i64.wrap ((i : Int) + 1) = (i : Int) + 1 := i64_nat (by omega) (by omega)
      have hd : s.1.drop i = s.1[i] :: s.1.drop (i + 1) := List.drop_eq_getElem_cons hlt
      rw [hd, findF] at hf
      cases hb : eqs s.1[i].1 nm
      · rw [hb] at hf
        (repeat (first | with_reducible refine AW.seq ?_ | ((first | refine arun_kn 4 rfl (fun C hC => ?_) | refine arunD_kn 4 rfl (fun C hC => ?_)); (repeat ((conv => whnf); simp [hlt, hw, hb])); refine hC _ ?_; clear hC C; simp only [List.drop, Nat.reduceAdd]) | ((first | refine arun_kn 1 rfl (fun C hC => ?_) | refine arunD_kn 1 rfl (fun C hC => ?_)); (repeat ((conv => whnf); simp [hlt, hw, hb])); refine hC _ ?_; clear hC C; simp only [List.drop, Nat.reduceAdd]) | (refine arun_skip ?_ ?_; (focus (simp [awant, hlt, hw, hb]; done))) | (refine AW.regionK [] (fun K hK => ?_)) | (refine AW.regionDK [] (pcs [] []) (by kernel_rfl) (by kernel_rfl) (fun K hK => ?_)) | (refine AW.condT ?_ ?_; (focus (simp [aev, hlt, hw, hb]; done))) | (refine AW.condF ?_ ?_; (focus (simp [aev, hlt, hw, hb]; done))) | with_reducible refine AW.block ?_ | ((first | ((first | refine arun_nil ?_ | refine arunD_nil ?_); refine hK _ ?_; clear hK K) | refine AW.skip ?_ | refine AW.exit ?_ | refine AW.ret ?_); simp only [thenA_exit, inBlockA_exit, if_true, if_false, Nat.reduceEqDiff, thenA_normal, inBlockA_normal, reduceIte, thenA_ret, inBlockA_ret, endQ_ret, endR_ret, endG_ret, endQ_normal, endR_normal, endG_normal])))
        exact ⟨i + 1, by omega, ⟨by omega, hf⟩, less_s⟩
      · rw [hb] at hf
        (repeat (first | with_reducible refine AW.seq ?_ | ((first | refine arun_kn 4 rfl (fun C hC => ?_) | refine arunD_kn 4 rfl (fun C hC => ?_)); (repeat ((conv => whnf); simp [hlt, hw, hb])); refine hC _ ?_; clear hC C; simp only [List.drop, Nat.reduceAdd]) | ((first | refine arun_kn 1 rfl (fun C hC => ?_) | refine arunD_kn 1 rfl (fun C hC => ?_)); (repeat ((conv => whnf); simp [hlt, hw, hb])); refine hC _ ?_; clear hC C; simp only [List.drop, Nat.reduceAdd]) | (refine arun_skip ?_ ?_; (focus (simp [awant, hlt, hw, hb]; done))) | (refine AW.regionK [] (fun K hK => ?_)) | (refine AW.regionDK [] (pcs [] []) (by kernel_rfl) (by kernel_rfl) (fun K hK => ?_)) | (refine AW.condT ?_ ?_; (focus (simp [aev, hlt, hw, hb]; done))) | (refine AW.condF ?_ ?_; (focus (simp [aev, hlt, hw, hb]; done))) | with_reducible refine AW.block ?_ | ((first | ((first | refine arun_nil ?_ | refine arunD_nil ?_); refine hK _ ?_; clear hK K) | refine AW.skip ?_ | refine AW.exit ?_ | refine AW.ret ?_); simp only [thenA_exit, inBlockA_exit, if_true, if_false, Nat.reduceEqDiff, thenA_normal, inBlockA_normal, reduceIte, thenA_ret, inBlockA_ret, endQ_ret, endR_ret, endG_ret, endQ_normal, endR_normal, endG_normal])))
        refine ⟨.int .i64 i, by simp [ares, aresL], pur_int, by rw [hf]; rfl⟩
    · have hi' : s.1.drop i = [] := List.drop_eq_nil_of_le (by omega)
      rw [hi', findF] at hf
      (repeat (first | with_reducible refine AW.seq ?_ | ((first | refine arun_kn 4 rfl (fun C hC => ?_) | refine arunD_kn 4 rfl (fun C hC => ?_)); (repeat ((conv => whnf); simp [hlt])); refine hC _ ?_; clear hC C; simp only [List.drop, Nat.reduceAdd]) | ((first | refine arun_kn 1 rfl (fun C hC => ?_) | refine arunD_kn 1 rfl (fun C hC => ?_)); (repeat ((conv => whnf); simp [hlt])); refine hC _ ?_; clear hC C; simp only [List.drop, Nat.reduceAdd]) | (refine arun_skip ?_ ?_; (focus (simp [awant, hlt]; done))) | (refine AW.regionK [] (fun K hK => ?_)) | (refine AW.regionDK [] (pcs [] []) (by kernel_rfl) (by kernel_rfl) (fun K hK => ?_)) | (refine AW.condT ?_ ?_; (focus (simp [aev, hlt]; done))) | (refine AW.condF ?_ ?_; (focus (simp [aev, hlt]; done))) | with_reducible refine AW.block ?_ | ((first | ((first | refine arun_nil ?_ | refine arunD_nil ?_); refine hK _ ?_; clear hK K) | refine AW.skip ?_ | refine AW.exit ?_ | refine AW.ret ?_); simp only [thenA_exit, inBlockA_exit, if_true, if_false, Nat.reduceEqDiff, thenA_normal, inBlockA_normal, reduceIte, thenA_ret, inBlockA_ret, endQ_ret, endR_ret, endG_ret, endQ_normal, endR_normal, endG_normal])))
      exact ⟨.int .i64 (-1), by simp [ares, aresL], pur_int, by rw [hf]⟩
end Go.Proofs.Ytiobnaielfeeaaa.Eng
-- EV: store
namespace Go.Proofs.Ytiobnaielfeeaaa.Eng
open Go Go.RowKit
attribute [local simp] big size_mk ASt.pay Option.map_map Function.comp_def awant aop acall ado aev ofVal ofVal0 ASt.put ASt.add ASt.turn ASt.kill abox aalloc astore aload aloadD astoreD idOf ASt.at cellsTo afieldAddr afield aindexAddr aindex alen abin aint acmp astr aun apick aextract anil aslice abound abuild afill abuildSlice asCells aps avCells over upd aappend asrc amax amin aconv mkSt slots rowsOf_cons rowsOf_nil usedOf_cons usedOf_nil ZK.av List.replicate ASt.back ASt.addL ASt.killL nodeA nodeT nodeTL_eq nodeL_eq strsE_get strsE_len intsE_get intsE_len strsE_at intsE_at itemA itemL_eq storeA storeT storeO itemsRow tab2 tab3 tab4 tab5 tab6 tab7 tab8 tab9 tab10 tab11 tab12 tab13 tab14 tab15 tab16 tab17 tab18 tab19 tab21 tab22 tab23 tab24 tab25 tab26 tab27 tab28 tab29 tab30 tab48 tab51 tab52 tab59 tab77 tab78 tab79 tab91 tab95 tab96 tab97 tab109 tab116 tab132 tab133 tab138 tab139 tab144 tab145 tab146 tab148 tab149 tab150
def putL (nm : ByteArray) (nx : Itm) : Bool → List Itm → List Itm
  | d, [] => if d then [] else [nx]
  | d, x :: l => (if !d && !(lts x.1 nm) then [nx] else []) ++ (if eqs x.1 nm then [] else [x]) ++ putL nm nx (d || !(lts x.1 nm)) l
def putS (s : Sto) (nm : ByteArray) (n : Nd) : Sto := (putL nm (nm, s.2 + 1, n) false s.1, s.2 + 1)
theorem putL_len (nm : ByteArray) (nx : Itm) : ∀ (d : Bool) (l : List Itm), (putL nm nx d l).length ≤ l.length + (if d then 0 else 1)
  | d, [] => by unfold putL; cases d <;> simp
  | d, x :: l => by
    unfold putL
    have := putL_len nm nx (d || !(lts x.1 nm)) l
    simp only [List.length_append, List.length_cons]
    cases h : (d || !(lts x.1 nm)) <;> rw [h] at this <;> generalize (putL nm nx _ l).length = k at *
    all_goals revert h
    all_goals
      cases d <;> cases lts x.1 nm <;> cases eqs x.1 nm <;> simp at this ⊢ <;> omega
theorem put_ACR (t t' : VC) (s : Sto) (nm : ByteArray) (n : Nd) (hs : SmlS s) (hn : Sml n) (hc : 0 ≤ s.2 ∧ s.2 ≤ 1000000) : ACR Try.prog 132 [storeT t s, .str nm, nodeT t' n] 0 (fun _ => False) (fun f R => f = storeO (putS s nm n) ∧ R = itemsRow (putS s nm n)) := by
  obtain ⟨hs1, hs2⟩ := id hs
  have hw0 : IntKind.i64.wrap (s.2 + 1) = s.2 + 1 := i64_nat (by omega) (by omega)
  unfold storeT
  refine ACR.of tab_ok mixed_ok Try.func132 (by rfl) (by kernel_rfl) ?_; rintro ⟨P, T, hT, hm, w0, S0, rd0, k0⟩ hP hTT; dsimp only at hP hTT; subst hP hTT; unfold initSt; rw [Try.ntmps132]
  (repeat (first | with_reducible refine AW.seq ?_ | ((first | refine arun_kn 4 rfl (fun C hC => ?_) | refine arunD_kn 4 rfl (fun C hC => ?_)); (repeat ((conv => whnf); simp [hw0])); refine hC _ ?_; clear hC C; simp only [List.drop, Nat.reduceAdd]) | ((first | refine arun_kn 1 rfl (fun C hC => ?_) | refine arunD_kn 1 rfl (fun C hC => ?_)); (repeat ((conv => whnf); simp [hw0])); refine hC _ ?_; clear hC C; simp only [List.drop, Nat.reduceAdd]) | (refine arun_skip ?_ ?_; (focus (simp [awant, hw0]; done))) | (refine arun_c0 (copyNode_AC n hn t') ?_; rintro _ rfl) | (refine arun_c0 (copyStore_AC t s hs) ?_; rintro _ rfl) | (refine arunD_c (0) (copyNode_AC n hn t') ?_; rintro _ rfl; intro _) | (refine arunD_c (0) (copyStore_AC t s hs) ?_; rintro _ rfl; intro _) | (refine AW.regionK [] (fun K hK => ?_)) | (refine AW.regionDK [] (pcs [(5, 0, fun r => r = nodeA n)] []) (by kernel_rfl) (by kernel_rfl) (fun K hK => ?_)) | (refine AW.condT ?_ ?_; (focus (simp [aev, hw0]; done))) | (refine AW.condF ?_ ?_; (focus (simp [aev, hw0]; done))) | with_reducible refine AW.block ?_ | ((first | ((first | refine arun_nil ?_ | refine arunD_nil ?_); refine hK _ ?_; clear hK K) | refine AW.skip ?_ | refine AW.exit ?_ | refine AW.ret ?_); simp only [thenA_exit, inBlockA_exit, if_true, if_false, Nat.reduceEqDiff, thenA_normal, inBlockA_normal, reduceIte, thenA_ret, inBlockA_ret, endQ_ret, endR_ret, endG_ret, endQ_normal, endR_normal, endG_normal])))
  refine AW.adopt 7 7 133 7 ⟨_, tab133, rfl⟩ rfl (by simp [upd]) ?_
  simp only [ASt.adopt, ASt.add]
  generalize hnx : (nm, s.2 + 1, n) = nx
  have hnx' : itemL nx = .str nm :: .int .i64 (s.2 + 1) :: nodeL n := by subst hnx; rfl
  rw [nodeL_eq] at hnx'
  have hsx : nx.1 = nm := by subst hnx; rfl
  refine AW.loopS (fun (x : Nat × List Itm × Bool) => mkSt (slots 0 69 [(1, .str nm), (3, .ptr true 2 1 3 0 0), (6, .ptr true 2 1 6 0 0), (7, .own 7 x.2.1.length), (8, .ptr true 7 1 8 0 0), (9, .view .loose 7 (s.1.map itemL)), (10, .bool x.2.2), (11, .int .i64 x.1)]) [(3, ⟨true, 97, 2, [[.view t 7 (s.1.map itemL), .int .i64 s.2]]⟩), (6, ⟨true, 97, 2, [[.view .tight 0 [], .int .i64 0]]⟩), (8, ⟨true, 133, 7, [itemL nx]⟩), (7, ⟨false, 133, 7, x.2.1.map itemL⟩)] [3, 6, 7, 8] (rd0.map fun _ => 0)) (fun x => s.1.length - x.1) (fun x => x.1 ≤ s.1.length ∧ putL nm nx false s.1 = x.2.1 ++ putL nm nx x.2.2 (s.1.drop x.1) ∧ x.2.1.length ≤ 1001) (0, [], false) ?_ ⟨Nat.zero_le _, rfl, by simp⟩ ?_
  · dsimp only [List.map_nil, List.length_nil]
    rw [hnx']
    exact less_s
  · rintro ⟨i, acc, d⟩ ⟨hi, hf, ha⟩
    dsimp only at hi hf ha ⊢
    have hl : (acc.map itemL).length = acc.length := List.length_map _
    have hb1 : (acc.length + 1) * 104 ≤ 140737488355328 := by omega
    have hb2 : acc.length + 1 ≤ 140737488355328 := by omega
    have hb3 : (acc.length + 2) * 104 ≤ 140737488355328 := by clear hb1 hb2; omega
    have hb4 : acc.length + 2 ≤ 140737488355328 := by clear hb1 hb2 hb3; omega
    have hpl := putL_len nm nx false s.1
    rw [hf, List.length_append] at hpl
    by_cases hlt : i < s.1.length
    · have hw : IntKind.i64.wrap ((i : Int) + 1) = (i : Int) + 1 := i64_nat (by omega) (by omega)
      have hd : s.1.drop i = s.1[i] :: s.1.drop (i + 1) := List.drop_eq_getElem_cons hlt
      rw [hd, putL] at hf hpl
      rw [hnx']
      cases d <;> cases h1 : lts s.1[i].1 nm <;> cases h2 : eqs s.1[i].1 nm <;> rw [h1, h2] at hf hpl
      all_goals
        simp only [Bool.not_false, Bool.not_true, Bool.false_and, Bool.and_true, Bool.and_self, Bool.true_and, Bool.and_false, Bool.or_false, Bool.or_true, Bool.true_or, Bool.or_self, Bool.false_or, if_true, if_false, Bool.false_eq_true, List.nil_append, List.append_nil, reduceIte] at hf hpl
      · (repeat (first | with_reducible refine AW.seq ?_ | ((first | refine arun_kn 4 rfl (fun C hC => ?_) | refine arunD_kn 4 rfl (fun C hC => ?_)); (repeat ((conv => whnf); simp [hlt, hw, hw0, h1, h2, hl, hb1, hb2, hb3, hb4, List.length_append])); refine hC _ ?_; clear hC C; simp only [List.drop, Nat.reduceAdd]) | ((first | refine arun_kn 1 rfl (fun C hC => ?_) | refine arunD_kn 1 rfl (fun C hC => ?_)); (repeat ((conv => whnf); simp [hlt, hw, hw0, h1, h2, hl, hb1, hb2, hb3, hb4, List.length_append])); refine hC _ ?_; clear hC C; simp only [List.drop, Nat.reduceAdd]) | (refine arun_skip ?_ ?_; (focus (simp [awant, hlt, hw, hw0, h1, h2, hl, hb1, hb2, hb3, hb4, List.length_append]; done))) | (refine AW.regionK [] (fun K hK => ?_)) | (refine AW.regionDK [] (pcs [] []) (by kernel_rfl) (by kernel_rfl) (fun K hK => ?_)) | (refine AW.condT ?_ ?_; (focus (simp [aev, hlt, hw, hw0, h1, h2, hl, hb1, hb2, hb3, hb4, List.length_append]; done))) | (refine AW.condF ?_ ?_; (focus (simp [aev, hlt, hw, hw0, h1, h2, hl, hb1, hb2, hb3, hb4, List.length_append]; done))) | with_reducible refine AW.block ?_ | ((first | ((first | refine arun_nil ?_ | refine arunD_nil ?_); refine hK _ ?_; clear hK K) | refine AW.skip ?_ | refine AW.exit ?_ | refine AW.ret ?_); simp only [thenA_exit, inBlockA_exit, if_true, if_false, Nat.reduceEqDiff, thenA_normal, inBlockA_normal, reduceIte, thenA_ret, inBlockA_ret, endQ_ret, endR_ret, endG_ret, endQ_normal, endR_normal, endG_normal])))
        refine ⟨(i + 1, acc ++ [nx, s.1[i]], true), by dsimp only; omega, ⟨by dsimp only; omega, by rw [hf] <;> simp, by simp only [List.length_append, List.length_cons, List.length_nil] at hpl ⊢; omega⟩, ?_⟩
        simp only [List.map_append, List.map_cons, List.map_nil, List.length_append, List.length_cons, List.length_nil]
        rw [itemL_eq nx] at hnx'
        subst hnx
        exact less_s
      · (repeat (first | with_reducible refine AW.seq ?_ | ((first | refine arun_kn 4 rfl (fun C hC => ?_) | refine arunD_kn 4 rfl (fun C hC => ?_)); (repeat ((conv => whnf); simp [hlt, hw, hw0, h1, h2, hl, hb1, hb2, hb3, hb4, List.length_append])); refine hC _ ?_; clear hC C; simp only [List.drop, Nat.reduceAdd]) | ((first | refine arun_kn 1 rfl (fun C hC => ?_) | refine arunD_kn 1 rfl (fun C hC => ?_)); (repeat ((conv => whnf); simp [hlt, hw, hw0, h1, h2, hl, hb1, hb2, hb3, hb4, List.length_append])); refine hC _ ?_; clear hC C; simp only [List.drop, Nat.reduceAdd]) | (refine arun_skip ?_ ?_; (focus (simp [awant, hlt, hw, hw0, h1, h2, hl, hb1, hb2, hb3, hb4, List.length_append]; done))) | (refine AW.regionK [] (fun K hK => ?_)) | (refine AW.regionDK [] (pcs [] []) (by kernel_rfl) (by kernel_rfl) (fun K hK => ?_)) | (refine AW.condT ?_ ?_; (focus (simp [aev, hlt, hw, hw0, h1, h2, hl, hb1, hb2, hb3, hb4, List.length_append]; done))) | (refine AW.condF ?_ ?_; (focus (simp [aev, hlt, hw, hw0, h1, h2, hl, hb1, hb2, hb3, hb4, List.length_append]; done))) | with_reducible refine AW.block ?_ | ((first | ((first | refine arun_nil ?_ | refine arunD_nil ?_); refine hK _ ?_; clear hK K) | refine AW.skip ?_ | refine AW.exit ?_ | refine AW.ret ?_); simp only [thenA_exit, inBlockA_exit, if_true, if_false, Nat.reduceEqDiff, thenA_normal, inBlockA_normal, reduceIte, thenA_ret, inBlockA_ret, endQ_ret, endR_ret, endG_ret, endQ_normal, endR_normal, endG_normal])))
        refine ⟨(i + 1, acc ++ [nx], true), by dsimp only; omega, ⟨by dsimp only; omega, by rw [hf] <;> simp, by simp only [List.length_append, List.length_cons, List.length_nil] at hpl ⊢; omega⟩, ?_⟩
        simp only [List.map_append, List.map_cons, List.map_nil, List.length_append, List.length_cons, List.length_nil]
        rw [itemL_eq nx] at hnx'
        subst hnx
        exact less_s
      · (repeat (first | with_reducible refine AW.seq ?_ | ((first | refine arun_kn 4 rfl (fun C hC => ?_) | refine arunD_kn 4 rfl (fun C hC => ?_)); (repeat ((conv => whnf); simp [hlt, hw, hw0, h1, h2, hl, hb1, hb2, hb3, hb4, List.length_append])); refine hC _ ?_; clear hC C; simp only [List.drop, Nat.reduceAdd]) | ((first | refine arun_kn 1 rfl (fun C hC => ?_) | refine arunD_kn 1 rfl (fun C hC => ?_)); (repeat ((conv => whnf); simp [hlt, hw, hw0, h1, h2, hl, hb1, hb2, hb3, hb4, List.length_append])); refine hC _ ?_; clear hC C; simp only [List.drop, Nat.reduceAdd]) | (refine arun_skip ?_ ?_; (focus (simp [awant, hlt, hw, hw0, h1, h2, hl, hb1, hb2, hb3, hb4, List.length_append]; done))) | (refine AW.regionK [] (fun K hK => ?_)) | (refine AW.regionDK [] (pcs [] []) (by kernel_rfl) (by kernel_rfl) (fun K hK => ?_)) | (refine AW.condT ?_ ?_; (focus (simp [aev, hlt, hw, hw0, h1, h2, hl, hb1, hb2, hb3, hb4, List.length_append]; done))) | (refine AW.condF ?_ ?_; (focus (simp [aev, hlt, hw, hw0, h1, h2, hl, hb1, hb2, hb3, hb4, List.length_append]; done))) | with_reducible refine AW.block ?_ | ((first | ((first | refine arun_nil ?_ | refine arunD_nil ?_); refine hK _ ?_; clear hK K) | refine AW.skip ?_ | refine AW.exit ?_ | refine AW.ret ?_); simp only [thenA_exit, inBlockA_exit, if_true, if_false, Nat.reduceEqDiff, thenA_normal, inBlockA_normal, reduceIte, thenA_ret, inBlockA_ret, endQ_ret, endR_ret, endG_ret, endQ_normal, endR_normal, endG_normal])))
        refine ⟨(i + 1, acc ++ [s.1[i]], false), by dsimp only; omega, ⟨by dsimp only; omega, by rw [hf] <;> simp, by simp only [List.length_append, List.length_cons, List.length_nil] at hpl ⊢; omega⟩, ?_⟩
        simp only [List.map_append, List.map_cons, List.map_nil, List.length_append, List.length_cons, List.length_nil]
        rw [itemL_eq nx] at hnx'
        subst hnx
        exact less_s
      · (repeat (first | with_reducible refine AW.seq ?_ | ((first | refine arun_kn 4 rfl (fun C hC => ?_) | refine arunD_kn 4 rfl (fun C hC => ?_)); (repeat ((conv => whnf); simp [hlt, hw, hw0, h1, h2, hl, hb1, hb2, hb3, hb4, List.length_append])); refine hC _ ?_; clear hC C; simp only [List.drop, Nat.reduceAdd]) | ((first | refine arun_kn 1 rfl (fun C hC => ?_) | refine arunD_kn 1 rfl (fun C hC => ?_)); (repeat ((conv => whnf); simp [hlt, hw, hw0, h1, h2, hl, hb1, hb2, hb3, hb4, List.length_append])); refine hC _ ?_; clear hC C; simp only [List.drop, Nat.reduceAdd]) | (refine arun_skip ?_ ?_; (focus (simp [awant, hlt, hw, hw0, h1, h2, hl, hb1, hb2, hb3, hb4, List.length_append]; done))) | (refine AW.regionK [] (fun K hK => ?_)) | (refine AW.regionDK [] (pcs [] []) (by kernel_rfl) (by kernel_rfl) (fun K hK => ?_)) | (refine AW.condT ?_ ?_; (focus (simp [aev, hlt, hw, hw0, h1, h2, hl, hb1, hb2, hb3, hb4, List.length_append]; done))) | (refine AW.condF ?_ ?_; (focus (simp [aev, hlt, hw, hw0, h1, h2, hl, hb1, hb2, hb3, hb4, List.length_append]; done))) | with_reducible refine AW.block ?_ | ((first | ((first | refine arun_nil ?_ | refine arunD_nil ?_); refine hK _ ?_; clear hK K) | refine AW.skip ?_ | refine AW.exit ?_ | refine AW.ret ?_); simp only [thenA_exit, inBlockA_exit, if_true, if_false, Nat.reduceEqDiff, thenA_normal, inBlockA_normal, reduceIte, thenA_ret, inBlockA_ret, endQ_ret, endR_ret, endG_ret, endQ_normal, endR_normal, endG_normal])))
        refine ⟨(i + 1, acc, false), by dsimp only; omega, ⟨by dsimp only; omega, by rw [hf] <;> simp, by simp only [List.length_append, List.length_cons, List.length_nil] at hpl ⊢; omega⟩, ?_⟩
        simp only [List.map_append, List.map_cons, List.map_nil, List.length_append, List.length_cons, List.length_nil]
        rw [itemL_eq nx] at hnx'
        subst hnx
        exact less_s
      · (repeat (first | with_reducible refine AW.seq ?_ | ((first | refine arun_kn 4 rfl (fun C hC => ?_) | refine arunD_kn 4 rfl (fun C hC => ?_)); (repeat ((conv => whnf); simp [hlt, hw, hw0, h1, h2, hl, hb1, hb2, hb3, hb4, List.length_append])); refine hC _ ?_; clear hC C; simp only [List.drop, Nat.reduceAdd]) | ((first | refine arun_kn 1 rfl (fun C hC => ?_) | refine arunD_kn 1 rfl (fun C hC => ?_)); (repeat ((conv => whnf); simp [hlt, hw, hw0, h1, h2, hl, hb1, hb2, hb3, hb4, List.length_append])); refine hC _ ?_; clear hC C; simp only [List.drop, Nat.reduceAdd]) | (refine arun_skip ?_ ?_; (focus (simp [awant, hlt, hw, hw0, h1, h2, hl, hb1, hb2, hb3, hb4, List.length_append]; done))) | (refine AW.regionK [] (fun K hK => ?_)) | (refine AW.regionDK [] (pcs [] []) (by kernel_rfl) (by kernel_rfl) (fun K hK => ?_)) | (refine AW.condT ?_ ?_; (focus (simp [aev, hlt, hw, hw0, h1, h2, hl, hb1, hb2, hb3, hb4, List.length_append]; done))) | (refine AW.condF ?_ ?_; (focus (simp [aev, hlt, hw, hw0, h1, h2, hl, hb1, hb2, hb3, hb4, List.length_append]; done))) | with_reducible refine AW.block ?_ | ((first | ((first | refine arun_nil ?_ | refine arunD_nil ?_); refine hK _ ?_; clear hK K) | refine AW.skip ?_ | refine AW.exit ?_ | refine AW.ret ?_); simp only [thenA_exit, inBlockA_exit, if_true, if_false, Nat.reduceEqDiff, thenA_normal, inBlockA_normal, reduceIte, thenA_ret, inBlockA_ret, endQ_ret, endR_ret, endG_ret, endQ_normal, endR_normal, endG_normal])))
        refine ⟨(i + 1, acc ++ [s.1[i]], true), by dsimp only; omega, ⟨by dsimp only; omega, by rw [hf] <;> simp, by simp only [List.length_append, List.length_cons, List.length_nil] at hpl ⊢; omega⟩, ?_⟩
        simp only [List.map_append, List.map_cons, List.map_nil, List.length_append, List.length_cons, List.length_nil]
        rw [itemL_eq nx] at hnx'
        subst hnx
        exact less_s
      · (repeat (first | with_reducible refine AW.seq ?_ | ((first | refine arun_kn 4 rfl (fun C hC => ?_) | refine arunD_kn 4 rfl (fun C hC => ?_)); (repeat ((conv => whnf); simp [hlt, hw, hw0, h1, h2, hl, hb1, hb2, hb3, hb4, List.length_append])); refine hC _ ?_; clear hC C; simp only [List.drop, Nat.reduceAdd]) | ((first | refine arun_kn 1 rfl (fun C hC => ?_) | refine arunD_kn 1 rfl (fun C hC => ?_)); (repeat ((conv => whnf); simp [hlt, hw, hw0, h1, h2, hl, hb1, hb2, hb3, hb4, List.length_append])); refine hC _ ?_; clear hC C; simp only [List.drop, Nat.reduceAdd]) | (refine arun_skip ?_ ?_; (focus (simp [awant, hlt, hw, hw0, h1, h2, hl, hb1, hb2, hb3, hb4, List.length_append]; done))) | (refine AW.regionK [] (fun K hK => ?_)) | (refine AW.regionDK [] (pcs [] []) (by kernel_rfl) (by kernel_rfl) (fun K hK => ?_)) | (refine AW.condT ?_ ?_; (focus (simp [aev, hlt, hw, hw0, h1, h2, hl, hb1, hb2, hb3, hb4, List.length_append]; done))) | (refine AW.condF ?_ ?_; (focus (simp [aev, hlt, hw, hw0, h1, h2, hl, hb1, hb2, hb3, hb4, List.length_append]; done))) | with_reducible refine AW.block ?_ | ((first | ((first | refine arun_nil ?_ | refine arunD_nil ?_); refine hK _ ?_; clear hK K) | refine AW.skip ?_ | refine AW.exit ?_ | refine AW.ret ?_); simp only [thenA_exit, inBlockA_exit, if_true, if_false, Nat.reduceEqDiff, thenA_normal, inBlockA_normal, reduceIte, thenA_ret, inBlockA_ret, endQ_ret, endR_ret, endG_ret, endQ_normal, endR_normal, endG_normal])))
        refine ⟨(i + 1, acc, true), by dsimp only; omega, ⟨by dsimp only; omega, by rw [hf] <;> simp, by simp only [List.length_append, List.length_cons, List.length_nil] at hpl ⊢; omega⟩, ?_⟩
        simp only [List.map_append, List.map_cons, List.map_nil, List.length_append, List.length_cons, List.length_nil]
        rw [itemL_eq nx] at hnx'
        subst hnx
        exact less_s
      · (repeat (first | with_reducible refine AW.seq ?_ | ((first | refine arun_kn 4 rfl (fun C hC => ?_) | refine arunD_kn 4 rfl (fun C hC => ?_)); (repeat ((conv => whnf); simp [hlt, hw, hw0, h1, h2, hl, hb1, hb2, hb3, hb4, List.length_append])); refine hC _ ?_; clear hC C; simp only [List.drop, Nat.reduceAdd]) | ((first | refine arun_kn 1 rfl (fun C hC => ?_) | refine arunD_kn 1 rfl (fun C hC => ?_)); (repeat ((conv => whnf); simp [hlt, hw, hw0, h1, h2, hl, hb1, hb2, hb3, hb4, List.length_append])); refine hC _ ?_; clear hC C; simp only [List.drop, Nat.reduceAdd]) | (refine arun_skip ?_ ?_; (focus (simp [awant, hlt, hw, hw0, h1, h2, hl, hb1, hb2, hb3, hb4, List.length_append]; done))) | (refine AW.regionK [] (fun K hK => ?_)) | (refine AW.regionDK [] (pcs [] []) (by kernel_rfl) (by kernel_rfl) (fun K hK => ?_)) | (refine AW.condT ?_ ?_; (focus (simp [aev, hlt, hw, hw0, h1, h2, hl, hb1, hb2, hb3, hb4, List.length_append]; done))) | (refine AW.condF ?_ ?_; (focus (simp [aev, hlt, hw, hw0, h1, h2, hl, hb1, hb2, hb3, hb4, List.length_append]; done))) | with_reducible refine AW.block ?_ | ((first | ((first | refine arun_nil ?_ | refine arunD_nil ?_); refine hK _ ?_; clear hK K) | refine AW.skip ?_ | refine AW.exit ?_ | refine AW.ret ?_); simp only [thenA_exit, inBlockA_exit, if_true, if_false, Nat.reduceEqDiff, thenA_normal, inBlockA_normal, reduceIte, thenA_ret, inBlockA_ret, endQ_ret, endR_ret, endG_ret, endQ_normal, endR_normal, endG_normal])))
        refine ⟨(i + 1, acc ++ [s.1[i]], true), by dsimp only; omega, ⟨by dsimp only; omega, by rw [hf] <;> simp, by simp only [List.length_append, List.length_cons, List.length_nil] at hpl ⊢; omega⟩, ?_⟩
        simp only [List.map_append, List.map_cons, List.map_nil, List.length_append, List.length_cons, List.length_nil]
        rw [itemL_eq nx] at hnx'
        subst hnx
        exact less_s
      · (repeat (first | with_reducible refine AW.seq ?_ | ((first | refine arun_kn 4 rfl (fun C hC => ?_) | refine arunD_kn 4 rfl (fun C hC => ?_)); (repeat ((conv => whnf); simp [hlt, hw, hw0, h1, h2, hl, hb1, hb2, hb3, hb4, List.length_append])); refine hC _ ?_; clear hC C; simp only [List.drop, Nat.reduceAdd]) | ((first | refine arun_kn 1 rfl (fun C hC => ?_) | refine arunD_kn 1 rfl (fun C hC => ?_)); (repeat ((conv => whnf); simp [hlt, hw, hw0, h1, h2, hl, hb1, hb2, hb3, hb4, List.length_append])); refine hC _ ?_; clear hC C; simp only [List.drop, Nat.reduceAdd]) | (refine arun_skip ?_ ?_; (focus (simp [awant, hlt, hw, hw0, h1, h2, hl, hb1, hb2, hb3, hb4, List.length_append]; done))) | (refine AW.regionK [] (fun K hK => ?_)) | (refine AW.regionDK [] (pcs [] []) (by kernel_rfl) (by kernel_rfl) (fun K hK => ?_)) | (refine AW.condT ?_ ?_; (focus (simp [aev, hlt, hw, hw0, h1, h2, hl, hb1, hb2, hb3, hb4, List.length_append]; done))) | (refine AW.condF ?_ ?_; (focus (simp [aev, hlt, hw, hw0, h1, h2, hl, hb1, hb2, hb3, hb4, List.length_append]; done))) | with_reducible refine AW.block ?_ | ((first | ((first | refine arun_nil ?_ | refine arunD_nil ?_); refine hK _ ?_; clear hK K) | refine AW.skip ?_ | refine AW.exit ?_ | refine AW.ret ?_); simp only [thenA_exit, inBlockA_exit, if_true, if_false, Nat.reduceEqDiff, thenA_normal, inBlockA_normal, reduceIte, thenA_ret, inBlockA_ret, endQ_ret, endR_ret, endG_ret, endQ_normal, endR_normal, endG_normal])))
        refine ⟨(i + 1, acc, true), by dsimp only; omega, ⟨by dsimp only; omega, by rw [hf] <;> simp, by simp only [List.length_append, List.length_cons, List.length_nil] at hpl ⊢; omega⟩, ?_⟩
        simp only [List.map_append, List.map_cons, List.map_nil, List.length_append, List.length_cons, List.length_nil]
        rw [itemL_eq nx] at hnx'
        subst hnx
        exact less_s
    · have hi' : s.1.drop i = [] := List.drop_eq_nil_of_le (by omega)
      rw [hi', putL] at hf
      rw [hnx']
      cases d
      · (repeat (first | with_reducible refine AW.seq ?_ | ((first | refine arun_kn 4 rfl (fun C hC => ?_) | refine arunD_kn 4 rfl (fun C hC => ?_)); (repeat ((conv => whnf); simp [hlt, hw0, hl, hb1, hb2])); refine hC _ ?_; clear hC C; simp only [List.drop, Nat.reduceAdd]) | ((first | refine arun_kn 1 rfl (fun C hC => ?_) | refine arunD_kn 1 rfl (fun C hC => ?_)); (repeat ((conv => whnf); simp [hlt, hw0, hl, hb1, hb2])); refine hC _ ?_; clear hC C; simp only [List.drop, Nat.reduceAdd]) | (refine arun_skip ?_ ?_; (focus (simp [awant, hlt, hw0, hl, hb1, hb2]; done))) | (refine AW.regionK [] (fun K hK => ?_)) | (refine AW.regionDK [] (pcs [] []) (by kernel_rfl) (by kernel_rfl) (fun K hK => ?_)) | (refine AW.condT ?_ ?_; (focus (simp [aev, hlt, hw0, hl, hb1, hb2]; done))) | (refine AW.condF ?_ ?_; (focus (simp [aev, hlt, hw0, hl, hb1, hb2]; done))) | with_reducible refine AW.block ?_ | ((first | ((first | refine arun_nil ?_ | refine arunD_nil ?_); refine hK _ ?_; clear hK K) | refine AW.skip ?_ | refine AW.exit ?_ | refine AW.ret ?_); simp only [thenA_exit, inBlockA_exit, if_true, if_false, Nat.reduceEqDiff, thenA_normal, inBlockA_normal, reduceIte, thenA_ret, inBlockA_ret, endQ_ret, endR_ret, endG_ret, endQ_normal, endR_normal, endG_normal])))
        have e : putS s nm n = (acc ++ [nx], s.2 + 1) := by unfold putS; rw [hnx, hf]; rfl
        exact ⟨storeO (putS s nm n) 7, by rw [e]; simp [ares, aresL, upd, rowsOf_cons], .inr ⟨storeO (putS s nm n), 7, itemsRow (putS s nm n), rfl, by rw [e]; subst hnx; simp [upd, rowsOf_cons, itemsRow], storeO_res _ 7, itemsE_pur _, rfl, rfl⟩⟩
      · (repeat (first | with_reducible refine AW.seq ?_ | ((first | refine arun_kn 4 rfl (fun C hC => ?_) | refine arunD_kn 4 rfl (fun C hC => ?_)); (repeat ((conv => whnf); simp [hlt, hw0, hl, hb1, hb2])); refine hC _ ?_; clear hC C; simp only [List.drop, Nat.reduceAdd]) | ((first | refine arun_kn 1 rfl (fun C hC => ?_) | refine arunD_kn 1 rfl (fun C hC => ?_)); (repeat ((conv => whnf); simp [hlt, hw0, hl, hb1, hb2])); refine hC _ ?_; clear hC C; simp only [List.drop, Nat.reduceAdd]) | (refine arun_skip ?_ ?_; (focus (simp [awant, hlt, hw0, hl, hb1, hb2]; done))) | (refine AW.regionK [] (fun K hK => ?_)) | (refine AW.regionDK [] (pcs [] []) (by kernel_rfl) (by kernel_rfl) (fun K hK => ?_)) | (refine AW.condT ?_ ?_; (focus (simp [aev, hlt, hw0, hl, hb1, hb2]; done))) | (refine AW.condF ?_ ?_; (focus (simp [aev, hlt, hw0, hl, hb1, hb2]; done))) | with_reducible refine AW.block ?_ | ((first | ((first | refine arun_nil ?_ | refine arunD_nil ?_); refine hK _ ?_; clear hK K) | refine AW.skip ?_ | refine AW.exit ?_ | refine AW.ret ?_); simp only [thenA_exit, inBlockA_exit, if_true, if_false, Nat.reduceEqDiff, thenA_normal, inBlockA_normal, reduceIte, thenA_ret, inBlockA_ret, endQ_ret, endR_ret, endG_ret, endQ_normal, endR_normal, endG_normal])))
        have e : putS s nm n = (acc, s.2 + 1) := by unfold putS; rw [hnx, hf]; simp
        exact ⟨storeO (putS s nm n) 7, by rw [e]; simp [ares, aresL, upd, rowsOf_cons], .inr ⟨storeO (putS s nm n), 7, itemsRow (putS s nm n), rfl, by rw [e]; subst hnx; simp [upd, rowsOf_cons, itemsRow], storeO_res _ 7, itemsE_pur _, rfl, rfl⟩⟩
end Go.Proofs.Ytiobnaielfeeaaa.Eng
-- EV: store
namespace Go.Proofs.Ytiobnaielfeeaaa.Eng
open Go Go.RowKit
attribute [local simp] big size_mk ASt.pay Option.map_map Function.comp_def awant aop acall ado aev ofVal ofVal0 ASt.put ASt.add ASt.turn ASt.kill abox aalloc astore aload aloadD astoreD idOf ASt.at cellsTo afieldAddr afield aindexAddr aindex alen abin aint acmp astr aun apick aextract anil aslice abound abuild afill abuildSlice asCells aps avCells over upd aappend asrc amax amin aconv mkSt slots rowsOf_cons rowsOf_nil usedOf_cons usedOf_nil ZK.av List.replicate ASt.back ASt.addL ASt.killL nodeA nodeT nodeTL_eq nodeL_eq strsE_get strsE_len intsE_get intsE_len strsE_at intsE_at itemA itemL_eq storeA storeT storeO itemsRow tab2 tab3 tab4 tab5 tab6 tab7 tab8 tab9 tab10 tab11 tab12 tab13 tab14 tab15 tab16 tab17 tab18 tab19 tab21 tab22 tab23 tab24 tab25 tab26 tab27 tab28 tab29 tab30 tab48 tab51 tab52 tab59 tab77 tab78 tab79 tab91 tab95 tab96 tab97 tab109 tab116 tab132 tab133 tab138 tab139 tab144 tab145 tab146 tab148 tab149 tab150
theorem storeB_sml {s : Sto} (h : storeB s = true) : s.1.length ≤ 10 ∧ ∀ x ∈ s.1, Sml x.2.2 := ⟨(storeB_parts h).1, fun x hx => by
  have := (storeB_parts h).2.2.2.1 x hx
  unfold itmB at this
  simp only [Bool.and_eq_true] at this
  exact valid_sml this.2⟩
theorem storeB_smlS {s : Sto} (h : storeB s = true) : SmlS s := ⟨by have := (storeB_sml h).1; omega, (storeB_sml h).2⟩
def dropL (nm : ByteArray) : List Itm → List Itm
  | [] => []
  | x :: l => (if eqs x.1 nm then [] else [x]) ++ dropL nm l
def dropS (s : Sto) (nm : ByteArray) : Sto := (dropL nm s.1, s.2 + 1)
theorem dropL_len (nm : ByteArray) : ∀ (l : List Itm), (dropL nm l).length ≤ l.length
  | [] => by simp [dropL]
  | x :: l => by
    unfold dropL
    have := dropL_len nm l
    rw [List.length_append, List.length_cons]
    split <;> simp <;> omega
theorem drop_ACR (t : VC) (s : Sto) (nm : ByteArray) (hs : SmlS s) (hc : 0 ≤ s.2 ∧ s.2 ≤ 1000000) : ACR Try.prog 134 [storeT t s, .str nm] 0 (fun _ => False) (fun f R => f = storeO (dropS s nm) ∧ R = itemsRow (dropS s nm)) := by
  obtain ⟨hs1, hs2⟩ := id hs
  have hw0 : IntKind.i64.wrap (s.2 + 1) = s.2 + 1 := i64_nat (by omega) (by omega)
  unfold storeT
  refine ACR.of tab_ok mixed_ok Try.func134 (by rfl) (by kernel_rfl) ?_; rintro ⟨P, T, hT, hm, w0, S0, rd0, k0⟩ hP hTT; dsimp only at hP hTT; subst hP hTT; unfold initSt; rw [Try.ntmps134]
  (repeat (first | with_reducible refine AW.seq ?_ | ((first | refine arun_kn 4 rfl (fun C hC => ?_) | refine arunD_kn 4 rfl (fun C hC => ?_)); (repeat ((conv => whnf); simp [hw0])); refine hC _ ?_; clear hC C; simp only [List.drop, Nat.reduceAdd]) | ((first | refine arun_kn 1 rfl (fun C hC => ?_) | refine arunD_kn 1 rfl (fun C hC => ?_)); (repeat ((conv => whnf); simp [hw0])); refine hC _ ?_; clear hC C; simp only [List.drop, Nat.reduceAdd]) | (refine arun_skip ?_ ?_; (focus (simp [awant, hw0]; done))) | (refine arun_c0 (copyStore_AC t s hs) ?_; rintro _ rfl) | (refine AW.regionK [] (fun K hK => ?_)) | (refine AW.regionDK [] (pcs [] []) (by kernel_rfl) (by kernel_rfl) (fun K hK => ?_)) | (refine AW.condT ?_ ?_; (focus (simp [aev, hw0]; done))) | (refine AW.condF ?_ ?_; (focus (simp [aev, hw0]; done))) | with_reducible refine AW.block ?_ | ((first | ((first | refine arun_nil ?_ | refine arunD_nil ?_); refine hK _ ?_; clear hK K) | refine AW.skip ?_ | refine AW.exit ?_ | refine AW.ret ?_); simp only [thenA_exit, inBlockA_exit, if_true, if_false, Nat.reduceEqDiff, thenA_normal, inBlockA_normal, reduceIte, thenA_ret, inBlockA_ret, endQ_ret, endR_ret, endG_ret, endQ_normal, endR_normal, endG_normal])))
  refine AW.adopt 5 5 133 7 ⟨_, tab133, rfl⟩ rfl (by simp [upd]) ?_
  simp only [ASt.adopt, ASt.add]
  refine AW.loopS (fun (x : Nat × List Itm) => mkSt (slots 0 37 [(1, .str nm), (2, .ptr true 2 1 2 0 0), (4, .ptr true 2 1 4 0 0), (5, .own 5 x.2.length), (6, .view .loose 7 (s.1.map itemL)), (7, .int .i64 x.1)]) [(2, ⟨true, 97, 2, [[.view t 7 (s.1.map itemL), .int .i64 s.2]]⟩), (4, ⟨true, 97, 2, [[.view .tight 0 [], .int .i64 0]]⟩), (5, ⟨false, 133, 7, x.2.map itemL⟩)] [2, 4, 5] (rd0.map fun _ => 0)) (fun x => s.1.length - x.1) (fun x => x.1 ≤ s.1.length ∧ dropL nm s.1 = x.2 ++ dropL nm (s.1.drop x.1) ∧ x.2.length ≤ x.1) (0, []) ?_ ⟨Nat.zero_le _, rfl, by simp⟩ ?_
  · dsimp only [List.map_nil, List.length_nil]
    exact less_s
  · rintro ⟨i, acc⟩ ⟨hi, hf, ha⟩
    dsimp only at hi hf ha ⊢
    have hl : (acc.map itemL).length = acc.length := List.length_map _
    by_cases hlt : i < s.1.length
    · have hb1 : (acc.length + 1) * 104 ≤ 140737488355328 := by omega
      have hb2 : acc.length + 1 ≤ 140737488355328 := by clear hb1; omega
      have hw : IntKind.i64.wrap ((i : Int) + 1) = (i : Int) + 1 := i64_nat (by clear hb1 hb2; omega) (by clear hb1 hb2; omega)
      have hd : s.1.drop i = s.1[i] :: s.1.drop (i + 1) := List.drop_eq_getElem_cons hlt
      rw [hd, dropL] at hf
      cases h2 : eqs s.1[i].1 nm <;> rw [h2] at hf
      · (repeat (first | with_reducible refine AW.seq ?_ | ((first | refine arun_kn 4 rfl (fun C hC => ?_) | refine arunD_kn 4 rfl (fun C hC => ?_)); (repeat ((conv => whnf); simp [hlt, hw, h2, hl, hb1, hb2])); refine hC _ ?_; clear hC C; simp only [List.drop, Nat.reduceAdd]) | ((first | refine arun_kn 1 rfl (fun C hC => ?_) | refine arunD_kn 1 rfl (fun C hC => ?_)); (repeat ((conv => whnf); simp [hlt, hw, h2, hl, hb1, hb2])); refine hC _ ?_; clear hC C; simp only [List.drop, Nat.reduceAdd]) | (refine arun_skip ?_ ?_; (focus (simp [awant, hlt, hw, h2, hl, hb1, hb2]; done))) | (refine AW.regionK [] (fun K hK => ?_)) | (refine AW.regionDK [] (pcs [] []) (by kernel_rfl) (by kernel_rfl) (fun K hK => ?_)) | (refine AW.condT ?_ ?_; (focus (simp [aev, hlt, hw, h2, hl, hb1, hb2]; done))) | (refine AW.condF ?_ ?_; (focus (simp [aev, hlt, hw, h2, hl, hb1, hb2]; done))) | with_reducible refine AW.block ?_ | ((first | ((first | refine arun_nil ?_ | refine arunD_nil ?_); refine hK _ ?_; clear hK K) | refine AW.skip ?_ | refine AW.exit ?_ | refine AW.ret ?_); simp only [thenA_exit, inBlockA_exit, if_true, if_false, Nat.reduceEqDiff, thenA_normal, inBlockA_normal, reduceIte, thenA_ret, inBlockA_ret, endQ_ret, endR_ret, endG_ret, endQ_normal, endR_normal, endG_normal])))
        clear hb1 hb2
        refine ⟨(i + 1, acc ++ [s.1[i]]), by dsimp only; omega, ⟨by dsimp only; omega, by rw [hf]; simp, by simp only [List.length_append, List.length_cons, List.length_nil]; omega⟩, ?_⟩
        simp only [List.map_append, List.map_cons, List.map_nil, List.length_append, List.length_cons, List.length_nil]
        exact less_s
      · (repeat (first | with_reducible refine AW.seq ?_ | ((first | refine arun_kn 4 rfl (fun C hC => ?_) | refine arunD_kn 4 rfl (fun C hC => ?_)); (repeat ((conv => whnf); simp [hlt, hw, h2])); refine hC _ ?_; clear hC C; simp only [List.drop, Nat.reduceAdd]) | ((first | refine arun_kn 1 rfl (fun C hC => ?_) | refine arunD_kn 1 rfl (fun C hC => ?_)); (repeat ((conv => whnf); simp [hlt, hw, h2])); refine hC _ ?_; clear hC C; simp only [List.drop, Nat.reduceAdd]) | (refine arun_skip ?_ ?_; (focus (simp [awant, hlt, hw, h2]; done))) | (refine AW.regionK [] (fun K hK => ?_)) | (refine AW.regionDK [] (pcs [] []) (by kernel_rfl) (by kernel_rfl) (fun K hK => ?_)) | (refine AW.condT ?_ ?_; (focus (simp [aev, hlt, hw, h2]; done))) | (refine AW.condF ?_ ?_; (focus (simp [aev, hlt, hw, h2]; done))) | with_reducible refine AW.block ?_ | ((first | ((first | refine arun_nil ?_ | refine arunD_nil ?_); refine hK _ ?_; clear hK K) | refine AW.skip ?_ | refine AW.exit ?_ | refine AW.ret ?_); simp only [thenA_exit, inBlockA_exit, if_true, if_false, Nat.reduceEqDiff, thenA_normal, inBlockA_normal, reduceIte, thenA_ret, inBlockA_ret, endQ_ret, endR_ret, endG_ret, endQ_normal, endR_normal, endG_normal])))
        clear hb1 hb2
        refine ⟨(i + 1, acc), by dsimp only; omega, ⟨by dsimp only; omega, by rw [hf]; simp, by dsimp only; omega⟩, ?_⟩
        dsimp only
        exact less_s
    · have hi' : s.1.drop i = [] := List.drop_eq_nil_of_le (by omega)
      rw [hi', dropL] at hf
      (repeat (first | with_reducible refine AW.seq ?_ | ((first | refine arun_kn 4 rfl (fun C hC => ?_) | refine arunD_kn 4 rfl (fun C hC => ?_)); (repeat ((conv => whnf); simp [hlt, hw0, hl])); refine hC _ ?_; clear hC C; simp only [List.drop, Nat.reduceAdd]) | ((first | refine arun_kn 1 rfl (fun C hC => ?_) | refine arunD_kn 1 rfl (fun C hC => ?_)); (repeat ((conv => whnf); simp [hlt, hw0, hl])); refine hC _ ?_; clear hC C; simp only [List.drop, Nat.reduceAdd]) | (refine arun_skip ?_ ?_; (focus (simp [awant, hlt, hw0, hl]; done))) | (refine AW.regionK [] (fun K hK => ?_)) | (refine AW.regionDK [] (pcs [] []) (by kernel_rfl) (by kernel_rfl) (fun K hK => ?_)) | (refine AW.condT ?_ ?_; (focus (simp [aev, hlt, hw0, hl]; done))) | (refine AW.condF ?_ ?_; (focus (simp [aev, hlt, hw0, hl]; done))) | with_reducible refine AW.block ?_ | ((first | ((first | refine arun_nil ?_ | refine arunD_nil ?_); refine hK _ ?_; clear hK K) | refine AW.skip ?_ | refine AW.exit ?_ | refine AW.ret ?_); simp only [thenA_exit, inBlockA_exit, if_true, if_false, Nat.reduceEqDiff, thenA_normal, inBlockA_normal, reduceIte, thenA_ret, inBlockA_ret, endQ_ret, endR_ret, endG_ret, endQ_normal, endR_normal, endG_normal])))
      have e : dropS s nm = (acc, s.2 + 1) := by unfold dropS; rw [hf]; simp
      exact ⟨storeO (dropS s nm) 5, by rw [e]; simp [ares, aresL, upd, rowsOf_cons], .inr ⟨storeO (dropS s nm), 5, itemsRow (dropS s nm), rfl, by rw [e]; simp [upd, rowsOf_cons, itemsRow], storeO_res _ 5, itemsE_pur _, rfl, rfl⟩⟩
def storeZ : AV := .agg [.view .tight 0 [], .int .i64 0]
def Res0 (b : Bool) (r : AV) : Prop := b = false ∧ r = .tup [storeZ, .bool false]
def Res (b : Bool) (s : Sto) (f : Nat → AV) (R : Row) : Prop := b = true ∧ f = (fun id => .tup [storeO s id, .bool true]) ∧ R = itemsRow s
theorem tup_res (s : Sto) (b : Bool) (id0 : Nat) : Res1 id0 (fun id => .tup [storeO s id, .bool b]) := Res1.tup [fun id => storeO s id, fun _ => .bool b] (by
  simp only [List.forall_mem_cons, List.not_mem_nil, false_implies, implies_true, and_true]
  exact ⟨storeO_res s id0, Res1.pur _ pur_bool⟩)
theorem storeZ_pur : Pur (.tup [storeZ, .bool false]) := pur_tup (by
  simp only [List.forall_mem_cons, List.not_mem_nil, false_implies, implies_true, and_true]
  exact ⟨pur_agg (by
    simp only [List.forall_mem_cons, List.not_mem_nil, false_implies, implies_true, and_true]
    exact ⟨pur_view (by decide) (fun e he => by cases he), pur_int⟩), pur_bool⟩)
def putOk (s : Sto) (nm : ByteArray) (n : Nd) : Bool := storeB s && nameB nm && validB n && storeB (putS s nm n)
def dropOk (s : Sto) (nm : ByteArray) : Bool := storeB s && !(decide (findI s nm < 0)) && !(s.2 == 999)
theorem specPut_ACR0 (t t' : VC) (s : Sto) (nm : ByteArray) (n : Nd) : ACR Try.prog 114 [storeT t s, .str nm, nodeT t' n] 0 (Res0 (putOk s nm n)) (Res (putOk s nm n) (putS s nm n)) := by
  unfold storeT nodeT
  rw [nodeTL_eq]
  refine ACR.of tab_ok mixed_ok Try.func114 (by rfl) (by kernel_rfl) ?_; rintro ⟨P, T, hT, hm, w0, S0, rd0, k0⟩ hP hTT; dsimp only at hP hTT; subst hP hTT; unfold initSt; rw [Try.ntmps114]
  cases h1 : storeB s
  · (repeat (first | with_reducible refine AW.seq ?_ | ((first | refine arun_kn 4 rfl (fun C hC => ?_) | refine arunD_kn 4 rfl (fun C hC => ?_)); (repeat ((conv => whnf); simp [h1])); refine hC _ ?_; clear hC C; simp only [List.drop, Nat.reduceAdd]) | ((first | refine arun_kn 1 rfl (fun C hC => ?_) | refine arunD_kn 1 rfl (fun C hC => ?_)); (repeat ((conv => whnf); simp [h1])); refine hC _ ?_; clear hC C; simp only [List.drop, Nat.reduceAdd]) | (refine arun_skip ?_ ?_; (focus (simp [awant, h1]; done))) | (refine arun_c0 (validStore_AC s t) ?_; rintro _ rfl) | (refine AW.regionK [] (fun K hK => ?_)) | (refine AW.regionDK [] (pcs [] []) (by kernel_rfl) (by kernel_rfl) (fun K hK => ?_)) | (refine AW.condT ?_ ?_; (focus (simp [aev, h1]; done))) | (refine AW.condF ?_ ?_; (focus (simp [aev, h1]; done))) | with_reducible refine AW.block ?_ | ((first | ((first | refine arun_nil ?_ | refine arunD_nil ?_); refine hK _ ?_; clear hK K) | refine AW.skip ?_ | refine AW.exit ?_ | refine AW.ret ?_); simp only [thenA_exit, inBlockA_exit, if_true, if_false, Nat.reduceEqDiff, thenA_normal, inBlockA_normal, reduceIte, thenA_ret, inBlockA_ret, endQ_ret, endR_ret, endG_ret, endQ_normal, endR_normal, endG_normal])))
    exact ⟨_, by simp [ares, aresL, upd, rowsOf_cons]; rfl, .inl ⟨storeZ_pur, by simp [putOk, h1], rfl⟩⟩
  cases h2 : nameB nm
  · (repeat (first | with_reducible refine AW.seq ?_ | ((first | refine arun_kn 4 rfl (fun C hC => ?_) | refine arunD_kn 4 rfl (fun C hC => ?_)); (repeat ((conv => whnf); simp [h1, h2])); refine hC _ ?_; clear hC C; simp only [List.drop, Nat.reduceAdd]) | ((first | refine arun_kn 1 rfl (fun C hC => ?_) | refine arunD_kn 1 rfl (fun C hC => ?_)); (repeat ((conv => whnf); simp [h1, h2])); refine hC _ ?_; clear hC C; simp only [List.drop, Nat.reduceAdd]) | (refine arun_skip ?_ ?_; (focus (simp [awant, h1, h2]; done))) | (refine arun_c0 (validStore_AC s t) ?_; rintro _ rfl) | (refine arun_c0 (validName_AC nm) ?_; rintro _ rfl) | (refine AW.regionK [] (fun K hK => ?_)) | (refine AW.regionDK [] (pcs [] []) (by kernel_rfl) (by kernel_rfl) (fun K hK => ?_)) | (refine AW.condT ?_ ?_; (focus (simp [aev, h1, h2]; done))) | (refine AW.condF ?_ ?_; (focus (simp [aev, h1, h2]; done))) | with_reducible refine AW.block ?_ | ((first | ((first | refine arun_nil ?_ | refine arunD_nil ?_); refine hK _ ?_; clear hK K) | refine AW.skip ?_ | refine AW.exit ?_ | refine AW.ret ?_); simp only [thenA_exit, inBlockA_exit, if_true, if_false, Nat.reduceEqDiff, thenA_normal, inBlockA_normal, reduceIte, thenA_ret, inBlockA_ret, endQ_ret, endR_ret, endG_ret, endQ_normal, endR_normal, endG_normal])))
    exact ⟨_, by simp [ares, aresL, upd, rowsOf_cons]; rfl, .inl ⟨storeZ_pur, by simp [putOk, h1, h2], rfl⟩⟩
  cases h3 : validB n
  · (repeat (first | with_reducible refine AW.seq ?_ | ((first | refine arun_kn 4 rfl (fun C hC => ?_) | refine arunD_kn 4 rfl (fun C hC => ?_)); (repeat ((conv => whnf); simp [h1, h2, h3])); refine hC _ ?_; clear hC C; simp only [List.drop, Nat.reduceAdd]) | ((first | refine arun_kn 1 rfl (fun C hC => ?_) | refine arunD_kn 1 rfl (fun C hC => ?_)); (repeat ((conv => whnf); simp [h1, h2, h3])); refine hC _ ?_; clear hC C; simp only [List.drop, Nat.reduceAdd]) | (refine arun_skip ?_ ?_; (focus (simp [awant, h1, h2, h3]; done))) | (refine arun_c0 (validStore_AC s t) ?_; rintro _ rfl) | (refine arun_c0 (validName_AC nm) ?_; rintro _ rfl) | (refine arun_c0 (validNode_AC n t') ?_; rintro _ rfl) | (refine AW.regionK [] (fun K hK => ?_)) | (refine AW.regionDK [] (pcs [] []) (by kernel_rfl) (by kernel_rfl) (fun K hK => ?_)) | (refine AW.condT ?_ ?_; (focus (simp [aev, h1, h2, h3]; done))) | (refine AW.condF ?_ ?_; (focus (simp [aev, h1, h2, h3]; done))) | with_reducible refine AW.block ?_ | ((first | ((first | refine arun_nil ?_ | refine arunD_nil ?_); refine hK _ ?_; clear hK K) | refine AW.skip ?_ | refine AW.exit ?_ | refine AW.ret ?_); simp only [thenA_exit, inBlockA_exit, if_true, if_false, Nat.reduceEqDiff, thenA_normal, inBlockA_normal, reduceIte, thenA_ret, inBlockA_ret, endQ_ret, endR_ret, endG_ret, endQ_normal, endR_normal, endG_normal])))
    exact ⟨_, by simp [ares, aresL, upd, rowsOf_cons]; rfl, .inl ⟨storeZ_pur, by simp [putOk, h1, h2, h3], rfl⟩⟩
  obtain ⟨_, q1, q2, _⟩ := storeB_parts h1
  have hput := put_ACR t t' s nm n (storeB_smlS h1) (valid_sml h3) ⟨q1, by omega⟩
  cases h4 : storeB (putS s nm n)
  · (repeat (first | with_reducible refine AW.seq ?_ | ((first | refine arun_kn 4 rfl (fun C hC => ?_) | refine arunD_kn 4 rfl (fun C hC => ?_)); (repeat ((conv => whnf); simp [h1, h2, h3, h4])); refine hC _ ?_; clear hC C; simp only [List.drop, Nat.reduceAdd]) | ((first | refine arun_kn 1 rfl (fun C hC => ?_) | refine arunD_kn 1 rfl (fun C hC => ?_)); (repeat ((conv => whnf); simp [h1, h2, h3, h4])); refine hC _ ?_; clear hC C; simp only [List.drop, Nat.reduceAdd]) | (refine arun_skip ?_ ?_; (focus (simp [awant, h1, h2, h3, h4]; done))) | (refine arun_c0 (validStore_AC s t) ?_; rintro _ rfl) | (refine arun_c0 (validName_AC nm) ?_; rintro _ rfl) | (refine arun_c0 (validNode_AC n t') ?_; rintro _ rfl) | (refine arun_cR (0) 90 (hput) ?_; (rintro _ _ ⟨rfl, rfl⟩)) | (refine arun_cL (0) (validStore_AC (putS s nm n) .lent) ?_; rintro _ rfl) | (refine AW.regionK [] (fun K hK => ?_)) | (refine AW.regionDK [] (pcs [] []) (by kernel_rfl) (by kernel_rfl) (fun K hK => ?_)) | (refine AW.condT ?_ ?_; (focus (simp [aev, h1, h2, h3, h4]; done))) | (refine AW.condF ?_ ?_; (focus (simp [aev, h1, h2, h3, h4]; done))) | with_reducible refine AW.block ?_ | ((first | ((first | refine arun_nil ?_ | refine arunD_nil ?_); refine hK _ ?_; clear hK K) | refine AW.skip ?_ | refine AW.exit ?_ | refine AW.ret ?_); simp only [thenA_exit, inBlockA_exit, if_true, if_false, Nat.reduceEqDiff, thenA_normal, inBlockA_normal, reduceIte, thenA_ret, inBlockA_ret, endQ_ret, endR_ret, endG_ret, endQ_normal, endR_normal, endG_normal])))
    exact ⟨_, by simp [ares, aresL, upd, rowsOf_cons]; rfl, .inl ⟨storeZ_pur, by simp [putOk, h1, h2, h3, h4], rfl⟩⟩
  · (repeat (first | with_reducible refine AW.seq ?_ | ((first | refine arun_kn 4 rfl (fun C hC => ?_) | refine arunD_kn 4 rfl (fun C hC => ?_)); (repeat ((conv => whnf); simp [h1, h2, h3, h4])); refine hC _ ?_; clear hC C; simp only [List.drop, Nat.reduceAdd]) | ((first | refine arun_kn 1 rfl (fun C hC => ?_) | refine arunD_kn 1 rfl (fun C hC => ?_)); (repeat ((conv => whnf); simp [h1, h2, h3, h4])); refine hC _ ?_; clear hC C; simp only [List.drop, Nat.reduceAdd]) | (refine arun_skip ?_ ?_; (focus (simp [awant, h1, h2, h3, h4]; done))) | (refine arun_c0 (validStore_AC s t) ?_; rintro _ rfl) | (refine arun_c0 (validName_AC nm) ?_; rintro _ rfl) | (refine arun_c0 (validNode_AC n t') ?_; rintro _ rfl) | (refine arun_cR (0) 90 (hput) ?_; (rintro _ _ ⟨rfl, rfl⟩)) | (refine arun_cL (0) (validStore_AC (putS s nm n) .lent) ?_; rintro _ rfl) | (refine AW.regionK [] (fun K hK => ?_)) | (refine AW.regionDK [] (pcs [] []) (by kernel_rfl) (by kernel_rfl) (fun K hK => ?_)) | (refine AW.condT ?_ ?_; (focus (simp [aev, h1, h2, h3, h4]; done))) | (refine AW.condF ?_ ?_; (focus (simp [aev, h1, h2, h3, h4]; done))) | with_reducible refine AW.block ?_ | ((first | ((first | refine arun_nil ?_ | refine arunD_nil ?_); refine hK _ ?_; clear hK K) | refine AW.skip ?_ | refine AW.exit ?_ | refine AW.ret ?_); simp only [thenA_exit, inBlockA_exit, if_true, if_false, Nat.reduceEqDiff, thenA_normal, inBlockA_normal, reduceIte, thenA_ret, inBlockA_ret, endQ_ret, endR_ret, endG_ret, endQ_normal, endR_normal, endG_normal])))
    exact ⟨.tup [storeO (putS s nm n) 90, .bool true], by simp [ares, aresL, upd, rowsOf_cons], .inr ⟨fun id => .tup [storeO (putS s nm n) id, .bool true], 90, itemsRow (putS s nm n), rfl, by simp [upd, itemsRow], tup_res _ true 90, itemsE_pur _, by simp [putOk, h1, h2, h3, h4], rfl, rfl⟩⟩
theorem specDrop_ACR0 (t : VC) (s : Sto) (nm : ByteArray) : ACR Try.prog 116 [storeT t s, .str nm] 0 (Res0 (dropOk s nm)) (Res (dropOk s nm) (dropS s nm)) := by
  unfold storeT
  refine ACR.of tab_ok mixed_ok Try.func116 (by rfl) (by kernel_rfl) ?_; rintro ⟨P, T, hT, hm, w0, S0, rd0, k0⟩ hP hTT; dsimp only at hP hTT; subst hP hTT; unfold initSt; rw [Try.ntmps116]
  cases h1 : storeB s
  · (repeat (first | with_reducible refine AW.seq ?_ | ((first | refine arun_kn 4 rfl (fun C hC => ?_) | refine arunD_kn 4 rfl (fun C hC => ?_)); (repeat ((conv => whnf); simp [h1])); refine hC _ ?_; clear hC C; simp only [List.drop, Nat.reduceAdd]) | ((first | refine arun_kn 1 rfl (fun C hC => ?_) | refine arunD_kn 1 rfl (fun C hC => ?_)); (repeat ((conv => whnf); simp [h1])); refine hC _ ?_; clear hC C; simp only [List.drop, Nat.reduceAdd]) | (refine arun_skip ?_ ?_; (focus (simp [awant, h1]; done))) | (refine arun_c0 (validStore_AC s t) ?_; rintro _ rfl) | (refine AW.regionK [] (fun K hK => ?_)) | (refine AW.regionDK [] (pcs [] []) (by kernel_rfl) (by kernel_rfl) (fun K hK => ?_)) | (refine AW.condT ?_ ?_; (focus (simp [aev, h1]; done))) | (refine AW.condF ?_ ?_; (focus (simp [aev, h1]; done))) | with_reducible refine AW.block ?_ | ((first | ((first | refine arun_nil ?_ | refine arunD_nil ?_); refine hK _ ?_; clear hK K) | refine AW.skip ?_ | refine AW.exit ?_ | refine AW.ret ?_); simp only [thenA_exit, inBlockA_exit, if_true, if_false, Nat.reduceEqDiff, thenA_normal, inBlockA_normal, reduceIte, thenA_ret, inBlockA_ret, endQ_ret, endR_ret, endG_ret, endQ_normal, endR_normal, endG_normal])))
    exact ⟨_, by simp [ares, aresL, upd, rowsOf_cons]; rfl, .inl ⟨storeZ_pur, by simp [dropOk, h1], rfl⟩⟩
  obtain ⟨q0, q1, q2, _⟩ := storeB_parts h1
  have hdrop := drop_ACR t s nm (storeB_smlS h1) ⟨q1, by omega⟩
  have hfind := find_AC t s nm (by omega)
  by_cases h2 : findI s nm < 0
  · (repeat (first | with_reducible refine AW.seq ?_ | ((first | refine arun_kn 4 rfl (fun C hC => ?_) | refine arunD_kn 4 rfl (fun C hC => ?_)); (repeat ((conv => whnf); simp [h1, h2])); refine hC _ ?_; clear hC C; simp only [List.drop, Nat.reduceAdd]) | ((first | refine arun_kn 1 rfl (fun C hC => ?_) | refine arunD_kn 1 rfl (fun C hC => ?_)); (repeat ((conv => whnf); simp [h1, h2])); refine hC _ ?_; clear hC C; simp only [List.drop, Nat.reduceAdd]) | (refine arun_skip ?_ ?_; (focus (simp [awant, h1, h2]; done))) | (refine arun_c0 (validStore_AC s t) ?_; rintro _ rfl) | (refine arun_c0 (hfind) ?_; rintro _ rfl) | (refine AW.regionK [] (fun K hK => ?_)) | (refine AW.regionDK [] (pcs [] []) (by kernel_rfl) (by kernel_rfl) (fun K hK => ?_)) | (refine AW.condT ?_ ?_; (focus (simp [aev, h1, h2]; done))) | (refine AW.condF ?_ ?_; (focus (simp [aev, h1, h2]; done))) | with_reducible refine AW.block ?_ | ((first | ((first | refine arun_nil ?_ | refine arunD_nil ?_); refine hK _ ?_; clear hK K) | refine AW.skip ?_ | refine AW.exit ?_ | refine AW.ret ?_); simp only [thenA_exit, inBlockA_exit, if_true, if_false, Nat.reduceEqDiff, thenA_normal, inBlockA_normal, reduceIte, thenA_ret, inBlockA_ret, endQ_ret, endR_ret, endG_ret, endQ_normal, endR_normal, endG_normal])))
    exact ⟨_, by simp [ares, aresL, upd, rowsOf_cons]; rfl, .inl ⟨storeZ_pur, by simp [dropOk, h1, h2], rfl⟩⟩
  cases h3 : (s.2 == 999)
  · (repeat (first | with_reducible refine AW.seq ?_ | ((first | refine arun_kn 4 rfl (fun C hC => ?_) | refine arunD_kn 4 rfl (fun C hC => ?_)); (repeat ((conv => whnf); simp [h1, h2, h3])); refine hC _ ?_; clear hC C; simp only [List.drop, Nat.reduceAdd]) | ((first | refine arun_kn 1 rfl (fun C hC => ?_) | refine arunD_kn 1 rfl (fun C hC => ?_)); (repeat ((conv => whnf); simp [h1, h2, h3])); refine hC _ ?_; clear hC C; simp only [List.drop, Nat.reduceAdd]) | (refine arun_skip ?_ ?_; (focus (simp [awant, h1, h2, h3]; done))) | (refine arun_c0 (validStore_AC s t) ?_; rintro _ rfl) | (refine arun_c0 (hfind) ?_; rintro _ rfl) | (refine arun_cR (0) 90 (hdrop) ?_; (rintro _ _ ⟨rfl, rfl⟩)) | (refine AW.regionK [] (fun K hK => ?_)) | (refine AW.regionDK [] (pcs [] []) (by kernel_rfl) (by kernel_rfl) (fun K hK => ?_)) | (refine AW.condT ?_ ?_; (focus (simp [aev, h1, h2, h3]; done))) | (refine AW.condF ?_ ?_; (focus (simp [aev, h1, h2, h3]; done))) | with_reducible refine AW.block ?_ | ((first | ((first | refine arun_nil ?_ | refine arunD_nil ?_); refine hK _ ?_; clear hK K) | refine AW.skip ?_ | refine AW.exit ?_ | refine AW.ret ?_); simp only [thenA_exit, inBlockA_exit, if_true, if_false, Nat.reduceEqDiff, thenA_normal, inBlockA_normal, reduceIte, thenA_ret, inBlockA_ret, endQ_ret, endR_ret, endG_ret, endQ_normal, endR_normal, endG_normal])))
    exact ⟨.tup [storeO (dropS s nm) 90, .bool true], by simp [ares, aresL, upd, rowsOf_cons], .inr ⟨fun id => .tup [storeO (dropS s nm) id, .bool true], 90, itemsRow (dropS s nm), rfl, by simp [upd, itemsRow], tup_res _ true 90, itemsE_pur _, by simp [dropOk, h1, h2, h3], rfl, rfl⟩⟩
  · (repeat (first | with_reducible refine AW.seq ?_ | ((first | refine arun_kn 4 rfl (fun C hC => ?_) | refine arunD_kn 4 rfl (fun C hC => ?_)); (repeat ((conv => whnf); simp [h1, h2, h3])); refine hC _ ?_; clear hC C; simp only [List.drop, Nat.reduceAdd]) | ((first | refine arun_kn 1 rfl (fun C hC => ?_) | refine arunD_kn 1 rfl (fun C hC => ?_)); (repeat ((conv => whnf); simp [h1, h2, h3])); refine hC _ ?_; clear hC C; simp only [List.drop, Nat.reduceAdd]) | (refine arun_skip ?_ ?_; (focus (simp [awant, h1, h2, h3]; done))) | (refine arun_c0 (validStore_AC s t) ?_; rintro _ rfl) | (refine arun_c0 (hfind) ?_; rintro _ rfl) | (refine AW.regionK [] (fun K hK => ?_)) | (refine AW.regionDK [] (pcs [] []) (by kernel_rfl) (by kernel_rfl) (fun K hK => ?_)) | (refine AW.condT ?_ ?_; (focus (simp [aev, h1, h2, h3]; done))) | (refine AW.condF ?_ ?_; (focus (simp [aev, h1, h2, h3]; done))) | with_reducible refine AW.block ?_ | ((first | ((first | refine arun_nil ?_ | refine arunD_nil ?_); refine hK _ ?_; clear hK K) | refine AW.skip ?_ | refine AW.exit ?_ | refine AW.ret ?_); simp only [thenA_exit, inBlockA_exit, if_true, if_false, Nat.reduceEqDiff, thenA_normal, inBlockA_normal, reduceIte, thenA_ret, inBlockA_ret, endQ_ret, endR_ret, endG_ret, endQ_normal, endR_normal, endG_normal])))
    exact ⟨_, by simp [ares, aresL, upd, rowsOf_cons]; rfl, .inl ⟨storeZ_pur, by simp [dropOk, h1, h2, h3], rfl⟩⟩
end Go.Proofs.Ytiobnaielfeeaaa.Eng
-- EV: store
namespace Go.Proofs.Ytiobnaielfeeaaa.Eng
open Go Go.RowKit
attribute [local simp] big size_mk ASt.pay Option.map_map Function.comp_def awant aop acall ado aev ofVal ofVal0 ASt.put ASt.add ASt.turn ASt.kill abox aalloc astore aload aloadD astoreD idOf ASt.at cellsTo afieldAddr afield aindexAddr aindex alen abin aint acmp astr aun apick aextract anil aslice abound abuild afill abuildSlice asCells aps avCells over upd aappend asrc amax amin aconv mkSt slots rowsOf_cons rowsOf_nil usedOf_cons usedOf_nil ZK.av List.replicate ASt.back ASt.addL ASt.killL nodeA nodeT nodeTL_eq nodeL_eq strsE_get strsE_len intsE_get intsE_len strsE_at intsE_at itemA itemL_eq storeA storeT storeO itemsRow tab2 tab3 tab4 tab5 tab6 tab7 tab8 tab9 tab10 tab11 tab12 tab13 tab14 tab15 tab16 tab17 tab18 tab19 tab21 tab22 tab23 tab24 tab25 tab26 tab27 tab28 tab29 tab30 tab48 tab51 tab52 tab59 tab77 tab78 tab79 tab91 tab95 tab96 tab97 tab109 tab116 tab132 tab133 tab138 tab139 tab144 tab145 tab146 tab148 tab149 tab150
theorem specPut_gen (t t' : VC) (s : Sto) (nm : ByteArray) (n : Nd) : ACR Try.prog 114 [storeT t s, .str nm, nodeT t' n] 0 (fun r => r = .tup [storeZ, .bool false]) (fun f R => ∃ s' : Sto, s'.1.length ≤ 10 ∧ f = (fun id => .tup [storeO s' id, .bool true]) ∧ R = itemsRow s') :=
  (specPut_ACR0 t t' s nm n).mono (fun r h => h.2) (fun r R ⟨h1, h2, h3⟩ => ⟨_, by unfold putOk at h1; simp only [Bool.and_eq_true] at h1; exact (storeB_sml h1.2).1, h2, h3⟩)
theorem specDrop_gen (t : VC) (s : Sto) (nm : ByteArray) : ACR Try.prog 116 [storeT t s, .str nm] 0 (fun r => r = .tup [storeZ, .bool false]) (fun f R => ∃ s' : Sto, s'.1.length ≤ 10 ∧ f = (fun id => .tup [storeO s' id, .bool true]) ∧ R = itemsRow s') :=
  (specDrop_ACR0 t s nm).mono (fun r h => h.2) (fun r R ⟨h1, h2, h3⟩ => ⟨_, by unfold dropOk at h1; simp only [Bool.and_eq_true] at h1; have := dropL_len nm s.1; have := (storeB_sml h1.1.1).1; simp only [dropS]; omega, h2, h3⟩)
theorem storeZ_noid : NoId (.tup [storeZ, .bool false]) := in_tup.2 (by
  simp only [List.forall_mem_cons, List.not_mem_nil, false_implies, implies_true, and_true]
  exact ⟨in_agg.2 (by
    simp only [List.forall_mem_cons, List.not_mem_nil, false_implies, implies_true, and_true]
    exact ⟨in_vnil, in_int⟩), in_bool⟩)
theorem someNode_AC : AC Try.prog 69 [.rdr] (nC 3 + 10 + 4 * nC 2) (fun r => ∃ n, SmlV n ∧ r = nodeA n) := by
  refine (AC.ofR someNode_ACR ?_).mono ?_
  · rintro r R ⟨n, _, rfl, rfl⟩
    rw [nodeN_sub]; exact node_in n
  · rintro r (h | ⟨f, R, ⟨n, h1, rfl, rfl⟩, rfl⟩)
    · exact h.elim
    · rw [nodeN_sub]; exact ⟨n, h1, rfl⟩
theorem str_ex : ∃ r, (∃ x : ByteArray, x.size ≤ 12 ∧ r = AV.str x) ∧ NoId r := ⟨_, ⟨⟨#[]⟩, by decide, rfl⟩, in_str⟩
theorem node_ex : ∃ r, (∃ n, SmlV n ∧ r = nodeA n) ∧ NoId r := ⟨_, ⟨_, ⟨sml_leaf 0 0 ⟨#[]⟩, valid0⟩, rfl⟩, node_in _⟩
def store10 (s : Sto) : Prop := s.1.length ≤ 10
theorem someStore_ACR : ACR Try.prog 88 [.rdr] (1 + 12 * (nC 3 + 13 + 4 * nC 2)) (fun _ => False) (SR1 store10) := by
  have hS := someNode_AC
  generalize hC : nC 3 + 10 + 4 * nC 2 = C at *
  have hC' : 1 + 12 * (nC 3 + 13 + 4 * nC 2) = 1 + 12 * (C + 3) := by omega
  rw [hC']
  clear hC hC'
  refine ACR.of tab_ok mixed_ok Try.func88 (by rfl) (by kernel_rfl) ?_; rintro ⟨P, T, hT, hm, w0, S0, rd0, k0⟩ hP hTT; dsimp only at hP hTT; subst hP hTT; unfold initSt; rw [Try.ntmps88]
  (repeat (first | with_reducible refine AW.seq ?_ | ((first | refine arun_kn 4 rfl (fun C hC => ?_) | refine arunD_kn 4 rfl (fun C hC => ?_)); (repeat ((conv => whnf); simp)); refine hC _ ?_; clear hC C; simp only [List.drop, Nat.reduceAdd]) | ((first | refine arun_kn 1 rfl (fun C hC => ?_) | refine arunD_kn 1 rfl (fun C hC => ?_)); (repeat ((conv => whnf); simp)); refine hC _ ?_; clear hC C; simp only [List.drop, Nat.reduceAdd]) | (refine arun_skip ?_ ?_; (focus (simp [awant]; done))) | (refine arun_cU (1) rfl (one_ACU _ _ (by rfl) (by simp) (by simp)) ?_; (rintro r ⟨y, hy, rfl⟩)) | (refine AW.regionK [] (fun K hK => ?_)) | (refine AW.regionDK [] (pcs [] []) (by kernel_rfl) (by kernel_rfl) (fun K hK => ?_)) | (refine AW.condT ?_ ?_; (focus (simp [aev]; done))) | (refine AW.condF ?_ ?_; (focus (simp [aev]; done))) | with_reducible refine AW.block ?_ | ((first | ((first | refine arun_nil ?_ | refine arunD_nil ?_); refine hK _ ?_; clear hK K) | refine AW.skip ?_ | refine AW.exit ?_ | refine AW.ret ?_); simp only [thenA_exit, inBlockA_exit, if_true, if_false, Nat.reduceEqDiff, thenA_normal, inBlockA_normal, reduceIte, thenA_ret, inBlockA_ret, endQ_ret, endR_ret, endG_ret, endQ_normal, endR_normal, endG_normal])))
  have hy4 : 0 ≤ y ∧ y ≤ 12 := by simp [intOf] at hy; omega
  clear hy
  obtain ⟨j, rfl⟩ := Int.eq_ofNat_of_zero_le hy4.1
  refine AW.adoptB 3 0 36 133 7 ⟨_, tab133, rfl⟩ (by simp [upd]; rfl) rfl rfl (by simp [upd]) ?_
  simp [ASt.adoptB, upd]
  refine AW.loopS (fun (x : Sto × Nat × Nat) => mkSt (slots 0 38 [(0, .rdr), (2, .ptr true 2 1 2 0 0), (3, .ptr true 2 1 3 0 0), (4, .int .i64 (x.2.1 : Int))]) [(2, ⟨true, 97, 2, [[.view .tight 0 [], .int .i64 0]]⟩), (3, ⟨true, 97, 2, [[.own 36 x.1.1.length, .int .i64 x.1.2]]⟩), (36, ⟨false, 133, 7, x.1.1.map itemL⟩)] [2, 3, 36] (rd0.map fun _ => x.2.2)) (fun x => x.2.1) (fun x => x.1.1.length ≤ 10 ∧ x.2.1 ≤ 12 ∧ x.2.1 * (C + 3) ≤ x.2.2) (([], 0), j, 12 * (C + 3)) ?_ ⟨by simp, by dsimp only; omega, Nat.mul_le_mul_right (C + 3) (show j ≤ 12 by omega)⟩ ?_
  · dsimp only [List.map_nil, List.length_nil]
    exact less_s
  · rintro ⟨⟨l, ck⟩, j, b⟩ ⟨g1, g2, g3⟩
    dsimp only at g1 g2 g3 ⊢
    cases j with
    | zero =>
      (repeat (first | with_reducible refine AW.seq ?_ | ((first | refine arun_kn 4 rfl (fun C hC => ?_) | refine arunD_kn 4 rfl (fun C hC => ?_)); (repeat ((conv => whnf); simp)); refine hC _ ?_; clear hC C; simp only [List.drop, Nat.reduceAdd]) | ((first | refine arun_kn 1 rfl (fun C hC => ?_) | refine arunD_kn 1 rfl (fun C hC => ?_)); (repeat ((conv => whnf); simp)); refine hC _ ?_; clear hC C; simp only [List.drop, Nat.reduceAdd]) | (refine arun_skip ?_ ?_; (focus (simp [awant]; done))) | (refine AW.regionK [] (fun K hK => ?_)) | (refine AW.regionDK [] (pcs [] []) (by kernel_rfl) (by kernel_rfl) (fun K hK => ?_)) | (refine AW.condT ?_ ?_; (focus (simp [aev]; done))) | (refine AW.condF ?_ ?_; (focus (simp [aev]; done))) | with_reducible refine AW.block ?_ | ((first | ((first | refine arun_nil ?_ | refine arunD_nil ?_); refine hK _ ?_; clear hK K) | refine AW.skip ?_ | refine AW.exit ?_ | refine AW.ret ?_); simp only [thenA_exit, inBlockA_exit, if_true, if_false, Nat.reduceEqDiff, thenA_normal, inBlockA_normal, reduceIte, thenA_ret, inBlockA_ret, endQ_ret, endR_ret, endG_ret, endQ_normal, endR_normal, endG_normal])))
      exact ⟨storeO (l, ck) 36, by simp [ares, aresL, upd, rowsOf_cons], .inr ⟨storeO (l, ck), 36, itemsRow (l, ck), rfl, by simp [upd, rowsOf_cons, itemsRow], storeO_res _ 36, itemsE_pur _, (l, ck), g1, rfl, rfl⟩⟩
    | succ j =>
      have hw : IntKind.i64.wrap (j : Int) = (j : Int) := i64_nat (by omega) (by omega)
      have hpos : (0 : Int) < (j : Int) + 1 := by omega
      have hjc : (j + 1) * (C + 3) = j * (C + 3) + (C + 3) := Nat.succ_mul _ _
      (repeat (first | with_reducible refine AW.seq ?_ | ((first | refine arun_kn 4 rfl (fun C hC => ?_) | refine arunD_kn 4 rfl (fun C hC => ?_)); (repeat ((conv => whnf); simp [hw, hpos, storeZ])); refine hC _ ?_; clear hC C; simp only [List.drop, Nat.reduceAdd]) | ((first | refine arun_kn 1 rfl (fun C hC => ?_) | refine arunD_kn 1 rfl (fun C hC => ?_)); (repeat ((conv => whnf); simp [hw, hpos, storeZ])); refine hC _ ?_; clear hC C; simp only [List.drop, Nat.reduceAdd]) | (refine arun_skip ?_ ?_; (focus (simp [awant, hw, hpos, storeZ]; done))) | (refine arun_c (1) (itemName_AC) ?_; (rintro _ ⟨nm, hnm, rfl⟩)) | (refine arun_c (C) (hS) ?_; (rintro _ ⟨n, hn, rfl⟩)) | (refine arun_c (1) (pick_AC 8 (by omega) (by omega)) ?_; (rintro _ ⟨v, rfl, -⟩)) | (refine arunD_cE (1) (itemName_AC) (by exact str_ex) ?_; (rintro _ ⟨nm, hnm, rfl⟩); intro _) | (refine arunD_cE (C) (hS) (by exact node_ex) ?_; (rintro _ ⟨n, hn, rfl⟩); intro _) | (refine arunD_sE (0) (specPut_gen .lent .loose (l, ck) nm n) (by exact ⟨_, rfl, storeZ_noid⟩) ?_ ?_; (rintro _ rfl -)) | (refine arunD_c (1) (pick_AC 8 (by omega) (by omega)) ?_; (rintro _ ⟨v, rfl, -⟩); intro _) | (refine AW.regionK [] (fun K hK => ?_)) | (refine AW.regionDK [] (pcs [(2, 1, fun r => ∃ x : ByteArray, x.size ≤ 12 ∧ r = .str x), (4, C, fun r => ∃ n, SmlV n ∧ r = nodeA n)] [5]) (by kernel_rfl) (by kernel_rfl) (fun K hK => ?_)) | (refine AW.condT ?_ ?_; (focus (simp [aev, hw, hpos, storeZ]; done))) | (refine AW.condF ?_ ?_; (focus (simp [aev, hw, hpos, storeZ]; done))) | with_reducible refine AW.block ?_ | ((first | ((first | refine arun_nil ?_ | refine arunD_nil ?_); refine hK _ ?_; clear hK K) | refine AW.skip ?_ | refine AW.exit ?_ | refine AW.ret ?_); simp only [thenA_exit, inBlockA_exit, if_true, if_false, Nat.reduceEqDiff, thenA_normal, inBlockA_normal, reduceIte, thenA_ret, inBlockA_ret, endQ_ret, endR_ret, endG_ret, endQ_normal, endR_normal, endG_normal])))
      · cases hv : (v == 0)
        · (repeat (first | with_reducible refine AW.seq ?_ | ((first | refine arun_kn 4 rfl (fun C hC => ?_) | refine arunD_kn 4 rfl (fun C hC => ?_)); (repeat ((conv => whnf); simp [hv, hw])); refine hC _ ?_; clear hC C; simp only [List.drop, Nat.reduceAdd]) | ((first | refine arun_kn 1 rfl (fun C hC => ?_) | refine arunD_kn 1 rfl (fun C hC => ?_)); (repeat ((conv => whnf); simp [hv, hw])); refine hC _ ?_; clear hC C; simp only [List.drop, Nat.reduceAdd]) | (refine arun_skip ?_ ?_; (focus (simp [awant, hv, hw]; done))) | (refine AW.regionK [] (fun K hK => ?_)) | (refine AW.regionDK [] (pcs [] []) (by kernel_rfl) (by kernel_rfl) (fun K hK => ?_)) | (refine AW.condT ?_ ?_; (focus (simp [aev, hv, hw]; done))) | (refine AW.condF ?_ ?_; (focus (simp [aev, hv, hw]; done))) | with_reducible refine AW.block ?_ | ((first | ((first | refine arun_nil ?_ | refine arunD_nil ?_); refine hK _ ?_; clear hK K) | refine AW.skip ?_ | refine AW.exit ?_ | refine AW.ret ?_); simp only [thenA_exit, inBlockA_exit, if_true, if_false, Nat.reduceEqDiff, thenA_normal, inBlockA_normal, reduceIte, thenA_ret, inBlockA_ret, endQ_ret, endR_ret, endG_ret, endQ_normal, endR_normal, endG_normal])))
          refine ⟨((l, ck), j, b - 1 - C - 1), by dsimp only; omega, ⟨g1, by dsimp only; omega, by dsimp only; omega⟩, ?_⟩
          dsimp only
          exact less_s
        · (repeat (first | with_reducible refine AW.seq ?_ | ((first | refine arun_kn 4 rfl (fun C hC => ?_) | refine arunD_kn 4 rfl (fun C hC => ?_)); (repeat ((conv => whnf); simp [hv, hw, storeZ])); refine hC _ ?_; clear hC C; simp only [List.drop, Nat.reduceAdd]) | ((first | refine arun_kn 1 rfl (fun C hC => ?_) | refine arunD_kn 1 rfl (fun C hC => ?_)); (repeat ((conv => whnf); simp [hv, hw, storeZ])); refine hC _ ?_; clear hC C; simp only [List.drop, Nat.reduceAdd]) | (refine arun_skip ?_ ?_; (focus (simp [awant, hv, hw, storeZ]; done))) | (refine arun_c (1) (itemName_AC) ?_; (rintro _ ⟨nm', hnm', rfl⟩)) | (refine arunD_cE (1) (itemName_AC) (by exact str_ex) ?_; (rintro _ ⟨nm', hnm', rfl⟩); intro _) | (refine arunD_sE (0) (specDrop_gen .lent (l, ck) nm') (by exact ⟨_, rfl, storeZ_noid⟩) ?_ ?_; (rintro _ rfl -)) | (refine AW.regionK [] (fun K hK => ?_)) | (refine AW.regionDK [] (pcs [(2, 1, fun r => ∃ x : ByteArray, x.size ≤ 12 ∧ r = .str x)] [3]) (by kernel_rfl) (by kernel_rfl) (fun K hK => ?_)) | (refine AW.condT ?_ ?_; (focus (simp [aev, hv, hw, storeZ]; done))) | (refine AW.condF ?_ ?_; (focus (simp [aev, hv, hw, storeZ]; done))) | with_reducible refine AW.block ?_ | ((first | ((first | refine arun_nil ?_ | refine arunD_nil ?_); refine hK _ ?_; clear hK K) | refine AW.skip ?_ | refine AW.exit ?_ | refine AW.ret ?_); simp only [thenA_exit, inBlockA_exit, if_true, if_false, Nat.reduceEqDiff, thenA_normal, inBlockA_normal, reduceIte, thenA_ret, inBlockA_ret, endQ_ret, endR_ret, endG_ret, endQ_normal, endR_normal, endG_normal])))
          · skip
            refine ⟨((l, ck), j, b - 1 - C - 1 - 1), by dsimp only; omega, ⟨g1, by dsimp only; omega, by dsimp only; omega⟩, ?_⟩
            dsimp only
            exact less_s
          · rintro _ _ ⟨⟨l', ck'⟩, hs', rfl, rfl⟩ -
            dsimp only at hs'
            (repeat (first | with_reducible refine AW.seq ?_ | ((first | refine arun_kn 4 rfl (fun C hC => ?_) | refine arunD_kn 4 rfl (fun C hC => ?_)); (repeat ((conv => whnf); simp [hw])); refine hC _ ?_; clear hC C; simp only [List.drop, Nat.reduceAdd]) | ((first | refine arun_kn 1 rfl (fun C hC => ?_) | refine arunD_kn 1 rfl (fun C hC => ?_)); (repeat ((conv => whnf); simp [hw])); refine hC _ ?_; clear hC C; simp only [List.drop, Nat.reduceAdd]) | (refine arun_skip ?_ ?_; (focus (simp [awant, hw]; done))) | (refine AW.regionK [] (fun K hK => ?_)) | (refine AW.regionDK [] (pcs [] []) (by kernel_rfl) (by kernel_rfl) (fun K hK => ?_)) | (refine AW.condT ?_ ?_; (focus (simp [aev, hw]; done))) | (refine AW.condF ?_ ?_; (focus (simp [aev, hw]; done))) | with_reducible refine AW.block ?_ | ((first | ((first | refine arun_nil ?_ | refine arunD_nil ?_); refine hK _ ?_; clear hK K) | refine AW.skip ?_ | refine AW.exit ?_ | refine AW.ret ?_); simp only [thenA_exit, inBlockA_exit, if_true, if_false, Nat.reduceEqDiff, thenA_normal, inBlockA_normal, reduceIte, thenA_ret, inBlockA_ret, endQ_ret, endR_ret, endG_ret, endQ_normal, endR_normal, endG_normal])))
            refine ⟨((l', ck'), j, b - 1 - C - 1 - 1), by dsimp only; omega, ⟨hs', by dsimp only; omega, by dsimp only; omega⟩, ?_⟩
            dsimp only
            refine Less.trans (s' := mkSt (slots 0 38 [(0, .rdr), (2, .ptr true 2 1 2 0 0), (3, .ptr true 2 1 3 0 0), (4, .int .i64 (j : Int))]) [(2, ⟨true, 97, 2, [[.view .tight 0 [], .int .i64 0]]⟩), (3, ⟨true, 97, 2, [[.own 32 l'.length, .int .i64 ck']]⟩), (32, ⟨false, 133, 7, l'.map itemL⟩)] [2, 3, 32] (rd0.map fun _ => b - 1 - C - 1 - 1)) less_s (Less.trans (Less.rename 32 36 (by simp [mkSt, usedOf_cons, usedOf_nil])) ?_)
            simp only [ASt.rename, mkSt, rowsOf_cons, Nat.reduceEqDiff, if_true, if_false, reduceIte]
            exact (less_of (by simp [lessL, mkSt, slots, AV.subL, AV.sub, Row.sub, rowsOf_nil, itemsE_sub, itemA, itemL_eq, storeA, storeT, storeO, itemsRow]) (by simp [upd, mkSt, rowsOf_cons, AV.subL, AV.sub, Row.sub, rowsOf_nil, itemsE_sub, itemA, itemL_eq, storeA, storeT, storeO, itemsRow]) (by simp [upd, mkSt, usedOf_cons, AV.subL, AV.sub, Row.sub, rowsOf_nil, itemsE_sub, itemA, itemL_eq, storeA, storeT, storeO, itemsRow]) (by first | exact rd_less (by omega) | simp [mkSt, AV.subL, AV.sub, Row.sub, rowsOf_nil, itemsE_sub, itemA, itemL_eq, storeA, storeT, storeO, itemsRow]) (by simp [slots, in_any, in_int, in_bool, in_str, in_ptr, in_own, in_agg, in_vnil, in_rdr, usedOf_cons, usedOf_nil, strs_in, ints_in, nodes_in, items_in, in_tup, AV.subL, AV.sub, Row.sub, rowsOf_nil, itemsE_sub, itemA, itemL_eq, storeA, storeT, storeO, itemsRow]) (by simp only [List.forall_mem_cons, List.not_mem_nil, false_implies, implies_true, and_true, true_and, AV.subL, AV.sub, Row.sub, rowsOf_nil, itemsE_sub, itemA, itemL_eq, storeA, storeT, storeO, itemsRow]; (repeat (first | with_reducible exact trivial | with_reducible refine And.intro ?_ ?_ | with_reducible exact in_int | with_reducible exact in_str | with_reducible exact in_bool | with_reducible exact strs_in _ | with_reducible exact nodes_in _ | with_reducible exact items_in _ | with_reducible exact in_vnil | with_reducible exact in_any | exact hin _ | with_reducible refine take_in ?_ | with_reducible exact strsE_in _ | with_reducible exact nodesE_in _ | with_reducible exact nodeL_in _ | with_reducible exact itemsE_in _ | with_reducible exact itemL_in _ | with_reducible refine app_in ?_ ?_ | with_reducible refine sing_in ?_ | (focus (simp [in_any, in_int, in_bool, in_str, in_ptr, in_own, in_agg, in_vnil, in_rdr, usedOf_cons, usedOf_nil, strs_in, ints_in, nodes_in, items_in, AV.subL, AV.sub, Row.sub, rowsOf_nil, itemsE_sub, itemA, itemL_eq, storeA, storeT, storeO, itemsRow]; done)))); done))
      · rintro _ _ ⟨⟨l', ck'⟩, hs', rfl, rfl⟩ -
        dsimp only at hs'
        (repeat (first | with_reducible refine AW.seq ?_ | ((first | refine arun_kn 4 rfl (fun C hC => ?_) | refine arunD_kn 4 rfl (fun C hC => ?_)); (repeat ((conv => whnf); simp [hw])); refine hC _ ?_; clear hC C; simp only [List.drop, Nat.reduceAdd]) | ((first | refine arun_kn 1 rfl (fun C hC => ?_) | refine arunD_kn 1 rfl (fun C hC => ?_)); (repeat ((conv => whnf); simp [hw])); refine hC _ ?_; clear hC C; simp only [List.drop, Nat.reduceAdd]) | (refine arun_skip ?_ ?_; (focus (simp [awant, hw]; done))) | (refine arun_c (1) (pick_AC 8 (by omega) (by omega)) ?_; (rintro _ ⟨v, rfl, -⟩)) | (refine AW.regionK [] (fun K hK => ?_)) | (refine AW.regionDK [] (pcs [] []) (by kernel_rfl) (by kernel_rfl) (fun K hK => ?_)) | (refine AW.condT ?_ ?_; (focus (simp [aev, hw]; done))) | (refine AW.condF ?_ ?_; (focus (simp [aev, hw]; done))) | with_reducible refine AW.block ?_ | ((first | ((first | refine arun_nil ?_ | refine arunD_nil ?_); refine hK _ ?_; clear hK K) | refine AW.skip ?_ | refine AW.exit ?_ | refine AW.ret ?_); simp only [thenA_exit, inBlockA_exit, if_true, if_false, Nat.reduceEqDiff, thenA_normal, inBlockA_normal, reduceIte, thenA_ret, inBlockA_ret, endQ_ret, endR_ret, endG_ret, endQ_normal, endR_normal, endG_normal])))
        cases hv : (v == 0)
        · (repeat (first | with_reducible refine AW.seq ?_ | ((first | refine arun_kn 4 rfl (fun C hC => ?_) | refine arunD_kn 4 rfl (fun C hC => ?_)); (repeat ((conv => whnf); simp [hv, hw])); refine hC _ ?_; clear hC C; simp only [List.drop, Nat.reduceAdd]) | ((first | refine arun_kn 1 rfl (fun C hC => ?_) | refine arunD_kn 1 rfl (fun C hC => ?_)); (repeat ((conv => whnf); simp [hv, hw])); refine hC _ ?_; clear hC C; simp only [List.drop, Nat.reduceAdd]) | (refine arun_skip ?_ ?_; (focus (simp [awant, hv, hw]; done))) | (refine AW.regionK [] (fun K hK => ?_)) | (refine AW.regionDK [] (pcs [] []) (by kernel_rfl) (by kernel_rfl) (fun K hK => ?_)) | (refine AW.condT ?_ ?_; (focus (simp [aev, hv, hw]; done))) | (refine AW.condF ?_ ?_; (focus (simp [aev, hv, hw]; done))) | with_reducible refine AW.block ?_ | ((first | ((first | refine arun_nil ?_ | refine arunD_nil ?_); refine hK _ ?_; clear hK K) | refine AW.skip ?_ | refine AW.exit ?_ | refine AW.ret ?_); simp only [thenA_exit, inBlockA_exit, if_true, if_false, Nat.reduceEqDiff, thenA_normal, inBlockA_normal, reduceIte, thenA_ret, inBlockA_ret, endQ_ret, endR_ret, endG_ret, endQ_normal, endR_normal, endG_normal])))
          refine ⟨((l', ck'), j, b - 1 - C - 1), by dsimp only; omega, ⟨hs', by dsimp only; omega, by dsimp only; omega⟩, ?_⟩
          dsimp only
          refine Less.trans (s' := mkSt (slots 0 38 [(0, .rdr), (2, .ptr true 2 1 2 0 0), (3, .ptr true 2 1 3 0 0), (4, .int .i64 (j : Int))]) [(2, ⟨true, 97, 2, [[.view .tight 0 [], .int .i64 0]]⟩), (3, ⟨true, 97, 2, [[.own 22 l'.length, .int .i64 ck']]⟩), (22, ⟨false, 133, 7, l'.map itemL⟩)] [2, 3, 22] (rd0.map fun _ => b - 1 - C - 1)) less_s (Less.trans (Less.rename 22 36 (by simp [mkSt, usedOf_cons, usedOf_nil])) ?_)
          simp only [ASt.rename, mkSt, rowsOf_cons, Nat.reduceEqDiff, if_true, if_false, reduceIte]
          exact (less_of (by simp [lessL, mkSt, slots, AV.subL, AV.sub, Row.sub, rowsOf_nil, itemsE_sub, itemA, itemL_eq, storeA, storeT, storeO, itemsRow]) (by simp [upd, mkSt, rowsOf_cons, AV.subL, AV.sub, Row.sub, rowsOf_nil, itemsE_sub, itemA, itemL_eq, storeA, storeT, storeO, itemsRow]) (by simp [upd, mkSt, usedOf_cons, AV.subL, AV.sub, Row.sub, rowsOf_nil, itemsE_sub, itemA, itemL_eq, storeA, storeT, storeO, itemsRow]) (by first | exact rd_less (by omega) | simp [mkSt, AV.subL, AV.sub, Row.sub, rowsOf_nil, itemsE_sub, itemA, itemL_eq, storeA, storeT, storeO, itemsRow]) (by simp [slots, in_any, in_int, in_bool, in_str, in_ptr, in_own, in_agg, in_vnil, in_rdr, usedOf_cons, usedOf_nil, strs_in, ints_in, nodes_in, items_in, in_tup, AV.subL, AV.sub, Row.sub, rowsOf_nil, itemsE_sub, itemA, itemL_eq, storeA, storeT, storeO, itemsRow]) (by simp only [List.forall_mem_cons, List.not_mem_nil, false_implies, implies_true, and_true, true_and, AV.subL, AV.sub, Row.sub, rowsOf_nil, itemsE_sub, itemA, itemL_eq, storeA, storeT, storeO, itemsRow]; (repeat (first | with_reducible exact trivial | with_reducible refine And.intro ?_ ?_ | with_reducible exact in_int | with_reducible exact in_str | with_reducible exact in_bool | with_reducible exact strs_in _ | with_reducible exact nodes_in _ | with_reducible exact items_in _ | with_reducible exact in_vnil | with_reducible exact in_any | exact hin _ | with_reducible refine take_in ?_ | with_reducible exact strsE_in _ | with_reducible exact nodesE_in _ | with_reducible exact nodeL_in _ | with_reducible exact itemsE_in _ | with_reducible exact itemL_in _ | with_reducible refine app_in ?_ ?_ | with_reducible refine sing_in ?_ | (focus (simp [in_any, in_int, in_bool, in_str, in_ptr, in_own, in_agg, in_vnil, in_rdr, usedOf_cons, usedOf_nil, strs_in, ints_in, nodes_in, items_in, AV.subL, AV.sub, Row.sub, rowsOf_nil, itemsE_sub, itemA, itemL_eq, storeA, storeT, storeO, itemsRow]; done)))); done))
        · (repeat (first | with_reducible refine AW.seq ?_ | ((first | refine arun_kn 4 rfl (fun C hC => ?_) | refine arunD_kn 4 rfl (fun C hC => ?_)); (repeat ((conv => whnf); simp [hv, hw, storeZ])); refine hC _ ?_; clear hC C; simp only [List.drop, Nat.reduceAdd]) | ((first | refine arun_kn 1 rfl (fun C hC => ?_) | refine arunD_kn 1 rfl (fun C hC => ?_)); (repeat ((conv => whnf); simp [hv, hw, storeZ])); refine hC _ ?_; clear hC C; simp only [List.drop, Nat.reduceAdd]) | (refine arun_skip ?_ ?_; (focus (simp [awant, hv, hw, storeZ]; done))) | (refine arun_c (1) (itemName_AC) ?_; (rintro _ ⟨nm', hnm', rfl⟩)) | (refine arunD_cE (1) (itemName_AC) (by exact str_ex) ?_; (rintro _ ⟨nm', hnm', rfl⟩); intro _) | (refine arunD_sE (0) (specDrop_gen .lent (l, ck) nm') (by exact ⟨_, rfl, storeZ_noid⟩) ?_ ?_; (rintro _ rfl -)) | (refine AW.regionK [] (fun K hK => ?_)) | (refine AW.regionDK [] (pcs [(2, 1, fun r => ∃ x : ByteArray, x.size ≤ 12 ∧ r = .str x)] [3]) (by kernel_rfl) (by kernel_rfl) (fun K hK => ?_)) | (refine AW.condT ?_ ?_; (focus (simp [aev, hv, hw, storeZ]; done))) | (refine AW.condF ?_ ?_; (focus (simp [aev, hv, hw, storeZ]; done))) | with_reducible refine AW.block ?_ | ((first | ((first | refine arun_nil ?_ | refine arunD_nil ?_); refine hK _ ?_; clear hK K) | refine AW.skip ?_ | refine AW.exit ?_ | refine AW.ret ?_); simp only [thenA_exit, inBlockA_exit, if_true, if_false, Nat.reduceEqDiff, thenA_normal, inBlockA_normal, reduceIte, thenA_ret, inBlockA_ret, endQ_ret, endR_ret, endG_ret, endQ_normal, endR_normal, endG_normal])))
          · skip
            refine ⟨((l, ck), j, b - 1 - C - 1 - 1), by dsimp only; omega, ⟨g1, by dsimp only; omega, by dsimp only; omega⟩, ?_⟩
            dsimp only
            exact less_s
          · rintro _ _ ⟨⟨l'', ck''⟩, hs'', rfl, rfl⟩ -
            dsimp only at hs''
            clear hs'
            (repeat (first | with_reducible refine AW.seq ?_ | ((first | refine arun_kn 4 rfl (fun C hC => ?_) | refine arunD_kn 4 rfl (fun C hC => ?_)); (repeat ((conv => whnf); simp [hw])); refine hC _ ?_; clear hC C; simp only [List.drop, Nat.reduceAdd]) | ((first | refine arun_kn 1 rfl (fun C hC => ?_) | refine arunD_kn 1 rfl (fun C hC => ?_)); (repeat ((conv => whnf); simp [hw])); refine hC _ ?_; clear hC C; simp only [List.drop, Nat.reduceAdd]) | (refine arun_skip ?_ ?_; (focus (simp [awant, hw]; done))) | (refine AW.regionK [] (fun K hK => ?_)) | (refine AW.regionDK [] (pcs [] []) (by kernel_rfl) (by kernel_rfl) (fun K hK => ?_)) | (refine AW.condT ?_ ?_; (focus (simp [aev, hw]; done))) | (refine AW.condF ?_ ?_; (focus (simp [aev, hw]; done))) | with_reducible refine AW.block ?_ | ((first | ((first | refine arun_nil ?_ | refine arunD_nil ?_); refine hK _ ?_; clear hK K) | refine AW.skip ?_ | refine AW.exit ?_ | refine AW.ret ?_); simp only [thenA_exit, inBlockA_exit, if_true, if_false, Nat.reduceEqDiff, thenA_normal, inBlockA_normal, reduceIte, thenA_ret, inBlockA_ret, endQ_ret, endR_ret, endG_ret, endQ_normal, endR_normal, endG_normal])))
            refine ⟨((l'', ck''), j, b - 1 - C - 1 - 1), by dsimp only; omega, ⟨hs'', by dsimp only; omega, by dsimp only; omega⟩, ?_⟩
            dsimp only
            refine Less.trans (s' := mkSt (slots 0 38 [(0, .rdr), (2, .ptr true 2 1 2 0 0), (3, .ptr true 2 1 3 0 0), (4, .int .i64 (j : Int))]) [(2, ⟨true, 97, 2, [[.view .tight 0 [], .int .i64 0]]⟩), (3, ⟨true, 97, 2, [[.own 32 l''.length, .int .i64 ck'']]⟩), (32, ⟨false, 133, 7, l''.map itemL⟩)] [2, 3, 32] (rd0.map fun _ => b - 1 - C - 1 - 1)) less_s (Less.trans (Less.rename 32 36 (by simp [mkSt, usedOf_cons, usedOf_nil])) ?_)
            simp only [ASt.rename, mkSt, rowsOf_cons, Nat.reduceEqDiff, if_true, if_false, reduceIte]
            exact (less_of (by simp [lessL, mkSt, slots, AV.subL, AV.sub, Row.sub, rowsOf_nil, itemsE_sub, itemA, itemL_eq, storeA, storeT, storeO, itemsRow]) (by simp [upd, mkSt, rowsOf_cons, AV.subL, AV.sub, Row.sub, rowsOf_nil, itemsE_sub, itemA, itemL_eq, storeA, storeT, storeO, itemsRow]) (by simp [upd, mkSt, usedOf_cons, AV.subL, AV.sub, Row.sub, rowsOf_nil, itemsE_sub, itemA, itemL_eq, storeA, storeT, storeO, itemsRow]) (by first | exact rd_less (by omega) | simp [mkSt, AV.subL, AV.sub, Row.sub, rowsOf_nil, itemsE_sub, itemA, itemL_eq, storeA, storeT, storeO, itemsRow]) (by simp [slots, in_any, in_int, in_bool, in_str, in_ptr, in_own, in_agg, in_vnil, in_rdr, usedOf_cons, usedOf_nil, strs_in, ints_in, nodes_in, items_in, in_tup, AV.subL, AV.sub, Row.sub, rowsOf_nil, itemsE_sub, itemA, itemL_eq, storeA, storeT, storeO, itemsRow]) (by simp only [List.forall_mem_cons, List.not_mem_nil, false_implies, implies_true, and_true, true_and, AV.subL, AV.sub, Row.sub, rowsOf_nil, itemsE_sub, itemA, itemL_eq, storeA, storeT, storeO, itemsRow]; (repeat (first | with_reducible exact trivial | with_reducible refine And.intro ?_ ?_ | with_reducible exact in_int | with_reducible exact in_str | with_reducible exact in_bool | with_reducible exact strs_in _ | with_reducible exact nodes_in _ | with_reducible exact items_in _ | with_reducible exact in_vnil | with_reducible exact in_any | exact hin _ | with_reducible refine take_in ?_ | with_reducible exact strsE_in _ | with_reducible exact nodesE_in _ | with_reducible exact nodeL_in _ | with_reducible exact itemsE_in _ | with_reducible exact itemL_in _ | with_reducible refine app_in ?_ ?_ | with_reducible refine sing_in ?_ | (focus (simp [in_any, in_int, in_bool, in_str, in_ptr, in_own, in_agg, in_vnil, in_rdr, usedOf_cons, usedOf_nil, strs_in, ints_in, nodes_in, items_in, AV.subL, AV.sub, Row.sub, rowsOf_nil, itemsE_sub, itemA, itemL_eq, storeA, storeT, storeO, itemsRow]; done)))); done))
end Go.Proofs.Ytiobnaielfeeaaa.Eng
-- EV: store
namespace Go.Proofs.Ytiobnaielfeeaaa.Eng
open Go Go.RowKit
attribute [local simp] big size_mk ASt.pay Option.map_map Function.comp_def awant aop acall ado aev ofVal ofVal0 ASt.put ASt.add ASt.turn ASt.kill abox aalloc astore aload aloadD astoreD idOf ASt.at cellsTo afieldAddr afield aindexAddr aindex alen abin aint acmp astr aun apick aextract anil aslice abound abuild afill abuildSlice asCells aps avCells over upd aappend asrc amax amin aconv mkSt slots rowsOf_cons rowsOf_nil usedOf_cons usedOf_nil ZK.av List.replicate ASt.back ASt.addL ASt.killL nodeA nodeT nodeTL_eq nodeL_eq strsE_get strsE_len intsE_get intsE_len strsE_at intsE_at itemA itemL_eq storeA storeT storeO itemsRow tab2 tab3 tab4 tab5 tab6 tab7 tab8 tab9 tab10 tab11 tab12 tab13 tab14 tab15 tab16 tab17 tab18 tab19 tab21 tab22 tab23 tab24 tab25 tab26 tab27 tab28 tab29 tab30 tab48 tab51 tab52 tab59 tab77 tab78 tab79 tab91 tab95 tab96 tab97 tab109 tab116 tab132 tab133 tab138 tab139 tab144 tab145 tab146 tab148 tab149 tab150
theorem WkE.refl : ∀ (es : List (List AV)), WkE es es
  | [] => .nil
  | e :: es => .cons (WkL.refl e) (WkE.refl es)
theorem WkE.append {a b c d : List (List AV)} (h : WkE a b) (k : WkE c d) : WkE (a ++ c) (b ++ d) := by
  induction h with
  | nil => exact k
  | cons h _ ih => exact .cons h ih
end Go.Proofs.Ytiobnaielfeeaaa.Eng
-- EV: store skip
namespace Go.Proofs.Ytiobnaielfeeaaa.Eng
open Go Go.RowKit
attribute [local simp] big size_mk ASt.pay Option.map_map Function.comp_def awant aop acall ado aev ofVal ofVal0 ASt.put ASt.add ASt.turn ASt.kill abox aalloc astore aload aloadD astoreD idOf ASt.at cellsTo afieldAddr afield aindexAddr aindex alen abin aint acmp astr aun apick aextract anil aslice abound abuild afill abuildSlice asCells aps avCells over upd aappend asrc amax amin aconv mkSt slots rowsOf_cons rowsOf_nil usedOf_cons usedOf_nil ZK.av List.replicate ASt.back ASt.addL ASt.killL nodeA nodeT nodeTL_eq nodeL_eq strsE_get strsE_len intsE_get intsE_len strsE_at intsE_at itemA itemL_eq storeA storeT storeO itemsRow tab2 tab3 tab4 tab5 tab6 tab7 tab8 tab9 tab10 tab11 tab12 tab13 tab14 tab15 tab16 tab17 tab18 tab19 tab21 tab22 tab23 tab24 tab25 tab26 tab27 tab28 tab29 tab30 tab48 tab51 tab52 tab59 tab77 tab78 tab79 tab91 tab95 tab96 tab97 tab109 tab116 tab132 tab133 tab138 tab139 tab144 tab145 tab146 tab148 tab149 tab150
theorem storeB_shp {s : Sto} (h : storeB s = true) : ∀ x ∈ s.1, Shp x.2.2 := fun x hx => by
  have := (storeB_parts h).2.2.2.1 x hx
  unfold itmB at this
  simp only [Bool.and_eq_true] at this
  exact Shp.of this.2
def rIdx0 (r : AV) : Prop := r = .view .tight 0 []
def rIdx (f : Nat → AV) (R : Row) : Prop := ∃ l : List (Nd × ByteArray), l.length ≤ 1000 ∧ (∀ x ∈ l, Shp x.1) ∧ f = (fun id => .own id l.length) ∧ R = entsR l
theorem indexStore_ACR (s : Sto) (p : List ByteArray) (hp : p.length ≤ 1000) : ACR Try.prog 89 [storeA s, .view .loose 1 (strsE p)] 0 rIdx0 rIdx := by
  have c1 := validStore_AC s .loose
  have c2 := validPath_AC p .loose
  have hcs := storeA_clo s
  unfold storeA storeT at hcs ⊢
  refine ACR.of tab_ok mixed_ok Try.func89 (by rfl) (by kernel_rfl) ?_; rintro ⟨P, T, hT, hm, w0, S0, rd0, k0⟩ hP hTT; dsimp only at hP hTT; subst hP hTT; unfold initSt; rw [Try.ntmps89]
  cases h1 : storeB s
  · rw [h1] at c1
    (repeat (first | with_reducible refine AW.seq ?_ | ((first | refine arun_kn 4 rfl (fun C hC => ?_) | refine arunD_kn 4 rfl (fun C hC => ?_)); (repeat ((conv => whnf); simp)); refine hC _ ?_; clear hC C; simp only [List.drop, Nat.reduceAdd]) | ((first | refine arun_kn 1 rfl (fun C hC => ?_) | refine arunD_kn 1 rfl (fun C hC => ?_)); (repeat ((conv => whnf); simp)); refine hC _ ?_; clear hC C; simp only [List.drop, Nat.reduceAdd]) | (refine arun_skip ?_ ?_; (focus (simp [awant]; done))) | (refine arun_c0 (c1) ?_; rintro _ rfl) | (refine arunD_skip ?_ ?_; (focus (simp [awant]; done))) | (refine AW.regionK [] (fun K hK => ?_)) | (refine AW.regionDK [] (pcs [] []) (by kernel_rfl) (by kernel_rfl) (fun K hK => ?_)) | (refine AW.condT ?_ ?_; (focus (simp [aev]; done))) | (refine AW.condF ?_ ?_; (focus (simp [aev]; done))) | with_reducible refine AW.block ?_ | ((first | ((first | refine arun_nil ?_ | refine arunD_nil ?_); refine hK _ ?_; clear hK K) | refine AW.skip ?_ | refine AW.exit ?_ | refine AW.ret ?_); simp only [thenA_exit, inBlockA_exit, if_true, if_false, Nat.reduceEqDiff, thenA_normal, inBlockA_normal, reduceIte, thenA_ret, inBlockA_ret, endQ_ret, endR_ret, endG_ret, endQ_normal, endR_normal, endG_normal])))
    exact ⟨.view .tight 0 [], by simp [ares, aresL], .inl ⟨pur_view (by decide) (fun e he => by cases he), rfl⟩⟩
  rw [h1] at c1
  cases h2 : pathB p
  · rw [h2] at c2
    (repeat (first | with_reducible refine AW.seq ?_ | ((first | refine arun_kn 4 rfl (fun C hC => ?_) | refine arunD_kn 4 rfl (fun C hC => ?_)); (repeat ((conv => whnf); simp)); refine hC _ ?_; clear hC C; simp only [List.drop, Nat.reduceAdd]) | ((first | refine arun_kn 1 rfl (fun C hC => ?_) | refine arunD_kn 1 rfl (fun C hC => ?_)); (repeat ((conv => whnf); simp)); refine hC _ ?_; clear hC C; simp only [List.drop, Nat.reduceAdd]) | (refine arun_skip ?_ ?_; (focus (simp [awant]; done))) | (refine arun_c0 (c1) ?_; rintro _ rfl) | (refine arun_c0 (c2) ?_; rintro _ rfl) | (refine arunD_skip ?_ ?_; (focus (simp [awant]; done))) | (refine AW.regionK [] (fun K hK => ?_)) | (refine AW.regionDK [] (pcs [] []) (by kernel_rfl) (by kernel_rfl) (fun K hK => ?_)) | (refine AW.condT ?_ ?_; (focus (simp [aev]; done))) | (refine AW.condF ?_ ?_; (focus (simp [aev]; done))) | with_reducible refine AW.block ?_ | ((first | ((first | refine arun_nil ?_ | refine arunD_nil ?_); refine hK _ ?_; clear hK K) | refine AW.skip ?_ | refine AW.exit ?_ | refine AW.ret ?_); simp only [thenA_exit, inBlockA_exit, if_true, if_false, Nat.reduceEqDiff, thenA_normal, inBlockA_normal, reduceIte, thenA_ret, inBlockA_ret, endQ_ret, endR_ret, endG_ret, endQ_normal, endR_normal, endG_normal])))
    exact ⟨.view .tight 0 [], by simp [ares, aresL], .inl ⟨pur_view (by decide) (fun e he => by cases he), rfl⟩⟩
  rw [h2] at c2
  have c3 := entries_ACR s p .loose (storeB_shp h1) (by have := (storeB_parts h1).1; omega) hp
  unfold storeA storeT at c3
  (repeat (first | with_reducible refine AW.seq ?_ | ((first | refine arun_kn 4 rfl (fun C hC => ?_) | refine arunD_kn 4 rfl (fun C hC => ?_)); (repeat ((conv => whnf); simp)); refine hC _ ?_; clear hC C; simp only [List.drop, Nat.reduceAdd]) | ((first | refine arun_kn 1 rfl (fun C hC => ?_) | refine arunD_kn 1 rfl (fun C hC => ?_)); (repeat ((conv => whnf); simp)); refine hC _ ?_; clear hC C; simp only [List.drop, Nat.reduceAdd]) | (refine arun_skip ?_ ?_; (focus (simp [awant]; done))) | (refine arun_c0 (c1) ?_; rintro _ rfl) | (refine arun_c0 (c2) ?_; rintro _ rfl) | (refine arun_cR (0) 15 (c3) ?_; (rintro _ _ ⟨l, hl, hg, rfl, rfl⟩)) | (refine arunD_skip ?_ ?_; (focus (simp [awant]; done))) | (refine AW.regionK [] (fun K hK => ?_)) | (refine AW.regionDK [] (pcs [] []) (by kernel_rfl) (by kernel_rfl) (fun K hK => ?_)) | (refine AW.condT ?_ ?_; (focus (simp [aev]; done))) | (refine AW.condF ?_ ?_; (focus (simp [aev]; done))) | with_reducible refine AW.block ?_ | ((first | ((first | refine arun_nil ?_ | refine arunD_nil ?_); refine hK _ ?_; clear hK K) | refine AW.skip ?_ | refine AW.exit ?_ | refine AW.ret ?_); simp only [thenA_exit, inBlockA_exit, if_true, if_false, Nat.reduceEqDiff, thenA_normal, inBlockA_normal, reduceIte, thenA_ret, inBlockA_ret, endQ_ret, endR_ret, endG_ret, endQ_normal, endR_normal, endG_normal])))
  exact ⟨.own 15 l.length, by simp [ares, aresL], .inr ⟨fun id => .own id l.length, 15, entsR l, rfl, by simp [upd, rowsOf_cons, entsR], Res1.own _ _, entsE_pur _, l, hl, hg, rfl, rfl⟩⟩
theorem words_AC : AC Try.prog 90 [.rdr] 11 rPath := by
  have p2 := anyPath_AC
  refine AC.weak ?_
  refine AC.of tab_ok mixed_ok Try.func90 (by rfl) (by kernel_rfl) ?_; rintro ⟨P, T, hT, hm, w0, S0, rd0, k0⟩ hP hTT; dsimp only at hP hTT; subst hP hTT; unfold initSt; rw [Try.ntmps90]
  (repeat (first | with_reducible refine AW.seq ?_ | ((first | refine arun_kn 4 rfl (fun C hC => ?_) | refine arunD_kn 4 rfl (fun C hC => ?_)); (repeat ((conv => whnf); simp)); refine hC _ ?_; clear hC C; simp only [List.drop, Nat.reduceAdd]) | ((first | refine arun_kn 1 rfl (fun C hC => ?_) | refine arunD_kn 1 rfl (fun C hC => ?_)); (repeat ((conv => whnf); simp)); refine hC _ ?_; clear hC C; simp only [List.drop, Nat.reduceAdd]) | (refine arun_skip ?_ ?_; (focus (simp [awant]; done))) | (refine arun_c (1) (pick_AC 4 (by omega) (by omega)) ?_; (rintro _ ⟨v, rfl, -⟩)) | (refine arunD_skip ?_ ?_; (focus (simp [awant]; done))) | (refine AW.regionK [] (fun K hK => ?_)) | (refine AW.regionDK [] (pcs [] []) (by kernel_rfl) (by kernel_rfl) (fun K hK => ?_)) | (refine AW.condT ?_ ?_; (focus (simp [aev]; done))) | (refine AW.condF ?_ ?_; (focus (simp [aev]; done))) | with_reducible refine AW.block ?_ | ((first | ((first | refine arun_nil ?_ | refine arunD_nil ?_); refine hK _ ?_; clear hK K) | refine AW.skip ?_ | refine AW.exit ?_ | refine AW.ret ?_); simp only [thenA_exit, inBlockA_exit, if_true, if_false, Nat.reduceEqDiff, thenA_normal, inBlockA_normal, reduceIte, thenA_ret, inBlockA_ret, endQ_ret, endR_ret, endG_ret, endQ_normal, endR_normal, endG_normal])))
  cases hv : v == 0
  · (repeat (first | with_reducible refine AW.seq ?_ | ((first | refine arun_kn 4 rfl (fun C hC => ?_) | refine arunD_kn 4 rfl (fun C hC => ?_)); (repeat ((conv => whnf); simp [hv])); refine hC _ ?_; clear hC C; simp only [List.drop, Nat.reduceAdd]) | ((first | refine arun_kn 1 rfl (fun C hC => ?_) | refine arunD_kn 1 rfl (fun C hC => ?_)); (repeat ((conv => whnf); simp [hv])); refine hC _ ?_; clear hC C; simp only [List.drop, Nat.reduceAdd]) | (refine arun_skip ?_ ?_; (focus (simp [awant, hv]; done))) | (refine arun_cU (1) rfl (of_ACU _ _ (by rfl) (by simp) (by simp)) ?_; (rintro _ ⟨x, -, rfl⟩)) | (refine arunD_skip ?_ ?_; (focus (simp [awant, hv]; done))) | (refine AW.regionK [] (fun K hK => ?_)) | (refine AW.regionDK [] (pcs [] []) (by kernel_rfl) (by kernel_rfl) (fun K hK => ?_)) | (refine AW.condT ?_ ?_; (focus (simp [aev, hv]; done))) | (refine AW.condF ?_ ?_; (focus (simp [aev, hv]; done))) | with_reducible refine AW.block ?_ | ((first | ((first | refine arun_nil ?_ | refine arunD_nil ?_); refine hK _ ?_; clear hK K) | refine AW.skip ?_ | refine AW.exit ?_ | refine AW.ret ?_); simp only [thenA_exit, inBlockA_exit, if_true, if_false, Nat.reduceEqDiff, thenA_normal, inBlockA_normal, reduceIte, thenA_ret, inBlockA_ret, endQ_ret, endR_ret, endG_ret, endQ_normal, endR_normal, endG_normal])))
    exact ⟨.view .tight 1 [[.str x]], by simp [ares, aresL], pur_view (by decide) (fun e he c hc => by rw [List.mem_singleton.1 he, List.mem_singleton] at hc; subst hc; exact pur_str), _, Wk.loose (by decide), [x], by simp, rfl⟩
  · (repeat (first | with_reducible refine AW.seq ?_ | ((first | refine arun_kn 4 rfl (fun C hC => ?_) | refine arunD_kn 4 rfl (fun C hC => ?_)); (repeat ((conv => whnf); simp [hv])); refine hC _ ?_; clear hC C; simp only [List.drop, Nat.reduceAdd]) | ((first | refine arun_kn 1 rfl (fun C hC => ?_) | refine arunD_kn 1 rfl (fun C hC => ?_)); (repeat ((conv => whnf); simp [hv])); refine hC _ ?_; clear hC C; simp only [List.drop, Nat.reduceAdd]) | (refine arun_skip ?_ ?_; (focus (simp [awant, hv]; done))) | (refine arun_c (10) (p2) ?_; (rintro _ ⟨p, hp, rfl⟩)) | (refine arunD_skip ?_ ?_; (focus (simp [awant, hv]; done))) | (refine AW.regionK [] (fun K hK => ?_)) | (refine AW.regionDK [] (pcs [] []) (by kernel_rfl) (by kernel_rfl) (fun K hK => ?_)) | (refine AW.condT ?_ ?_; (focus (simp [aev, hv]; done))) | (refine AW.condF ?_ ?_; (focus (simp [aev, hv]; done))) | with_reducible refine AW.block ?_ | ((first | ((first | refine arun_nil ?_ | refine arunD_nil ?_); refine hK _ ?_; clear hK K) | refine AW.skip ?_ | refine AW.exit ?_ | refine AW.ret ?_); simp only [thenA_exit, inBlockA_exit, if_true, if_false, Nat.reduceEqDiff, thenA_normal, inBlockA_normal, reduceIte, thenA_ret, inBlockA_ret, endQ_ret, endR_ret, endG_ret, endQ_normal, endR_normal, endG_normal])))
    exact ⟨.view .loose 1 (strsE p), by simp [ares, aresL], strs_pur p (by decide), _, Wk.refl _, p, hp, rfl⟩
def zE : List AV := [.int .i64 0, .int .i64 0, .str ⟨#[]⟩, .view .tight 0 [], .view .tight 0 [], .str ⟨#[121]⟩]
def zEnt : Nd × ByteArray := (Nd.zero, ⟨#[121]⟩)
theorem zE_wk : WkL zE (entE zEnt) := .cons (Wk.refl _) (.cons (Wk.refl _) (.cons (Wk.refl _) (.cons (Wk.nil (fun h => by cases h)) (.cons (Wk.nil (fun h => by cases h)) (.cons (Wk.refl _) .nil)))))
theorem zE_pur : ∀ c ∈ zE, Pur c := by
  intro c hc
  unfold zE at hc
  simp only [List.mem_cons, List.not_mem_nil, or_false] at hc
  rcases hc with rfl | rfl | rfl | rfl | rfl | rfl
  · exact pur_int
  · exact pur_int
  · exact pur_str
  · exact pur_view (by decide) (fun e he => by cases he)
  · exact pur_view (by decide) (fun e he => by cases he)
  · exact pur_str
theorem zE_in {U : Nat → Bool} : ∀ c ∈ zE, AV.In U c := by
  intro c hc
  unfold zE at hc
  simp only [List.mem_cons, List.not_mem_nil, or_false] at hc
  rcases hc with rfl | rfl | rfl | rfl | rfl | rfl
  · exact in_int
  · exact in_int
  · exact in_str
  · exact in_vnil
  · exact in_vnil
  · exact in_str
def entZ (l : List (Nd × ByteArray)) (j : Nat) : List (List AV) := l.map entE ++ List.replicate j zE
theorem entZ_len (l : List (Nd × ByteArray)) (j : Nat) : (entZ l j).length = l.length + j := by simp [entZ]
theorem rep_wk : ∀ j : Nat, WkE (List.replicate j zE) ((List.replicate j zEnt).map entE)
  | 0 => .nil
  | j + 1 => by rw [List.replicate_succ, List.replicate_succ, List.map_cons]; exact .cons zE_wk (rep_wk j)
theorem entZ_wk (l : List (Nd × ByteArray)) (j : Nat) : WkE (entZ l j) ((l ++ List.replicate j zEnt).map entE) := by
  unfold entZ; rw [List.map_append]; exact (WkE.refl _).append (rep_wk j)
theorem entZ_pur (l : List (Nd × ByteArray)) (j : Nat) : ∀ e ∈ entZ l j, ∀ c ∈ e, Pur c := fun e he => by
  rcases List.mem_append.1 he with he | he
  · exact entsE_pur l e he
  · rw [List.eq_of_mem_replicate he]; exact zE_pur
theorem entZ_in {U : Nat → Bool} (l : List (Nd × ByteArray)) (j : Nat) : ∀ e ∈ entZ l j, ∀ c ∈ e, AV.In U c := fun e he => by
  rcases List.mem_append.1 he with he | he
  · exact entsE_in l e he
  · rw [List.eq_of_mem_replicate he]; exact zE_in
theorem entZ_zero (l : List (Nd × ByteArray)) : entZ l 0 = l.map entE := by simp [entZ]
theorem entZ_succ (l : List (Nd × ByteArray)) (j : Nat) : entZ l (j + 1) = entZ l j ++ [zE] := by unfold entZ; rw [List.replicate_succ', List.append_assoc]
def rEntR (f : Nat → AV) (R : Row) : Prop := ∃ (es : List (List AV)) (l : List (Nd × ByteArray)), l.length ≤ 1100 ∧ (∀ x ∈ l, Sml x.1) ∧ WkE es (l.map entE) ∧ (∀ e ∈ es, ∀ c ∈ e, NoId c) ∧ f = (fun id => .own id es.length) ∧ R = ⟨false, 52, 6, es⟩
def rEnts (r : AV) : Prop := ∃ l : List (Nd × ByteArray), l.length ≤ 1100 ∧ (∀ x ∈ l, Sml x.1) ∧ r = .view .loose 6 (l.map entE)
def eC : Nat := 1 + 12 * (nC 3 + 13 + 4 * nC 2) + 11 + 1 + cN + 13
theorem anyEntries_ACR : ACR Try.prog 56 [.rdr] eC (fun _ => False) rEntR := by
  have hSt := AC.ofS someStore_ACR
  have hN : AC Try.prog 51 [.rdr] cN rNodeA := anyNode_AC
  have hW := words_AC
  have hI := indexStore_ACR
  have heC : eC = 1 + 12 * (nC 3 + 13 + 4 * nC 2) + 11 + 1 + cN + 13 := rfl
  generalize eC = E at *
  generalize 1 + 12 * (nC 3 + 13 + 4 * nC 2) = S at *
  generalize cN = M at *
  subst heC
  refine ACR.of tab_ok mixed_ok Try.func56 (by rfl) (by kernel_rfl) ?_; rintro ⟨P, T, hT, hm, w0, S0, rd0, k0⟩ hP hTT; dsimp only at hP hTT; subst hP hTT; unfold initSt; rw [Try.ntmps56]
  (repeat (first | with_reducible refine AW.seq ?_ | ((first | refine arun_kn 4 rfl (fun C hC => ?_) | refine arunD_kn 4 rfl (fun C hC => ?_)); (repeat ((conv => whnf); simp)); refine hC _ ?_; clear hC C; simp only [List.drop, Nat.reduceAdd]) | ((first | refine arun_kn 1 rfl (fun C hC => ?_) | refine arunD_kn 1 rfl (fun C hC => ?_)); (repeat ((conv => whnf); simp)); refine hC _ ?_; clear hC C; simp only [List.drop, Nat.reduceAdd]) | (refine arun_skip ?_ ?_; (focus (simp [awant]; done))) | (refine arun_c (S) (hSt) ?_; (rintro _ ⟨s, hs, rfl⟩)) | (refine arun_c (11) (hW) ?_; (rintro _ ⟨p, hp, rfl⟩)) | (refine arun_c (1) (pick_AC 20 (by omega) (by omega)) ?_; (rintro _ ⟨v, rfl, -⟩)) | (refine arunD_skip ?_ ?_; (focus (simp [awant]; done))) | (refine arunD_c (S) (hSt) ?_; (rintro _ ⟨s, hs, rfl⟩); intro _) | (refine arunD_cE (11) (hW) (by exact rPath_ex) ?_; (rintro _ ⟨p, hp, rfl⟩); intro _) | (refine arunD_sE (0) (hI s p hp) (by exact ⟨_, rfl, in_vnil⟩) ?_ ?_; (rintro _ rfl -)) | (refine arunD_c (1) (pick_AC 20 (by omega) (by omega)) ?_; (rintro _ ⟨v, rfl, -⟩); intro _) | (refine AW.regionK [] (fun K hK => ?_)) | (refine AW.regionDK [] (pcs [(2, 11, rPath)] [3]) (by kernel_rfl) (by kernel_rfl) (fun K hK => ?_)) | (refine AW.condT ?_ ?_; (focus (simp [aev]; done))) | (refine AW.condF ?_ ?_; (focus (simp [aev]; done))) | with_reducible refine AW.block ?_ | ((first | ((first | refine arun_nil ?_ | refine arunD_nil ?_); refine hK _ ?_; clear hK K) | refine AW.skip ?_ | refine AW.exit ?_ | refine AW.ret ?_); simp only [thenA_exit, inBlockA_exit, if_true, if_false, Nat.reduceEqDiff, thenA_normal, inBlockA_normal, reduceIte, thenA_ret, inBlockA_ret, endQ_ret, endR_ret, endG_ret, endQ_normal, endR_normal, endG_normal])))
  · refine AW.adopt 4 10 52 6 ⟨_, tab52, rfl⟩ (by simp; rfl) (by simp [upd]) ?_
    simp only [ASt.adopt, ASt.add]
    refine AW.less (mkSt (slots 0 34 [(0, .rdr), (4, .own 10 ([] : List (Nd × ByteArray)).length), (12, .int .i64 v), (13, .bool (v == 0))]) [(10, entsR [])] [10] (rd0.map fun _ => M + 13)) (less_of (by simp [lessL, mkSt, slots, entsR, itemA, itemL_eq, storeA, storeT, storeO, itemsRow]) (by simp [upd, mkSt, rowsOf_cons, entsR, itemA, itemL_eq, storeA, storeT, storeO, itemsRow]) (by simp [upd, mkSt, usedOf_cons, entsR, itemA, itemL_eq, storeA, storeT, storeO, itemsRow]) (by first | exact rd_less (by omega) | simp [mkSt, entsR, itemA, itemL_eq, storeA, storeT, storeO, itemsRow]) (by simp [slots, in_any, in_int, in_bool, in_str, in_ptr, in_own, in_agg, in_vnil, in_rdr, usedOf_cons, usedOf_nil, strs_in, ints_in, nodes_in, items_in, in_tup, entsR, itemA, itemL_eq, storeA, storeT, storeO, itemsRow]) (by simp only [List.forall_mem_cons, List.not_mem_nil, false_implies, implies_true, and_true, true_and, entsR, itemA, itemL_eq, storeA, storeT, storeO, itemsRow]; (repeat (first | with_reducible exact trivial | with_reducible refine And.intro ?_ ?_ | with_reducible exact in_int | with_reducible exact in_str | with_reducible exact in_bool | with_reducible exact strs_in _ | with_reducible exact nodes_in _ | with_reducible exact items_in _ | with_reducible exact in_vnil | with_reducible exact in_any | exact hin _ | with_reducible refine take_in ?_ | with_reducible exact strsE_in _ | with_reducible exact nodesE_in _ | with_reducible exact nodeL_in _ | with_reducible exact itemsE_in _ | with_reducible exact itemL_in _ | with_reducible refine app_in ?_ ?_ | with_reducible refine sing_in ?_ | (focus (simp [in_any, in_int, in_bool, in_str, in_ptr, in_own, in_agg, in_vnil, in_rdr, usedOf_cons, usedOf_nil, strs_in, ints_in, nodes_in, items_in, entsR, itemA, itemL_eq, storeA, storeT, storeO, itemsRow]; done)))); done)) ?_
    have hl : ([] : List (Nd × ByteArray)).length ≤ 1000 := by simp
    have hsh : ∀ x ∈ ([] : List (Nd × ByteArray)), Shp x.1 := fun x hx => by cases hx
    generalize ([] : List (Nd × ByteArray)) = l at *
    have h3 : v = 0 ∨ v = 1 ∨ ((v == 0) = false ∧ (v == 1) = false) := by
      by_cases h0 : v = 0; · simp [h0]
      by_cases h1 : v = 1; · simp [h1]
      simp [h0, h1]
    rcases h3 with rfl | rfl | ⟨e0, e1⟩
    · have hb1 : (l.length + 1) * 96 ≤ 140737488355328 := by omega
      have hb2 : l.length + 1 ≤ 140737488355328 := by omega
      (repeat (first | with_reducible refine AW.seq ?_ | ((first | refine arun_kn 4 rfl (fun C hC => ?_) | refine arunD_kn 4 rfl (fun C hC => ?_)); (repeat ((conv => whnf); simp [hb1, hb2, List.length_map, entsR])); refine hC _ ?_; clear hC C; simp only [List.drop, Nat.reduceAdd]) | ((first | refine arun_kn 1 rfl (fun C hC => ?_) | refine arunD_kn 1 rfl (fun C hC => ?_)); (repeat ((conv => whnf); simp [hb1, hb2, List.length_map, entsR])); refine hC _ ?_; clear hC C; simp only [List.drop, Nat.reduceAdd]) | (refine arun_skip ?_ ?_; (focus (simp [awant, hb1, hb2, List.length_map, entsR]; done))) | (refine arun_c (M) (hN) ?_; (rintro _ ⟨n, hn, rfl⟩)) | (refine arunD_skip ?_ ?_; (focus (simp [awant, hb1, hb2, List.length_map, entsR]; done))) | (refine AW.regionK [] (fun K hK => ?_)) | (refine AW.regionDK [] (pcs [] []) (by kernel_rfl) (by kernel_rfl) (fun K hK => ?_)) | (refine AW.condT ?_ ?_; (focus (simp [aev, hb1, hb2, List.length_map, entsR]; done))) | (refine AW.condF ?_ ?_; (focus (simp [aev, hb1, hb2, List.length_map, entsR]; done))) | with_reducible refine AW.block ?_ | ((first | ((first | refine arun_nil ?_ | refine arunD_nil ?_); refine hK _ ?_; clear hK K) | refine AW.skip ?_ | refine AW.exit ?_ | refine AW.ret ?_); simp only [thenA_exit, inBlockA_exit, if_true, if_false, Nat.reduceEqDiff, thenA_normal, inBlockA_normal, reduceIte, thenA_ret, inBlockA_ret, endQ_ret, endR_ret, endG_ret, endQ_normal, endR_normal, endG_normal])))
      have e1 : (l ++ [(n, (⟨#[120]⟩ : ByteArray))]).map entE = l.map entE ++ [[.int .i64 n.kind, .int .i64 n.num, .str n.text, .view .loose 1 (strsE n.names), .view .loose 5 (n.kids.map nodeL), .str ⟨#[120]⟩]] := by simp [entE]
      have el : ((l ++ [(n, (⟨#[120]⟩ : ByteArray))]).map entE).length = l.length + 1 := by simp
      refine ⟨.own 10 (l.length + 1), by simp [ares, aresL], .inr ⟨fun id => .own id (l.length + 1), 10, ⟨false, 52, 6, (l ++ [(n, (⟨#[120]⟩ : ByteArray))]).map entE⟩, rfl, by rw [e1]; simp [upd, rowsOf_cons], Res1.own _ _, entsE_pur _, (l ++ [(n, (⟨#[120]⟩ : ByteArray))]).map entE, l ++ [(n, (⟨#[120]⟩ : ByteArray))], by simp; omega, fun x hx => ?_, WkE.refl _, entsE_in _, by rw [el], rfl⟩⟩
      rcases List.mem_append.1 hx with hx | hx
      · exact (hsh x hx).sml
      · rw [List.mem_singleton.1 hx]; exact hn
    · (repeat (first | with_reducible refine AW.seq ?_ | ((first | refine arun_kn 4 rfl (fun C hC => ?_) | refine arunD_kn 4 rfl (fun C hC => ?_)); (repeat ((conv => whnf); simp [entsR])); refine hC _ ?_; clear hC C; simp only [List.drop, Nat.reduceAdd]) | ((first | refine arun_kn 1 rfl (fun C hC => ?_) | refine arunD_kn 1 rfl (fun C hC => ?_)); (repeat ((conv => whnf); simp [entsR])); refine hC _ ?_; clear hC C; simp only [List.drop, Nat.reduceAdd]) | (refine arun_skip ?_ ?_; (focus (simp [awant, entsR]; done))) | (refine arunD_skip ?_ ?_; (focus (simp [awant, entsR]; done))) | (refine AW.regionK [] (fun K hK => ?_)) | (refine AW.regionDK [] (pcs [] []) (by kernel_rfl) (by kernel_rfl) (fun K hK => ?_)) | (refine AW.condT ?_ ?_; (focus (simp [aev, entsR]; done))) | (refine AW.condF ?_ ?_; (focus (simp [aev, entsR]; done))) | with_reducible refine AW.block ?_ | ((first | ((first | refine arun_nil ?_ | refine arunD_nil ?_); refine hK _ ?_; clear hK K) | refine AW.skip ?_ | refine AW.exit ?_ | refine AW.ret ?_); simp only [thenA_exit, inBlockA_exit, if_true, if_false, Nat.reduceEqDiff, thenA_normal, inBlockA_normal, reduceIte, thenA_ret, inBlockA_ret, endQ_ret, endR_ret, endG_ret, endQ_normal, endR_normal, endG_normal])))
      refine AW.loopS (fun (x : Nat × Nat) => mkSt (slots 0 34 [(0, .rdr), (4, .own 10 (l.length + x.1))]) [(10, ⟨false, 52, 6, entZ l x.1⟩)] [10] (rd0.map fun _ => x.2)) (fun x => 1200 - x.1) (fun x => (x.1 = 0 ∨ l.length + x.1 ≤ 11) ∧ 1 ≤ x.2 ∧ 13 ≤ x.2 + (l.length + x.1)) (0, 13) ?_ ⟨.inl rfl, by omega, by omega⟩ ?_
      · dsimp only
        rw [entZ_zero, Nat.add_zero]
        have hin : ∀ U : Nat → Bool, ∀ e ∈ l.map entE, ∀ c ∈ e, AV.In U c := fun U => entsE_in l
        exact (less_of (by simp [lessL, mkSt, slots, itemA, itemL_eq, storeA, storeT, storeO, itemsRow]) (by simp [upd, mkSt, rowsOf_cons, itemA, itemL_eq, storeA, storeT, storeO, itemsRow]) (by simp [upd, mkSt, usedOf_cons, itemA, itemL_eq, storeA, storeT, storeO, itemsRow]) (by first | exact rd_less (by omega) | simp [mkSt, itemA, itemL_eq, storeA, storeT, storeO, itemsRow]) (by simp [slots, in_any, in_int, in_bool, in_str, in_ptr, in_own, in_agg, in_vnil, in_rdr, usedOf_cons, usedOf_nil, strs_in, ints_in, nodes_in, items_in, in_tup, itemA, itemL_eq, storeA, storeT, storeO, itemsRow]) (by simp only [List.forall_mem_cons, List.not_mem_nil, false_implies, implies_true, and_true, true_and, itemA, itemL_eq, storeA, storeT, storeO, itemsRow]; (repeat (first | with_reducible exact trivial | with_reducible refine And.intro ?_ ?_ | with_reducible exact in_int | with_reducible exact in_str | with_reducible exact in_bool | with_reducible exact strs_in _ | with_reducible exact nodes_in _ | with_reducible exact items_in _ | with_reducible exact in_vnil | with_reducible exact in_any | exact hin _ | with_reducible refine take_in ?_ | with_reducible exact strsE_in _ | with_reducible exact nodesE_in _ | with_reducible exact nodeL_in _ | with_reducible exact itemsE_in _ | with_reducible exact itemL_in _ | with_reducible refine app_in ?_ ?_ | with_reducible refine sing_in ?_ | (focus (simp [in_any, in_int, in_bool, in_str, in_ptr, in_own, in_agg, in_vnil, in_rdr, usedOf_cons, usedOf_nil, strs_in, ints_in, nodes_in, items_in, itemA, itemL_eq, storeA, storeT, storeO, itemsRow]; done)))); done))
      · rintro ⟨j, b⟩ ⟨g1, g2, g3⟩
        dsimp only at g1 g2 g3 ⊢
        have hel := entZ_len l j
        have hin : ∀ U : Nat → Bool, ∀ e ∈ entZ l (j + 1), ∀ c ∈ e, AV.In U c := fun U => entZ_in l (j + 1)
        rw [entZ_succ] at hin
        (repeat (first | with_reducible refine AW.seq ?_ | ((first | refine arun_kn 4 rfl (fun C hC => ?_) | refine arunD_kn 4 rfl (fun C hC => ?_)); (repeat ((conv => whnf); simp)); refine hC _ ?_; clear hC C; simp only [List.drop, Nat.reduceAdd]) | ((first | refine arun_kn 1 rfl (fun C hC => ?_) | refine arunD_kn 1 rfl (fun C hC => ?_)); (repeat ((conv => whnf); simp)); refine hC _ ?_; clear hC C; simp only [List.drop, Nat.reduceAdd]) | (refine arun_skip ?_ ?_; (focus (simp [awant]; done))) | (refine arun_c (1) (pick_AC 2 (by omega) (by omega)) ?_; (rintro _ ⟨u, rfl, hu⟩; obtain ⟨u0, u1⟩ := hu.1 (by omega))) | (refine arunD_skip ?_ ?_; (focus (simp [awant]; done))) | (refine AW.regionK [] (fun K hK => ?_)) | (refine AW.regionDK [] (pcs [] []) (by kernel_rfl) (by kernel_rfl) (fun K hK => ?_)) | (refine AW.condT ?_ ?_; (focus (simp [aev]; done))) | (refine AW.condF ?_ ?_; (focus (simp [aev]; done))) | with_reducible refine AW.block ?_ | ((first | ((first | refine arun_nil ?_ | refine arunD_nil ?_); refine hK _ ?_; clear hK K) | refine AW.skip ?_ | refine AW.exit ?_ | refine AW.ret ?_); simp only [thenA_exit, inBlockA_exit, if_true, if_false, Nat.reduceEqDiff, thenA_normal, inBlockA_normal, reduceIte, thenA_ret, inBlockA_ret, endQ_ret, endR_ret, endG_ret, endQ_normal, endR_normal, endG_normal])))
        have hwu : IntKind.i64.wrap (10 + u) = 10 + u := i64_nat (by omega) (by omega)
        rcases Int.lt_or_le ((l.length : Int) + (j : Int)) (10 + u) with h0 | h0
        · have hb1 : (l.length + j + 1) * 96 ≤ 140737488355328 := by omega
          have hb2 : l.length + j + 1 ≤ 140737488355328 := by omega
          (repeat (first | with_reducible refine AW.seq ?_ | ((first | refine arun_kn 4 rfl (fun C hC => ?_) | refine arunD_kn 4 rfl (fun C hC => ?_)); (repeat ((conv => whnf); simp [h0, hwu, hel, hb1, hb2])); refine hC _ ?_; clear hC C; simp only [List.drop, Nat.reduceAdd]) | ((first | refine arun_kn 1 rfl (fun C hC => ?_) | refine arunD_kn 1 rfl (fun C hC => ?_)); (repeat ((conv => whnf); simp [h0, hwu, hel, hb1, hb2])); refine hC _ ?_; clear hC C; simp only [List.drop, Nat.reduceAdd]) | (refine arun_skip ?_ ?_; (focus (simp [awant, h0, hwu, hel, hb1, hb2]; done))) | (refine arunD_skip ?_ ?_; (focus (simp [awant, h0, hwu, hel, hb1, hb2]; done))) | (refine AW.regionK [] (fun K hK => ?_)) | (refine AW.regionDK [] (pcs [] []) (by kernel_rfl) (by kernel_rfl) (fun K hK => ?_)) | (refine AW.condT ?_ ?_; (focus (simp [aev, h0, hwu, hel, hb1, hb2]; done))) | (refine AW.condF ?_ ?_; (focus (simp [aev, h0, hwu, hel, hb1, hb2]; done))) | with_reducible refine AW.block ?_ | ((first | ((first | refine arun_nil ?_ | refine arunD_nil ?_); refine hK _ ?_; clear hK K) | refine AW.skip ?_ | refine AW.exit ?_ | refine AW.ret ?_); simp only [thenA_exit, inBlockA_exit, if_true, if_false, Nat.reduceEqDiff, thenA_normal, inBlockA_normal, reduceIte, thenA_ret, inBlockA_ret, endQ_ret, endR_ret, endG_ret, endQ_normal, endR_normal, endG_normal])))
          refine ⟨(j + 1, b - 1), by dsimp only; omega, ⟨by dsimp only; omega, by dsimp only; omega, by dsimp only; omega⟩, ?_⟩
          dsimp only
          rw [entZ_succ, show l.length + (j + 1) = l.length + j + 1 by omega]
          exact (less_of (by simp [lessL, mkSt, slots, zE, itemA, itemL_eq, storeA, storeT, storeO, itemsRow]) (by simp [upd, mkSt, rowsOf_cons, zE, itemA, itemL_eq, storeA, storeT, storeO, itemsRow]) (by simp [upd, mkSt, usedOf_cons, zE, itemA, itemL_eq, storeA, storeT, storeO, itemsRow]) (by first | exact rd_less (by omega) | simp [mkSt, zE, itemA, itemL_eq, storeA, storeT, storeO, itemsRow]) (by simp [slots, in_any, in_int, in_bool, in_str, in_ptr, in_own, in_agg, in_vnil, in_rdr, usedOf_cons, usedOf_nil, strs_in, ints_in, nodes_in, items_in, in_tup, zE, itemA, itemL_eq, storeA, storeT, storeO, itemsRow]) (by simp only [List.forall_mem_cons, List.not_mem_nil, false_implies, implies_true, and_true, true_and, zE, itemA, itemL_eq, storeA, storeT, storeO, itemsRow]; (repeat (first | with_reducible exact trivial | with_reducible refine And.intro ?_ ?_ | with_reducible exact in_int | with_reducible exact in_str | with_reducible exact in_bool | with_reducible exact strs_in _ | with_reducible exact nodes_in _ | with_reducible exact items_in _ | with_reducible exact in_vnil | with_reducible exact in_any | exact hin _ | with_reducible refine take_in ?_ | with_reducible exact strsE_in _ | with_reducible exact nodesE_in _ | with_reducible exact nodeL_in _ | with_reducible exact itemsE_in _ | with_reducible exact itemL_in _ | with_reducible refine app_in ?_ ?_ | with_reducible refine sing_in ?_ | (focus (simp [in_any, in_int, in_bool, in_str, in_ptr, in_own, in_agg, in_vnil, in_rdr, usedOf_cons, usedOf_nil, strs_in, ints_in, nodes_in, items_in, zE, itemA, itemL_eq, storeA, storeT, storeO, itemsRow]; done)))); done))
        · have h0' : ¬ ((l.length : Int) + (j : Int) < 10 + u) := by omega
          (repeat (first | with_reducible refine AW.seq ?_ | ((first | refine arun_kn 4 rfl (fun C hC => ?_) | refine arunD_kn 4 rfl (fun C hC => ?_)); (repeat ((conv => whnf); simp [h0', hwu, hel])); refine hC _ ?_; clear hC C; simp only [List.drop, Nat.reduceAdd]) | ((first | refine arun_kn 1 rfl (fun C hC => ?_) | refine arunD_kn 1 rfl (fun C hC => ?_)); (repeat ((conv => whnf); simp [h0', hwu, hel])); refine hC _ ?_; clear hC C; simp only [List.drop, Nat.reduceAdd]) | (refine arun_skip ?_ ?_; (focus (simp [awant, h0', hwu, hel]; done))) | (refine arunD_skip ?_ ?_; (focus (simp [awant, h0', hwu, hel]; done))) | (refine AW.regionK [] (fun K hK => ?_)) | (refine AW.regionDK [] (pcs [] []) (by kernel_rfl) (by kernel_rfl) (fun K hK => ?_)) | (refine AW.condT ?_ ?_; (focus (simp [aev, h0', hwu, hel]; done))) | (refine AW.condF ?_ ?_; (focus (simp [aev, h0', hwu, hel]; done))) | with_reducible refine AW.block ?_ | ((first | ((first | refine arun_nil ?_ | refine arunD_nil ?_); refine hK _ ?_; clear hK K) | refine AW.skip ?_ | refine AW.exit ?_ | refine AW.ret ?_); simp only [thenA_exit, inBlockA_exit, if_true, if_false, Nat.reduceEqDiff, thenA_normal, inBlockA_normal, reduceIte, thenA_ret, inBlockA_ret, endQ_ret, endR_ret, endG_ret, endQ_normal, endR_normal, endG_normal])))
          exact ⟨.own 10 (l.length + j), by simp [ares, aresL], .inr ⟨fun id => .own id (l.length + j), 10, ⟨false, 52, 6, entZ l j⟩, rfl, by simp [upd, rowsOf_cons], Res1.own _ _, entZ_pur l j, entZ l j, l ++ List.replicate j zEnt, by simp; omega, fun x hx => by
            rcases List.mem_append.1 hx with hx | hx
            · exact (hsh x hx).sml
            · rw [List.eq_of_mem_replicate hx]; exact sml_leaf 0 0 ⟨#[]⟩, entZ_wk l j, entZ_in l j, by rw [hel], rfl⟩⟩
    · (repeat (first | with_reducible refine AW.seq ?_ | ((first | refine arun_kn 4 rfl (fun C hC => ?_) | refine arunD_kn 4 rfl (fun C hC => ?_)); (repeat ((conv => whnf); simp [e0, e1, entsR])); refine hC _ ?_; clear hC C; simp only [List.drop, Nat.reduceAdd]) | ((first | refine arun_kn 1 rfl (fun C hC => ?_) | refine arunD_kn 1 rfl (fun C hC => ?_)); (repeat ((conv => whnf); simp [e0, e1, entsR])); refine hC _ ?_; clear hC C; simp only [List.drop, Nat.reduceAdd]) | (refine arun_skip ?_ ?_; (focus (simp [awant, e0, e1, entsR]; done))) | (refine arunD_skip ?_ ?_; (focus (simp [awant, e0, e1, entsR]; done))) | (refine AW.regionK [] (fun K hK => ?_)) | (refine AW.regionDK [] (pcs [] []) (by kernel_rfl) (by kernel_rfl) (fun K hK => ?_)) | (refine AW.condT ?_ ?_; (focus (simp [aev, e0, e1, entsR]; done))) | (refine AW.condF ?_ ?_; (focus (simp [aev, e0, e1, entsR]; done))) | with_reducible refine AW.block ?_ | ((first | ((first | refine arun_nil ?_ | refine arunD_nil ?_); refine hK _ ?_; clear hK K) | refine AW.skip ?_ | refine AW.exit ?_ | refine AW.ret ?_); simp only [thenA_exit, inBlockA_exit, if_true, if_false, Nat.reduceEqDiff, thenA_normal, inBlockA_normal, reduceIte, thenA_ret, inBlockA_ret, endQ_ret, endR_ret, endG_ret, endQ_normal, endR_normal, endG_normal])))
      exact ⟨.own 10 l.length, by simp [ares, aresL], .inr ⟨fun id => .own id l.length, 10, ⟨false, 52, 6, l.map entE⟩, rfl, by simp [upd, rowsOf_cons], Res1.own _ _, entsE_pur l, l.map entE, l, by omega, fun x hx => (hsh x hx).sml, WkE.refl _, entsE_in l, by simp, rfl⟩⟩
  · rintro _ _ ⟨l, hl, hsh, rfl, rfl⟩ -
    (repeat (first | with_reducible refine AW.seq ?_ | ((first | refine arun_kn 4 rfl (fun C hC => ?_) | refine arunD_kn 4 rfl (fun C hC => ?_)); (repeat ((conv => whnf); simp)); refine hC _ ?_; clear hC C; simp only [List.drop, Nat.reduceAdd]) | ((first | refine arun_kn 1 rfl (fun C hC => ?_) | refine arunD_kn 1 rfl (fun C hC => ?_)); (repeat ((conv => whnf); simp)); refine hC _ ?_; clear hC C; simp only [List.drop, Nat.reduceAdd]) | (refine arun_skip ?_ ?_; (focus (simp [awant]; done))) | (refine arun_c (1) (pick_AC 20 (by omega) (by omega)) ?_; (rintro _ ⟨v, rfl, -⟩)) | (refine arunD_skip ?_ ?_; (focus (simp [awant]; done))) | (refine AW.regionK [] (fun K hK => ?_)) | (refine AW.regionDK [] (pcs [] []) (by kernel_rfl) (by kernel_rfl) (fun K hK => ?_)) | (refine AW.condT ?_ ?_; (focus (simp [aev]; done))) | (refine AW.condF ?_ ?_; (focus (simp [aev]; done))) | with_reducible refine AW.block ?_ | ((first | ((first | refine arun_nil ?_ | refine arunD_nil ?_); refine hK _ ?_; clear hK K) | refine AW.skip ?_ | refine AW.exit ?_ | refine AW.ret ?_); simp only [thenA_exit, inBlockA_exit, if_true, if_false, Nat.reduceEqDiff, thenA_normal, inBlockA_normal, reduceIte, thenA_ret, inBlockA_ret, endQ_ret, endR_ret, endG_ret, endQ_normal, endR_normal, endG_normal])))
    have hin : ∀ U : Nat → Bool, ∀ e ∈ l.map entE, ∀ c ∈ e, AV.In U c := fun U => entsE_in l
    refine AW.less (mkSt (slots 0 34 [(0, .rdr), (4, .own 10 l.length), (12, .int .i64 v), (13, .bool (v == 0))]) [(10, entsR l)] [10] (rd0.map fun _ => M + 13)) (less_of (by simp [lessL, mkSt, slots, entsR, itemA, itemL_eq, storeA, storeT, storeO, itemsRow]) (by simp [upd, mkSt, rowsOf_cons, entsR, itemA, itemL_eq, storeA, storeT, storeO, itemsRow]) (by simp [upd, mkSt, usedOf_cons, entsR, itemA, itemL_eq, storeA, storeT, storeO, itemsRow]) (by first | exact rd_less (by omega) | simp [mkSt, entsR, itemA, itemL_eq, storeA, storeT, storeO, itemsRow]) (by simp [slots, in_any, in_int, in_bool, in_str, in_ptr, in_own, in_agg, in_vnil, in_rdr, usedOf_cons, usedOf_nil, strs_in, ints_in, nodes_in, items_in, in_tup, entsR, itemA, itemL_eq, storeA, storeT, storeO, itemsRow]) (by simp only [List.forall_mem_cons, List.not_mem_nil, false_implies, implies_true, and_true, true_and, entsR, itemA, itemL_eq, storeA, storeT, storeO, itemsRow]; (repeat (first | with_reducible exact trivial | with_reducible refine And.intro ?_ ?_ | with_reducible exact in_int | with_reducible exact in_str | with_reducible exact in_bool | with_reducible exact strs_in _ | with_reducible exact nodes_in _ | with_reducible exact items_in _ | with_reducible exact in_vnil | with_reducible exact in_any | exact hin _ | with_reducible refine take_in ?_ | with_reducible exact strsE_in _ | with_reducible exact nodesE_in _ | with_reducible exact nodeL_in _ | with_reducible exact itemsE_in _ | with_reducible exact itemL_in _ | with_reducible refine app_in ?_ ?_ | with_reducible refine sing_in ?_ | (focus (simp [in_any, in_int, in_bool, in_str, in_ptr, in_own, in_agg, in_vnil, in_rdr, usedOf_cons, usedOf_nil, strs_in, ints_in, nodes_in, items_in, entsR, itemA, itemL_eq, storeA, storeT, storeO, itemsRow]; done)))); done)) ?_
    clear hin
    have h3 : v = 0 ∨ v = 1 ∨ ((v == 0) = false ∧ (v == 1) = false) := by
      by_cases h0 : v = 0; · simp [h0]
      by_cases h1 : v = 1; · simp [h1]
      simp [h0, h1]
    rcases h3 with rfl | rfl | ⟨e0, e1⟩
    · have hb1 : (l.length + 1) * 96 ≤ 140737488355328 := by omega
      have hb2 : l.length + 1 ≤ 140737488355328 := by omega
      (repeat (first | with_reducible refine AW.seq ?_ | ((first | refine arun_kn 4 rfl (fun C hC => ?_) | refine arunD_kn 4 rfl (fun C hC => ?_)); (repeat ((conv => whnf); simp [hb1, hb2, List.length_map, entsR])); refine hC _ ?_; clear hC C; simp only [List.drop, Nat.reduceAdd]) | ((first | refine arun_kn 1 rfl (fun C hC => ?_) | refine arunD_kn 1 rfl (fun C hC => ?_)); (repeat ((conv => whnf); simp [hb1, hb2, List.length_map, entsR])); refine hC _ ?_; clear hC C; simp only [List.drop, Nat.reduceAdd]) | (refine arun_skip ?_ ?_; (focus (simp [awant, hb1, hb2, List.length_map, entsR]; done))) | (refine arun_c (M) (hN) ?_; (rintro _ ⟨n, hn, rfl⟩)) | (refine arunD_skip ?_ ?_; (focus (simp [awant, hb1, hb2, List.length_map, entsR]; done))) | (refine AW.regionK [] (fun K hK => ?_)) | (refine AW.regionDK [] (pcs [] []) (by kernel_rfl) (by kernel_rfl) (fun K hK => ?_)) | (refine AW.condT ?_ ?_; (focus (simp [aev, hb1, hb2, List.length_map, entsR]; done))) | (refine AW.condF ?_ ?_; (focus (simp [aev, hb1, hb2, List.length_map, entsR]; done))) | with_reducible refine AW.block ?_ | ((first | ((first | refine arun_nil ?_ | refine arunD_nil ?_); refine hK _ ?_; clear hK K) | refine AW.skip ?_ | refine AW.exit ?_ | refine AW.ret ?_); simp only [thenA_exit, inBlockA_exit, if_true, if_false, Nat.reduceEqDiff, thenA_normal, inBlockA_normal, reduceIte, thenA_ret, inBlockA_ret, endQ_ret, endR_ret, endG_ret, endQ_normal, endR_normal, endG_normal])))
      have e1 : (l ++ [(n, (⟨#[120]⟩ : ByteArray))]).map entE = l.map entE ++ [[.int .i64 n.kind, .int .i64 n.num, .str n.text, .view .loose 1 (strsE n.names), .view .loose 5 (n.kids.map nodeL), .str ⟨#[120]⟩]] := by simp [entE]
      have el : ((l ++ [(n, (⟨#[120]⟩ : ByteArray))]).map entE).length = l.length + 1 := by simp
      refine ⟨.own 10 (l.length + 1), by simp [ares, aresL], .inr ⟨fun id => .own id (l.length + 1), 10, ⟨false, 52, 6, (l ++ [(n, (⟨#[120]⟩ : ByteArray))]).map entE⟩, rfl, by rw [e1]; simp [upd, rowsOf_cons], Res1.own _ _, entsE_pur _, (l ++ [(n, (⟨#[120]⟩ : ByteArray))]).map entE, l ++ [(n, (⟨#[120]⟩ : ByteArray))], by simp; omega, fun x hx => ?_, WkE.refl _, entsE_in _, by rw [el], rfl⟩⟩
      rcases List.mem_append.1 hx with hx | hx
      · exact (hsh x hx).sml
      · rw [List.mem_singleton.1 hx]; exact hn
    · (repeat (first | with_reducible refine AW.seq ?_ | ((first | refine arun_kn 4 rfl (fun C hC => ?_) | refine arunD_kn 4 rfl (fun C hC => ?_)); (repeat ((conv => whnf); simp [entsR])); refine hC _ ?_; clear hC C; simp only [List.drop, Nat.reduceAdd]) | ((first | refine arun_kn 1 rfl (fun C hC => ?_) | refine arunD_kn 1 rfl (fun C hC => ?_)); (repeat ((conv => whnf); simp [entsR])); refine hC _ ?_; clear hC C; simp only [List.drop, Nat.reduceAdd]) | (refine arun_skip ?_ ?_; (focus (simp [awant, entsR]; done))) | (refine arunD_skip ?_ ?_; (focus (simp [awant, entsR]; done))) | (refine AW.regionK [] (fun K hK => ?_)) | (refine AW.regionDK [] (pcs [] []) (by kernel_rfl) (by kernel_rfl) (fun K hK => ?_)) | (refine AW.condT ?_ ?_; (focus (simp [aev, entsR]; done))) | (refine AW.condF ?_ ?_; (focus (simp [aev, entsR]; done))) | with_reducible refine AW.block ?_ | ((first | ((first | refine arun_nil ?_ | refine arunD_nil ?_); refine hK _ ?_; clear hK K) | refine AW.skip ?_ | refine AW.exit ?_ | refine AW.ret ?_); simp only [thenA_exit, inBlockA_exit, if_true, if_false, Nat.reduceEqDiff, thenA_normal, inBlockA_normal, reduceIte, thenA_ret, inBlockA_ret, endQ_ret, endR_ret, endG_ret, endQ_normal, endR_normal, endG_normal])))
      refine AW.loopS (fun (x : Nat × Nat) => mkSt (slots 0 34 [(0, .rdr), (4, .own 10 (l.length + x.1))]) [(10, ⟨false, 52, 6, entZ l x.1⟩)] [10] (rd0.map fun _ => x.2)) (fun x => 1200 - x.1) (fun x => (x.1 = 0 ∨ l.length + x.1 ≤ 11) ∧ 1 ≤ x.2 ∧ 13 ≤ x.2 + (l.length + x.1)) (0, 13) ?_ ⟨.inl rfl, by omega, by omega⟩ ?_
      · dsimp only
        rw [entZ_zero, Nat.add_zero]
        have hin : ∀ U : Nat → Bool, ∀ e ∈ l.map entE, ∀ c ∈ e, AV.In U c := fun U => entsE_in l
        exact (less_of (by simp [lessL, mkSt, slots, itemA, itemL_eq, storeA, storeT, storeO, itemsRow]) (by simp [upd, mkSt, rowsOf_cons, itemA, itemL_eq, storeA, storeT, storeO, itemsRow]) (by simp [upd, mkSt, usedOf_cons, itemA, itemL_eq, storeA, storeT, storeO, itemsRow]) (by first | exact rd_less (by omega) | simp [mkSt, itemA, itemL_eq, storeA, storeT, storeO, itemsRow]) (by simp [slots, in_any, in_int, in_bool, in_str, in_ptr, in_own, in_agg, in_vnil, in_rdr, usedOf_cons, usedOf_nil, strs_in, ints_in, nodes_in, items_in, in_tup, itemA, itemL_eq, storeA, storeT, storeO, itemsRow]) (by simp only [List.forall_mem_cons, List.not_mem_nil, false_implies, implies_true, and_true, true_and, itemA, itemL_eq, storeA, storeT, storeO, itemsRow]; (repeat (first | with_reducible exact trivial | with_reducible refine And.intro ?_ ?_ | with_reducible exact in_int | with_reducible exact in_str | with_reducible exact in_bool | with_reducible exact strs_in _ | with_reducible exact nodes_in _ | with_reducible exact items_in _ | with_reducible exact in_vnil | with_reducible exact in_any | exact hin _ | with_reducible refine take_in ?_ | with_reducible exact strsE_in _ | with_reducible exact nodesE_in _ | with_reducible exact nodeL_in _ | with_reducible exact itemsE_in _ | with_reducible exact itemL_in _ | with_reducible refine app_in ?_ ?_ | with_reducible refine sing_in ?_ | (focus (simp [in_any, in_int, in_bool, in_str, in_ptr, in_own, in_agg, in_vnil, in_rdr, usedOf_cons, usedOf_nil, strs_in, ints_in, nodes_in, items_in, itemA, itemL_eq, storeA, storeT, storeO, itemsRow]; done)))); done))
      · rintro ⟨j, b⟩ ⟨g1, g2, g3⟩
        dsimp only at g1 g2 g3 ⊢
        have hel := entZ_len l j
        have hin : ∀ U : Nat → Bool, ∀ e ∈ entZ l (j + 1), ∀ c ∈ e, AV.In U c := fun U => entZ_in l (j + 1)
        rw [entZ_succ] at hin
        (repeat (first | with_reducible refine AW.seq ?_ | ((first | refine arun_kn 4 rfl (fun C hC => ?_) | refine arunD_kn 4 rfl (fun C hC => ?_)); (repeat ((conv => whnf); simp)); refine hC _ ?_; clear hC C; simp only [List.drop, Nat.reduceAdd]) | ((first | refine arun_kn 1 rfl (fun C hC => ?_) | refine arunD_kn 1 rfl (fun C hC => ?_)); (repeat ((conv => whnf); simp)); refine hC _ ?_; clear hC C; simp only [List.drop, Nat.reduceAdd]) | (refine arun_skip ?_ ?_; (focus (simp [awant]; done))) | (refine arun_c (1) (pick_AC 2 (by omega) (by omega)) ?_; (rintro _ ⟨u, rfl, hu⟩; obtain ⟨u0, u1⟩ := hu.1 (by omega))) | (refine arunD_skip ?_ ?_; (focus (simp [awant]; done))) | (refine AW.regionK [] (fun K hK => ?_)) | (refine AW.regionDK [] (pcs [] []) (by kernel_rfl) (by kernel_rfl) (fun K hK => ?_)) | (refine AW.condT ?_ ?_; (focus (simp [aev]; done))) | (refine AW.condF ?_ ?_; (focus (simp [aev]; done))) | with_reducible refine AW.block ?_ | ((first | ((first | refine arun_nil ?_ | refine arunD_nil ?_); refine hK _ ?_; clear hK K) | refine AW.skip ?_ | refine AW.exit ?_ | refine AW.ret ?_); simp only [thenA_exit, inBlockA_exit, if_true, if_false, Nat.reduceEqDiff, thenA_normal, inBlockA_normal, reduceIte, thenA_ret, inBlockA_ret, endQ_ret, endR_ret, endG_ret, endQ_normal, endR_normal, endG_normal])))
        have hwu : IntKind.i64.wrap (10 + u) = 10 + u := i64_nat (by omega) (by omega)
        rcases Int.lt_or_le ((l.length : Int) + (j : Int)) (10 + u) with h0 | h0
        · have hb1 : (l.length + j + 1) * 96 ≤ 140737488355328 := by omega
          have hb2 : l.length + j + 1 ≤ 140737488355328 := by omega
          (repeat (first | with_reducible refine AW.seq ?_ | ((first | refine arun_kn 4 rfl (fun C hC => ?_) | refine arunD_kn 4 rfl (fun C hC => ?_)); (repeat ((conv => whnf); simp [h0, hwu, hel, hb1, hb2])); refine hC _ ?_; clear hC C; simp only [List.drop, Nat.reduceAdd]) | ((first | refine arun_kn 1 rfl (fun C hC => ?_) | refine arunD_kn 1 rfl (fun C hC => ?_)); (repeat ((conv => whnf); simp [h0, hwu, hel, hb1, hb2])); refine hC _ ?_; clear hC C; simp only [List.drop, Nat.reduceAdd]) | (refine arun_skip ?_ ?_; (focus (simp [awant, h0, hwu, hel, hb1, hb2]; done))) | (refine arunD_skip ?_ ?_; (focus (simp [awant, h0, hwu, hel, hb1, hb2]; done))) | (refine AW.regionK [] (fun K hK => ?_)) | (refine AW.regionDK [] (pcs [] []) (by kernel_rfl) (by kernel_rfl) (fun K hK => ?_)) | (refine AW.condT ?_ ?_; (focus (simp [aev, h0, hwu, hel, hb1, hb2]; done))) | (refine AW.condF ?_ ?_; (focus (simp [aev, h0, hwu, hel, hb1, hb2]; done))) | with_reducible refine AW.block ?_ | ((first | ((first | refine arun_nil ?_ | refine arunD_nil ?_); refine hK _ ?_; clear hK K) | refine AW.skip ?_ | refine AW.exit ?_ | refine AW.ret ?_); simp only [thenA_exit, inBlockA_exit, if_true, if_false, Nat.reduceEqDiff, thenA_normal, inBlockA_normal, reduceIte, thenA_ret, inBlockA_ret, endQ_ret, endR_ret, endG_ret, endQ_normal, endR_normal, endG_normal])))
          refine ⟨(j + 1, b - 1), by dsimp only; omega, ⟨by dsimp only; omega, by dsimp only; omega, by dsimp only; omega⟩, ?_⟩
          dsimp only
          rw [entZ_succ, show l.length + (j + 1) = l.length + j + 1 by omega]
          exact (less_of (by simp [lessL, mkSt, slots, zE, itemA, itemL_eq, storeA, storeT, storeO, itemsRow]) (by simp [upd, mkSt, rowsOf_cons, zE, itemA, itemL_eq, storeA, storeT, storeO, itemsRow]) (by simp [upd, mkSt, usedOf_cons, zE, itemA, itemL_eq, storeA, storeT, storeO, itemsRow]) (by first | exact rd_less (by omega) | simp [mkSt, zE, itemA, itemL_eq, storeA, storeT, storeO, itemsRow]) (by simp [slots, in_any, in_int, in_bool, in_str, in_ptr, in_own, in_agg, in_vnil, in_rdr, usedOf_cons, usedOf_nil, strs_in, ints_in, nodes_in, items_in, in_tup, zE, itemA, itemL_eq, storeA, storeT, storeO, itemsRow]) (by simp only [List.forall_mem_cons, List.not_mem_nil, false_implies, implies_true, and_true, true_and, zE, itemA, itemL_eq, storeA, storeT, storeO, itemsRow]; (repeat (first | with_reducible exact trivial | with_reducible refine And.intro ?_ ?_ | with_reducible exact in_int | with_reducible exact in_str | with_reducible exact in_bool | with_reducible exact strs_in _ | with_reducible exact nodes_in _ | with_reducible exact items_in _ | with_reducible exact in_vnil | with_reducible exact in_any | exact hin _ | with_reducible refine take_in ?_ | with_reducible exact strsE_in _ | with_reducible exact nodesE_in _ | with_reducible exact nodeL_in _ | with_reducible exact itemsE_in _ | with_reducible exact itemL_in _ | with_reducible refine app_in ?_ ?_ | with_reducible refine sing_in ?_ | (focus (simp [in_any, in_int, in_bool, in_str, in_ptr, in_own, in_agg, in_vnil, in_rdr, usedOf_cons, usedOf_nil, strs_in, ints_in, nodes_in, items_in, zE, itemA, itemL_eq, storeA, storeT, storeO, itemsRow]; done)))); done))
        · have h0' : ¬ ((l.length : Int) + (j : Int) < 10 + u) := by omega
          (repeat (first | with_reducible refine AW.seq ?_ | ((first | refine arun_kn 4 rfl (fun C hC => ?_) | refine arunD_kn 4 rfl (fun C hC => ?_)); (repeat ((conv => whnf); simp [h0', hwu, hel])); refine hC _ ?_; clear hC C; simp only [List.drop, Nat.reduceAdd]) | ((first | refine arun_kn 1 rfl (fun C hC => ?_) | refine arunD_kn 1 rfl (fun C hC => ?_)); (repeat ((conv => whnf); simp [h0', hwu, hel])); refine hC _ ?_; clear hC C; simp only [List.drop, Nat.reduceAdd]) | (refine arun_skip ?_ ?_; (focus (simp [awant, h0', hwu, hel]; done))) | (refine arunD_skip ?_ ?_; (focus (simp [awant, h0', hwu, hel]; done))) | (refine AW.regionK [] (fun K hK => ?_)) | (refine AW.regionDK [] (pcs [] []) (by kernel_rfl) (by kernel_rfl) (fun K hK => ?_)) | (refine AW.condT ?_ ?_; (focus (simp [aev, h0', hwu, hel]; done))) | (refine AW.condF ?_ ?_; (focus (simp [aev, h0', hwu, hel]; done))) | with_reducible refine AW.block ?_ | ((first | ((first | refine arun_nil ?_ | refine arunD_nil ?_); refine hK _ ?_; clear hK K) | refine AW.skip ?_ | refine AW.exit ?_ | refine AW.ret ?_); simp only [thenA_exit, inBlockA_exit, if_true, if_false, Nat.reduceEqDiff, thenA_normal, inBlockA_normal, reduceIte, thenA_ret, inBlockA_ret, endQ_ret, endR_ret, endG_ret, endQ_normal, endR_normal, endG_normal])))
          exact ⟨.own 10 (l.length + j), by simp [ares, aresL], .inr ⟨fun id => .own id (l.length + j), 10, ⟨false, 52, 6, entZ l j⟩, rfl, by simp [upd, rowsOf_cons], Res1.own _ _, entZ_pur l j, entZ l j, l ++ List.replicate j zEnt, by simp; omega, fun x hx => by
            rcases List.mem_append.1 hx with hx | hx
            · exact (hsh x hx).sml
            · rw [List.eq_of_mem_replicate hx]; exact sml_leaf 0 0 ⟨#[]⟩, entZ_wk l j, entZ_in l j, by rw [hel], rfl⟩⟩
    · (repeat (first | with_reducible refine AW.seq ?_ | ((first | refine arun_kn 4 rfl (fun C hC => ?_) | refine arunD_kn 4 rfl (fun C hC => ?_)); (repeat ((conv => whnf); simp [e0, e1, entsR])); refine hC _ ?_; clear hC C; simp only [List.drop, Nat.reduceAdd]) | ((first | refine arun_kn 1 rfl (fun C hC => ?_) | refine arunD_kn 1 rfl (fun C hC => ?_)); (repeat ((conv => whnf); simp [e0, e1, entsR])); refine hC _ ?_; clear hC C; simp only [List.drop, Nat.reduceAdd]) | (refine arun_skip ?_ ?_; (focus (simp [awant, e0, e1, entsR]; done))) | (refine arunD_skip ?_ ?_; (focus (simp [awant, e0, e1, entsR]; done))) | (refine AW.regionK [] (fun K hK => ?_)) | (refine AW.regionDK [] (pcs [] []) (by kernel_rfl) (by kernel_rfl) (fun K hK => ?_)) | (refine AW.condT ?_ ?_; (focus (simp [aev, e0, e1, entsR]; done))) | (refine AW.condF ?_ ?_; (focus (simp [aev, e0, e1, entsR]; done))) | with_reducible refine AW.block ?_ | ((first | ((first | refine arun_nil ?_ | refine arunD_nil ?_); refine hK _ ?_; clear hK K) | refine AW.skip ?_ | refine AW.exit ?_ | refine AW.ret ?_); simp only [thenA_exit, inBlockA_exit, if_true, if_false, Nat.reduceEqDiff, thenA_normal, inBlockA_normal, reduceIte, thenA_ret, inBlockA_ret, endQ_ret, endR_ret, endG_ret, endQ_normal, endR_normal, endG_normal])))
      exact ⟨.own 10 l.length, by simp [ares, aresL], .inr ⟨fun id => .own id l.length, 10, ⟨false, 52, 6, l.map entE⟩, rfl, by simp [upd, rowsOf_cons], Res1.own _ _, entsE_pur l, l.map entE, l, by omega, fun x hx => (hsh x hx).sml, WkE.refl _, entsE_in l, by simp, rfl⟩⟩
end Go.Proofs.Ytiobnaielfeeaaa.Eng
namespace Go.Proofs.Ytiobnaielfeeaaa
open Go.RowKit
end Go.Proofs.Ytiobnaielfeeaaa
-- EV: store skip
namespace Go.Proofs.Ytiobnaielfeeaaa.Eng
open Go Go.RowKit
theorem ents_of_rep {w : World} {ρ : Cx} {t : VC} {l : List Ent} {v : Value} (h : Rep w ρ (.view t 6 (l.map entE)) v) : ∃ a c, v = .slice a l.length c ∧ SlR entRep w any a c l := by
  obtain ⟨a, c, rfl, _, h3, h4, h5, h6⟩ := rep_view.1 h
  simp only [List.length_map] at *
  refine ⟨a, c, rfl, h3, h4, ?_⟩
  rcases h6 with h6 | ⟨b, o, ha, _, he⟩
  · exact .inl (List.map_eq_nil_iff.1 h6)
  · refine .inr ⟨b, o, ha, trivial, fun i hi => ?_⟩
    have e := he.get h5 (i := i) (e := entE l[i]) (by rw [List.getElem?_map, List.getElem?_eq_getElem hi]; rfl)
    unfold entE at e
    generalize l[i] = x at *
    obtain ⟨v0, p0, _, q0⟩ := e.get (i := 0) rfl
    obtain ⟨v1, p1, _, q1⟩ := e.get (i := 1) rfl
    obtain ⟨v2, p2, _, q2⟩ := e.get (i := 2) rfl
    obtain ⟨v3, p3, _, q3⟩ := e.get (i := 3) rfl
    obtain ⟨v4, p4, _, q4⟩ := e.get (i := 4) rfl
    obtain ⟨v5, p5, _, q5⟩ := e.get (i := 5) rfl
    rw [rep_int] at q0 q1
    have q2' := q2
    rw [rep_str] at q2' q5
    obtain ⟨na, nc, r3, _⟩ := rep_view.1 q3
    obtain ⟨ka, kc, r4, _⟩ := rep_view.1 q4
    rw [strsE_len] at r3
    rw [List.length_map] at r4
    obtain ⟨rfl, _⟩ := q2'
    obtain ⟨rfl, hsz⟩ := q5
    subst q0 q1 r3 r4
    refine ⟨entL x na nc ka kc, ?_, ⟨[_, _, _, _, _], [_], rfl, ⟨na, nc, ka, kc, rfl, nodeC_of_rep _ ρ na nc ka kc q2 q3 q4⟩, ⟨rfl, hsz⟩⟩⟩
    intro j u hj
    rw [show entRep.n = 6 from rfl]
    unfold entL at hj
    rcases j with _ | _ | _ | _ | _ | _ | j
    · cases hj; exact p0
    · cases hj; exact p1
    · cases hj; exact p2
    · cases hj; exact p3
    · cases hj; exact p4
    · cases hj; exact p5
    · simp at hj
theorem ents_clo (l : List Ent) : Clo (.view .loose 6 (l.map entE)) := (pur_view (by decide) (entsE_pur l)).clo
end Go.Proofs.Ytiobnaielfeeaaa.Eng
-- EV: store skip
namespace Go.Proofs.Ytiobnaielfeeaaa.Eng
open Go Go.RowKit
attribute [local simp] big size_mk ASt.pay Option.map_map Function.comp_def awant aop acall ado aev ofVal ofVal0 ASt.put ASt.add ASt.turn ASt.kill abox aalloc astore aload aloadD astoreD idOf ASt.at cellsTo afieldAddr afield aindexAddr aindex alen abin aint acmp astr aun apick aextract anil aslice abound abuild afill abuildSlice asCells aps avCells over upd aappend asrc amax amin aconv mkSt slots rowsOf_cons rowsOf_nil usedOf_cons usedOf_nil ZK.av List.replicate ASt.back ASt.addL ASt.killL nodeA nodeT nodeTL_eq nodeL_eq strsE_get strsE_len intsE_get intsE_len strsE_at intsE_at itemA itemL_eq storeA storeT storeO itemsRow tab2 tab3 tab4 tab5 tab6 tab7 tab8 tab9 tab10 tab11 tab12 tab13 tab14 tab15 tab16 tab17 tab18 tab19 tab21 tab22 tab23 tab24 tab25 tab26 tab27 tab28 tab29 tab30 tab48 tab51 tab52 tab59 tab77 tab78 tab79 tab91 tab95 tab96 tab97 tab109 tab116 tab132 tab133 tab138 tab139 tab144 tab145 tab146 tab148 tab149 tab150
theorem anyEntries_AC : AC Try.prog 56 [.rdr] eC rEnts := by
  refine AC.weak ((AC.ofR anyEntries_ACR ?_).mono ?_)
  · rintro r R ⟨es, l, hl, hs, hw, hin, rfl, rfl⟩
    simp only [AV.sub]
    exact in_view.2 hin
  · rintro r (h | ⟨f, R, ⟨es, l, hl, hs, hw, hin, rfl, rfl⟩, rfl⟩)
    · exact h.elim
    · refine ⟨.view .loose 6 (l.map entE), ?_, l, hl, hs, rfl⟩
      simp only [AV.sub, and_self, if_true]
      exact Wk.view (by decide) hw
def fC : Nat := eC + cN + cN + 4
theorem fC_le : fC ≤ 1000000 := by decide +kernel
theorem ent_get {l : List (Nd × ByteArray)} {k : Nat} (h : k < l.length) : (l.map entE)[k]? = some [.int .i64 l[k].1.kind, .int .i64 l[k].1.num, .str l[k].1.text, .view .loose 1 (strsE l[k].1.names), .view .loose 5 (l[k].1.kids.map nodeL), .str l[k].2] := by rw [List.getElem?_map, List.getElem?_eq_getElem h]; rfl
end Go.Proofs.Ytiobnaielfeeaaa.Eng
namespace Go.Proofs.Ytiobnaielfeeaaa
open Go.RowKit
def knB (l : List Ent) (x : Ent) : Bool := l.any (fun e => cmpN e.1 x.1 == 0)
def kcN (l : List Ent) : Nat → Nat
  | 0 => 0
  | k + 1 => kcN l k + (if h : k < l.length then (if knB (l.take k) l[k] then 0 else 1) else 0)
def kcS (l : List Ent) : Int := if entsB l then (kcN l l.length : Nat) else -1
theorem kcN_le (l : List Ent) : ∀ k, kcN l k ≤ k
  | 0 => Nat.le_refl _
  | k + 1 => by
    have := kcN_le l k
    rw [kcN]; split
    · split <;> omega
    · omega
theorem kcN_yes {l : List Ent} {k : Nat} (h : k < l.length) (hb : knB (l.take k) l[k] = true) : kcN l (k + 1) = kcN l k := by rw [kcN, dif_pos h, hb]; rfl
theorem kcN_no {l : List Ent} {k : Nat} (h : k < l.length) (hb : knB (l.take k) l[k] = false) : kcN l (k + 1) = kcN l k + 1 := by rw [kcN, dif_pos h, hb]; rfl
theorem knB_drop {l : List Ent} {x : Ent} {k : Nat} (h : k < l.length) : knB (l.drop k) x = ((cmpN l[k].1 x.1 == 0) || knB (l.drop (k + 1)) x) := by
  unfold knB; rw [drop_cons _ _ h, List.any_cons]
theorem knB_end {l : List Ent} {x : Ent} {k : Nat} (h : ¬ k < l.length) : knB (l.drop k) x = false := by
  rw [List.drop_eq_nil_of_le (Nat.le_of_not_lt h)]; rfl
theorem sameNode_ok (a b : Nd) (v u : Value) (w : World) (ha : Good a) (hb : Good b) (hv : NodeR w any a v) (hu : NodeR w any b u) :
    Calls Try.prog 60 #[v, u] w fun e w' => e = .returned (.bool (cmpN a b == 0)) ∧ Grow w w' := by
  obtain ⟨na, nc, ka, kc, rfl, hc⟩ := hv
  obtain ⟨na2, nc2, ka2, kc2, rfl, hc2⟩ := hu
  have Hc := Lib.hid hc
  have Hc2 := Lib.hid hc2
  clear hc hc2
  unfold nodeV
  go_enter Try.func60, Try.ntmps60
  go_wp2_with fail
  refine (compareValid_ok a b _ _ _ ha hb ⟨_, _, _, _, rfl, Hc.out.grow' (by repeat (first | with_reducible exact Ext.refl _ _ | with_reducible refine Ext.trans ?_ (by assumption) | with_reducible refine Ext.drew ?_ | with_reducible refine Ext.drewN ?_ _ | with_reducible refine Ext.alloc ?_ _ | with_reducible refine Ext.setNew ?_ (by simp; done) _ | with_reducible refine Ext.setNew ?_ (by simp; omega) _))⟩ ⟨_, _, _, _, rfl, Hc2.out.grow' (by repeat (first | with_reducible exact Ext.refl _ _ | with_reducible refine Ext.trans ?_ (by assumption) | with_reducible refine Ext.drew ?_ | with_reducible refine Ext.drewN ?_ _ | with_reducible refine Ext.alloc ?_ _ | with_reducible refine Ext.setNew ?_ (by simp; done) _ | with_reducible refine Ext.setNew ?_ (by simp; omega) _))⟩).mono ?_
  rintro e w2 ⟨rfl, hg2⟩
  go_wp2_with fail
  go_ret
  exact ⟨by simp, (by repeat (first | with_reducible exact Ext.refl _ _ | with_reducible refine Ext.trans ?_ (by assumption) | with_reducible refine Ext.drew ?_ | with_reducible refine Ext.drewN ?_ _ | with_reducible refine Ext.alloc ?_ _ | with_reducible refine Ext.setNew ?_ (by simp; done) _ | with_reducible refine Ext.setNew ?_ (by simp; omega) _))⟩
theorem keyCl_ok (x y : Ent) (cs : List Value) (na : Option Addr) (nc : Nat) (ka : Option Addr) (kc B : Nat) (w : World) (gx : Good x.1) (gy : Good y.1) (hx : entRep.R w any x cs) (hB : BoxN w B (entL y na nc ka kc)) (hy : NodeC w any y.1 na nc ka kc) :
    Calls Try.prog 59 #[.agg cs.toArray, .pointer (some ⟨B, 0, none⟩)] w fun e w' => e = .returned (.bool (cmpN x.1 y.1 == 0)) ∧ Grow w w' := by
  obtain ⟨na2, nc2, ka2, kc2, rfl, h0, h1⟩ := entRep_open hx
  have H0 := Lib.hid h0
  have Hy := Lib.hid hy
  have HB := Lib.hid hB
  have lB := hB.lt
  have p0 := hB.cell 0 _ rfl
  have p1 := hB.cell 1 _ rfl
  have p2 := hB.cell 2 _ rfl
  have p3 := hB.cell 3 _ rfl
  have p4 := hB.cell 4 _ rfl
  clear hx h0 h1 hy hB
  unfold entL
  go_enter Try.func59, Try.ntmps59
  go_wp2_with fail
  refine (sameNode_ok x.1 y.1 _ _ _ gx gy ⟨_, _, _, _, rfl, H0.out.grow' (by repeat (first | with_reducible exact Ext.refl _ _ | with_reducible refine Ext.trans ?_ (by assumption) | with_reducible refine Ext.drew ?_ | with_reducible refine Ext.drewN ?_ _ | with_reducible refine Ext.alloc ?_ _ | with_reducible refine Ext.setNew ?_ (by simp; done) _ | with_reducible refine Ext.setNew ?_ (by simp; omega) _))⟩ ⟨_, _, _, _, rfl, Hy.out.grow' (by repeat (first | with_reducible exact Ext.refl _ _ | with_reducible refine Ext.trans ?_ (by assumption) | with_reducible refine Ext.drew ?_ | with_reducible refine Ext.drewN ?_ _ | with_reducible refine Ext.alloc ?_ _ | with_reducible refine Ext.setNew ?_ (by simp; done) _ | with_reducible refine Ext.setNew ?_ (by simp; omega) _))⟩).mono ?_
  rintro e w2 ⟨rfl, hg2⟩
  go_wp2_with fail
  go_ret
  exact ⟨by simp, (by repeat (first | with_reducible exact Ext.refl _ _ | with_reducible refine Ext.trans ?_ (by assumption) | with_reducible refine Ext.drew ?_ | with_reducible refine Ext.drewN ?_ _ | with_reducible refine Ext.alloc ?_ _ | with_reducible refine Ext.setNew ?_ (by simp; done) _ | with_reducible refine Ext.setNew ?_ (by simp; omega) _))⟩
theorem keyIdx_ok (l : List Ent) (y : Ent) (a : Option Addr) (c : Nat) (na : Option Addr) (nc : Nat) (ka : Option Addr) (kc B : Nat) (w : World) (hn : SlR entRep w any a c l) (gl : ∀ e ∈ l, Good e.1) (gy : Good y.1) (hB : BoxN w B (entL y na nc ka kc)) (hy : NodeC w any y.1 na nc ka kc) :
    Calls Try.prog 91 #[.slice a l.length c, .func (.func 59) #[] #[.pointer (some ⟨B, 0, none⟩)]] w
      fun e w' => ∃ r : Int, e = .returned (.int .i64 r) ∧ decide (0 ≤ r) = knB l y ∧ Grow w w' := by
  have hbig : l.length ≤ 9223372036854775807 := hn.2.1
  have Hn := Lib.hid hn
  have HB := Lib.hid hB
  have Hy := Lib.hid hy
  have Gl := Lib.hid gl
  clear hn hB hy gl
  go_enter Try.func91, Try.ntmps91
  go_wp2
  go_loopw [4, 5, 8] (fun _ _ i wr => Grow w wr ∧ ∃ k : Nat, k ≤ l.length ∧ i = .int .i64 k ∧ Hid (knB l y = knB (l.drop k) y)) (fun _ _ i _ => l.length - (intOf i).toNat)
  case atStart => exact ⟨(by repeat (first | with_reducible exact Ext.refl _ _ | with_reducible refine Ext.trans ?_ (by assumption) | with_reducible refine Ext.drew ?_ | with_reducible refine Ext.drewN ?_ _ | with_reducible refine Ext.alloc ?_ _ | with_reducible refine Ext.setNew ?_ (by simp; done) _ | with_reducible refine Ext.setNew ?_ (by simp; omega) _)), 0, Nat.zero_le _, rfl, Lib.hid rfl⟩
  case round =>
    obtain ⟨hg, k, hk, rfl, Hr⟩ := hrel
    by_cases hlt : k < l.length
    · obtain ⟨_, _, hks⟩ := (Hn.out).grow hg
      rcases hks with hks | ⟨bk, ok, rfl, _, hkr⟩
      · simp [hks] at hlt
      obtain ⟨cs, hcs, hx⟩ := hkr k hlt
      have hgx : Good l[k].1 := Gl.out _ (List.getElem_mem hlt)
      obtain ⟨na0, nc0, ka0, kc0, rfl, h0, h1⟩ := entRep_open hx
      rw [entRep_n] at hcs
      have x0 : wr.cell? ⟨bk, ok + k * 6, none⟩ = _ := hcs 0 _ rfl
      have x1 := hcs 1 _ rfl
      have x2 := hcs 2 _ rfl
      have x3 := hcs 3 _ rfl
      have x4 := hcs 4 _ rfl
      have x5 := hcs 5 _ rfl
      have Hx := Lib.hid hx
      have Hs := Lib.hid (knB_drop (x := y) hlt)
      have hB1 := Lib.hid (HB.out.grow hg)
      have hy1 := Lib.hid (Hy.out.grow' hg)
      clear hkr hcs hx h0 h1
      cases hv : cmpN l[k].1 y.1 == 0
      · have Hv := Lib.hid hv
        clear hv
        go_wp2_with fail
        refine (keyCl_ok l[k] y (entL l[k] na0 nc0 ka0 kc0) na nc ka kc B wr hgx gy Hx.out hB1.out hy1.out).mono ?_
        rintro e w2 ⟨rfl, hg2⟩
        simp only [Hv.out]
        go_wp2_with fail
        go_roundw
        case rel => exact ⟨(by repeat (first | with_reducible exact Ext.refl _ _ | with_reducible refine Ext.trans ?_ (by assumption) | with_reducible refine Ext.drew ?_ | with_reducible refine Ext.drewN ?_ _ | with_reducible refine Ext.alloc ?_ _ | with_reducible refine Ext.setNew ?_ (by simp; done) _ | with_reducible refine Ext.setNew ?_ (by simp; omega) _)), k + 1, by omega, by go_num, Lib.hid (by rw [Hr.out, Hs.out, Hv.out]; rfl)⟩
        case measure => simp [intOf]; omega
      · have Hv := Lib.hid hv
        clear hv
        go_wp2_with fail
        refine (keyCl_ok l[k] y (entL l[k] na0 nc0 ka0 kc0) na nc ka kc B wr hgx gy Hx.out hB1.out hy1.out).mono ?_
        rintro e w2 ⟨rfl, hg2⟩
        simp only [Hv.out]
        go_wp2_with fail
        go_ret
        exact ⟨k, rfl, by rw [Hr.out, Hs.out, Hv.out]; simp, (by repeat (first | with_reducible exact Ext.refl _ _ | with_reducible refine Ext.trans ?_ (by assumption) | with_reducible refine Ext.drew ?_ | with_reducible refine Ext.drewN ?_ _ | with_reducible refine Ext.alloc ?_ _ | with_reducible refine Ext.setNew ?_ (by simp; done) _ | with_reducible refine Ext.setNew ?_ (by simp; omega) _))⟩
    · have He := Lib.hid (knB_end (x := y) hlt)
      go_wp2
      go_ret
      exact ⟨-1, rfl, by rw [Hr.out, He.out]; rfl, hg⟩
theorem keyKn_ok (l : List Ent) (y : Ent) (a : Option Addr) (c : Nat) (na : Option Addr) (nc : Nat) (ka : Option Addr) (kc B : Nat) (w : World) (hn : SlR entRep w any a c l) (gl : ∀ e ∈ l, Good e.1) (gy : Good y.1) (hB : BoxN w B (entL y na nc ka kc)) (hy : NodeC w any y.1 na nc ka kc) :
    Calls Try.prog 58 #[.slice a l.length c, .func (.func 59) #[] #[.pointer (some ⟨B, 0, none⟩)]] w
      fun e w' => e = .returned (.bool (knB l y)) ∧ Grow w w' := by
  go_enter Try.func58, Try.ntmps58
  go_wp2_with fail
  refine (keyIdx_ok l y a c na nc ka kc B w hn gl gy hB hy).mono ?_
  rintro e w2 ⟨r, rfl, hr, hg2⟩
  have Hr := Lib.hid hr
  clear hr
  go_wp2_with fail
  go_ret
  exact ⟨by rw [← Hr.out]; rfl, (by repeat (first | with_reducible exact Ext.refl _ _ | with_reducible refine Ext.trans ?_ (by assumption) | with_reducible refine Ext.drew ?_ | with_reducible refine Ext.drewN ?_ _ | with_reducible refine Ext.alloc ?_ _ | with_reducible refine Ext.setNew ?_ (by simp; done) _ | with_reducible refine Ext.setNew ?_ (by simp; omega) _))⟩
theorem SlR_take {w : World} {S : Nat → Prop} {a : Option Addr} {c : Nat} {l : List Ent} (h : SlR entRep w S a c l) {k : Nat} (hk : k ≤ l.length) : SlR entRep w S a c (l.take k) := by
  have hkl : (l.take k).length = k := by rw [List.length_take]; omega
  refine ⟨by rw [hkl]; have := h.1; omega, by rw [hkl]; have := h.2.1; omega, ?_⟩
  rcases h.2.2 with hh | ⟨b, o, rfl, hs, hkr⟩
  · left; rw [hh]; simp
  · refine .inr ⟨b, o, rfl, hs, fun i hi => ?_⟩
    rw [hkl] at hi
    obtain ⟨cs, h1, h2⟩ := hkr i (by omega)
    exact ⟨cs, h1, by rw [List.getElem_take]; exact h2⟩
theorem implKeyCount_ok (l : List Ent) (a : Option Addr) (c : Nat) (w : World) (hn : SlR entRep w any a c l) :
    Calls Try.prog 30 #[.slice a l.length c] w fun e w' => e = .returned (.int .i64 (kcS l)) ∧ Grow w w' := by
  have hbig : l.length ≤ 9223372036854775807 := hn.2.1
  have Hn := Lib.hid hn
  have hcap : l.length ≤ c := hn.1
  clear hn
  cases he : entsB l
  · have He := Lib.hid he
    have Hf : Hid (kcS l = -1) := Lib.hid (by unfold kcS; simp [he])
    clear he
    go_enter Try.func30, Try.ntmps30
    go_wp2_with fail
    refine (areEntries_ok l _ _ _ (Hn.out.grow (by repeat (first | with_reducible exact Ext.refl _ _ | with_reducible refine Ext.trans ?_ (by assumption) | with_reducible refine Ext.drew ?_ | with_reducible refine Ext.drewN ?_ _ | with_reducible refine Ext.alloc ?_ _ | with_reducible refine Ext.setNew ?_ (by simp; done) _ | with_reducible refine Ext.setNew ?_ (by simp; omega) _)))).mono ?_
    rintro e w2 ⟨rfl, hg2⟩
    simp only [He.out]
    go_wp2_with fail
    go_ret
    exact ⟨by rw [Hf.out]; rfl, (by repeat (first | with_reducible exact Ext.refl _ _ | with_reducible refine Ext.trans ?_ (by assumption) | with_reducible refine Ext.drew ?_ | with_reducible refine Ext.drewN ?_ _ | with_reducible refine Ext.alloc ?_ _ | with_reducible refine Ext.setNew ?_ (by simp; done) _ | with_reducible refine Ext.setNew ?_ (by simp; omega) _))⟩
  have He := Lib.hid he
  have Hf : Hid (kcS l = (kcN l l.length : Nat)) := Lib.hid (by unfold kcS; simp [he])
  have hl10 := entsB_len he
  clear he
  go_enter Try.func30, Try.ntmps30
  go_wp2_with fail
  refine (areEntries_ok l _ _ _ (Hn.out.grow (by repeat (first | with_reducible exact Ext.refl _ _ | with_reducible refine Ext.trans ?_ (by assumption) | with_reducible refine Ext.drew ?_ | with_reducible refine Ext.drewN ?_ _ | with_reducible refine Ext.alloc ?_ _ | with_reducible refine Ext.setNew ?_ (by simp; done) _ | with_reducible refine Ext.setNew ?_ (by simp; omega) _)))).mono ?_
  rintro e w2 ⟨rfl, hg2⟩
  simp only [He.out]
  go_wp2_with fail
  go_loopw [3, 4, 5, 6, 12] (fun n _ _ _ i wr => Grow w wr ∧ ∃ k : Nat, k ≤ l.length ∧ i = .int .i64 k ∧ n = .int .i64 (kcN l k : Nat)) (fun _ _ _ _ i _ => l.length - (intOf i).toNat)
  case atStart => exact ⟨(by repeat (first | with_reducible exact Ext.refl _ _ | with_reducible refine Ext.trans ?_ (by assumption) | with_reducible refine Ext.drew ?_ | with_reducible refine Ext.drewN ?_ _ | with_reducible refine Ext.alloc ?_ _ | with_reducible refine Ext.setNew ?_ (by simp; done) _ | with_reducible refine Ext.setNew ?_ (by simp; omega) _)), 0, Nat.zero_le _, rfl, rfl⟩
  case round =>
    obtain ⟨hg, k, hk, rfl, rfl⟩ := hrel
    by_cases hlt : k < l.length
    · have hgw := (Hn.out).grow hg
      have HG := Lib.hid hgw
      obtain ⟨_, _, hks⟩ := hgw
      rcases hks with hks | ⟨bk, ok, rfl, _, hkr⟩
      · simp [hks] at hlt
      obtain ⟨cs, hcs, hx⟩ := hkr k hlt
      obtain ⟨na0, nc0, ka0, kc0, rfl, h0, h1⟩ := entRep_open hx
      rw [entRep_n] at hcs
      have x0 : wr.cell? ⟨bk, ok + k * 6, none⟩ = _ := hcs 0 _ rfl
      have x1 := hcs 1 _ rfl
      have x2 := hcs 2 _ rfl
      have x3 := hcs 3 _ rfl
      have x4 := hcs 4 _ rfl
      have x5 := hcs 5 _ rfl
      have H0 := Lib.hid h0
      have Gk := Lib.hid (entsB_good He.out)
      have hkn := kcN_le l k
      have Hno := Lib.hid (kcN_no hlt)
      have Hyes := Lib.hid (kcN_yes hlt)
      clear hkr hcs hx h0 h1
      have htk : (l.take k).length = k := by rw [List.length_take]; omega
      have Hst := Lib.hid (fun (wx : World) (h : SlR entRep wx any (some ⟨bk, ok, none⟩) c l) => SlR_take h hk)
      have hKK : ∀ (wx : World), BoxN wx wr.heap.size (entL l[k] na0 nc0 ka0 kc0) → SlR entRep wx any (some ⟨bk, ok, none⟩) c l → NodeC wx any l[k].1 na0 nc0 ka0 kc0 →
          Calls Try.prog 58 #[.slice (some ⟨bk, ok, none⟩) k c, .func (.func 59) #[] #[.pointer (some ⟨wr.heap.size, 0, none⟩)]] wx
          fun e w' => e = .returned (.bool (knB (l.take k) l[k])) ∧ Grow wx w' := fun wx h1 h2 h3 => by
        have h := keyKn_ok (l.take k) l[k] (some ⟨bk, ok, none⟩) c na0 nc0 ka0 kc0 wr.heap.size wx (Hst.out wx h2) (fun e he => Gk.out e (List.mem_of_mem_take he)) (Gk.out _ (List.getElem_mem hlt)) h1 h3
        rw [htk] at h
        exact h
      clear htk Hst
      cases hv : knB (l.take k) l[k]
      · have Hv := Lib.hid hv
        have Hc := Hno
        clear hv
        go_wp2_with fail
        refine (hKK _ (BoxN.new wr (entL l[k] na0 nc0 ka0 kc0) 52) (HG.out.grow (by repeat (first | with_reducible exact Ext.refl _ _ | with_reducible refine Ext.trans ?_ (by assumption) | with_reducible refine Ext.drew ?_ | with_reducible refine Ext.drewN ?_ _ | with_reducible refine Ext.alloc ?_ _ | with_reducible refine Ext.setNew ?_ (by simp; done) _ | with_reducible refine Ext.setNew ?_ (by simp; omega) _))) (H0.out.grow' (by repeat (first | with_reducible exact Ext.refl _ _ | with_reducible refine Ext.trans ?_ (by assumption) | with_reducible refine Ext.drew ?_ | with_reducible refine Ext.drewN ?_ _ | with_reducible refine Ext.alloc ?_ _ | with_reducible refine Ext.setNew ?_ (by simp; done) _ | with_reducible refine Ext.setNew ?_ (by simp; omega) _)))).mono ?_
        rintro e w3 ⟨rfl, hg3⟩
        simp only [Hv.out]
        have Hn1 := Lib.hid (Hc.out Hv.out)
        go_wp2_with fail
        go_roundw
        case rel => exact ⟨(by repeat (first | with_reducible exact Ext.refl _ _ | with_reducible refine Ext.trans ?_ (by assumption) | with_reducible refine Ext.drew ?_ | with_reducible refine Ext.drewN ?_ _ | with_reducible refine Ext.alloc ?_ _ | with_reducible refine Ext.setNew ?_ (by simp; done) _ | with_reducible refine Ext.setNew ?_ (by simp; omega) _)), k + 1, by omega, by go_num, by rw [Hn1.out]; go_num⟩
        case measure => simp [intOf]; omega
      · have Hv := Lib.hid hv
        have Hc := Hyes
        clear hv
        go_wp2_with fail
        refine (hKK _ (BoxN.new wr (entL l[k] na0 nc0 ka0 kc0) 52) (HG.out.grow (by repeat (first | with_reducible exact Ext.refl _ _ | with_reducible refine Ext.trans ?_ (by assumption) | with_reducible refine Ext.drew ?_ | with_reducible refine Ext.drewN ?_ _ | with_reducible refine Ext.alloc ?_ _ | with_reducible refine Ext.setNew ?_ (by simp; done) _ | with_reducible refine Ext.setNew ?_ (by simp; omega) _))) (H0.out.grow' (by repeat (first | with_reducible exact Ext.refl _ _ | with_reducible refine Ext.trans ?_ (by assumption) | with_reducible refine Ext.drew ?_ | with_reducible refine Ext.drewN ?_ _ | with_reducible refine Ext.alloc ?_ _ | with_reducible refine Ext.setNew ?_ (by simp; done) _ | with_reducible refine Ext.setNew ?_ (by simp; omega) _)))).mono ?_
        rintro e w3 ⟨rfl, hg3⟩
        simp only [Hv.out]
        have Hn1 := Lib.hid (Hc.out Hv.out)
        go_wp2_with fail
        go_roundw
        case rel => exact ⟨(by repeat (first | with_reducible exact Ext.refl _ _ | with_reducible refine Ext.trans ?_ (by assumption) | with_reducible refine Ext.drew ?_ | with_reducible refine Ext.drewN ?_ _ | with_reducible refine Ext.alloc ?_ _ | with_reducible refine Ext.setNew ?_ (by simp; done) _ | with_reducible refine Ext.setNew ?_ (by simp; omega) _)), k + 1, by omega, by go_num, by rw [Hn1.out]⟩
        case measure => simp [intOf]; omega
    · have hkk : k = l.length := by omega
      subst hkk
      go_wp2
      go_ret
      exact ⟨by rw [Hf.out]; rfl, hg⟩
end Go.Proofs.Ytiobnaielfeeaaa
-- EV: store skip
namespace Go.Proofs.Ytiobnaielfeeaaa.Eng
open Go Go.RowKit
attribute [local simp] big size_mk ASt.pay Option.map_map Function.comp_def awant aop acall ado aev ofVal ofVal0 ASt.put ASt.add ASt.turn ASt.kill abox aalloc astore aload aloadD astoreD idOf ASt.at cellsTo afieldAddr afield aindexAddr aindex alen abin aint acmp astr aun apick aextract anil aslice abound abuild afill abuildSlice asCells aps avCells over upd aappend asrc amax amin aconv mkSt slots rowsOf_cons rowsOf_nil usedOf_cons usedOf_nil ZK.av List.replicate ASt.back ASt.addL ASt.killL nodeA nodeT nodeTL_eq nodeL_eq strsE_get strsE_len intsE_get intsE_len strsE_at intsE_at itemA itemL_eq storeA storeT storeO itemsRow tab2 tab3 tab4 tab5 tab6 tab7 tab8 tab9 tab10 tab11 tab12 tab13 tab14 tab15 tab16 tab17 tab18 tab19 tab21 tab22 tab23 tab24 tab25 tab26 tab27 tab28 tab29 tab30 tab48 tab51 tab52 tab59 tab77 tab78 tab79 tab91 tab95 tab96 tab97 tab109 tab116 tab132 tab133 tab138 tab139 tab144 tab145 tab146 tab148 tab149 tab150
theorem KeyCount_AC (l : List Ent) (t : VC) : AC Try.prog 30 [.view t 6 (l.map entE)] 0 (fun r => r = .int .i64 (kcS l)) := by
  refine AC.ofGrow (enters_of Try.func30 (by kernel_rfl) (by kernel_rfl)) (fun w L S rb vs h => ?_)
  obtain ⟨v, rfl, h1⟩ := repL1_inv h
  obtain ⟨a, c, rfl, hn⟩ := ents_of_rep h1
  refine (implKeyCount_ok l a c w hn).mono ?_
  rintro e w' ⟨rfl, hg⟩
  exact ⟨_, _, rfl, hg, rep_int.2 rfl, rfl⟩
theorem validEntries_AC (l : List Ent) (t : VC) : AC Try.prog 61 [.view t 6 (l.map entE)] 0 (fun r => r = .bool (entsB l)) := by
  refine AC.ofGrow (enters_of Try.func61 (by kernel_rfl) (by kernel_rfl)) (fun w L S rb vs h => ?_)
  obtain ⟨v, rfl, h1⟩ := repL1_inv h
  obtain ⟨a, c, rfl, hn⟩ := ents_of_rep h1
  refine (validEntries_ok l a c w hn).mono ?_
  rintro e w' ⟨rfl, hg⟩
  exact ⟨_, _, rfl, hg, rep_bool.2 rfl, rfl⟩
theorem same_AC (a b : Nd) (ha : Good a) (hb : Good b) : AC Try.prog 62 [nodeA a, nodeA b] 0 (fun r => r = .bool (cmpN a b == 0)) := by
  have p3 := specCompare_AC a b ha hb
  unfold nodeA at p3 ⊢
  rw [nodeL_eq a, nodeL_eq b] at p3 ⊢
  generalize hP : cmpN a b = P at *
  refine AC.of tab_ok mixed_ok Try.func62 (by rfl) (by kernel_rfl) ?_; rintro ⟨P, T, hT, hm, w0, S0, rd0, k0⟩ hP hTT; dsimp only at hP hTT; subst hP hTT; unfold initSt; rw [Try.ntmps62]
  (repeat (first | with_reducible refine AW.seq ?_ | ((first | refine arun_kn 4 rfl (fun C hC => ?_) | refine arunD_kn 4 rfl (fun C hC => ?_)); (repeat ((conv => whnf); simp)); refine hC _ ?_; clear hC C; simp only [List.drop, Nat.reduceAdd]) | ((first | refine arun_kn 1 rfl (fun C hC => ?_) | refine arunD_kn 1 rfl (fun C hC => ?_)); (repeat ((conv => whnf); simp)); refine hC _ ?_; clear hC C; simp only [List.drop, Nat.reduceAdd]) | (refine arun_skip ?_ ?_; (focus (simp [awant]; done))) | (refine arun_c0 (p3) ?_; rintro _ rfl) | (refine arunD_skip ?_ ?_; (focus (simp [awant]; done))) | (refine AW.regionK [] (fun K hK => ?_)) | (refine AW.regionDK [] (pcs [] []) (by kernel_rfl) (by kernel_rfl) (fun K hK => ?_)) | (refine AW.condT ?_ ?_; (focus (simp [aev]; done))) | (refine AW.condF ?_ ?_; (focus (simp [aev]; done))) | with_reducible refine AW.block ?_ | ((first | ((first | refine arun_nil ?_ | refine arunD_nil ?_); refine hK _ ?_; clear hK K) | refine AW.skip ?_ | refine AW.exit ?_ | refine AW.ret ?_); simp only [thenA_exit, inBlockA_exit, if_true, if_false, Nat.reduceEqDiff, thenA_normal, inBlockA_normal, reduceIte, thenA_ret, inBlockA_ret, endQ_ret, endR_ret, endG_ret, endQ_normal, endR_normal, endG_normal])))
  exact ⟨.bool (P == 0), by simp [ares, aresL], pur_bool, rfl⟩
theorem toInt_AC (b : Bool) : AC Try.prog 63 [.bool b] 0 (fun r => r = .int .i64 (if b then 1 else 0)) := by
  cases b
  · refine AC.of tab_ok mixed_ok Try.func63 (by rfl) (by kernel_rfl) ?_; rintro ⟨P, T, hT, hm, w0, S0, rd0, k0⟩ hP hTT; dsimp only at hP hTT; subst hP hTT; unfold initSt; rw [Try.ntmps63]
    (repeat (first | with_reducible refine AW.seq ?_ | ((first | refine arun_kn 4 rfl (fun C hC => ?_) | refine arunD_kn 4 rfl (fun C hC => ?_)); (repeat ((conv => whnf); simp)); refine hC _ ?_; clear hC C; simp only [List.drop, Nat.reduceAdd]) | ((first | refine arun_kn 1 rfl (fun C hC => ?_) | refine arunD_kn 1 rfl (fun C hC => ?_)); (repeat ((conv => whnf); simp)); refine hC _ ?_; clear hC C; simp only [List.drop, Nat.reduceAdd]) | (refine arun_skip ?_ ?_; (focus (simp [awant]; done))) | (refine arunD_skip ?_ ?_; (focus (simp [awant]; done))) | (refine AW.regionK [] (fun K hK => ?_)) | (refine AW.regionDK [] (pcs [] []) (by kernel_rfl) (by kernel_rfl) (fun K hK => ?_)) | (refine AW.condT ?_ ?_; (focus (simp [aev]; done))) | (refine AW.condF ?_ ?_; (focus (simp [aev]; done))) | with_reducible refine AW.block ?_ | ((first | ((first | refine arun_nil ?_ | refine arunD_nil ?_); refine hK _ ?_; clear hK K) | refine AW.skip ?_ | refine AW.exit ?_ | refine AW.ret ?_); simp only [thenA_exit, inBlockA_exit, if_true, if_false, Nat.reduceEqDiff, thenA_normal, inBlockA_normal, reduceIte, thenA_ret, inBlockA_ret, endQ_ret, endR_ret, endG_ret, endQ_normal, endR_normal, endG_normal])))
    exact ⟨.int .i64 0, by simp [ares, aresL], pur_int, rfl⟩
  · refine AC.of tab_ok mixed_ok Try.func63 (by rfl) (by kernel_rfl) ?_; rintro ⟨P, T, hT, hm, w0, S0, rd0, k0⟩ hP hTT; dsimp only at hP hTT; subst hP hTT; unfold initSt; rw [Try.ntmps63]
    (repeat (first | with_reducible refine AW.seq ?_ | ((first | refine arun_kn 4 rfl (fun C hC => ?_) | refine arunD_kn 4 rfl (fun C hC => ?_)); (repeat ((conv => whnf); simp)); refine hC _ ?_; clear hC C; simp only [List.drop, Nat.reduceAdd]) | ((first | refine arun_kn 1 rfl (fun C hC => ?_) | refine arunD_kn 1 rfl (fun C hC => ?_)); (repeat ((conv => whnf); simp)); refine hC _ ?_; clear hC C; simp only [List.drop, Nat.reduceAdd]) | (refine arun_skip ?_ ?_; (focus (simp [awant]; done))) | (refine arunD_skip ?_ ?_; (focus (simp [awant]; done))) | (refine AW.regionK [] (fun K hK => ?_)) | (refine AW.regionDK [] (pcs [] []) (by kernel_rfl) (by kernel_rfl) (fun K hK => ?_)) | (refine AW.condT ?_ ?_; (focus (simp [aev]; done))) | (refine AW.condF ?_ ?_; (focus (simp [aev]; done))) | with_reducible refine AW.block ?_ | ((first | ((first | refine arun_nil ?_ | refine arunD_nil ?_); refine hK _ ?_; clear hK K) | refine AW.skip ?_ | refine AW.exit ?_ | refine AW.ret ?_); simp only [thenA_exit, inBlockA_exit, if_true, if_false, Nat.reduceEqDiff, thenA_normal, inBlockA_normal, reduceIte, thenA_ret, inBlockA_ret, endQ_ret, endR_ret, endG_ret, endQ_normal, endR_normal, endG_normal])))
    exact ⟨.int .i64 1, by simp [ares, aresL], pur_int, rfl⟩
theorem knB_take {l : List Ent} {x : Ent} {k : Nat} (h : k < l.length) : knB (l.take (k + 1)) x = (knB (l.take k) x || (cmpN l[k].1 x.1 == 0)) := by
  unfold knB; rw [take_snoc' _ _ h, List.any_append]; simp
theorem specKeyCount_AC (l : List Ent) : AC Try.prog 31 [.view .loose 6 (l.map entE)] 0 (fun r => r = .int .i64 (kcS l)) := by
  have p1 := validEntries_AC l .loose
  have hcl := ents_clo l
  have hvl : ∀ U : Nat → Bool, AV.In U (.view .loose 6 (l.map entE)) := fun U => in_view.2 (entsE_in l)
  cases he : entsB l
  · rw [he] at p1
    refine AC.of tab_ok mixed_ok Try.func31 (by rfl) (by kernel_rfl) ?_; rintro ⟨P, T, hT, hm, w0, S0, rd0, k0⟩ hP hTT; dsimp only at hP hTT; subst hP hTT; unfold initSt; rw [Try.ntmps31]
    (repeat (first | with_reducible refine AW.seq ?_ | ((first | refine arun_kn 4 rfl (fun C hC => ?_) | refine arunD_kn 4 rfl (fun C hC => ?_)); (repeat ((conv => whnf); simp)); refine hC _ ?_; clear hC C; simp only [List.drop, Nat.reduceAdd]) | ((first | refine arun_kn 1 rfl (fun C hC => ?_) | refine arunD_kn 1 rfl (fun C hC => ?_)); (repeat ((conv => whnf); simp)); refine hC _ ?_; clear hC C; simp only [List.drop, Nat.reduceAdd]) | (refine arun_skip ?_ ?_; (focus (simp [awant]; done))) | (refine arun_c0 (p1) ?_; rintro _ rfl) | (refine arunD_skip ?_ ?_; (focus (simp [awant]; done))) | (refine AW.regionK [] (fun K hK => ?_)) | (refine AW.regionDK [] (pcs [] []) (by kernel_rfl) (by kernel_rfl) (fun K hK => ?_)) | (refine AW.condT ?_ ?_; (focus (simp [aev]; done))) | (refine AW.condF ?_ ?_; (focus (simp [aev]; done))) | with_reducible refine AW.block ?_ | ((first | ((first | refine arun_nil ?_ | refine arunD_nil ?_); refine hK _ ?_; clear hK K) | refine AW.skip ?_ | refine AW.exit ?_ | refine AW.ret ?_); simp only [thenA_exit, inBlockA_exit, if_true, if_false, Nat.reduceEqDiff, thenA_normal, inBlockA_normal, reduceIte, thenA_ret, inBlockA_ret, endQ_ret, endR_ret, endG_ret, endQ_normal, endR_normal, endG_normal])))
    exact ⟨.int .i64 (-1), by simp [ares, aresL], pur_int, by unfold kcS; rw [he]; rfl⟩
  rw [he] at p1
  have hl10 := entsB_len he
  have hgd := entsB_good he
  refine AC.of tab_ok mixed_ok Try.func31 (by rfl) (by kernel_rfl) ?_; rintro ⟨P, T, hT, hm, w0, S0, rd0, k0⟩ hP hTT; dsimp only at hP hTT; subst hP hTT; unfold initSt; rw [Try.ntmps31]
  (repeat (first | with_reducible refine AW.seq ?_ | ((first | refine arun_kn 4 rfl (fun C hC => ?_) | refine arunD_kn 4 rfl (fun C hC => ?_)); (repeat ((conv => whnf); simp [List.length_map])); refine hC _ ?_; clear hC C; simp only [List.drop, Nat.reduceAdd]) | ((first | refine arun_kn 1 rfl (fun C hC => ?_) | refine arunD_kn 1 rfl (fun C hC => ?_)); (repeat ((conv => whnf); simp [List.length_map])); refine hC _ ?_; clear hC C; simp only [List.drop, Nat.reduceAdd]) | (refine arun_skip ?_ ?_; (focus (simp [awant, List.length_map]; done))) | (refine arun_c0 (p1) ?_; rintro _ rfl) | (refine arunD_skip ?_ ?_; (focus (simp [awant, List.length_map]; done))) | (refine AW.regionK [] (fun K hK => ?_)) | (refine AW.regionDK [] (pcs [] []) (by kernel_rfl) (by kernel_rfl) (fun K hK => ?_)) | (refine AW.condT ?_ ?_; (focus (simp [aev, List.length_map]; done))) | (refine AW.condF ?_ ?_; (focus (simp [aev, List.length_map]; done))) | with_reducible refine AW.block ?_ | ((first | ((first | refine arun_nil ?_ | refine arunD_nil ?_); refine hK _ ?_; clear hK K) | refine AW.skip ?_ | refine AW.exit ?_ | refine AW.ret ?_); simp only [thenA_exit, inBlockA_exit, if_true, if_false, Nat.reduceEqDiff, thenA_normal, inBlockA_normal, reduceIte, thenA_ret, inBlockA_ret, endQ_ret, endR_ret, endG_ret, endQ_normal, endR_normal, endG_normal])))
  refine AW.loopS (fun (i : Nat) => mkSt (slots 0 41 [(0, .view .loose 6 (l.map entE)), (2, .int .i64 0), (3, .int .i64 (kcN l i : Nat)), (4, .int .i64 i)]) [] [] (rd0.map fun _ => 0)) (fun i => l.length - i) (fun i => i ≤ l.length) 0 ?_ (Nat.zero_le _) ?_
  · rw [kcN]; exact (less_of (by simp [lessL, mkSt, slots, hvl, itemA, itemL_eq, storeA, storeT, storeO, itemsRow]) (by simp [upd, mkSt, rowsOf_cons, hvl, itemA, itemL_eq, storeA, storeT, storeO, itemsRow]) (by simp [upd, mkSt, usedOf_cons, hvl, itemA, itemL_eq, storeA, storeT, storeO, itemsRow]) (by first | exact rd_less (by omega) | simp [mkSt, hvl, itemA, itemL_eq, storeA, storeT, storeO, itemsRow]) (by simp [slots, in_any, in_int, in_bool, in_str, in_ptr, in_own, in_agg, in_vnil, in_rdr, usedOf_cons, usedOf_nil, strs_in, ints_in, nodes_in, items_in, in_tup, hvl, itemA, itemL_eq, storeA, storeT, storeO, itemsRow]) (by simp only [List.forall_mem_cons, List.not_mem_nil, false_implies, implies_true, and_true, true_and, hvl, itemA, itemL_eq, storeA, storeT, storeO, itemsRow]; (repeat (first | with_reducible exact trivial | with_reducible refine And.intro ?_ ?_ | with_reducible exact in_int | with_reducible exact in_str | with_reducible exact in_bool | with_reducible exact strs_in _ | with_reducible exact nodes_in _ | with_reducible exact items_in _ | with_reducible exact in_vnil | with_reducible exact in_any | exact hin _ | with_reducible refine take_in ?_ | with_reducible exact strsE_in _ | with_reducible exact nodesE_in _ | with_reducible exact nodeL_in _ | with_reducible exact itemsE_in _ | with_reducible exact itemL_in _ | with_reducible refine app_in ?_ ?_ | with_reducible refine sing_in ?_ | (focus (simp [in_any, in_int, in_bool, in_str, in_ptr, in_own, in_agg, in_vnil, in_rdr, usedOf_cons, usedOf_nil, strs_in, ints_in, nodes_in, items_in, hvl, itemA, itemL_eq, storeA, storeT, storeO, itemsRow]; done)))); done))
  intro i hi
  have hkl := kcN_le l i
  by_cases hlt : i < l.length
  rotate_left
  · obtain rfl : i = l.length := by omega
    (repeat (first | with_reducible refine AW.seq ?_ | ((first | refine arun_kn 4 rfl (fun C hC => ?_) | refine arunD_kn 4 rfl (fun C hC => ?_)); (repeat ((conv => whnf); simp [List.length_map])); refine hC _ ?_; clear hC C; simp only [List.drop, Nat.reduceAdd]) | ((first | refine arun_kn 1 rfl (fun C hC => ?_) | refine arunD_kn 1 rfl (fun C hC => ?_)); (repeat ((conv => whnf); simp [List.length_map])); refine hC _ ?_; clear hC C; simp only [List.drop, Nat.reduceAdd]) | (refine arun_skip ?_ ?_; (focus (simp [awant, List.length_map]; done))) | (refine arunD_skip ?_ ?_; (focus (simp [awant, List.length_map]; done))) | (refine AW.regionK [] (fun K hK => ?_)) | (refine AW.regionDK [] (pcs [] []) (by kernel_rfl) (by kernel_rfl) (fun K hK => ?_)) | (refine AW.condT ?_ ?_; (focus (simp [aev, List.length_map]; done))) | (refine AW.condF ?_ ?_; (focus (simp [aev, List.length_map]; done))) | with_reducible refine AW.block ?_ | ((first | ((first | refine arun_nil ?_ | refine arunD_nil ?_); refine hK _ ?_; clear hK K) | refine AW.skip ?_ | refine AW.exit ?_ | refine AW.ret ?_); simp only [thenA_exit, inBlockA_exit, if_true, if_false, Nat.reduceEqDiff, thenA_normal, inBlockA_normal, reduceIte, thenA_ret, inBlockA_ret, endQ_ret, endR_ret, endG_ret, endQ_normal, endR_normal, endG_normal])))
    exact ⟨.int .i64 (kcN l l.length : Nat), by simp [ares, aresL], pur_int, by unfold kcS; rw [he]; rfl⟩
  have hlt' : (i : Int) < (l.length : Int) := by omega
  (repeat (first | with_reducible refine AW.seq ?_ | ((first | refine arun_kn 4 rfl (fun C hC => ?_) | refine arunD_kn 4 rfl (fun C hC => ?_)); (repeat ((conv => whnf); simp [hlt, hlt', List.length_map])); refine hC _ ?_; clear hC C; simp only [List.drop, Nat.reduceAdd]) | ((first | refine arun_kn 1 rfl (fun C hC => ?_) | refine arunD_kn 1 rfl (fun C hC => ?_)); (repeat ((conv => whnf); simp [hlt, hlt', List.length_map])); refine hC _ ?_; clear hC C; simp only [List.drop, Nat.reduceAdd]) | (refine arun_skip ?_ ?_; (focus (simp [awant, hlt, hlt', List.length_map]; done))) | (refine arunD_skip ?_ ?_; (focus (simp [awant, hlt, hlt', List.length_map]; done))) | (refine AW.regionK [] (fun K hK => ?_)) | (refine AW.regionDK [] (pcs [] []) (by kernel_rfl) (by kernel_rfl) (fun K hK => ?_)) | (refine AW.condT ?_ ?_; (focus (simp [aev, hlt, hlt', List.length_map]; done))) | (refine AW.condF ?_ ?_; (focus (simp [aev, hlt, hlt', List.length_map]; done))) | with_reducible refine AW.block ?_ | ((first | ((first | refine arun_nil ?_ | refine arunD_nil ?_); refine hK _ ?_; clear hK K) | refine AW.skip ?_ | refine AW.exit ?_ | refine AW.ret ?_); simp only [thenA_exit, inBlockA_exit, if_true, if_false, Nat.reduceEqDiff, thenA_normal, inBlockA_normal, reduceIte, thenA_ret, inBlockA_ret, endQ_ret, endR_ret, endG_ret, endQ_normal, endR_normal, endG_normal])))
  refine AW.loopS (fun (k : Nat) => mkSt (slots 0 41 [(0, .view .loose 6 (l.map entE)), (2, .int .i64 0), (3, .int .i64 (kcN l i : Nat)), (4, .int .i64 i), (5, .bool (!knB (l.take k) l[i])), (6, .int .i64 k)]) [] [] (rd0.map fun _ => 0)) (fun k => i - k) (fun k => k ≤ i) 0 ?_ (Nat.zero_le _) ?_
  · have : knB (l.take 0) l[i] = false := rfl
    rw [this]; exact (less_of (by simp [lessL, mkSt, slots, hvl, itemA, itemL_eq, storeA, storeT, storeO, itemsRow]) (by simp [upd, mkSt, rowsOf_cons, hvl, itemA, itemL_eq, storeA, storeT, storeO, itemsRow]) (by simp [upd, mkSt, usedOf_cons, hvl, itemA, itemL_eq, storeA, storeT, storeO, itemsRow]) (by first | exact rd_less (by omega) | simp [mkSt, hvl, itemA, itemL_eq, storeA, storeT, storeO, itemsRow]) (by simp [slots, in_any, in_int, in_bool, in_str, in_ptr, in_own, in_agg, in_vnil, in_rdr, usedOf_cons, usedOf_nil, strs_in, ints_in, nodes_in, items_in, in_tup, hvl, itemA, itemL_eq, storeA, storeT, storeO, itemsRow]) (by simp only [List.forall_mem_cons, List.not_mem_nil, false_implies, implies_true, and_true, true_and, hvl, itemA, itemL_eq, storeA, storeT, storeO, itemsRow]; (repeat (first | with_reducible exact trivial | with_reducible refine And.intro ?_ ?_ | with_reducible exact in_int | with_reducible exact in_str | with_reducible exact in_bool | with_reducible exact strs_in _ | with_reducible exact nodes_in _ | with_reducible exact items_in _ | with_reducible exact in_vnil | with_reducible exact in_any | exact hin _ | with_reducible refine take_in ?_ | with_reducible exact strsE_in _ | with_reducible exact nodesE_in _ | with_reducible exact nodeL_in _ | with_reducible exact itemsE_in _ | with_reducible exact itemL_in _ | with_reducible refine app_in ?_ ?_ | with_reducible refine sing_in ?_ | (focus (simp [in_any, in_int, in_bool, in_str, in_ptr, in_own, in_agg, in_vnil, in_rdr, usedOf_cons, usedOf_nil, strs_in, ints_in, nodes_in, items_in, hvl, itemA, itemL_eq, storeA, storeT, storeO, itemsRow]; done)))); done))
  intro k hk
  by_cases hki : k < i
  rotate_left
  · obtain rfl : k = i := by omega
    have hw : IntKind.i64.wrap ((k : Int) + 1) = (k : Int) + 1 := i64_nat (by omega) (by omega)
    have hw2 : IntKind.i64.wrap ((kcN l k : Int) + 1) = (kcN l k : Int) + 1 := i64_nat (by omega) (by omega)
    have hw3 : IntKind.i64.wrap ((kcN l k : Int)) = (kcN l k : Int) := i64_nat (by omega) (by omega)
    cases hb : knB (l.take k) l[k]
    · have hn := kcN_no hlt hb
      (repeat (first | with_reducible refine AW.seq ?_ | ((first | refine arun_kn 4 rfl (fun C hC => ?_) | refine arunD_kn 4 rfl (fun C hC => ?_)); (repeat ((conv => whnf); simp [hlt, hlt', hw, hw2, List.length_map])); refine hC _ ?_; clear hC C; simp only [List.drop, Nat.reduceAdd]) | ((first | refine arun_kn 1 rfl (fun C hC => ?_) | refine arunD_kn 1 rfl (fun C hC => ?_)); (repeat ((conv => whnf); simp [hlt, hlt', hw, hw2, List.length_map])); refine hC _ ?_; clear hC C; simp only [List.drop, Nat.reduceAdd]) | (refine arun_skip ?_ ?_; (focus (simp [awant, hlt, hlt', hw, hw2, List.length_map]; done))) | (refine arun_c0 (toInt_AC true) ?_; rintro _ rfl) | (refine arunD_skip ?_ ?_; (focus (simp [awant, hlt, hlt', hw, hw2, List.length_map]; done))) | (refine AW.regionK [] (fun K hK => ?_)) | (refine AW.regionDK [] (pcs [] []) (by kernel_rfl) (by kernel_rfl) (fun K hK => ?_)) | (refine AW.condT ?_ ?_; (focus (simp [aev, hlt, hlt', hw, hw2, List.length_map]; done))) | (refine AW.condF ?_ ?_; (focus (simp [aev, hlt, hlt', hw, hw2, List.length_map]; done))) | with_reducible refine AW.block ?_ | ((first | ((first | refine arun_nil ?_ | refine arunD_nil ?_); refine hK _ ?_; clear hK K) | refine AW.skip ?_ | refine AW.exit ?_ | refine AW.ret ?_); simp only [thenA_exit, inBlockA_exit, if_true, if_false, Nat.reduceEqDiff, thenA_normal, inBlockA_normal, reduceIte, thenA_ret, inBlockA_ret, endQ_ret, endR_ret, endG_ret, endQ_normal, endR_normal, endG_normal])))
      refine ⟨k + 1, by omega, by omega, ?_⟩
      rw [hn]
      exact (less_of (by simp [lessL, mkSt, slots, hvl, itemA, itemL_eq, storeA, storeT, storeO, itemsRow]) (by simp [upd, mkSt, rowsOf_cons, hvl, itemA, itemL_eq, storeA, storeT, storeO, itemsRow]) (by simp [upd, mkSt, usedOf_cons, hvl, itemA, itemL_eq, storeA, storeT, storeO, itemsRow]) (by first | exact rd_less (by omega) | simp [mkSt, hvl, itemA, itemL_eq, storeA, storeT, storeO, itemsRow]) (by simp [slots, in_any, in_int, in_bool, in_str, in_ptr, in_own, in_agg, in_vnil, in_rdr, usedOf_cons, usedOf_nil, strs_in, ints_in, nodes_in, items_in, in_tup, hvl, itemA, itemL_eq, storeA, storeT, storeO, itemsRow]) (by simp only [List.forall_mem_cons, List.not_mem_nil, false_implies, implies_true, and_true, true_and, hvl, itemA, itemL_eq, storeA, storeT, storeO, itemsRow]; (repeat (first | with_reducible exact trivial | with_reducible refine And.intro ?_ ?_ | with_reducible exact in_int | with_reducible exact in_str | with_reducible exact in_bool | with_reducible exact strs_in _ | with_reducible exact nodes_in _ | with_reducible exact items_in _ | with_reducible exact in_vnil | with_reducible exact in_any | exact hin _ | with_reducible refine take_in ?_ | with_reducible exact strsE_in _ | with_reducible exact nodesE_in _ | with_reducible exact nodeL_in _ | with_reducible exact itemsE_in _ | with_reducible exact itemL_in _ | with_reducible refine app_in ?_ ?_ | with_reducible refine sing_in ?_ | (focus (simp [in_any, in_int, in_bool, in_str, in_ptr, in_own, in_agg, in_vnil, in_rdr, usedOf_cons, usedOf_nil, strs_in, ints_in, nodes_in, items_in, hvl, itemA, itemL_eq, storeA, storeT, storeO, itemsRow]; done)))); done))
    · have hn := kcN_yes hlt hb
      (repeat (first | with_reducible refine AW.seq ?_ | ((first | refine arun_kn 4 rfl (fun C hC => ?_) | refine arunD_kn 4 rfl (fun C hC => ?_)); (repeat ((conv => whnf); simp [hlt, hlt', hw, hw3, List.length_map])); refine hC _ ?_; clear hC C; simp only [List.drop, Nat.reduceAdd]) | ((first | refine arun_kn 1 rfl (fun C hC => ?_) | refine arunD_kn 1 rfl (fun C hC => ?_)); (repeat ((conv => whnf); simp [hlt, hlt', hw, hw3, List.length_map])); refine hC _ ?_; clear hC C; simp only [List.drop, Nat.reduceAdd]) | (refine arun_skip ?_ ?_; (focus (simp [awant, hlt, hlt', hw, hw3, List.length_map]; done))) | (refine arun_c0 (toInt_AC false) ?_; rintro _ rfl) | (refine arunD_skip ?_ ?_; (focus (simp [awant, hlt, hlt', hw, hw3, List.length_map]; done))) | (refine AW.regionK [] (fun K hK => ?_)) | (refine AW.regionDK [] (pcs [] []) (by kernel_rfl) (by kernel_rfl) (fun K hK => ?_)) | (refine AW.condT ?_ ?_; (focus (simp [aev, hlt, hlt', hw, hw3, List.length_map]; done))) | (refine AW.condF ?_ ?_; (focus (simp [aev, hlt, hlt', hw, hw3, List.length_map]; done))) | with_reducible refine AW.block ?_ | ((first | ((first | refine arun_nil ?_ | refine arunD_nil ?_); refine hK _ ?_; clear hK K) | refine AW.skip ?_ | refine AW.exit ?_ | refine AW.ret ?_); simp only [thenA_exit, inBlockA_exit, if_true, if_false, Nat.reduceEqDiff, thenA_normal, inBlockA_normal, reduceIte, thenA_ret, inBlockA_ret, endQ_ret, endR_ret, endG_ret, endQ_normal, endR_normal, endG_normal])))
      refine ⟨k + 1, by omega, by omega, ?_⟩
      rw [hn]
      exact (less_of (by simp [lessL, mkSt, slots, hvl, itemA, itemL_eq, storeA, storeT, storeO, itemsRow]) (by simp [upd, mkSt, rowsOf_cons, hvl, itemA, itemL_eq, storeA, storeT, storeO, itemsRow]) (by simp [upd, mkSt, usedOf_cons, hvl, itemA, itemL_eq, storeA, storeT, storeO, itemsRow]) (by first | exact rd_less (by omega) | simp [mkSt, hvl, itemA, itemL_eq, storeA, storeT, storeO, itemsRow]) (by simp [slots, in_any, in_int, in_bool, in_str, in_ptr, in_own, in_agg, in_vnil, in_rdr, usedOf_cons, usedOf_nil, strs_in, ints_in, nodes_in, items_in, in_tup, hvl, itemA, itemL_eq, storeA, storeT, storeO, itemsRow]) (by simp only [List.forall_mem_cons, List.not_mem_nil, false_implies, implies_true, and_true, true_and, hvl, itemA, itemL_eq, storeA, storeT, storeO, itemsRow]; (repeat (first | with_reducible exact trivial | with_reducible refine And.intro ?_ ?_ | with_reducible exact in_int | with_reducible exact in_str | with_reducible exact in_bool | with_reducible exact strs_in _ | with_reducible exact nodes_in _ | with_reducible exact items_in _ | with_reducible exact in_vnil | with_reducible exact in_any | exact hin _ | with_reducible refine take_in ?_ | with_reducible exact strsE_in _ | with_reducible exact nodesE_in _ | with_reducible exact nodeL_in _ | with_reducible exact itemsE_in _ | with_reducible exact itemL_in _ | with_reducible refine app_in ?_ ?_ | with_reducible refine sing_in ?_ | (focus (simp [in_any, in_int, in_bool, in_str, in_ptr, in_own, in_agg, in_vnil, in_rdr, usedOf_cons, usedOf_nil, strs_in, ints_in, nodes_in, items_in, hvl, itemA, itemL_eq, storeA, storeT, storeO, itemsRow]; done)))); done))
  have hki' : (k : Int) < (i : Int) := by omega
  have hw : IntKind.i64.wrap ((k : Int) + 1) = (k : Int) + 1 := i64_nat (by omega) (by omega)
  have hkl' : k < l.length := by omega
  have hkl2 : (k : Int) < (l.length : Int) := by omega
  have x1 := ent_get hlt
  have x2 := ent_get hkl'
  have hn := knB_take (x := l[i]) hkl'
  have p5 := same_AC l[k].1 l[i].1 (hgd _ (List.getElem_mem hkl')) (hgd _ (List.getElem_mem hlt))
  unfold nodeA at p5
  rw [nodeL_eq l[k].1, nodeL_eq l[i].1] at p5
  generalize (cmpN l[k].1 l[i].1 == 0) = P at *
  cases hb : knB (l.take k) l[i]
  · rw [hb] at hn
    (repeat (first | with_reducible refine AW.seq ?_ | ((first | refine arun_kn 4 rfl (fun C hC => ?_) | refine arunD_kn 4 rfl (fun C hC => ?_)); (repeat ((conv => whnf); simp [hki, hki', hlt, hlt', hkl', hkl2, hw, x1, x2, entE, List.length_map])); refine hC _ ?_; clear hC C; simp only [List.drop, Nat.reduceAdd]) | ((first | refine arun_kn 1 rfl (fun C hC => ?_) | refine arunD_kn 1 rfl (fun C hC => ?_)); (repeat ((conv => whnf); simp [hki, hki', hlt, hlt', hkl', hkl2, hw, x1, x2, entE, List.length_map])); refine hC _ ?_; clear hC C; simp only [List.drop, Nat.reduceAdd]) | (refine arun_skip ?_ ?_; (focus (simp [awant, hki, hki', hlt, hlt', hkl', hkl2, hw, x1, x2, entE, List.length_map]; done))) | (refine arun_c0 (p5) ?_; rintro _ rfl) | (refine arunD_skip ?_ ?_; (focus (simp [awant, hki, hki', hlt, hlt', hkl', hkl2, hw, x1, x2, entE, List.length_map]; done))) | (refine arunD_c (0) (p5) ?_; rintro _ rfl; intro _) | (refine AW.regionK [] (fun K hK => ?_)) | (refine AW.regionDK [] (pcs [(12, 0, fun r => r = .bool P)] []) (by kernel_rfl) (by kernel_rfl) (fun K hK => ?_)) | (refine AW.condT ?_ ?_; (focus (simp [aev, hki, hki', hlt, hlt', hkl', hkl2, hw, x1, x2, entE, List.length_map]; done))) | (refine AW.condF ?_ ?_; (focus (simp [aev, hki, hki', hlt, hlt', hkl', hkl2, hw, x1, x2, entE, List.length_map]; done))) | with_reducible refine AW.block ?_ | ((first | ((first | refine arun_nil ?_ | refine arunD_nil ?_); refine hK _ ?_; clear hK K) | refine AW.skip ?_ | refine AW.exit ?_ | refine AW.ret ?_); simp only [thenA_exit, inBlockA_exit, if_true, if_false, Nat.reduceEqDiff, thenA_normal, inBlockA_normal, reduceIte, thenA_ret, inBlockA_ret, endQ_ret, endR_ret, endG_ret, endQ_normal, endR_normal, endG_normal])))
    refine ⟨k + 1, by omega, by omega, ?_⟩
    rw [hn]
    exact (less_of (by simp [lessL, mkSt, slots, hvl, itemA, itemL_eq, storeA, storeT, storeO, itemsRow]) (by simp [upd, mkSt, rowsOf_cons, hvl, itemA, itemL_eq, storeA, storeT, storeO, itemsRow]) (by simp [upd, mkSt, usedOf_cons, hvl, itemA, itemL_eq, storeA, storeT, storeO, itemsRow]) (by first | exact rd_less (by omega) | simp [mkSt, hvl, itemA, itemL_eq, storeA, storeT, storeO, itemsRow]) (by simp [slots, in_any, in_int, in_bool, in_str, in_ptr, in_own, in_agg, in_vnil, in_rdr, usedOf_cons, usedOf_nil, strs_in, ints_in, nodes_in, items_in, in_tup, hvl, itemA, itemL_eq, storeA, storeT, storeO, itemsRow]) (by simp only [List.forall_mem_cons, List.not_mem_nil, false_implies, implies_true, and_true, true_and, hvl, itemA, itemL_eq, storeA, storeT, storeO, itemsRow]; (repeat (first | with_reducible exact trivial | with_reducible refine And.intro ?_ ?_ | with_reducible exact in_int | with_reducible exact in_str | with_reducible exact in_bool | with_reducible exact strs_in _ | with_reducible exact nodes_in _ | with_reducible exact items_in _ | with_reducible exact in_vnil | with_reducible exact in_any | exact hin _ | with_reducible refine take_in ?_ | with_reducible exact strsE_in _ | with_reducible exact nodesE_in _ | with_reducible exact nodeL_in _ | with_reducible exact itemsE_in _ | with_reducible exact itemL_in _ | with_reducible refine app_in ?_ ?_ | with_reducible refine sing_in ?_ | (focus (simp [in_any, in_int, in_bool, in_str, in_ptr, in_own, in_agg, in_vnil, in_rdr, usedOf_cons, usedOf_nil, strs_in, ints_in, nodes_in, items_in, hvl, itemA, itemL_eq, storeA, storeT, storeO, itemsRow]; done)))); done))
  · rw [hb] at hn
    (repeat (first | with_reducible refine AW.seq ?_ | ((first | refine arun_kn 4 rfl (fun C hC => ?_) | refine arunD_kn 4 rfl (fun C hC => ?_)); (repeat ((conv => whnf); simp [hki, hki', hlt, hlt', hkl', hkl2, hw, x1, x2, entE, List.length_map])); refine hC _ ?_; clear hC C; simp only [List.drop, Nat.reduceAdd]) | ((first | refine arun_kn 1 rfl (fun C hC => ?_) | refine arunD_kn 1 rfl (fun C hC => ?_)); (repeat ((conv => whnf); simp [hki, hki', hlt, hlt', hkl', hkl2, hw, x1, x2, entE, List.length_map])); refine hC _ ?_; clear hC C; simp only [List.drop, Nat.reduceAdd]) | (refine arun_skip ?_ ?_; (focus (simp [awant, hki, hki', hlt, hlt', hkl', hkl2, hw, x1, x2, entE, List.length_map]; done))) | (refine arun_c0 (p5) ?_; rintro _ rfl) | (refine arunD_skip ?_ ?_; (focus (simp [awant, hki, hki', hlt, hlt', hkl', hkl2, hw, x1, x2, entE, List.length_map]; done))) | (refine arunD_c (0) (p5) ?_; rintro _ rfl; intro _) | (refine AW.regionK [] (fun K hK => ?_)) | (refine AW.regionDK [] (pcs [(12, 0, fun r => r = .bool P)] []) (by kernel_rfl) (by kernel_rfl) (fun K hK => ?_)) | (refine AW.condT ?_ ?_; (focus (simp [aev, hki, hki', hlt, hlt', hkl', hkl2, hw, x1, x2, entE, List.length_map]; done))) | (refine AW.condF ?_ ?_; (focus (simp [aev, hki, hki', hlt, hlt', hkl', hkl2, hw, x1, x2, entE, List.length_map]; done))) | with_reducible refine AW.block ?_ | ((first | ((first | refine arun_nil ?_ | refine arunD_nil ?_); refine hK _ ?_; clear hK K) | refine AW.skip ?_ | refine AW.exit ?_ | refine AW.ret ?_); simp only [thenA_exit, inBlockA_exit, if_true, if_false, Nat.reduceEqDiff, thenA_normal, inBlockA_normal, reduceIte, thenA_ret, inBlockA_ret, endQ_ret, endR_ret, endG_ret, endQ_normal, endR_normal, endG_normal])))
    refine ⟨k + 1, by omega, by omega, ?_⟩
    rw [hn]
    exact (less_of (by simp [lessL, mkSt, slots, hvl, itemA, itemL_eq, storeA, storeT, storeO, itemsRow]) (by simp [upd, mkSt, rowsOf_cons, hvl, itemA, itemL_eq, storeA, storeT, storeO, itemsRow]) (by simp [upd, mkSt, usedOf_cons, hvl, itemA, itemL_eq, storeA, storeT, storeO, itemsRow]) (by first | exact rd_less (by omega) | simp [mkSt, hvl, itemA, itemL_eq, storeA, storeT, storeO, itemsRow]) (by simp [slots, in_any, in_int, in_bool, in_str, in_ptr, in_own, in_agg, in_vnil, in_rdr, usedOf_cons, usedOf_nil, strs_in, ints_in, nodes_in, items_in, in_tup, hvl, itemA, itemL_eq, storeA, storeT, storeO, itemsRow]) (by simp only [List.forall_mem_cons, List.not_mem_nil, false_implies, implies_true, and_true, true_and, hvl, itemA, itemL_eq, storeA, storeT, storeO, itemsRow]; (repeat (first | with_reducible exact trivial | with_reducible refine And.intro ?_ ?_ | with_reducible exact in_int | with_reducible exact in_str | with_reducible exact in_bool | with_reducible exact strs_in _ | with_reducible exact nodes_in _ | with_reducible exact items_in _ | with_reducible exact in_vnil | with_reducible exact in_any | exact hin _ | with_reducible refine take_in ?_ | with_reducible exact strsE_in _ | with_reducible exact nodesE_in _ | with_reducible exact nodeL_in _ | with_reducible exact itemsE_in _ | with_reducible exact itemL_in _ | with_reducible refine app_in ?_ ?_ | with_reducible refine sing_in ?_ | (focus (simp [in_any, in_int, in_bool, in_str, in_ptr, in_own, in_agg, in_vnil, in_rdr, usedOf_cons, usedOf_nil, strs_in, ints_in, nodes_in, items_in, hvl, itemA, itemL_eq, storeA, storeT, storeO, itemsRow]; done)))); done))
end Go.Proofs.Ytiobnaielfeeaaa.Eng
