/-
  Texts of this claim, joined.
-/
import Derived.Laws.CopyOwn
import Derived.Deep.RegionHeld3
import Derived.Laws.CopyRow
import Derived.Laws.IdiomCopy
import Derived.Laws.AppendOwn
import Derived.Lib.AppendZerosOnto
import Derived.Lib.Overlaps
import Derived.Deep.RegionLaw
import Derived.Test.YtgfnmhfdmmnaoaaPdE

set_option linter.unusedSimpArgs false
set_option linter.unusedVariables false
set_option linter.unnecessarySimpa false
set_option maxRecDepth 100000
set_option maxHeartbeats 16000000
-- EV: store
namespace Go.Proofs.Ytgfnmhfdmmnaoaa.Eng
open Go Go.RowKit
attribute [local simp] big size_mk ASt.pay Option.map_map Function.comp_def awant aop acall ado aev ofVal ofVal0 ASt.put ASt.add ASt.turn ASt.kill abox aalloc astore aload aloadD astoreD idOf ASt.at cellsTo afieldAddr afield aindexAddr aindex alen abin aint acmp astr aun apick aextract anil aslice abound abuild afill abuildSlice asCells aps avCells over upd aappend asrc amax amin aconv mkSt slots rowsOf_cons rowsOf_nil usedOf_cons usedOf_nil ZK.av List.replicate ASt.back ASt.addL ASt.killL nodeA nodeT nodeTL_eq nodeL_eq strsE_get strsE_len intsE_get intsE_len strsE_at intsE_at itemA itemL_eq storeA storeT storeO itemsRow tab2 tab3 tab4 tab5 tab6 tab7 tab8 tab9 tab10 tab11 tab12 tab13 tab14 tab15 tab16 tab17 tab18 tab19 tab21 tab22 tab23 tab24 tab25 tab26 tab27 tab28 tab29 tab30 tab39 tab40 tab41 tab42 tab43 tab47 tab48 tab55 tab56 tab57 tab60 tab61 tab62 tab73 tab74 tab75 tab85 tab92 tab115 tab116 tab143 tab144 tab145 tab154 tab155 tab170 tab175 tab182 tab197 tab198 tab203 tab204 tab205 tab207 tab208 tab209
theorem copyStore_ACR (t : VC) (s : Sto) (hs : SmlS s) : ACR Try.prog 143 [storeT t s] 0 (fun _ => False) (fun f R => f = storeO s ∧ R = itemsRow s) := by
  obtain ⟨hs1, hs2⟩ := hs
  unfold storeT
  refine ACR.of tab_ok mixed_ok Try.func143 (by rfl) (by kernel_rfl) ?_; rintro ⟨P, T, hT, hm, w0, S0, rd0, k0⟩ hP hTT; dsimp only at hP hTT; subst hP hTT; unfold initSt; rw [Try.ntmps143]
  (repeat (first | with_reducible refine AW.seq ?_ | ((first | refine arun_kn 4 rfl (fun C hC => ?_) | refine arunD_kn 4 rfl (fun C hC => ?_)); (repeat ((conv => whnf); simp)); refine hC _ ?_; clear hC C; simp only [List.drop, Nat.reduceAdd]) | ((first | refine arun_kn 1 rfl (fun C hC => ?_) | refine arunD_kn 1 rfl (fun C hC => ?_)); (repeat ((conv => whnf); simp)); refine hC _ ?_; clear hC C; simp only [List.drop, Nat.reduceAdd]) | (refine arun_skip ?_ ?_; (focus (simp [awant]; done))) | (refine AW.regionK [] (fun K hK => ?_)) | (refine AW.regionDK [] (pcs [] []) (by kernel_rfl) (by kernel_rfl) (fun K hK => ?_)) | (refine AW.condT ?_ ?_; (focus (simp [aev]; done))) | (refine AW.condF ?_ ?_; (focus (simp [aev]; done))) | with_reducible refine AW.block ?_ | ((first | ((first | refine arun_nil ?_ | refine arunD_nil ?_); refine hK _ ?_; clear hK K) | refine AW.skip ?_ | refine AW.exit ?_ | refine AW.ret ?_); simp only [thenA_exit, inBlockA_exit, if_true, if_false, Nat.reduceEqDiff, thenA_normal, inBlockA_normal, reduceIte, thenA_ret, inBlockA_ret, endQ_ret, endR_ret, endG_ret, endQ_normal, endR_normal, endG_normal])))
  refine AW.adopt 3 3 116 7 ⟨_, tab116, rfl⟩ rfl (by simp [upd]) ?_
  simp only [ASt.adopt, ASt.add]
  refine AW.loopS (fun (i : Nat) => mkSt (slots 0 40 [(1, .ptr true 2 1 1 0 0), (2, .ptr true 2 1 2 0 0), (3, .own 3 i), (4, .int .i64 i)]) [(1, ⟨true, 62, 2, [[.view t 7 (s.1.map itemL), .int .i64 s.2]]⟩), (2, ⟨true, 62, 2, [[.view .tight 0 [], .int .i64 0]]⟩), (3, ⟨false, 116, 7, (s.1.map itemL).take i⟩)] [1, 2, 3] (rd0.map fun _ => 0)) (fun i => s.1.length - i) (fun i => i ≤ s.1.length) 0 ?_ (Nat.zero_le _) ?_
  · exact less_s
  · intro i hi
    have hl : ((s.1.map itemL).take i).length = i := by rw [List.length_take, List.length_map]; omega
    by_cases hlt : i < s.1.length
    · have hw : IntKind.i64.wrap ((i : Int) + 1) = (i : Int) + 1 := i64_nat (by omega) (by omega)
      have hsx := hs2 s.1[i] (List.getElem_mem hlt)
      have htk : (s.1.map itemL).take (i + 1) = (s.1.map itemL).take i ++ [itemL s.1[i]] := by
        rw [List.take_add_one, List.getElem?_map, List.getElem?_eq_getElem hlt]; rfl
      have hb1 : (i + 1) * 104 ≤ 140737488355328 := by omega
      have hb2 : i + 1 ≤ 140737488355328 := by omega
      (repeat (first | with_reducible refine AW.seq ?_ | ((first | refine arun_kn 4 rfl (fun C hC => ?_) | refine arunD_kn 4 rfl (fun C hC => ?_)); (repeat ((conv => whnf); simp [hlt, hw, hl, hb1, hb2])); refine hC _ ?_; clear hC C; simp only [List.drop, Nat.reduceAdd]) | ((first | refine arun_kn 1 rfl (fun C hC => ?_) | refine arunD_kn 1 rfl (fun C hC => ?_)); (repeat ((conv => whnf); simp [hlt, hw, hl, hb1, hb2])); refine hC _ ?_; clear hC C; simp only [List.drop, Nat.reduceAdd]) | (refine arun_skip ?_ ?_; (focus (simp [awant, hlt, hw, hl, hb1, hb2]; done))) | (refine arun_c0 (copyNode_AC s.1[i].2.2 hsx .loose) ?_; rintro _ rfl) | (refine arunD_c (0) (copyNode_AC s.1[i].2.2 hsx .loose) ?_; rintro _ rfl; intro _) | (refine AW.regionK [] (fun K hK => ?_)) | (refine AW.regionDK [] (pcs [(19, 0, fun r => r = nodeA s.1[i].2.2)] []) (by kernel_rfl) (by kernel_rfl) (fun K hK => ?_)) | (refine AW.condT ?_ ?_; (focus (simp [aev, hlt, hw, hl, hb1, hb2]; done))) | (refine AW.condF ?_ ?_; (focus (simp [aev, hlt, hw, hl, hb1, hb2]; done))) | with_reducible refine AW.block ?_ | ((first | ((first | refine arun_nil ?_ | refine arunD_nil ?_); refine hK _ ?_; clear hK K) | refine AW.skip ?_ | refine AW.exit ?_ | refine AW.ret ?_); simp only [thenA_exit, inBlockA_exit, if_true, if_false, Nat.reduceEqDiff, thenA_normal, inBlockA_normal, reduceIte, thenA_ret, inBlockA_ret, endQ_ret, endR_ret, endG_ret, endQ_normal, endR_normal, endG_normal])))
      refine ⟨i + 1, by omega, by omega, ?_⟩
      have hin : ∀ U : Nat → Bool, ∀ e ∈ (s.1.map itemL).take (i + 1), ∀ c ∈ e, AV.In U c := fun U e he => itemsE_in s.1 e (List.mem_of_mem_take he)
      rw [htk] at hin ⊢
      exact less_s
    · obtain rfl : i = s.1.length := by omega
      have hall : (s.1.map itemL).take s.1.length = s.1.map itemL := by rw [List.take_of_length_le (by rw [List.length_map]; omega)]
      rw [hall]
      (repeat (first | with_reducible refine AW.seq ?_ | ((first | refine arun_kn 4 rfl (fun C hC => ?_) | refine arunD_kn 4 rfl (fun C hC => ?_)); (repeat ((conv => whnf); simp)); refine hC _ ?_; clear hC C; simp only [List.drop, Nat.reduceAdd]) | ((first | refine arun_kn 1 rfl (fun C hC => ?_) | refine arunD_kn 1 rfl (fun C hC => ?_)); (repeat ((conv => whnf); simp)); refine hC _ ?_; clear hC C; simp only [List.drop, Nat.reduceAdd]) | (refine arun_skip ?_ ?_; (focus (simp [awant]; done))) | (refine AW.regionK [] (fun K hK => ?_)) | (refine AW.regionDK [] (pcs [] []) (by kernel_rfl) (by kernel_rfl) (fun K hK => ?_)) | (refine AW.condT ?_ ?_; (focus (simp [aev]; done))) | (refine AW.condF ?_ ?_; (focus (simp [aev]; done))) | with_reducible refine AW.block ?_ | ((first | ((first | refine arun_nil ?_ | refine arunD_nil ?_); refine hK _ ?_; clear hK K) | refine AW.skip ?_ | refine AW.exit ?_ | refine AW.ret ?_); simp only [thenA_exit, inBlockA_exit, if_true, if_false, Nat.reduceEqDiff, thenA_normal, inBlockA_normal, reduceIte, thenA_ret, inBlockA_ret, endQ_ret, endR_ret, endG_ret, endQ_normal, endR_normal, endG_normal])))
      exact ⟨storeO s 3, by simp [ares, aresL, upd, rowsOf_cons], .inr ⟨storeO s, 3, itemsRow s, rfl, by simp [upd, rowsOf_cons, itemsRow], storeO_res s 3, itemsE_pur _, rfl, rfl⟩⟩
theorem copyStore_AC (t : VC) (s : Sto) (hs : SmlS s) : AC Try.prog 143 [storeT t s] 0 (fun r => r = storeA s) :=
  (AC.ofS (p := fun s' => s' = s) ((copyStore_ACR t s hs).mono (fun _ h => h) (fun r o ⟨h1, h2⟩ => ⟨s, rfl, h1, h2⟩))).mono (fun r ⟨s', h, e⟩ => by rw [e, h])
def findF (nm : ByteArray) : List Itm → Nat → Int
  | [], _ => -1
  | x :: l, k => if eqs x.1 nm then k else findF nm l (k + 1)
def findI (s : Sto) (nm : ByteArray) : Int := findF nm s.1 0
theorem find_AC (t : VC) (s : Sto) (nm : ByteArray) (hs : s.1.length ≤ 1000000) : AC Try.prog 114 [storeT t s, .str nm] 0 (fun r => r = .int .i64 (findI s nm)) := by
  unfold storeT
  refine AC.of tab_ok mixed_ok Try.func114 (by rfl) (by kernel_rfl) ?_; rintro ⟨P, T, hT, hm, w0, S0, rd0, k0⟩ hP hTT; dsimp only at hP hTT; subst hP hTT; unfold initSt; rw [Try.ntmps114]
  (repeat (first | with_reducible refine AW.seq ?_ | ((first | refine arun_kn 4 rfl (fun C hC => ?_) | refine arunD_kn 4 rfl (fun C hC => ?_)); (repeat ((conv => whnf); simp)); refine hC _ ?_; clear hC C; simp only [List.drop, Nat.reduceAdd]) | ((first | refine arun_kn 1 rfl (fun C hC => ?_) | refine arunD_kn 1 rfl (fun C hC => ?_)); (repeat ((conv => whnf); simp)); refine hC _ ?_; clear hC C; simp only [List.drop, Nat.reduceAdd]) | (refine arun_skip ?_ ?_; (focus (simp [awant]; done))) | (refine AW.regionK [] (fun K hK => ?_)) | (refine AW.regionDK [] (pcs [] []) (by kernel_rfl) (by kernel_rfl) (fun K hK => ?_)) | (refine AW.condT ?_ ?_; (focus (simp [aev]; done))) | (refine AW.condF ?_ ?_; (focus (simp [aev]; done))) | with_reducible refine AW.block ?_ | ((first | ((first | refine arun_nil ?_ | refine arunD_nil ?_); refine hK _ ?_; clear hK K) | refine AW.skip ?_ | refine AW.exit ?_ | refine AW.ret ?_); simp only [thenA_exit, inBlockA_exit, if_true, if_false, Nat.reduceEqDiff, thenA_normal, inBlockA_normal, reduceIte, thenA_ret, inBlockA_ret, endQ_ret, endR_ret, endG_ret, endQ_normal, endR_normal, endG_normal])))
  refine AW.loopS (fun (i : Nat) => mkSt (slots 0 22 [(1, .str nm), (2, .ptr true 2 1 2 0 0), (5, .int .i64 i)]) [(2, ⟨true, 62, 2, [[.view t 7 (s.1.map itemL), .int .i64 s.2]]⟩)] [2] (rd0.map fun _ => 0)) (fun i => s.1.length - i) (fun i => i ≤ s.1.length ∧ findI s nm = findF nm (s.1.drop i) i) 0 ?_ ⟨Nat.zero_le _, rfl⟩ ?_
  · exact less_s
  · rintro i ⟨hi, hf⟩
    by_cases hlt : i < s.1.length
    · have hw : IntKind.i64.wrap ((i : Int) + 1) = (i : Int) + 1 := i64_nat (by omega) (by omega)
      have hd : s.1.drop i = s.1[i] :: s.1.drop (i + 1) := List.drop_eq_getElem_cons hlt
      rw [hd, findF] at hf
      cases hb : eqs s.1[i].1 nm
      · rw [hb] at hf
        (repeat (first | with_reducible refine AW.seq ?_ | ((first | refine arun_kn 4 rfl (fun C hC => ?_) | refine arunD_kn 4 rfl (fun C hC => ?_)); (repeat ((conv => whnf); simp [hlt, hw, hb])); refine hC _ ?_; clear hC C; simp only [List.drop, Nat.reduceAdd]) | ((first | refine arun_kn 1 rfl (fun C hC => ?_) | refine arunD_kn 1 rfl (fun C hC => ?_)); (repeat ((conv => whnf); simp [hlt, hw, hb])); refine hC _ ?_; clear hC C; simp only [List.drop, Nat.reduceAdd]) | (refine arun_skip ?_ ?_; (focus (simp [awant, hlt, hw, hb]; done))) | (refine AW.regionK [] (fun K hK => ?_)) | (refine AW.regionDK [] (pcs [] []) (by kernel_rfl) (by kernel_rfl) (fun K hK => ?_)) | (refine AW.condT ?_ ?_; (focus (simp [aev, hlt, hw, hb]; done))) | (refine AW.condF ?_ ?_; (focus (simp [aev, hlt, hw, hb]; done))) | with_reducible refine AW.block ?_ | ((first | ((first | refine arun_nil ?_ | refine arunD_nil ?_); refine hK _ ?_; clear hK K) | refine AW.skip ?_ | refine AW.exit ?_ | refine AW.ret ?_); simp only [thenA_exit, inBlockA_exit, if_true, if_false, Nat.reduceEqDiff, thenA_normal, inBlockA_normal, reduceIte, thenA_ret, inBlockA_ret, endQ_ret, endR_ret, endG_ret, endQ_normal, endR_normal, endG_normal])))
        exact ⟨i + 1, by omega, ⟨by omega, hf⟩, less_s⟩
      · rw [hb] at hf
        (repeat (first | with_reducible refine AW.seq ?_ | ((first | refine arun_kn 4 rfl (fun C hC => ?_) | refine arunD_kn 4 rfl (fun C hC => ?_)); (repeat ((conv => whnf); simp [hlt, hw, hb])); refine hC _ ?_; clear hC C; simp only [List.drop, Nat.reduceAdd]) | ((first | refine arun_kn 1 rfl (fun C hC => ?_) | refine arunD_kn 1 rfl (fun C hC => ?_)); (repeat ((conv => whnf); simp [hlt, hw, hb])); refine hC _ ?_; clear hC C; simp only [List.drop, Nat.reduceAdd]) | (refine arun_skip ?_ ?_; (focus (simp [awant, hlt, hw, hb]; done))) | (refine AW.regionK [] (fun K hK => ?_)) | (refine AW.regionDK [] (pcs [] []) (by kernel_rfl) (by kernel_rfl) (fun K hK => ?_)) | (refine AW.condT ?_ ?_; (focus (simp [aev, hlt, hw, hb]; done))) | (refine AW.condF ?_ ?_; (focus (simp [aev, hlt, hw, hb]; done))) | with_reducible refine AW.block ?_ | ((first | ((first | refine arun_nil ?_ | refine arunD_nil ?_); refine hK _ ?_; clear hK K) | refine AW.skip ?_ | refine AW.exit ?_ | refine AW.ret ?_); simp only [thenA_exit, inBlockA_exit, if_true, if_false, Nat.reduceEqDiff, thenA_normal, inBlockA_normal, reduceIte, thenA_ret, inBlockA_ret, endQ_ret, endR_ret, endG_ret, endQ_normal, endR_normal, endG_normal])))
        refine ⟨.int .i64 i, by simp [ares, aresL], pur_int, by rw [hf]; rfl⟩
    · have hi' : s.1.drop i = [] := List.drop_eq_nil_of_le (by omega)
      rw [hi', findF] at hf
      (repeat (first | with_reducible refine AW.seq ?_ | ((first | refine arun_kn 4 rfl (fun C hC => ?_) | refine arunD_kn 4 rfl (fun C hC => ?_)); (repeat ((conv => whnf); simp [hlt])); refine hC _ ?_; clear hC C; simp only [List.drop, Nat.reduceAdd]) | ((first | refine arun_kn 1 rfl (fun C hC => ?_) | refine arunD_kn 1 rfl (fun C hC => ?_)); (repeat ((conv => whnf); simp [hlt])); refine hC _ ?_; clear hC C; simp only [List.drop, Nat.reduceAdd]) | (refine arun_skip ?_ ?_; (focus (simp [awant, hlt]; done))) | (refine AW.regionK [] (fun K hK => ?_)) | (refine AW.regionDK [] (pcs [] []) (by kernel_rfl) (by kernel_rfl) (fun K hK => ?_)) | (refine AW.condT ?_ ?_; (focus (simp [aev, hlt]; done))) | (refine AW.condF ?_ ?_; (focus (simp [aev, hlt]; done))) | with_reducible refine AW.block ?_ | ((first | ((first | refine arun_nil ?_ | refine arunD_nil ?_); refine hK _ ?_; clear hK K) | refine AW.skip ?_ | refine AW.exit ?_ | refine AW.ret ?_); simp only [thenA_exit, inBlockA_exit, if_true, if_false, Nat.reduceEqDiff, thenA_normal, inBlockA_normal, reduceIte, thenA_ret, inBlockA_ret, endQ_ret, endR_ret, endG_ret, endQ_normal, endR_normal, endG_normal])))
      exact ⟨.int .i64 (-1), by simp [ares, aresL], pur_int, by rw [hf]⟩
end Go.Proofs.Ytgfnmhfdmmnaoaa.Eng
-- EV: store
namespace Go.Proofs.Ytgfnmhfdmmnaoaa.Eng
open Go Go.RowKit
attribute [local simp] big size_mk ASt.pay Option.map_map Function.comp_def awant aop acall ado aev ofVal ofVal0 ASt.put ASt.add ASt.turn ASt.kill abox aalloc astore aload aloadD astoreD idOf ASt.at cellsTo afieldAddr afield aindexAddr aindex alen abin aint acmp astr aun apick aextract anil aslice abound abuild afill abuildSlice asCells aps avCells over upd aappend asrc amax amin aconv mkSt slots rowsOf_cons rowsOf_nil usedOf_cons usedOf_nil ZK.av List.replicate ASt.back ASt.addL ASt.killL nodeA nodeT nodeTL_eq nodeL_eq strsE_get strsE_len intsE_get intsE_len strsE_at intsE_at itemA itemL_eq storeA storeT storeO itemsRow tab2 tab3 tab4 tab5 tab6 tab7 tab8 tab9 tab10 tab11 tab12 tab13 tab14 tab15 tab16 tab17 tab18 tab19 tab21 tab22 tab23 tab24 tab25 tab26 tab27 tab28 tab29 tab30 tab39 tab40 tab41 tab42 tab43 tab47 tab48 tab55 tab56 tab57 tab60 tab61 tab62 tab73 tab74 tab75 tab85 tab92 tab115 tab116 tab143 tab144 tab145 tab154 tab155 tab170 tab175 tab182 tab197 tab198 tab203 tab204 tab205 tab207 tab208 tab209
def putL (nm : ByteArray) (nx : Itm) : Bool → List Itm → List Itm
  | d, [] => if d then [] else [nx]
  | d, x :: l => (if !d && !(lts x.1 nm) then [nx] else []) ++ (if eqs x.1 nm then [] else [x]) ++ putL nm nx (d || !(lts x.1 nm)) l
def putS (s : Sto) (nm : ByteArray) (n : Nd) : Sto := (putL nm (nm, s.2 + 1, n) false s.1, s.2 + 1)
theorem putL_len (nm : ByteArray) (nx : Itm) : ∀ (d : Bool) (l : List Itm), (putL nm nx d l).length ≤ l.length + (if d then 0 else 1)
  | d, [] => by unfold putL; cases d <;> simp
  | d, x :: l => by
    unfold putL
    have := putL_len nm nx (d || !(lts x.1 nm)) l
    simp only [List.length_append, List.length_cons]
    cases h : (d || !(lts x.1 nm)) <;> rw [h] at this <;> generalize (putL nm nx _ l).length = k at *
    all_goals revert h
    all_goals
      cases d <;> cases lts x.1 nm <;> cases eqs x.1 nm <;> simp at this ⊢ <;> omega
theorem put_ACR (t t' : VC) (s : Sto) (nm : ByteArray) (n : Nd) (hs : SmlS s) (hn : Sml n) (hc : 0 ≤ s.2 ∧ s.2 ≤ 1000000) : ACR Try.prog 83 [storeT t s, .str nm, nodeT t' n] 0 (fun _ => False) (fun f R => f = storeO (putS s nm n) ∧ R = itemsRow (putS s nm n)) := by
  obtain ⟨hs1, hs2⟩ := id hs
  have hw0 : IntKind.i64.wrap (s.2 + 1) = s.2 + 1 := i64_nat (by omega) (by omega)
  unfold storeT
  refine ACR.of tab_ok mixed_ok Try.func83 (by rfl) (by kernel_rfl) ?_; rintro ⟨P, T, hT, hm, w0, S0, rd0, k0⟩ hP hTT; dsimp only at hP hTT; subst hP hTT; unfold initSt; rw [Try.ntmps83]
  (repeat (first | with_reducible refine AW.seq ?_ | ((first | refine arun_kn 4 rfl (fun C hC => ?_) | refine arunD_kn 4 rfl (fun C hC => ?_)); (repeat ((conv => whnf); simp [hw0])); refine hC _ ?_; clear hC C; simp only [List.drop, Nat.reduceAdd]) | ((first | refine arun_kn 1 rfl (fun C hC => ?_) | refine arunD_kn 1 rfl (fun C hC => ?_)); (repeat ((conv => whnf); simp [hw0])); refine hC _ ?_; clear hC C; simp only [List.drop, Nat.reduceAdd]) | (refine arun_skip ?_ ?_; (focus (simp [awant, hw0]; done))) | (refine arun_c0 (copyNode_AC n hn t') ?_; rintro _ rfl) | (refine arun_c0 (copyStore_AC t s hs) ?_; rintro _ rfl) | (refine arunD_c (0) (copyNode_AC n hn t') ?_; rintro _ rfl; intro _) | (refine arunD_c (0) (copyStore_AC t s hs) ?_; rintro _ rfl; intro _) | (refine AW.regionK [] (fun K hK => ?_)) | (refine AW.regionDK [] (pcs [(5, 0, fun r => r = nodeA n)] []) (by kernel_rfl) (by kernel_rfl) (fun K hK => ?_)) | (refine AW.condT ?_ ?_; (focus (simp [aev, hw0]; done))) | (refine AW.condF ?_ ?_; (focus (simp [aev, hw0]; done))) | with_reducible refine AW.block ?_ | ((first | ((first | refine arun_nil ?_ | refine arunD_nil ?_); refine hK _ ?_; clear hK K) | refine AW.skip ?_ | refine AW.exit ?_ | refine AW.ret ?_); simp only [thenA_exit, inBlockA_exit, if_true, if_false, Nat.reduceEqDiff, thenA_normal, inBlockA_normal, reduceIte, thenA_ret, inBlockA_ret, endQ_ret, endR_ret, endG_ret, endQ_normal, endR_normal, endG_normal])))
  refine AW.adopt 7 7 116 7 ⟨_, tab116, rfl⟩ rfl (by simp [upd]) ?_
  simp only [ASt.adopt, ASt.add]
  generalize hnx : (nm, s.2 + 1, n) = nx
  have hnx' : itemL nx = .str nm :: .int .i64 (s.2 + 1) :: nodeL n := by subst hnx; rfl
  rw [nodeL_eq] at hnx'
  have hsx : nx.1 = nm := by subst hnx; rfl
  refine AW.loopS (fun (x : Nat × List Itm × Bool) => mkSt (slots 0 69 [(1, .str nm), (3, .ptr true 2 1 3 0 0), (6, .ptr true 2 1 6 0 0), (7, .own 7 x.2.1.length), (8, .ptr true 7 1 8 0 0), (9, .view .loose 7 (s.1.map itemL)), (10, .bool x.2.2), (11, .int .i64 x.1)]) [(3, ⟨true, 62, 2, [[.view t 7 (s.1.map itemL), .int .i64 s.2]]⟩), (6, ⟨true, 62, 2, [[.view .tight 0 [], .int .i64 0]]⟩), (8, ⟨true, 116, 7, [itemL nx]⟩), (7, ⟨false, 116, 7, x.2.1.map itemL⟩)] [3, 6, 7, 8] (rd0.map fun _ => 0)) (fun x => s.1.length - x.1) (fun x => x.1 ≤ s.1.length ∧ putL nm nx false s.1 = x.2.1 ++ putL nm nx x.2.2 (s.1.drop x.1) ∧ x.2.1.length ≤ 1001) (0, [], false) ?_ ⟨Nat.zero_le _, rfl, by simp⟩ ?_
  · dsimp only [List.map_nil, List.length_nil]
    rw [hnx']
    exact less_s
  · rintro ⟨i, acc, d⟩ ⟨hi, hf, ha⟩
    dsimp only at hi hf ha ⊢
    have hl : (acc.map itemL).length = acc.length := List.length_map _
    have hb1 : (acc.length + 1) * 104 ≤ 140737488355328 := by omega
    have hb2 : acc.length + 1 ≤ 140737488355328 := by omega
    have hb3 : (acc.length + 2) * 104 ≤ 140737488355328 := by clear hb1 hb2; omega
    have hb4 : acc.length + 2 ≤ 140737488355328 := by clear hb1 hb2 hb3; omega
    have hpl := putL_len nm nx false s.1
    rw [hf, List.length_append] at hpl
    by_cases hlt : i < s.1.length
    · have hw : IntKind.i64.wrap ((i : Int) + 1) = (i : Int) + 1 := i64_nat (by omega) (by omega)
      have hd : s.1.drop i = s.1[i] :: s.1.drop (i + 1) := List.drop_eq_getElem_cons hlt
      rw [hd, putL] at hf hpl
      rw [hnx']
      cases d <;> cases h1 : lts s.1[i].1 nm <;> cases h2 : eqs s.1[i].1 nm <;> rw [h1, h2] at hf hpl
      all_goals
        simp only [Bool.not_false, Bool.not_true, Bool.false_and, Bool.and_true, Bool.and_self, Bool.true_and, Bool.and_false, Bool.or_false, Bool.or_true, Bool.true_or, Bool.or_self, Bool.false_or, if_true, if_false, Bool.false_eq_true, List.nil_append, List.append_nil, reduceIte] at hf hpl
      · (repeat (first | with_reducible refine AW.seq ?_ | ((first | refine arun_kn 4 rfl (fun C hC => ?_) | refine arunD_kn 4 rfl (fun C hC => ?_)); (repeat ((conv => whnf); simp [hlt, hw, hw0, h1, h2, hl, hb1, hb2, hb3, hb4, List.length_append])); refine hC _ ?_; clear hC C; simp only [List.drop, Nat.reduceAdd]) | ((first | refine arun_kn 1 rfl (fun C hC => ?_) | refine arunD_kn 1 rfl (fun C hC => ?_)); (repeat ((conv => whnf); simp [hlt, hw, hw0, h1, h2, hl, hb1, hb2, hb3, hb4, List.length_append])); refine hC _ ?_; clear hC C; simp only [List.drop, Nat.reduceAdd]) | (refine arun_skip ?_ ?_; (focus (simp [awant, hlt, hw, hw0, h1, h2, hl, hb1, hb2, hb3, hb4, List.length_append]; done))) | (refine AW.regionK [] (fun K hK => ?_)) | (refine AW.regionDK [] (pcs [] []) (by kernel_rfl) (by kernel_rfl) (fun K hK => ?_)) | (refine AW.condT ?_ ?_; (focus (simp [aev, hlt, hw, hw0, h1, h2, hl, hb1, hb2, hb3, hb4, List.length_append]; done))) | (refine AW.condF ?_ ?_; (focus (simp [aev, hlt, hw, hw0, h1, h2, hl, hb1, hb2, hb3, hb4, List.length_append]; done))) | with_reducible refine AW.block ?_ | ((first | ((first | refine arun_nil ?_ | refine arunD_nil ?_); refine hK _ ?_; clear hK K) | refine AW.skip ?_ | refine AW.exit ?_ | refine AW.ret ?_); simp only [thenA_exit, inBlockA_exit, if_true, if_false, Nat.reduceEqDiff, thenA_normal, inBlockA_normal, reduceIte, thenA_ret, inBlockA_ret, endQ_ret, endR_ret, endG_ret, endQ_normal, endR_normal, endG_normal])))
        refine ⟨(i + 1, acc ++ [nx, s.1[i]], true), by dsimp only; omega, ⟨by dsimp only; omega, by rw [hf] <;> simp, by simp only [List.length_append, List.length_cons, List.length_nil] at hpl ⊢; omega⟩, ?_⟩
        simp only [List.map_append, List.map_cons, List.map_nil, List.length_append, List.length_cons, List.length_nil]
        rw [itemL_eq nx] at hnx'
        subst hnx
        exact less_s
      · (repeat (first | with_reducible refine AW.seq ?_ | ((first | refine arun_kn 4 rfl (fun C hC => ?_) | refine arunD_kn 4 rfl (fun C hC => ?_)); (repeat ((conv => whnf); simp [hlt, hw, hw0, h1, h2, hl, hb1, hb2, hb3, hb4, List.length_append])); refine hC _ ?_; clear hC C; simp only [List.drop, Nat.reduceAdd]) | ((first | refine arun_kn 1 rfl (fun C hC => ?_) | refine arunD_kn 1 rfl (fun C hC => ?_)); (repeat ((conv => whnf); simp [hlt, hw, hw0, h1, h2, hl, hb1, hb2, hb3, hb4, List.length_append])); refine hC _ ?_; clear hC C; simp only [List.drop, Nat.reduceAdd]) | (refine arun_skip ?_ ?_; (focus (simp [awant, hlt, hw, hw0, h1, h2, hl, hb1, hb2, hb3, hb4, List.length_append]; done))) | (refine AW.regionK [] (fun K hK => ?_)) | (refine AW.regionDK [] (pcs [] []) (by kernel_rfl) (by kernel_rfl) (fun K hK => ?_)) | (refine AW.condT ?_ ?_; (focus (simp [aev, hlt, hw, hw0, h1, h2, hl, hb1, hb2, hb3, hb4, List.length_append]; done))) | (refine AW.condF ?_ ?_; (focus (simp [aev, hlt, hw, hw0, h1, h2, hl, hb1, hb2, hb3, hb4, List.length_append]; done))) | with_reducible refine AW.block ?_ | ((first | ((first | refine arun_nil ?_ | refine arunD_nil ?_); refine hK _ ?_; clear hK K) | refine AW.skip ?_ | refine AW.exit ?_ | refine AW.ret ?_); simp only [thenA_exit, inBlockA_exit, if_true, if_false, Nat.reduceEqDiff, thenA_normal, inBlockA_normal, reduceIte, thenA_ret, inBlockA_ret, endQ_ret, endR_ret, endG_ret, endQ_normal, endR_normal, endG_normal])))
        refine ⟨(i + 1, acc ++ [nx], true), by dsimp only; omega, ⟨by dsimp only; omega, by rw [hf] <;> simp, by simp only [List.length_append, List.length_cons, List.length_nil] at hpl ⊢; omega⟩, ?_⟩
        simp only [List.map_append, List.map_cons, List.map_nil, List.length_append, List.length_cons, List.length_nil]
        rw [itemL_eq nx] at hnx'
        subst hnx
        exact less_s
      · (repeat (first | with_reducible refine AW.seq ?_ | ((first | refine arun_kn 4 rfl (fun C hC => ?_) | refine arunD_kn 4 rfl (fun C hC => ?_)); (repeat ((conv => whnf); simp [hlt, hw, hw0, h1, h2, hl, hb1, hb2, hb3, hb4, List.length_append])); refine hC _ ?_; clear hC C; simp only [List.drop, Nat.reduceAdd]) | ((first | refine arun_kn 1 rfl (fun C hC => ?_) | refine arunD_kn 1 rfl (fun C hC => ?_)); (repeat ((conv => whnf); simp [hlt, hw, hw0, h1, h2, hl, hb1, hb2, hb3, hb4, List.length_append])); refine hC _ ?_; clear hC C; simp only [List.drop, Nat.reduceAdd]) | (refine arun_skip ?_ ?_; (focus (simp [awant, hlt, hw, hw0, h1, h2, hl, hb1, hb2, hb3, hb4, List.length_append]; done))) | (refine AW.regionK [] (fun K hK => ?_)) | (refine AW.regionDK [] (pcs [] []) (by kernel_rfl) (by kernel_rfl) (fun K hK => ?_)) | (refine AW.condT ?_ ?_; (focus (simp [aev, hlt, hw, hw0, h1, h2, hl, hb1, hb2, hb3, hb4, List.length_append]; done))) | (refine AW.condF ?_ ?_; (focus (simp [aev, hlt, hw, hw0, h1, h2, hl, hb1, hb2, hb3, hb4, List.length_append]; done))) | with_reducible refine AW.block ?_ | ((first | ((first | refine arun_nil ?_ | refine arunD_nil ?_); refine hK _ ?_; clear hK K) | refine AW.skip ?_ | refine AW.exit ?_ | refine AW.ret ?_); simp only [thenA_exit, inBlockA_exit, if_true, if_false, Nat.reduceEqDiff, thenA_normal, inBlockA_normal, reduceIte, thenA_ret, inBlockA_ret, endQ_ret, endR_ret, endG_ret, endQ_normal, endR_normal, endG_normal])))
        refine ⟨(i + 1, acc ++ [s.1[i]], false), by dsimp only; omega, ⟨by dsimp only; omega, by rw [hf] <;> simp, by simp only [List.length_append, List.length_cons, List.length_nil] at hpl ⊢; omega⟩, ?_⟩
        simp only [List.map_append, List.map_cons, List.map_nil, List.length_append, List.length_cons, List.length_nil]
        rw [itemL_eq nx] at hnx'
        subst hnx
        exact less_s
      · (repeat (first | with_reducible refine AW.seq ?_ | ((first | refine arun_kn 4 rfl (fun C hC => ?_) | refine arunD_kn 4 rfl (fun C hC => ?_)); (repeat ((conv => whnf); simp [hlt, hw, hw0, h1, h2, hl, hb1, hb2, hb3, hb4, List.length_append])); refine hC _ ?_; clear hC C; simp only [List.drop, Nat.reduceAdd]) | ((first | refine arun_kn 1 rfl (fun C hC => ?_) | refine arunD_kn 1 rfl (fun C hC => ?_)); (repeat ((conv => whnf); simp [hlt, hw, hw0, h1, h2, hl, hb1, hb2, hb3, hb4, List.length_append])); refine hC _ ?_; clear hC C; simp only [List.drop, Nat.reduceAdd]) | (refine arun_skip ?_ ?_; (focus (simp [awant, hlt, hw, hw0, h1, h2, hl, hb1, hb2, hb3, hb4, List.length_append]; done))) | (refine AW.regionK [] (fun K hK => ?_)) | (refine AW.regionDK [] (pcs [] []) (by kernel_rfl) (by kernel_rfl) (fun K hK => ?_)) | (refine AW.condT ?_ ?_; (focus (simp [aev, hlt, hw, hw0, h1, h2, hl, hb1, hb2, hb3, hb4, List.length_append]; done))) | (refine AW.condF ?_ ?_; (focus (simp [aev, hlt, hw, hw0, h1, h2, hl, hb1, hb2, hb3, hb4, List.length_append]; done))) | with_reducible refine AW.block ?_ | ((first | ((first | refine arun_nil ?_ | refine arunD_nil ?_); refine hK _ ?_; clear hK K) | refine AW.skip ?_ | refine AW.exit ?_ | refine AW.ret ?_); simp only [thenA_exit, inBlockA_exit, if_true, if_false, Nat.reduceEqDiff, thenA_normal, inBlockA_normal, reduceIte, thenA_ret, inBlockA_ret, endQ_ret, endR_ret, endG_ret, endQ_normal, endR_normal, endG_normal])))
        refine ⟨(i + 1, acc, false), by dsimp only; omega, ⟨by dsimp only; omega, by rw [hf] <;> simp, by simp only [List.length_append, List.length_cons, List.length_nil] at hpl ⊢; omega⟩, ?_⟩
        simp only [List.map_append, List.map_cons, List.map_nil, List.length_append, List.length_cons, List.length_nil]
        rw [itemL_eq nx] at hnx'
        subst hnx
        exact less_s
      · (repeat (first | with_reducible refine AW.seq ?_ | ((first | refine arun_kn 4 rfl (fun C hC => ?_) | refine arunD_kn 4 rfl (fun C hC => ?_)); (repeat ((conv => whnf); simp [hlt, hw, hw0, h1, h2, hl, hb1, hb2, hb3, hb4, List.length_append])); refine hC _ ?_; clear hC C; simp only [List.drop, Nat.reduceAdd]) | ((first | refine arun_kn 1 rfl (fun C hC => ?_) | refine arunD_kn 1 rfl (fun C hC => ?_)); (repeat ((conv => whnf); simp [hlt, hw, hw0, h1, h2, hl, hb1, hb2, hb3, hb4, List.length_append])); refine hC _ ?_; clear hC C; simp only [List.drop, Nat.reduceAdd]) | (refine arun_skip ?_ ?_; (focus (simp [awant, hlt, hw, hw0, h1, h2, hl, hb1, hb2, hb3, hb4, List.length_append]; done))) | (refine AW.regionK [] (fun K hK => ?_)) | (refine AW.regionDK [] (pcs [] []) (by kernel_rfl) (by kernel_rfl) (fun K hK => ?_)) | (refine AW.condT ?_ ?_; (focus (simp [aev, hlt, hw, hw0, h1, h2, hl, hb1, hb2, hb3, hb4, List.length_append]; done))) | (refine AW.condF ?_ ?_; (focus (simp [aev, hlt, hw, hw0, h1, h2, hl, hb1, hb2, hb3, hb4, List.length_append]; done))) | with_reducible refine AW.block ?_ | ((first | ((first | refine arun_nil ?_ | refine arunD_nil ?_); refine hK _ ?_; clear hK K) | refine AW.skip ?_ | refine AW.exit ?_ | refine AW.ret ?_); simp only [thenA_exit, inBlockA_exit, if_true, if_false, Nat.reduceEqDiff, thenA_normal, inBlockA_normal, reduceIte, thenA_ret, inBlockA_ret, endQ_ret, endR_ret, endG_ret, endQ_normal, endR_normal, endG_normal])))
        refine ⟨(i + 1, acc ++ [s.1[i]], true), by dsimp only; omega, ⟨by dsimp only; omega, by rw [hf] <;> simp, by simp only [List.length_append, List.length_cons, List.length_nil] at hpl ⊢; omega⟩, ?_⟩
        simp only [List.map_append, List.map_cons, List.map_nil, List.length_append, List.length_cons, List.length_nil]
        rw [itemL_eq nx] at hnx'
        subst hnx
        exact less_s
      · (repeat (first | with_reducible refine AW.seq ?_ | ((first | refine arun_kn 4 rfl (fun C hC => ?_) | refine arunD_kn 4 rfl (fun C hC => ?_)); (repeat ((conv => whnf); simp [hlt, hw, hw0, h1, h2, hl, hb1, hb2, hb3, hb4, List.length_append])); refine hC _ ?_; clear hC C; simp only [List.drop, Nat.reduceAdd]) | ((first | refine arun_kn 1 rfl (fun C hC => ?_) | refine arunD_kn 1 rfl (fun C hC => ?_)); (repeat ((conv => whnf); simp [hlt, hw, hw0, h1, h2, hl, hb1, hb2, hb3, hb4, List.length_append])); refine hC _ ?_; clear hC C; simp only [List.drop, Nat.reduceAdd]) | (refine arun_skip ?_ ?_; (focus (simp [awant, hlt, hw, hw0, h1, h2, hl, hb1, hb2, hb3, hb4, List.length_append]; done))) | (refine AW.regionK [] (fun K hK => ?_)) | (refine AW.regionDK [] (pcs [] []) (by kernel_rfl) (by kernel_rfl) (fun K hK => ?_)) | (refine AW.condT ?_ ?_; (focus (simp [aev, hlt, hw, hw0, h1, h2, hl, hb1, hb2, hb3, hb4, List.length_append]; done))) | (refine AW.condF ?_ ?_; (focus (simp [aev, hlt, hw, hw0, h1, h2, hl, hb1, hb2, hb3, hb4, List.length_append]; done))) | with_reducible refine AW.block ?_ | ((first | ((first | refine arun_nil ?_ | refine arunD_nil ?_); refine hK _ ?_; clear hK K) | refine AW.skip ?_ | refine AW.exit ?_ | refine AW.ret ?_); simp only [thenA_exit, inBlockA_exit, if_true, if_false, Nat.reduceEqDiff, thenA_normal, inBlockA_normal, reduceIte, thenA_ret, inBlockA_ret, endQ_ret, endR_ret, endG_ret, endQ_normal, endR_normal, endG_normal])))
        refine ⟨(i + 1, acc, true), by dsimp only; omega, ⟨by dsimp only; omega, by rw [hf] <;> simp, by simp only [List.length_append, List.length_cons, List.length_nil] at hpl ⊢; omega⟩, ?_⟩
        simp only [List.map_append, List.map_cons, List.map_nil, List.length_append, List.length_cons, List.length_nil]
        rw [itemL_eq nx] at hnx'
        subst hnx
        exact less_s
      · (repeat (first | with_reducible refine AW.seq ?_ | ((first | refine arun_kn 4 rfl (fun C hC => ?_) | refine arunD_kn 4 rfl (fun C hC => ?_)); (repeat ((conv => whnf); simp [hlt, hw, hw0, h1, h2, hl, hb1, hb2, hb3, hb4, List.length_append])); refine hC _ ?_; clear hC C; simp only [List.drop, Nat.reduceAdd]) | ((first | refine arun_kn 1 rfl (fun C hC => ?_) | refine arunD_kn 1 rfl (fun C hC => ?_)); (repeat ((conv => whnf); simp [hlt, hw, hw0, h1, h2, hl, hb1, hb2, hb3, hb4, List.length_append])); refine hC _ ?_; clear hC C; simp only [List.drop, Nat.reduceAdd]) | (refine arun_skip ?_ ?_; (focus (simp [awant, hlt, hw, hw0, h1, h2, hl, hb1, hb2, hb3, hb4, List.length_append]; done))) | (refine AW.regionK [] (fun K hK => ?_)) | (refine AW.regionDK [] (pcs [] []) (by kernel_rfl) (by kernel_rfl) (fun K hK => ?_)) | (refine AW.condT ?_ ?_; (focus (simp [aev, hlt, hw, hw0, h1, h2, hl, hb1, hb2, hb3, hb4, List.length_append]; done))) | (refine AW.condF ?_ ?_; (focus (simp [aev, hlt, hw, hw0, h1, h2, hl, hb1, hb2, hb3, hb4, List.length_append]; done))) | with_reducible refine AW.block ?_ | ((first | ((first | refine arun_nil ?_ | refine arunD_nil ?_); refine hK _ ?_; clear hK K) | refine AW.skip ?_ | refine AW.exit ?_ | refine AW.ret ?_); simp only [thenA_exit, inBlockA_exit, if_true, if_false, Nat.reduceEqDiff, thenA_normal, inBlockA_normal, reduceIte, thenA_ret, inBlockA_ret, endQ_ret, endR_ret, endG_ret, endQ_normal, endR_normal, endG_normal])))
        refine ⟨(i + 1, acc ++ [s.1[i]], true), by dsimp only; omega, ⟨by dsimp only; omega, by rw [hf] <;> simp, by simp only [List.length_append, List.length_cons, List.length_nil] at hpl ⊢; omega⟩, ?_⟩
        simp only [List.map_append, List.map_cons, List.map_nil, List.length_append, List.length_cons, List.length_nil]
        rw [itemL_eq nx] at hnx'
        subst hnx
        exact less_s
      · (repeat (first | with_reducible refine AW.seq ?_ | ((first | refine arun_kn 4 rfl (fun C hC => ?_) | refine arunD_kn 4 rfl (fun C hC => ?_)); (repeat ((conv => whnf); simp [hlt, hw, hw0, h1, h2, hl, hb1, hb2, hb3, hb4, List.length_append])); refine hC _ ?_; clear hC C; simp only [List.drop, Nat.reduceAdd]) | ((first | refine arun_kn 1 rfl (fun C hC => ?_) | refine arunD_kn 1 rfl (fun C hC => ?_)); (repeat ((conv => whnf); simp [hlt, hw, hw0, h1, h2, hl, hb1, hb2, hb3, hb4, List.length_append])); refine hC _ ?_; clear hC C; simp only [List.drop, Nat.reduceAdd]) | (refine arun_skip ?_ ?_; (focus (simp [awant, hlt, hw, hw0, h1, h2, hl, hb1, hb2, hb3, hb4, List.length_append]; done))) | (refine AW.regionK [] (fun K hK => ?_)) | (refine AW.regionDK [] (pcs [] []) (by kernel_rfl) (by kernel_rfl) (fun K hK => ?_)) | (refine AW.condT ?_ ?_; (focus (simp [aev, hlt, hw, hw0, h1, h2, hl, hb1, hb2, hb3, hb4, List.length_append]; done))) | (refine AW.condF ?_ ?_; (focus (simp [aev, hlt, hw, hw0, h1, h2, hl, hb1, hb2, hb3, hb4, List.length_append]; done))) | with_reducible refine AW.block ?_ | ((first | ((first | refine arun_nil ?_ | refine arunD_nil ?_); refine hK _ ?_; clear hK K) | refine AW.skip ?_ | refine AW.exit ?_ | refine AW.ret ?_); simp only [thenA_exit, inBlockA_exit, if_true, if_false, Nat.reduceEqDiff, thenA_normal, inBlockA_normal, reduceIte, thenA_ret, inBlockA_ret, endQ_ret, endR_ret, endG_ret, endQ_normal, endR_normal, endG_normal])))
        refine ⟨(i + 1, acc, true), by dsimp only; omega, ⟨by dsimp only; omega, by rw [hf] <;> simp, by simp only [List.length_append, List.length_cons, List.length_nil] at hpl ⊢; omega⟩, ?_⟩
        simp only [List.map_append, List.map_cons, List.map_nil, List.length_append, List.length_cons, List.length_nil]
        rw [itemL_eq nx] at hnx'
        subst hnx
        exact less_s
    · have hi' : s.1.drop i = [] := List.drop_eq_nil_of_le (by omega)
      rw [hi', putL] at hf
      rw [hnx']
      cases d
      · (repeat (first | with_reducible refine AW.seq ?_ | ((first | refine arun_kn 4 rfl (fun C hC => ?_) | refine arunD_kn 4 rfl (fun C hC => ?_)); (repeat ((conv => whnf); simp [hlt, hw0, hl, hb1, hb2])); refine hC _ ?_; clear hC C; simp only [List.drop, Nat.reduceAdd]) | ((first | refine arun_kn 1 rfl (fun C hC => ?_) | refine arunD_kn 1 rfl (fun C hC => ?_)); (repeat ((conv => whnf); simp [hlt, hw0, hl, hb1, hb2])); refine hC _ ?_; clear hC C; simp only [List.drop, Nat.reduceAdd]) | (refine arun_skip ?_ ?_; (focus (simp [awant, hlt, hw0, hl, hb1, hb2]; done))) | (refine AW.regionK [] (fun K hK => ?_)) | (refine AW.regionDK [] (pcs [] []) (by kernel_rfl) (by kernel_rfl) (fun K hK => ?_)) | (refine AW.condT ?_ ?_; (focus (simp [aev, hlt, hw0, hl, hb1, hb2]; done))) | (refine AW.condF ?_ ?_; (focus (simp [aev, hlt, hw0, hl, hb1, hb2]; done))) | with_reducible refine AW.block ?_ | ((first | ((first | refine arun_nil ?_ | refine arunD_nil ?_); refine hK _ ?_; clear hK K) | refine AW.skip ?_ | refine AW.exit ?_ | refine AW.ret ?_); simp only [thenA_exit, inBlockA_exit, if_true, if_false, Nat.reduceEqDiff, thenA_normal, inBlockA_normal, reduceIte, thenA_ret, inBlockA_ret, endQ_ret, endR_ret, endG_ret, endQ_normal, endR_normal, endG_normal])))
        have e : putS s nm n = (acc ++ [nx], s.2 + 1) := by unfold putS; rw [hnx, hf]; rfl
        exact ⟨storeO (putS s nm n) 7, by rw [e]; simp [ares, aresL, upd, rowsOf_cons], .inr ⟨storeO (putS s nm n), 7, itemsRow (putS s nm n), rfl, by rw [e]; subst hnx; simp [upd, rowsOf_cons, itemsRow], storeO_res _ 7, itemsE_pur _, rfl, rfl⟩⟩
      · (repeat (first | with_reducible refine AW.seq ?_ | ((first | refine arun_kn 4 rfl (fun C hC => ?_) | refine arunD_kn 4 rfl (fun C hC => ?_)); (repeat ((conv => whnf); simp [hlt, hw0, hl, hb1, hb2])); refine hC _ ?_; clear hC C; simp only [List.drop, Nat.reduceAdd]) | ((first | refine arun_kn 1 rfl (fun C hC => ?_) | refine arunD_kn 1 rfl (fun C hC => ?_)); (repeat ((conv => whnf); simp [hlt, hw0, hl, hb1, hb2])); refine hC _ ?_; clear hC C; simp only [List.drop, Nat.reduceAdd]) | (refine arun_skip ?_ ?_; (focus (simp [awant, hlt, hw0, hl, hb1, hb2]; done))) | (refine AW.regionK [] (fun K hK => ?_)) | (refine AW.regionDK [] (pcs [] []) (by kernel_rfl) (by kernel_rfl) (fun K hK => ?_)) | (refine AW.condT ?_ ?_; (focus (simp [aev, hlt, hw0, hl, hb1, hb2]; done))) | (refine AW.condF ?_ ?_; (focus (simp [aev, hlt, hw0, hl, hb1, hb2]; done))) | with_reducible refine AW.block ?_ | ((first | ((first | refine arun_nil ?_ | refine arunD_nil ?_); refine hK _ ?_; clear hK K) | refine AW.skip ?_ | refine AW.exit ?_ | refine AW.ret ?_); simp only [thenA_exit, inBlockA_exit, if_true, if_false, Nat.reduceEqDiff, thenA_normal, inBlockA_normal, reduceIte, thenA_ret, inBlockA_ret, endQ_ret, endR_ret, endG_ret, endQ_normal, endR_normal, endG_normal])))
        have e : putS s nm n = (acc, s.2 + 1) := by unfold putS; rw [hnx, hf]; simp
        exact ⟨storeO (putS s nm n) 7, by rw [e]; simp [ares, aresL, upd, rowsOf_cons], .inr ⟨storeO (putS s nm n), 7, itemsRow (putS s nm n), rfl, by rw [e]; subst hnx; simp [upd, rowsOf_cons, itemsRow], storeO_res _ 7, itemsE_pur _, rfl, rfl⟩⟩
end Go.Proofs.Ytgfnmhfdmmnaoaa.Eng
namespace Go.Proofs.Ytgfnmhfdmmnaoaa
open Go Go.RowKit
def RB (b n : Nat) (K : World → Prop) (w w' : World) : Prop := Ext (fun k => k = b) w w' ∧ (RowIn w b n → RowIn w' b n) ∧ (K w → K w')
theorem RB.refl (b n : Nat) (K : World → Prop) (w : World) : RB b n K w w := ⟨Ext.refl _ _, fun h => h, fun h => h⟩
theorem RB.trans {b n : Nat} {K : World → Prop} {a c d : World} (h : RB b n K a c) (k : RB b n K c d) : RB b n K a d := ⟨h.1.trans k.1, fun x => k.2.1 (h.2.1 x), fun x => k.2.2 (h.2.2 x)⟩
structure LaterB (b n : Nat) (K : World → Prop) (w : World) : Type where
  at' : World
  rel : RB b n K w at'
def laterB {b n : Nat} {K : World → Prop} (w : World) (x : LaterB b n K w) : World := x.at'
instance laterB_some (b n : Nat) (K : World → Prop) (w : World) : Nonempty (LaterB b n K w) := ⟨⟨w, RB.refl _ _ _ _⟩⟩
theorem laterB_rel {b n : Nat} {K : World → Prop} (w : World) (x : LaterB b n K w) : RB b n K w (laterB w x) := x.rel
@[go_sem] theorem laterB_cell {b n : Nat} {K : World → Prop} (w : World) (x : LaterB b n K w) (a : Addr) (h : (w.cell? a).isSome = true) (hb : ¬ a.block = b) : (laterB w x).cell? a = w.cell? a := by
  obtain ⟨v, hv⟩ := Option.isSome_iff_exists.1 h
  rw [hv]; exact (laterB_rel w x).1.some hv hb
section
variable {P : Program} {ops : Array Oper} {Vs : Nat → Option (Value → World → Prop)} {w : World} {Q : Act → World → Prop} {b n : Nat} {K : World → Prop}
end
end Go.Proofs.Ytgfnmhfdmmnaoaa
namespace Go.Proofs.Ytgfnmhfdmmnaoaa
open Go.RowKit
theorem bl_ne {a b : ByteArray} (h : lt a b = true) : (a.toList == b.toList) = false := by
  cases h' : a.toList == b.toList
  · rfl
  · have : a.toList = b.toList := by simpa using h'
    unfold lt at h
    rw [this, bl_irrefl] at h; cases h
theorem isName_same (x : ByteArray) (w : World) (hs : x.size ≤ big) : Calls Try.prog 87 #[.string x] w fun e w' => e = .returned (.bool (nameB x)) ∧ w' = w :=
  (isName_ok x w hs).mono fun _ _ ⟨h1, h2⟩ => ⟨h1, h2.symm⟩
theorem ValidStore_ok (s : Sto) (v : Value) (w : World) (h : RV stoRep packA w any s v) :
    Calls Try.prog 86 #[v] w fun e w' => e = .returned (.bool (storeB s)) ∧ Grow w w' := by
  obtain ⟨a, c, rfl, hs⟩ := sto_open h
  have hbig : s.1.length ≤ 9223372036854775807 := hs.2.1
  have Hs := Lib.hid hs
  clear h hs
  unfold stoV
  by_cases hbad : 10 < s.1.length ∨ s.2 < 0 ∨ 999 < s.2
  · have Hb : Hid (storeB s = false) := Lib.hid (by simp only [storeB, inR, Bool.and_eq_false_iff, decide_eq_false_iff_not]; omega)
    rcases hbad with hb | hb | hb
    · go_enter Try.func86, Try.ntmps86
      go_wp2_with fail
      go_ret
      exact ⟨by simp [Hb.out], (by repeat (first | with_reducible exact Ext.refl _ _ | with_reducible refine Ext.trans ?_ (by assumption) | with_reducible refine Ext.drew ?_ | with_reducible refine Ext.drewN ?_ _ | with_reducible refine Ext.alloc ?_ _ | with_reducible refine Ext.setNew ?_ (by simp; done) _ | with_reducible refine Ext.setNew ?_ (by simp; omega) _))⟩
    · by_cases hl : 10 < s.1.length
      all_goals
        go_enter Try.func86, Try.ntmps86
        go_wp2_with fail
        go_ret
        exact ⟨by simp [Hb.out], (by repeat (first | with_reducible exact Ext.refl _ _ | with_reducible refine Ext.trans ?_ (by assumption) | with_reducible refine Ext.drew ?_ | with_reducible refine Ext.drewN ?_ _ | with_reducible refine Ext.alloc ?_ _ | with_reducible refine Ext.setNew ?_ (by simp; done) _ | with_reducible refine Ext.setNew ?_ (by simp; omega) _))⟩
    · by_cases hl : 10 < s.1.length
      · go_enter Try.func86, Try.ntmps86
        go_wp2_with fail
        go_ret
        exact ⟨by simp [Hb.out], (by repeat (first | with_reducible exact Ext.refl _ _ | with_reducible refine Ext.trans ?_ (by assumption) | with_reducible refine Ext.drew ?_ | with_reducible refine Ext.drewN ?_ _ | with_reducible refine Ext.alloc ?_ _ | with_reducible refine Ext.setNew ?_ (by simp; done) _ | with_reducible refine Ext.setNew ?_ (by simp; omega) _))⟩
      · have h0 : 0 ≤ s.2 := by omega
        go_enter Try.func86, Try.ntmps86
        go_wp2_with fail
        go_ret
        exact ⟨by simp [Hb.out], (by repeat (first | with_reducible exact Ext.refl _ _ | with_reducible refine Ext.trans ?_ (by assumption) | with_reducible refine Ext.drew ?_ | with_reducible refine Ext.drewN ?_ _ | with_reducible refine Ext.alloc ?_ _ | with_reducible refine Ext.setNew ?_ (by simp; done) _ | with_reducible refine Ext.setNew ?_ (by simp; omega) _))⟩
  have hl : s.1.length ≤ 10 := by omega
  have h0 : 0 ≤ s.2 := by omega
  have h9 : s.2 ≤ 999 := by omega
  have Hb : Hid (storeB s = itmsB s.2 s.1) := Lib.hid (by simp [storeB, inR, hl, h0, h9])
  clear hbad
  have HB := Lib.hid (BoxN.new w [.slice a s.1.length c, .int .i64 s.2] 62)
  go_enter Try.func86, Try.ntmps86
  go_wp2_with fail
  go_loopw [2, 3, 4, 22] (fun n _ _ i wr => n = .bool false ∧ Grow w wr ∧ BoxN wr w.heap.size [.slice a s.1.length c, .int .i64 s.2] ∧ ∃ k : Nat, k ≤ s.1.length ∧ i = .int .i64 k ∧ Hid (itmsB s.2 s.1 = itmsAt s.2 s.1 k)) (fun _ _ _ i _ => s.1.length - (intOf i).toNat)
  case atStart => exact ⟨rfl, (by repeat (first | with_reducible exact Ext.refl _ _ | with_reducible refine Ext.trans ?_ (by assumption) | with_reducible refine Ext.drew ?_ | with_reducible refine Ext.drewN ?_ _ | with_reducible refine Ext.alloc ?_ _ | with_reducible refine Ext.setNew ?_ (by simp; done) _ | with_reducible refine Ext.setNew ?_ (by simp; omega) _)), HB.out, 0, Nat.zero_le _, rfl, Lib.hid (itmsAt_zero _ _).symm⟩
  case round =>
    obtain ⟨rfl, hg, hB, k, hk, rfl, Hr⟩ := hrel
    have HB := Lib.hid hB
    have zB := hB.lt
    clear hB
    by_cases hlt : k < s.1.length
    · obtain ⟨_, _, hks⟩ := (Hs.out).grow hg
      rcases hks with hks | ⟨bk, ok, rfl, _, hkr⟩
      · simp [hks] at hlt
      obtain ⟨cs, hcs, hx⟩ := hkr k hlt
      obtain ⟨na0, nc0, ka0, kc0, rfl, hsz, h0⟩ := itmRep_open hx
      rw [itmRep_n] at hcs
      have x0 : wr.cell? ⟨bk, ok + k * 7, none⟩ = _ := hcs 0 _ rfl
      have x1 := hcs 1 _ rfl
      have x2 := hcs 2 _ rfl
      have x3 := hcs 3 _ rfl
      have x4 := hcs 4 _ rfl
      have x5 := hcs 5 _ rfl
      have x6 := hcs 6 _ rfl
      have zb : bk < wr.heap.size := lt_of_cell x0
      have H0 := Lib.hid h0
      have q0 := HB.out.cell 0 _ rfl
      have q1 := HB.out.cell 1 _ rfl
      have prev : ∀ h0 : 0 < k, wr.cell? ⟨bk, ok + (k - 1) * 7, none⟩ = some (.string (s.1[k - 1]'(by omega)).1) := fun h0 => by
        obtain ⟨cs', hcs', hx'⟩ := hkr (k - 1) (by omega)
        obtain ⟨_, _, _, _, rfl, _, _⟩ := itmRep_open hx'
        rw [itmRep_n] at hcs'
        exact hcs' 0 _ rfl
      have Prev := Lib.hid prev
      clear hkr hcs hx h0 prev
      have hg1 : ∀ o : Obj, Grow w (wr.alloc o) := fun o => hg.alloc o
      by_cases hbad : nameB s.1[k].1 = false ∨ (0 < k ∧ lt (s.1[k - 1]'(by omega)).1 s.1[k].1 = false)
      · have Hs : Hid (itmsAt s.2 s.1 k = false) := Lib.hid (itmsAt_bad hlt (hbad.imp (fun h => by unfold itmB; rw [h]; rfl) id))
        by_cases hn : nameB s.1[k].1 = false
        · have Hn := Lib.hid hn
          clear hn hbad
          go_wp2_with fail
          go_quiet ((go_at_call 87; exact Calls.quiet_of_same (by simpa only [Hn.out] using isName_same s.1[k].1 _ hsz)))
          go_wp2_with fail
          go_ret
          exact ⟨by simp [Hb.out, Hr.out, Hs.out], (by repeat (first | with_reducible exact Ext.refl _ _ | with_reducible refine Ext.trans ?_ (by assumption) | with_reducible refine Ext.drew ?_ | with_reducible refine Ext.drewN ?_ _ | with_reducible refine Ext.alloc ?_ _ | with_reducible refine Ext.setNew ?_ (by simp; done) _ | with_reducible refine Ext.setNew ?_ (by simp; omega) _))⟩
        · have hn : nameB s.1[k].1 = true := by simpa using hn
          obtain ⟨hk0, hlt'⟩ := hbad.resolve_left (by simp [hn])
          have Hn := Lib.hid hn
          have hki : (0 : Int) < (k : Int) := by omega
          have y0 := Prev.out hk0
          have k1 : ((k : Int) - 1).toNat = k - 1 := by omega
          have k2 : (0 : Int) ≤ (k : Int) - 1 := by omega
          have k3 : (k : Int) - 1 < (s.1.length : Int) := by omega
          clear hn
          rcases bl_cases (s.1[k - 1]'(by omega)).1 s.1[k].1 with ⟨l1, l2, l3, l4, _⟩ | ⟨l1, l2, l3, l4, _⟩ | l0
          · have := hlt'.symm.trans l1; cases this
          · clear hlt'
            go_wp2_with fail
            go_quiet ((go_at_call 87; exact Calls.quiet_of_same (by simpa only [Hn.out] using isName_same s.1[k].1 _ hsz)))
            go_wp2_with fail
            go_ret
            exact ⟨by simp [Hb.out, Hr.out, Hs.out], (by repeat (first | with_reducible exact Ext.refl _ _ | with_reducible refine Ext.trans ?_ (by assumption) | with_reducible refine Ext.drew ?_ | with_reducible refine Ext.drewN ?_ _ | with_reducible refine Ext.alloc ?_ _ | with_reducible refine Ext.setNew ?_ (by simp; done) _ | with_reducible refine Ext.setNew ?_ (by simp; omega) _))⟩
          · rw [l0] at y0
            clear l0 hlt'
            have l1 := blF_irrefl s.1[k].1
            go_wp2_with fail
            go_quiet ((go_at_call 87; exact Calls.quiet_of_same (by simpa only [Hn.out] using isName_same s.1[k].1 _ hsz)))
            go_wp2_with fail
            go_ret
            exact ⟨by simp [Hb.out, Hr.out, Hs.out], (by repeat (first | with_reducible exact Ext.refl _ _ | with_reducible refine Ext.trans ?_ (by assumption) | with_reducible refine Ext.drew ?_ | with_reducible refine Ext.drewN ?_ _ | with_reducible refine Ext.alloc ?_ _ | with_reducible refine Ext.setNew ?_ (by simp; done) _ | with_reducible refine Ext.setNew ?_ (by simp; omega) _))⟩
      · have hn : nameB s.1[k].1 = true := by
          cases h : nameB s.1[k].1
          · exact absurd (.inl h) hbad
          · rfl
        have hord : ∀ h0 : 0 < k, lt (s.1[k - 1]'(by omega)).1 s.1[k].1 = true := fun h0 => by
          cases h : lt (s.1[k - 1]'(by omega)).1 s.1[k].1
          · exact absurd (.inr ⟨h0, h⟩) hbad
          · rfl
        have Hn := Lib.hid hn
        have Hord := Lib.hid hord
        have fin : ∀ (wz : World), Hid (itmB s.2 s.1[k] = (inR s.1[k].2.1 1 s.2 && validB s.1[k].2.2)) := fun _ => Lib.hid (by unfold itmB; rw [hn]; rfl)
        have Hi := fin w
        clear hbad hn hord fin
        by_cases hk0 : 0 < k
        · have hki : (0 : Int) < (k : Int) := by omega
          have y0 := Prev.out hk0
          have k1 : ((k : Int) - 1).toNat = k - 1 := by omega
          have k2 : (0 : Int) ≤ (k : Int) - 1 := by omega
          have k3 : (k : Int) - 1 < (s.1.length : Int) := by omega
          have l1 : lt (s.1[k - 1]'(by omega)).1 s.1[k].1 = true := Hord.out hk0
          have l2 : Op.bytesLess s.1[k].1.toList (s.1[k - 1]'(by omega)).1.toList = false := bl_asymm _ _ l1
          have l3 : ((s.1[k - 1]'(by omega)).1.toList == s.1[k].1.toList) = false := bl_ne l1
          go_wp2_with fail
          go_quiet ((go_at_call 87; exact Calls.quiet_of_same (by simpa only [Hn.out] using isName_same s.1[k].1 _ hsz)))
          by_cases hv1 : s.1[k].2.1 < 1
          · have Hs : Hid (itmsAt s.2 s.1 k = false) := Lib.hid (itmsAt_bad hlt (.inl (by rw [Hi.out]; simp [inR]; omega)))
            go_wp2_with fail
            go_ret
            exact ⟨by simp [Hb.out, Hr.out, Hs.out], (by repeat (first | with_reducible exact Ext.refl _ _ | with_reducible refine Ext.trans ?_ (by assumption) | with_reducible refine Ext.drew ?_ | with_reducible refine Ext.drewN ?_ _ | with_reducible refine Ext.alloc ?_ _ | with_reducible refine Ext.setNew ?_ (by simp; done) _ | with_reducible refine Ext.setNew ?_ (by simp; omega) _))⟩
          by_cases hv2 : s.2 < s.1[k].2.1
          · have Hs : Hid (itmsAt s.2 s.1 k = false) := Lib.hid (itmsAt_bad hlt (.inl (by rw [Hi.out]; simp [inR]; omega)))
            go_wp2_with fail
            go_ret
            exact ⟨by simp [Hb.out, Hr.out, Hs.out], (by repeat (first | with_reducible exact Ext.refl _ _ | with_reducible refine Ext.trans ?_ (by assumption) | with_reducible refine Ext.drew ?_ | with_reducible refine Ext.drewN ?_ _ | with_reducible refine Ext.alloc ?_ _ | with_reducible refine Ext.setNew ?_ (by simp; done) _ | with_reducible refine Ext.setNew ?_ (by simp; omega) _))⟩
          cases hvb : validB s.1[k].2.2
          · have Hs : Hid (itmsAt s.2 s.1 k = false) := Lib.hid (itmsAt_bad hlt (.inl (by rw [Hi.out, hvb]; simp)))
            have Hv := Lib.hid hvb
            clear hvb
            go_wp2_with fail
            refine (ValidNode_ok s.1[k].2.2 _ _ ⟨_, _, _, _, rfl, H0.out.grow' (by repeat (first | with_reducible exact Ext.refl _ _ | with_reducible refine Ext.trans ?_ (by assumption) | with_reducible refine Ext.drew ?_ | with_reducible refine Ext.drewN ?_ _ | with_reducible refine Ext.alloc ?_ _ | with_reducible refine Ext.setNew ?_ (by simp; done) _ | with_reducible refine Ext.setNew ?_ (by simp; omega) _))⟩).mono ?_
            rintro e w3 ⟨rfl, hg3⟩
            simp only [Hv.out]
            go_wp2_with fail
            go_ret
            exact ⟨by simp [Hb.out, Hr.out, Hs.out], (by repeat (first | with_reducible exact Ext.refl _ _ | with_reducible refine Ext.trans ?_ (by assumption) | with_reducible refine Ext.drew ?_ | with_reducible refine Ext.drewN ?_ _ | with_reducible refine Ext.alloc ?_ _ | with_reducible refine Ext.setNew ?_ (by simp; done) _ | with_reducible refine Ext.setNew ?_ (by simp; omega) _))⟩
          · have Hs : Hid (itmsAt s.2 s.1 k = itmsAt s.2 s.1 (k + 1)) := Lib.hid (itmsAt_good hlt (by rw [Hi.out, hvb]; simp [inR]; omega) Hord.out)
            have Hv := Lib.hid hvb
            clear hvb
            go_wp2_with fail
            refine (ValidNode_ok s.1[k].2.2 _ _ ⟨_, _, _, _, rfl, H0.out.grow' (by repeat (first | with_reducible exact Ext.refl _ _ | with_reducible refine Ext.trans ?_ (by assumption) | with_reducible refine Ext.drew ?_ | with_reducible refine Ext.drewN ?_ _ | with_reducible refine Ext.alloc ?_ _ | with_reducible refine Ext.setNew ?_ (by simp; done) _ | with_reducible refine Ext.setNew ?_ (by simp; omega) _))⟩).mono ?_
            rintro e w3 ⟨rfl, hg3⟩
            simp only [Hv.out]
            have hgr : Grow wr w3 := (by repeat (first | with_reducible exact Ext.refl _ _ | with_reducible refine Ext.trans ?_ (by assumption) | with_reducible refine Ext.drew ?_ | with_reducible refine Ext.drewN ?_ _ | with_reducible refine Ext.alloc ?_ _ | with_reducible refine Ext.setNew ?_ (by simp; done) _ | with_reducible refine Ext.setNew ?_ (by simp; omega) _))
            go_wp2_with fail
            go_roundw
            case rel => exact ⟨rfl, hg.trans hgr, HB.out.grow hgr, k + 1, by omega, by go_num, Lib.hid (by rw [Hr.out, Hs.out])⟩
            case measure => simp [intOf]; omega
        · have hki : ¬ (0 : Int) < (k : Int) := by omega
          go_wp2_with fail
          go_quiet ((go_at_call 87; exact Calls.quiet_of_same (by simpa only [Hn.out] using isName_same s.1[k].1 _ hsz)))
          by_cases hv1 : s.1[k].2.1 < 1
          · have Hs : Hid (itmsAt s.2 s.1 k = false) := Lib.hid (itmsAt_bad hlt (.inl (by rw [Hi.out]; simp [inR]; omega)))
            go_wp2_with fail
            go_ret
            exact ⟨by simp [Hb.out, Hr.out, Hs.out], (by repeat (first | with_reducible exact Ext.refl _ _ | with_reducible refine Ext.trans ?_ (by assumption) | with_reducible refine Ext.drew ?_ | with_reducible refine Ext.drewN ?_ _ | with_reducible refine Ext.alloc ?_ _ | with_reducible refine Ext.setNew ?_ (by simp; done) _ | with_reducible refine Ext.setNew ?_ (by simp; omega) _))⟩
          by_cases hv2 : s.2 < s.1[k].2.1
          · have Hs : Hid (itmsAt s.2 s.1 k = false) := Lib.hid (itmsAt_bad hlt (.inl (by rw [Hi.out]; simp [inR]; omega)))
            go_wp2_with fail
            go_ret
            exact ⟨by simp [Hb.out, Hr.out, Hs.out], (by repeat (first | with_reducible exact Ext.refl _ _ | with_reducible refine Ext.trans ?_ (by assumption) | with_reducible refine Ext.drew ?_ | with_reducible refine Ext.drewN ?_ _ | with_reducible refine Ext.alloc ?_ _ | with_reducible refine Ext.setNew ?_ (by simp; done) _ | with_reducible refine Ext.setNew ?_ (by simp; omega) _))⟩
          cases hvb : validB s.1[k].2.2
          · have Hs : Hid (itmsAt s.2 s.1 k = false) := Lib.hid (itmsAt_bad hlt (.inl (by rw [Hi.out, hvb]; simp)))
            have Hv := Lib.hid hvb
            clear hvb
            go_wp2_with fail
            refine (ValidNode_ok s.1[k].2.2 _ _ ⟨_, _, _, _, rfl, H0.out.grow' (by repeat (first | with_reducible exact Ext.refl _ _ | with_reducible refine Ext.trans ?_ (by assumption) | with_reducible refine Ext.drew ?_ | with_reducible refine Ext.drewN ?_ _ | with_reducible refine Ext.alloc ?_ _ | with_reducible refine Ext.setNew ?_ (by simp; done) _ | with_reducible refine Ext.setNew ?_ (by simp; omega) _))⟩).mono ?_
            rintro e w3 ⟨rfl, hg3⟩
            simp only [Hv.out]
            go_wp2_with fail
            go_ret
            exact ⟨by simp [Hb.out, Hr.out, Hs.out], (by repeat (first | with_reducible exact Ext.refl _ _ | with_reducible refine Ext.trans ?_ (by assumption) | with_reducible refine Ext.drew ?_ | with_reducible refine Ext.drewN ?_ _ | with_reducible refine Ext.alloc ?_ _ | with_reducible refine Ext.setNew ?_ (by simp; done) _ | with_reducible refine Ext.setNew ?_ (by simp; omega) _))⟩
          · have Hs : Hid (itmsAt s.2 s.1 k = itmsAt s.2 s.1 (k + 1)) := Lib.hid (itmsAt_good hlt (by rw [Hi.out, hvb]; simp [inR]; omega) Hord.out)
            have Hv := Lib.hid hvb
            clear hvb
            go_wp2_with fail
            refine (ValidNode_ok s.1[k].2.2 _ _ ⟨_, _, _, _, rfl, H0.out.grow' (by repeat (first | with_reducible exact Ext.refl _ _ | with_reducible refine Ext.trans ?_ (by assumption) | with_reducible refine Ext.drew ?_ | with_reducible refine Ext.drewN ?_ _ | with_reducible refine Ext.alloc ?_ _ | with_reducible refine Ext.setNew ?_ (by simp; done) _ | with_reducible refine Ext.setNew ?_ (by simp; omega) _))⟩).mono ?_
            rintro e w3 ⟨rfl, hg3⟩
            simp only [Hv.out]
            have hgr : Grow wr w3 := (by repeat (first | with_reducible exact Ext.refl _ _ | with_reducible refine Ext.trans ?_ (by assumption) | with_reducible refine Ext.drew ?_ | with_reducible refine Ext.drewN ?_ _ | with_reducible refine Ext.alloc ?_ _ | with_reducible refine Ext.setNew ?_ (by simp; done) _ | with_reducible refine Ext.setNew ?_ (by simp; omega) _))
            go_wp2_with fail
            go_roundw
            case rel => exact ⟨rfl, hg.trans hgr, HB.out.grow hgr, k + 1, by omega, by go_num, Lib.hid (by rw [Hr.out, Hs.out])⟩
            case measure => simp [intOf]; omega
    · have He := Lib.hid (itmsAt_end s.2 s.1 k hlt)
      go_wp2_with fail
      go_ret
      exact ⟨by simp [Hb.out, Hr.out, He.out], hg⟩
end Go.Proofs.Ytgfnmhfdmmnaoaa
namespace Go.Proofs.Ytgfnmhfdmmnaoaa
open Go.RowKit
theorem validName_same (x : ByteArray) (w : World) (hs : x.size ≤ big) : Calls Try.prog 82 #[.string x] w fun e w' => e = .returned (.bool (nameB x)) ∧ w' = w :=
  (validName_ok x w hs).mono fun _ _ ⟨h1, h2⟩ => ⟨h1, h2.symm⟩
theorem validStore_ok (s : Sto) (v : Value) (w : World) (h : RV stoRep packA w any s v) :
    Calls Try.prog 81 #[v] w fun e w' => e = .returned (.bool (storeB s)) ∧ Grow w w' := by
  obtain ⟨a, c, rfl, hs⟩ := sto_open h
  have hbig : s.1.length ≤ 9223372036854775807 := hs.2.1
  have Hs := Lib.hid hs
  clear h hs
  unfold stoV
  have Hb : Hid (storeB s = (decide (s.1.length ≤ 10) && inR s.2 0 999 && itmsB s.2 s.1)) := Lib.hid rfl
  have HB := Lib.hid (BoxN.new w [.slice a s.1.length c, .int .i64 s.2] 62)
  go_enter Try.func81, Try.ntmps81
  go_wp2_with fail
  go_loopw [2, 3, 4] (fun n i _ wr => n = .bool false ∧ Grow w wr ∧ BoxN wr w.heap.size [.slice a s.1.length c, .int .i64 s.2] ∧ ∃ k : Nat, k ≤ s.1.length ∧ i = .int .i64 k ∧ Hid (itmsB s.2 s.1 = itmsAt s.2 s.1 k)) (fun _ i _ _ => s.1.length - (intOf i).toNat)
  case atStart => exact ⟨rfl, (by repeat (first | with_reducible exact Ext.refl _ _ | with_reducible refine Ext.trans ?_ (by assumption) | with_reducible refine Ext.drew ?_ | with_reducible refine Ext.drewN ?_ _ | with_reducible refine Ext.alloc ?_ _ | with_reducible refine Ext.setNew ?_ (by simp; done) _ | with_reducible refine Ext.setNew ?_ (by simp; omega) _)), HB.out, 0, Nat.zero_le _, rfl, Lib.hid (itmsAt_zero _ _).symm⟩
  case round =>
    obtain ⟨rfl, hg, hB, k, hk, rfl, Hr⟩ := hrel
    have HB := Lib.hid hB
    have zB := hB.lt
    clear hB
    have q0 := HB.out.cell 0 _ rfl
    have q1 := HB.out.cell 1 _ rfl
    by_cases hlt : k < s.1.length
    · obtain ⟨_, _, hks⟩ := (Hs.out).grow hg
      rcases hks with hks | ⟨bk, ok, rfl, _, hkr⟩
      · simp [hks] at hlt
      obtain ⟨cs, hcs, hx⟩ := hkr k hlt
      obtain ⟨na0, nc0, ka0, kc0, rfl, hsz, h0⟩ := itmRep_open hx
      rw [itmRep_n] at hcs
      have x0 : wr.cell? ⟨bk, ok + k * 7, none⟩ = _ := hcs 0 _ rfl
      have x1 := hcs 1 _ rfl
      have x2 := hcs 2 _ rfl
      have x3 := hcs 3 _ rfl
      have x4 := hcs 4 _ rfl
      have x5 := hcs 5 _ rfl
      have x6 := hcs 6 _ rfl
      have zb : bk < wr.heap.size := lt_of_cell x0
      have H0 := Lib.hid h0
      have prev : ∀ h0 : 0 < k, wr.cell? ⟨bk, ok + (k - 1) * 7, none⟩ = some (.string (s.1[k - 1]'(by omega)).1) := fun h0 => by
        obtain ⟨cs', hcs', hx'⟩ := hkr (k - 1) (by omega)
        obtain ⟨_, _, _, _, rfl, _, _⟩ := itmRep_open hx'
        rw [itmRep_n] at hcs'
        exact hcs' 0 _ rfl
      have Prev := Lib.hid prev
      have HVc : Hid (∀ w', Grow wr w' → Calls Try.prog 62 #[.agg #[.int .i64 s.1[k].2.2.kind, .int .i64 s.1[k].2.2.num, .string s.1[k].2.2.text, .slice na0 s.1[k].2.2.names.length nc0, .slice ka0 s.1[k].2.2.kids.length kc0]] w' fun e w'' => e = .returned (.bool (validB s.1[k].2.2)) ∧ Grow w' w'') := Lib.hid (fun w' hg => validNode_ok s.1[k].2.2 _ _ ⟨_, _, _, _, rfl, H0.out.grow' hg⟩)
      clear hkr hcs hx h0 prev
      by_cases hbad : itmB s.2 s.1[k] = false ∨ (0 < k ∧ lt (s.1[k - 1]'(by omega)).1 s.1[k].1 = false)
      · have Hs' : Hid (itmsAt s.2 s.1 k = false) := Lib.hid (itmsAt_bad hlt hbad)
        have Hsb : Hid (storeB s = false) := Lib.hid (by rw [Hb.out, Hr.out, Hs'.out]; simp)
        cases hn : nameB s.1[k].1
        · have Hn := Lib.hid hn
          clear hn hbad
          go_wp2_with fail
          (refine wp_region_later (by kernel_rfl) (by kernel_rfl) ?_; (repeat (first | go_big_quiet_step ((first | (go_at_call 82; exact later_call_same (v := .bool false) (by simpa only [Hn.out] using validName_same s.1[k].1 _ hsz)) | (go_at_call 62; exact later_call (v := .bool false) (by simpa only [Hv.out] using HVc.out _ (((Ext.refl nil _).alloc _).trans (later_grow _ _)))) | (go_at_call 131; exact later_call_same (v := .bool false) (by simpa only [Hi.out] using inRange_ok s.1[k].2.1 1 s.2 _)))) | quiet_step ((first | (go_at_call 82; exact later_call_same (v := .bool false) (by simpa only [Hn.out] using validName_same s.1[k].1 _ hsz)) | (go_at_call 62; exact later_call (v := .bool false) (by simpa only [Hv.out] using HVc.out _ (((Ext.refl nil _).alloc _).trans (later_grow _ _)))) | (go_at_call 131; exact later_call_same (v := .bool false) (by simpa only [Hi.out] using inRange_ok s.1[k].2.1 1 s.2 _)))))); refine wpQuiet_nil ?_; rintro _ ⟨x_w2, rfl⟩; have hg_w2 := later_grow _ x_w2; generalize later _ x_w2 = w2 at hg_w2 ⊢)
          go_wp2_with fail
          go_ret
          exact ⟨by simp [Hsb.out], (by repeat (first | with_reducible exact Ext.refl _ _ | with_reducible refine Ext.trans ?_ (by assumption) | with_reducible refine Ext.drew ?_ | with_reducible refine Ext.drewN ?_ _ | with_reducible refine Ext.alloc ?_ _ | with_reducible refine Ext.setNew ?_ (by simp; done) _ | with_reducible refine Ext.setNew ?_ (by simp; omega) _))⟩
        have Hn := Lib.hid hn
        cases hv : validB s.1[k].2.2
        · have Hv := Lib.hid hv
          clear hv hn hbad
          go_wp2_with fail
          (refine wp_region_later (by kernel_rfl) (by kernel_rfl) ?_; (repeat (first | go_big_quiet_step ((first | (go_at_call 82; exact later_call_same (v := .bool true) (by simpa only [Hn.out] using validName_same s.1[k].1 _ hsz)) | (go_at_call 62; exact later_call (v := .bool false) (by simpa only [Hv.out] using HVc.out _ (((Ext.refl nil _).alloc _).trans (later_grow _ _)))) | (go_at_call 131; exact later_call_same (v := .bool false) (by simpa only [Hi.out] using inRange_ok s.1[k].2.1 1 s.2 _)))) | quiet_step ((first | (go_at_call 82; exact later_call_same (v := .bool true) (by simpa only [Hn.out] using validName_same s.1[k].1 _ hsz)) | (go_at_call 62; exact later_call (v := .bool false) (by simpa only [Hv.out] using HVc.out _ (((Ext.refl nil _).alloc _).trans (later_grow _ _)))) | (go_at_call 131; exact later_call_same (v := .bool false) (by simpa only [Hi.out] using inRange_ok s.1[k].2.1 1 s.2 _)))))); refine wpQuiet_nil ?_; rintro _ ⟨x_w2, rfl⟩; have hg_w2 := later_grow _ x_w2; generalize later _ x_w2 = w2 at hg_w2 ⊢)
          go_wp2_with fail
          go_ret
          exact ⟨by simp [Hsb.out], (by repeat (first | with_reducible exact Ext.refl _ _ | with_reducible refine Ext.trans ?_ (by assumption) | with_reducible refine Ext.drew ?_ | with_reducible refine Ext.drewN ?_ _ | with_reducible refine Ext.alloc ?_ _ | with_reducible refine Ext.setNew ?_ (by simp; done) _ | with_reducible refine Ext.setNew ?_ (by simp; omega) _))⟩
        have Hv := Lib.hid hv
        cases hi : inR s.1[k].2.1 1 s.2
        · have Hi := Lib.hid hi
          clear hi hv hn hbad
          go_wp2_with fail
          (refine wp_region_later (by kernel_rfl) (by kernel_rfl) ?_; (repeat (first | go_big_quiet_step ((first | (go_at_call 82; exact later_call_same (v := .bool true) (by simpa only [Hn.out] using validName_same s.1[k].1 _ hsz)) | (go_at_call 62; exact later_call (v := .bool true) (by simpa only [Hv.out] using HVc.out _ (((Ext.refl nil _).alloc _).trans (later_grow _ _)))) | (go_at_call 131; exact later_call_same (v := .bool false) (by simpa only [Hi.out] using inRange_ok s.1[k].2.1 1 s.2 _)))) | quiet_step ((first | (go_at_call 82; exact later_call_same (v := .bool true) (by simpa only [Hn.out] using validName_same s.1[k].1 _ hsz)) | (go_at_call 62; exact later_call (v := .bool true) (by simpa only [Hv.out] using HVc.out _ (((Ext.refl nil _).alloc _).trans (later_grow _ _)))) | (go_at_call 131; exact later_call_same (v := .bool false) (by simpa only [Hi.out] using inRange_ok s.1[k].2.1 1 s.2 _)))))); refine wpQuiet_nil ?_; rintro _ ⟨x_w2, rfl⟩; have hg_w2 := later_grow _ x_w2; generalize later _ x_w2 = w2 at hg_w2 ⊢)
          go_wp2_with fail
          go_ret
          exact ⟨by simp [Hsb.out], (by repeat (first | with_reducible exact Ext.refl _ _ | with_reducible refine Ext.trans ?_ (by assumption) | with_reducible refine Ext.drew ?_ | with_reducible refine Ext.drewN ?_ _ | with_reducible refine Ext.alloc ?_ _ | with_reducible refine Ext.setNew ?_ (by simp; done) _ | with_reducible refine Ext.setNew ?_ (by simp; omega) _))⟩
        have Hi := Lib.hid hi
        obtain ⟨hk0, hlt'⟩ := hbad.resolve_left (by simp [itmB, hn, hv, hi])
        have hki : (0 : Int) < (k : Int) := by omega
        have y0 := Prev.out hk0
        have k1 : ((k : Int) - 1).toNat = k - 1 := by omega
        have k2 : (0 : Int) ≤ (k : Int) - 1 := by omega
        have k3 : (k : Int) - 1 < (s.1.length : Int) := by omega
        clear hn hv hi
        rcases bl_cases (s.1[k - 1]'(by omega)).1 s.1[k].1 with ⟨l1, l2, l3, l4, _⟩ | ⟨l1, l2, l3, l4, _⟩ | l0
        · have := hlt'.symm.trans l1; cases this
        · clear hlt'
          go_wp2_with fail
          (refine wp_region_later (by kernel_rfl) (by kernel_rfl) ?_; (repeat (first | go_big_quiet_step ((first | (go_at_call 82; exact later_call_same (v := .bool true) (by simpa only [Hn.out] using validName_same s.1[k].1 _ hsz)) | (go_at_call 62; exact later_call (v := .bool true) (by simpa only [Hv.out] using HVc.out _ (((Ext.refl nil _).alloc _).trans (later_grow _ _)))) | (go_at_call 131; exact later_call_same (v := .bool true) (by simpa only [Hi.out] using inRange_ok s.1[k].2.1 1 s.2 _)))) | quiet_step ((first | (go_at_call 82; exact later_call_same (v := .bool true) (by simpa only [Hn.out] using validName_same s.1[k].1 _ hsz)) | (go_at_call 62; exact later_call (v := .bool true) (by simpa only [Hv.out] using HVc.out _ (((Ext.refl nil _).alloc _).trans (later_grow _ _)))) | (go_at_call 131; exact later_call_same (v := .bool true) (by simpa only [Hi.out] using inRange_ok s.1[k].2.1 1 s.2 _)))))); refine wpQuiet_nil ?_; rintro _ ⟨x_w2, rfl⟩; have hg_w2 := later_grow _ x_w2; generalize later _ x_w2 = w2 at hg_w2 ⊢)
          go_wp2_with fail
          go_ret
          exact ⟨by simp [Hsb.out], (by repeat (first | with_reducible exact Ext.refl _ _ | with_reducible refine Ext.trans ?_ (by assumption) | with_reducible refine Ext.drew ?_ | with_reducible refine Ext.drewN ?_ _ | with_reducible refine Ext.alloc ?_ _ | with_reducible refine Ext.setNew ?_ (by simp; done) _ | with_reducible refine Ext.setNew ?_ (by simp; omega) _))⟩
        · rw [l0] at y0
          clear l0 hlt'
          have l1 := blF_irrefl s.1[k].1
          go_wp2_with fail
          (refine wp_region_later (by kernel_rfl) (by kernel_rfl) ?_; (repeat (first | go_big_quiet_step ((first | (go_at_call 82; exact later_call_same (v := .bool true) (by simpa only [Hn.out] using validName_same s.1[k].1 _ hsz)) | (go_at_call 62; exact later_call (v := .bool true) (by simpa only [Hv.out] using HVc.out _ (((Ext.refl nil _).alloc _).trans (later_grow _ _)))) | (go_at_call 131; exact later_call_same (v := .bool true) (by simpa only [Hi.out] using inRange_ok s.1[k].2.1 1 s.2 _)))) | quiet_step ((first | (go_at_call 82; exact later_call_same (v := .bool true) (by simpa only [Hn.out] using validName_same s.1[k].1 _ hsz)) | (go_at_call 62; exact later_call (v := .bool true) (by simpa only [Hv.out] using HVc.out _ (((Ext.refl nil _).alloc _).trans (later_grow _ _)))) | (go_at_call 131; exact later_call_same (v := .bool true) (by simpa only [Hi.out] using inRange_ok s.1[k].2.1 1 s.2 _)))))); refine wpQuiet_nil ?_; rintro _ ⟨x_w2, rfl⟩; have hg_w2 := later_grow _ x_w2; generalize later _ x_w2 = w2 at hg_w2 ⊢)
          go_wp2_with fail
          go_ret
          exact ⟨by simp [Hsb.out], (by repeat (first | with_reducible exact Ext.refl _ _ | with_reducible refine Ext.trans ?_ (by assumption) | with_reducible refine Ext.drew ?_ | with_reducible refine Ext.drewN ?_ _ | with_reducible refine Ext.alloc ?_ _ | with_reducible refine Ext.setNew ?_ (by simp; done) _ | with_reducible refine Ext.setNew ?_ (by simp; omega) _))⟩
      · have hgood : itmB s.2 s.1[k] = true := by
          cases h : itmB s.2 s.1[k]
          · exact absurd (.inl h) hbad
          · rfl
        have hord : ∀ h0 : 0 < k, lt (s.1[k - 1]'(by omega)).1 s.1[k].1 = true := fun h0 => by
          cases h : lt (s.1[k - 1]'(by omega)).1 s.1[k].1
          · exact absurd (.inr ⟨h0, h⟩) hbad
          · rfl
        have Hord := Lib.hid hord
        have Hs' : Hid (itmsAt s.2 s.1 k = itmsAt s.2 s.1 (k + 1)) := Lib.hid (itmsAt_good hlt hgood hord)
        unfold itmB at hgood
        simp only [Bool.and_eq_true] at hgood
        have Hn := Lib.hid hgood.1.1
        have Hi := Lib.hid hgood.1.2
        have Hv := Lib.hid hgood.2
        clear hbad hgood hord
        by_cases hk0 : 0 < k
        · have hki : (0 : Int) < (k : Int) := by omega
          have y0 := Prev.out hk0
          have k1 : ((k : Int) - 1).toNat = k - 1 := by omega
          have k2 : (0 : Int) ≤ (k : Int) - 1 := by omega
          have k3 : (k : Int) - 1 < (s.1.length : Int) := by omega
          have l1 : lt (s.1[k - 1]'(by omega)).1 s.1[k].1 = true := Hord.out hk0
          have l2 : Op.bytesLess s.1[k].1.toList (s.1[k - 1]'(by omega)).1.toList = false := bl_asymm _ _ l1
          have l3 : ((s.1[k - 1]'(by omega)).1.toList == s.1[k].1.toList) = false := bl_ne l1
          have l4 : (s.1[k].1.toList == (s.1[k - 1]'(by omega)).1.toList) = false := by rw [beq_toList] at l3 ⊢; simp only [decide_eq_false_iff_not] at l3 ⊢; exact fun e => l3 e.symm
          go_wp2_with fail
          (refine wp_region_later (by kernel_rfl) (by kernel_rfl) ?_; (repeat (first | go_big_quiet_step ((first | (go_at_call 82; exact later_call_same (v := .bool true) (by simpa only [Hn.out] using validName_same s.1[k].1 _ hsz)) | (go_at_call 62; exact later_call (v := .bool true) (by simpa only [Hv.out] using HVc.out _ (((Ext.refl nil _).alloc _).trans (later_grow _ _)))) | (go_at_call 131; exact later_call_same (v := .bool true) (by simpa only [Hi.out] using inRange_ok s.1[k].2.1 1 s.2 _)))) | quiet_step ((first | (go_at_call 82; exact later_call_same (v := .bool true) (by simpa only [Hn.out] using validName_same s.1[k].1 _ hsz)) | (go_at_call 62; exact later_call (v := .bool true) (by simpa only [Hv.out] using HVc.out _ (((Ext.refl nil _).alloc _).trans (later_grow _ _)))) | (go_at_call 131; exact later_call_same (v := .bool true) (by simpa only [Hi.out] using inRange_ok s.1[k].2.1 1 s.2 _)))))); refine wpQuiet_nil ?_; rintro _ ⟨x_w2, rfl⟩; have hg_w2 := later_grow _ x_w2; generalize later _ x_w2 = w2 at hg_w2 ⊢)
          have hgr : Grow wr w2 := (by repeat (first | with_reducible exact Ext.refl _ _ | with_reducible refine Ext.trans ?_ (by assumption) | with_reducible refine Ext.drew ?_ | with_reducible refine Ext.drewN ?_ _ | with_reducible refine Ext.alloc ?_ _ | with_reducible refine Ext.setNew ?_ (by simp; done) _ | with_reducible refine Ext.setNew ?_ (by simp; omega) _))
          go_wp2_with fail
          go_roundw
          case rel => exact ⟨rfl, hg.trans hgr, HB.out.grow hgr, k + 1, by omega, by go_num, Lib.hid (by rw [Hr.out, Hs'.out])⟩
          case measure => simp [intOf]; omega
        · have hki : ¬ (0 : Int) < (k : Int) := by omega
          go_wp2_with fail
          (refine wp_region_later (by kernel_rfl) (by kernel_rfl) ?_; (repeat (first | go_big_quiet_step ((first | (go_at_call 82; exact later_call_same (v := .bool true) (by simpa only [Hn.out] using validName_same s.1[k].1 _ hsz)) | (go_at_call 62; exact later_call (v := .bool true) (by simpa only [Hv.out] using HVc.out _ (((Ext.refl nil _).alloc _).trans (later_grow _ _)))) | (go_at_call 131; exact later_call_same (v := .bool true) (by simpa only [Hi.out] using inRange_ok s.1[k].2.1 1 s.2 _)))) | quiet_step ((first | (go_at_call 82; exact later_call_same (v := .bool true) (by simpa only [Hn.out] using validName_same s.1[k].1 _ hsz)) | (go_at_call 62; exact later_call (v := .bool true) (by simpa only [Hv.out] using HVc.out _ (((Ext.refl nil _).alloc _).trans (later_grow _ _)))) | (go_at_call 131; exact later_call_same (v := .bool true) (by simpa only [Hi.out] using inRange_ok s.1[k].2.1 1 s.2 _)))))); refine wpQuiet_nil ?_; rintro _ ⟨x_w2, rfl⟩; have hg_w2 := later_grow _ x_w2; generalize later _ x_w2 = w2 at hg_w2 ⊢)
          have hgr : Grow wr w2 := (by repeat (first | with_reducible exact Ext.refl _ _ | with_reducible refine Ext.trans ?_ (by assumption) | with_reducible refine Ext.drew ?_ | with_reducible refine Ext.drewN ?_ _ | with_reducible refine Ext.alloc ?_ _ | with_reducible refine Ext.setNew ?_ (by simp; done) _ | with_reducible refine Ext.setNew ?_ (by simp; omega) _))
          go_wp2_with fail
          go_roundw
          case rel => exact ⟨rfl, hg.trans hgr, HB.out.grow hgr, k + 1, by omega, by go_num, Lib.hid (by rw [Hr.out, Hs'.out])⟩
          case measure => simp [intOf]; omega
    · have He := Lib.hid (itmsAt_end s.2 s.1 k hlt)
      by_cases hl : s.1.length ≤ 10
      · have Hf : Hid (storeB s = inR s.2 0 999) := Lib.hid (by rw [Hb.out, Hr.out, He.out]; simp [hl])
        go_wp2_with (go_at_call 131; refine (inRange_ok _ _ _ _).mono ?_; rintro e w' ⟨rfl, rfl⟩)
        go_ret
        exact ⟨by simp [Hf.out], hg⟩
      · have Hf : Hid (storeB s = false) := Lib.hid (by rw [Hb.out]; simp [hl])
        go_wp2_with fail
        go_ret
        exact ⟨by simp [Hf.out], hg⟩
end Go.Proofs.Ytgfnmhfdmmnaoaa
namespace Go.Proofs.Ytgfnmhfdmmnaoaa
open Go.RowKit
end Go.Proofs.Ytgfnmhfdmmnaoaa
namespace Go.Proofs.Ytgfnmhfdmmnaoaa
open Go.RowKit
end Go.Proofs.Ytgfnmhfdmmnaoaa
-- EV: store
namespace Go.Proofs.Ytgfnmhfdmmnaoaa.Eng
open Go Go.RowKit
theorem itmRep_shutE {w : World} {S : Nat → Prop} {x : Itm} {na : Option Addr} {nc : Nat} {ka : Option Addr} {kc : Nat} (h1 : x.1.size ≤ big) (h2 : NodeC w S x.2.2 na nc ka kc) : itmRep.R w S x (itmL x na nc ka kc) :=
  ⟨[.string x.1], _, rfl, ⟨rfl, h1⟩, [.int .i64 x.2.1], _, rfl, rfl, na, nc, ka, kc, rfl, h2⟩
theorem items_of_rep {w : World} {ρ : Cx} {t : VC} {l : List Itm} {v : Value} (h : Rep w ρ (.view t 7 (l.map itemL)) v) : ∃ a c, v = .slice a l.length c ∧ SlR itmRep w any a c l := by
  obtain ⟨a, c, rfl, _, h3, h4, h5, h6⟩ := rep_view.1 h
  simp only [List.length_map] at *
  refine ⟨a, c, rfl, h3, h4, ?_⟩
  rcases h6 with h6 | ⟨b, o, ha, _, he⟩
  · exact .inl (List.map_eq_nil_iff.1 h6)
  · refine .inr ⟨b, o, ha, trivial, fun i hi => ?_⟩
    have e := he.get h5 (i := i) (e := itemL l[i]) (by rw [List.getElem?_map, List.getElem?_eq_getElem hi]; rfl)
    rw [itemL_eq] at e
    generalize l[i] = x at *
    obtain ⟨v0, p0, _, q0⟩ := e.get (i := 0) rfl
    obtain ⟨v1, p1, _, q1⟩ := e.get (i := 1) rfl
    obtain ⟨v2, p2, _, q2⟩ := e.get (i := 2) rfl
    obtain ⟨v3, p3, _, q3⟩ := e.get (i := 3) rfl
    obtain ⟨v4, p4, _, q4⟩ := e.get (i := 4) rfl
    obtain ⟨v5, p5, _, q5⟩ := e.get (i := 5) rfl
    obtain ⟨v6, p6, _, q6⟩ := e.get (i := 6) rfl
    rw [rep_str] at q0
    rw [rep_int] at q1 q2 q3
    have q4' := q4
    rw [rep_str] at q4'
    obtain ⟨na, nc, r5, _⟩ := rep_view.1 q5
    obtain ⟨ka, kc, r6, _⟩ := rep_view.1 q6
    rw [strsE_len] at r5
    rw [List.length_map] at r6
    obtain ⟨rfl, hsz⟩ := q0
    obtain ⟨rfl, _⟩ := q4'
    subst q1 q2 q3 r5 r6
    refine ⟨_, ?_, itmRep_shutE hsz (nodeC_of_rep _ ρ na nc ka kc q4 q5 q6)⟩
    intro j u hj
    rw [show itmRep.n = 7 from rfl]
    unfold itmL at hj
    rcases j with _ | _ | _ | _ | _ | _ | _ | j
    · cases hj; exact p0
    · cases hj; exact p1
    · cases hj; exact p2
    · cases hj; exact p3
    · cases hj; exact p4
    · cases hj; exact p5
    · cases hj; exact p6
    · simp at hj
theorem store_of_rep {w : World} {ρ : Cx} {t : VC} {s : Sto} {v : Value} (h : Rep w ρ (storeT t s) v) : RV stoRep packA w any s v := by
  obtain ⟨vs, rfl, _, h2⟩ := rep_agg.1 h
  obtain ⟨v0, v1, rfl, q0, q1⟩ := repL2_inv h2
  rw [rep_int] at q1
  subst q1
  obtain ⟨a, c, rfl, hs⟩ := items_of_rep q0
  exact sto_shut hs
theorem ValidStore_AC (s : Sto) (t : VC) : AC Try.prog 86 [storeT t s] 0 (fun r => r = .bool (storeB s)) := by
  refine AC.ofGrow (enters_of Try.func86 (by kernel_rfl) (by kernel_rfl)) (fun w L S rb vs h => ?_)
  obtain ⟨v, rfl, h1⟩ := repL1_inv h
  refine (ValidStore_ok s v w (store_of_rep h1)).mono ?_
  rintro e w' ⟨rfl, hg⟩
  exact ⟨_, _, rfl, hg, rep_bool.2 rfl, rfl⟩
theorem validStore_AC (s : Sto) (t : VC) : AC Try.prog 81 [storeT t s] 0 (fun r => r = .bool (storeB s)) := by
  refine AC.ofGrow (enters_of Try.func81 (by kernel_rfl) (by kernel_rfl)) (fun w L S rb vs h => ?_)
  obtain ⟨v, rfl, h1⟩ := repL1_inv h
  refine (validStore_ok s v w (store_of_rep h1)).mono ?_
  rintro e w' ⟨rfl, hg⟩
  exact ⟨_, _, rfl, hg, rep_bool.2 rfl, rfl⟩
theorem validName_AC (x : ByteArray) : AC Try.prog 82 [.str x] 0 (fun r => r = .bool (nameB x)) := by
  refine AC.ofGrow (enters_of Try.func82 (by kernel_rfl) (by kernel_rfl)) (fun w L S rb vs h => ?_)
  obtain ⟨v, rfl, h1⟩ := repL1_inv h
  obtain ⟨rfl, hs⟩ := rep_str.1 h1
  refine (validName_same x w hs).mono ?_
  rintro e w' ⟨rfl, rfl⟩
  exact ⟨_, _, rfl, Ext.refl _ _, rep_bool.2 rfl, rfl⟩
theorem isName_AC (x : ByteArray) : AC Try.prog 87 [.str x] 0 (fun r => r = .bool (nameB x)) := by
  refine AC.ofGrow (enters_of Try.func87 (by kernel_rfl) (by kernel_rfl)) (fun w L S rb vs h => ?_)
  obtain ⟨v, rfl, h1⟩ := repL1_inv h
  obtain ⟨rfl, hs⟩ := rep_str.1 h1
  refine (isName_same x w hs).mono ?_
  rintro e w' ⟨rfl, rfl⟩
  exact ⟨_, _, rfl, Ext.refl _ _, rep_bool.2 rfl, rfl⟩
end Go.Proofs.Ytgfnmhfdmmnaoaa.Eng
-- EV: store
namespace Go.Proofs.Ytgfnmhfdmmnaoaa.Eng
open Go Go.RowKit
attribute [local simp] big size_mk ASt.pay Option.map_map Function.comp_def awant aop acall ado aev ofVal ofVal0 ASt.put ASt.add ASt.turn ASt.kill abox aalloc astore aload aloadD astoreD idOf ASt.at cellsTo afieldAddr afield aindexAddr aindex alen abin aint acmp astr aun apick aextract anil aslice abound abuild afill abuildSlice asCells aps avCells over upd aappend asrc amax amin aconv mkSt slots rowsOf_cons rowsOf_nil usedOf_cons usedOf_nil ZK.av List.replicate ASt.back ASt.addL ASt.killL nodeA nodeT nodeTL_eq nodeL_eq strsE_get strsE_len intsE_get intsE_len strsE_at intsE_at itemA itemL_eq storeA storeT storeO itemsRow tab2 tab3 tab4 tab5 tab6 tab7 tab8 tab9 tab10 tab11 tab12 tab13 tab14 tab15 tab16 tab17 tab18 tab19 tab21 tab22 tab23 tab24 tab25 tab26 tab27 tab28 tab29 tab30 tab39 tab40 tab41 tab42 tab43 tab47 tab48 tab55 tab56 tab57 tab60 tab61 tab62 tab73 tab74 tab75 tab85 tab92 tab115 tab116 tab143 tab144 tab145 tab154 tab155 tab170 tab175 tab182 tab197 tab198 tab203 tab204 tab205 tab207 tab208 tab209
theorem storeB_sml {s : Sto} (h : storeB s = true) : s.1.length ≤ 10 ∧ ∀ x ∈ s.1, Sml x.2.2 := ⟨(storeB_parts h).1, fun x hx => by
  have := (storeB_parts h).2.2.2.1 x hx
  unfold itmB at this
  simp only [Bool.and_eq_true] at this
  exact valid_sml this.2⟩
theorem storeB_smlS {s : Sto} (h : storeB s = true) : SmlS s := ⟨by have := (storeB_sml h).1; omega, (storeB_sml h).2⟩
def dropL (nm : ByteArray) : List Itm → List Itm
  | [] => []
  | x :: l => (if eqs x.1 nm then [] else [x]) ++ dropL nm l
def dropS (s : Sto) (nm : ByteArray) : Sto := (dropL nm s.1, s.2 + 1)
theorem drop_ACR (t : VC) (s : Sto) (nm : ByteArray) (hs : SmlS s) (hc : 0 ≤ s.2 ∧ s.2 ≤ 1000000) : ACR Try.prog 115 [storeT t s, .str nm] 0 (fun _ => False) (fun f R => f = storeO (dropS s nm) ∧ R = itemsRow (dropS s nm)) := by
  obtain ⟨hs1, hs2⟩ := id hs
  have hw0 : IntKind.i64.wrap (s.2 + 1) = s.2 + 1 := i64_nat (by omega) (by omega)
  unfold storeT
  refine ACR.of tab_ok mixed_ok Try.func115 (by rfl) (by kernel_rfl) ?_; rintro ⟨P, T, hT, hm, w0, S0, rd0, k0⟩ hP hTT; dsimp only at hP hTT; subst hP hTT; unfold initSt; rw [Try.ntmps115]
  (repeat (first | with_reducible refine AW.seq ?_ | ((first | refine arun_kn 4 rfl (fun C hC => ?_) | refine arunD_kn 4 rfl (fun C hC => ?_)); (repeat ((conv => whnf); simp [hw0])); refine hC _ ?_; clear hC C; simp only [List.drop, Nat.reduceAdd]) | ((first | refine arun_kn 1 rfl (fun C hC => ?_) | refine arunD_kn 1 rfl (fun C hC => ?_)); (repeat ((conv => whnf); simp [hw0])); refine hC _ ?_; clear hC C; simp only [List.drop, Nat.reduceAdd]) | (refine arun_skip ?_ ?_; (focus (simp [awant, hw0]; done))) | (refine arun_c0 (copyStore_AC t s hs) ?_; rintro _ rfl) | (refine AW.regionK [] (fun K hK => ?_)) | (refine AW.regionDK [] (pcs [] []) (by kernel_rfl) (by kernel_rfl) (fun K hK => ?_)) | (refine AW.condT ?_ ?_; (focus (simp [aev, hw0]; done))) | (refine AW.condF ?_ ?_; (focus (simp [aev, hw0]; done))) | with_reducible refine AW.block ?_ | ((first | ((first | refine arun_nil ?_ | refine arunD_nil ?_); refine hK _ ?_; clear hK K) | refine AW.skip ?_ | refine AW.exit ?_ | refine AW.ret ?_); simp only [thenA_exit, inBlockA_exit, if_true, if_false, Nat.reduceEqDiff, thenA_normal, inBlockA_normal, reduceIte, thenA_ret, inBlockA_ret, endQ_ret, endR_ret, endG_ret, endQ_normal, endR_normal, endG_normal])))
  refine AW.adopt 5 5 116 7 ⟨_, tab116, rfl⟩ rfl (by simp [upd]) ?_
  simp only [ASt.adopt, ASt.add]
  refine AW.loopS (fun (x : Nat × List Itm) => mkSt (slots 0 37 [(1, .str nm), (2, .ptr true 2 1 2 0 0), (4, .ptr true 2 1 4 0 0), (5, .own 5 x.2.length), (6, .view .loose 7 (s.1.map itemL)), (7, .int .i64 x.1)]) [(2, ⟨true, 62, 2, [[.view t 7 (s.1.map itemL), .int .i64 s.2]]⟩), (4, ⟨true, 62, 2, [[.view .tight 0 [], .int .i64 0]]⟩), (5, ⟨false, 116, 7, x.2.map itemL⟩)] [2, 4, 5] (rd0.map fun _ => 0)) (fun x => s.1.length - x.1) (fun x => x.1 ≤ s.1.length ∧ dropL nm s.1 = x.2 ++ dropL nm (s.1.drop x.1) ∧ x.2.length ≤ x.1) (0, []) ?_ ⟨Nat.zero_le _, rfl, by simp⟩ ?_
  · dsimp only [List.map_nil, List.length_nil]
    exact less_s
  · rintro ⟨i, acc⟩ ⟨hi, hf, ha⟩
    dsimp only at hi hf ha ⊢
    have hl : (acc.map itemL).length = acc.length := List.length_map _
    by_cases hlt : i < s.1.length
    · have hb1 : (acc.length + 1) * 104 ≤ 140737488355328 := by omega
      have hb2 : acc.length + 1 ≤ 140737488355328 := by clear hb1; omega
      have hw : IntKind.i64.wrap ((i : Int) + 1) = (i : Int) + 1 := i64_nat (by clear hb1 hb2; omega) (by clear hb1 hb2; omega)
      have hd : s.1.drop i = s.1[i] :: s.1.drop (i + 1) := List.drop_eq_getElem_cons hlt
      rw [hd, dropL] at hf
      cases h2 : eqs s.1[i].1 nm <;> rw [h2] at hf
      · (repeat (first | with_reducible refine AW.seq ?_ | ((first | refine arun_kn 4 rfl (fun C hC => ?_) | refine arunD_kn 4 rfl (fun C hC => ?_)); (repeat ((conv => whnf); simp [hlt, hw, h2, hl, hb1, hb2])); refine hC _ ?_; clear hC C; simp only [List.drop, Nat.reduceAdd]) | ((first | refine arun_kn 1 rfl (fun C hC => ?_) | refine arunD_kn 1 rfl (fun C hC => ?_)); (repeat ((conv => whnf); simp [hlt, hw, h2, hl, hb1, hb2])); refine hC _ ?_; clear hC C; simp only [List.drop, Nat.reduceAdd]) | (refine arun_skip ?_ ?_; (focus (simp [awant, hlt, hw, h2, hl, hb1, hb2]; done))) | (refine AW.regionK [] (fun K hK => ?_)) | (refine AW.regionDK [] (pcs [] []) (by kernel_rfl) (by kernel_rfl) (fun K hK => ?_)) | (refine AW.condT ?_ ?_; (focus (simp [aev, hlt, hw, h2, hl, hb1, hb2]; done))) | (refine AW.condF ?_ ?_; (focus (simp [aev, hlt, hw, h2, hl, hb1, hb2]; done))) | with_reducible refine AW.block ?_ | ((first | ((first | refine arun_nil ?_ | refine arunD_nil ?_); refine hK _ ?_; clear hK K) | refine AW.skip ?_ | refine AW.exit ?_ | refine AW.ret ?_); simp only [thenA_exit, inBlockA_exit, if_true, if_false, Nat.reduceEqDiff, thenA_normal, inBlockA_normal, reduceIte, thenA_ret, inBlockA_ret, endQ_ret, endR_ret, endG_ret, endQ_normal, endR_normal, endG_normal])))
        clear hb1 hb2
        refine ⟨(i + 1, acc ++ [s.1[i]]), by dsimp only; omega, ⟨by dsimp only; omega, by rw [hf]; simp, by simp only [List.length_append, List.length_cons, List.length_nil]; omega⟩, ?_⟩
        simp only [List.map_append, List.map_cons, List.map_nil, List.length_append, List.length_cons, List.length_nil]
        exact less_s
      · (repeat (first | with_reducible refine AW.seq ?_ | ((first | refine arun_kn 4 rfl (fun C hC => ?_) | refine arunD_kn 4 rfl (fun C hC => ?_)); (repeat ((conv => whnf); simp [hlt, hw, h2])); refine hC _ ?_; clear hC C; simp only [List.drop, Nat.reduceAdd]) | ((first | refine arun_kn 1 rfl (fun C hC => ?_) | refine arunD_kn 1 rfl (fun C hC => ?_)); (repeat ((conv => whnf); simp [hlt, hw, h2])); refine hC _ ?_; clear hC C; simp only [List.drop, Nat.reduceAdd]) | (refine arun_skip ?_ ?_; (focus (simp [awant, hlt, hw, h2]; done))) | (refine AW.regionK [] (fun K hK => ?_)) | (refine AW.regionDK [] (pcs [] []) (by kernel_rfl) (by kernel_rfl) (fun K hK => ?_)) | (refine AW.condT ?_ ?_; (focus (simp [aev, hlt, hw, h2]; done))) | (refine AW.condF ?_ ?_; (focus (simp [aev, hlt, hw, h2]; done))) | with_reducible refine AW.block ?_ | ((first | ((first | refine arun_nil ?_ | refine arunD_nil ?_); refine hK _ ?_; clear hK K) | refine AW.skip ?_ | refine AW.exit ?_ | refine AW.ret ?_); simp only [thenA_exit, inBlockA_exit, if_true, if_false, Nat.reduceEqDiff, thenA_normal, inBlockA_normal, reduceIte, thenA_ret, inBlockA_ret, endQ_ret, endR_ret, endG_ret, endQ_normal, endR_normal, endG_normal])))
        clear hb1 hb2
        refine ⟨(i + 1, acc), by dsimp only; omega, ⟨by dsimp only; omega, by rw [hf]; simp, by dsimp only; omega⟩, ?_⟩
        dsimp only
        exact less_s
    · have hi' : s.1.drop i = [] := List.drop_eq_nil_of_le (by omega)
      rw [hi', dropL] at hf
      (repeat (first | with_reducible refine AW.seq ?_ | ((first | refine arun_kn 4 rfl (fun C hC => ?_) | refine arunD_kn 4 rfl (fun C hC => ?_)); (repeat ((conv => whnf); simp [hlt, hw0, hl])); refine hC _ ?_; clear hC C; simp only [List.drop, Nat.reduceAdd]) | ((first | refine arun_kn 1 rfl (fun C hC => ?_) | refine arunD_kn 1 rfl (fun C hC => ?_)); (repeat ((conv => whnf); simp [hlt, hw0, hl])); refine hC _ ?_; clear hC C; simp only [List.drop, Nat.reduceAdd]) | (refine arun_skip ?_ ?_; (focus (simp [awant, hlt, hw0, hl]; done))) | (refine AW.regionK [] (fun K hK => ?_)) | (refine AW.regionDK [] (pcs [] []) (by kernel_rfl) (by kernel_rfl) (fun K hK => ?_)) | (refine AW.condT ?_ ?_; (focus (simp [aev, hlt, hw0, hl]; done))) | (refine AW.condF ?_ ?_; (focus (simp [aev, hlt, hw0, hl]; done))) | with_reducible refine AW.block ?_ | ((first | ((first | refine arun_nil ?_ | refine arunD_nil ?_); refine hK _ ?_; clear hK K) | refine AW.skip ?_ | refine AW.exit ?_ | refine AW.ret ?_); simp only [thenA_exit, inBlockA_exit, if_true, if_false, Nat.reduceEqDiff, thenA_normal, inBlockA_normal, reduceIte, thenA_ret, inBlockA_ret, endQ_ret, endR_ret, endG_ret, endQ_normal, endR_normal, endG_normal])))
      have e : dropS s nm = (acc, s.2 + 1) := by unfold dropS; rw [hf]; simp
      exact ⟨storeO (dropS s nm) 5, by rw [e]; simp [ares, aresL, upd, rowsOf_cons], .inr ⟨storeO (dropS s nm), 5, itemsRow (dropS s nm), rfl, by rw [e]; simp [upd, rowsOf_cons, itemsRow], storeO_res _ 5, itemsE_pur _, rfl, rfl⟩⟩
def storeZ : AV := .agg [.view .tight 0 [], .int .i64 0]
def okS (b : Bool) (s : Sto) : Sto := if b then s else ([], 0)
def Res0 (b : Bool) (r : AV) : Prop := b = false ∧ r = .tup [storeZ, .bool false]
def Res (b : Bool) (s : Sto) (f : Nat → AV) (R : Row) : Prop := b = true ∧ f = (fun id => .tup [storeO s id, .bool true]) ∧ R = itemsRow s
def ResS (b : Bool) (s : Sto) (f : Nat → AV) (R : Row) : Prop := f = (fun id => .tup [storeO (okS b s) id, .bool b]) ∧ R = itemsRow (okS b s)
theorem tup_res (s : Sto) (b : Bool) (id0 : Nat) : Res1 id0 (fun id => .tup [storeO s id, .bool b]) := Res1.tup [fun id => storeO s id, fun _ => .bool b] (by
  simp only [List.forall_mem_cons, List.not_mem_nil, false_implies, implies_true, and_true]
  exact ⟨storeO_res s id0, Res1.pur _ pur_bool⟩)
theorem storeZ_pur : Pur (.tup [storeZ, .bool false]) := pur_tup (by
  simp only [List.forall_mem_cons, List.not_mem_nil, false_implies, implies_true, and_true]
  exact ⟨pur_agg (by
    simp only [List.forall_mem_cons, List.not_mem_nil, false_implies, implies_true, and_true]
    exact ⟨pur_view (by decide) (fun e he => by cases he), pur_int⟩), pur_bool⟩)
theorem ACR.rowS {f : FuncId} {args : List AV} {c : Nat} {b : Bool} {s : Sto} (h : ACR Try.prog f args c (Res0 b) (Res b s)) : ACR Try.prog f args c (fun _ => False) (ResS b s) :=
  ⟨h.1, fun w L S rb k vs g0 h1 h2 h3 => (h.2 w L S rb k vs g0 h1 h2 h3).mono fun e w' ⟨v, S', k1, k2, k3, k4, k5, k6⟩ => ⟨v, S', k1, k2, k3, k4, k5, .inr (by
    rcases k6 with ⟨r, q1, rfl, rfl⟩ | ⟨r, R, u, q1, q2, q3, rfl, rfl, rfl⟩
    · obtain ⟨vs, rfl, hl⟩ := rep_tup.1 q1
      obtain ⟨v0, v1, rfl, r0, r1⟩ := repL2_inv hl
      obtain ⟨us, rfl, hone, hl2⟩ := rep_agg.1 r0
      obtain ⟨u0, u1, rfl, t0, t1⟩ := repL2_inv hl2
      obtain ⟨a, c', rfl, ht, _⟩ := rep_view.1 t0
      have hc := ht rfl
      simp only [List.length_nil] at hc
      subst hc
      have le : ∀ id, Cx.Le w' (pureC nil S' none) w' (oneC S' id (.slice a 0 0) 0) := fun id => ⟨fun b hb => ⟨hb, fun _ => rfl⟩, fun b hb => False.elim hb, fun id' hid' => False.elim hid', fun _ h => by cases h⟩
      refine ⟨fun id => .tup [storeO (okS false s) id, .bool false], itemsRow (okS false s), .slice a 0 0, fun id => ?_, ⟨⟨cells_of tab116, fun g hg => by cases a <;> simp [blk] at hg⟩, ?_, (fun h => by cases h), [], .inl ⟨rfl, rfl, _, rfl⟩, ?_, fun u hu => by cases hu⟩, fun g hg => by cases a <;> simp [blk] at hg, rfl, rfl⟩
      · simp only [okS, itemsRow, storeO, List.map_nil, List.length_nil, Bool.false_eq_true, if_false]
        exact rep_tup.2 ⟨_, rfl, repL2 (rep_agg.2 ⟨_, rfl, hone, repL2 (rep_own.2 ⟨rfl, by simp [oneC], ⟨a, 0, rfl, .inl rfl⟩, fun u hu _ => by simp [oneC] at hu; exact hu⟩) (t1.le (le id))⟩) (r1.le (le id))⟩
      · simp [okS, itemsRow]
      · simp only [okS, itemsRow, Bool.false_eq_true, if_false, List.map_nil, List.flatten_nil]; unfold RepL; rfl
    · exact ⟨_, _, u, q1, q2, q3, rfl, rfl⟩)⟩⟩
theorem sub_tup2 {id n : Nat} {c a b : AV} : AV.sub id n c (.tup [a, b]) = .tup [AV.sub id n c a, AV.sub id n c b] := by
  conv => lhs; unfold AV.sub
  rw [subL_cons, subL_cons, subL_nil]
theorem sub_bool {id n : Nat} {c : AV} {b : Bool} : AV.sub id n c (.bool b) = .bool b := by unfold AV.sub; rfl
theorem AC.ofRes {f : FuncId} {args : List AV} {c : Nat} {b : Bool} {s : Sto} (h : ACR Try.prog f args c (fun _ => False) (ResS b s)) : AC Try.prog f args c (fun r => r = .tup [storeA (okS b s), .bool b]) := by
  have e : ∀ x : Sto, AV.sub 0 (itemsRow x).es.length (.view .loose (itemsRow x).sz (itemsRow x).es) (.tup [storeO x 0, .bool b]) = .tup [storeA x, .bool b] := fun x => by
    rw [sub_tup2, storeO_sub, sub_bool]
  refine (AC.ofR h ?_).mono ?_
  · rintro r R ⟨rfl, rfl⟩
    rw [e]
    exact in_tup.2 (by
      simp only [List.forall_mem_cons, List.not_mem_nil, false_implies, implies_true, and_true]
      exact ⟨storeA_in _, in_bool⟩)
  · rintro r (h | ⟨f, R, ⟨rfl, rfl⟩, rfl⟩)
    · exact h.elim
    · exact e _
def putOk (s : Sto) (nm : ByteArray) (n : Nd) : Bool := storeB s && nameB nm && validB n && storeB (putS s nm n)
def dropOk (s : Sto) (nm : ByteArray) : Bool := storeB s && !(decide (findI s nm < 0)) && !(s.2 == 999)
theorem specPut_ACR0 (t t' : VC) (s : Sto) (nm : ByteArray) (n : Nd) : ACR Try.prog 30 [storeT t s, .str nm, nodeT t' n] 0 (Res0 (putOk s nm n)) (Res (putOk s nm n) (putS s nm n)) := by
  unfold storeT nodeT
  rw [nodeTL_eq]
  refine ACR.of tab_ok mixed_ok Try.func30 (by rfl) (by kernel_rfl) ?_; rintro ⟨P, T, hT, hm, w0, S0, rd0, k0⟩ hP hTT; dsimp only at hP hTT; subst hP hTT; unfold initSt; rw [Try.ntmps30]
  cases h1 : storeB s
  · (repeat (first | with_reducible refine AW.seq ?_ | ((first | refine arun_kn 4 rfl (fun C hC => ?_) | refine arunD_kn 4 rfl (fun C hC => ?_)); (repeat ((conv => whnf); simp [h1])); refine hC _ ?_; clear hC C; simp only [List.drop, Nat.reduceAdd]) | ((first | refine arun_kn 1 rfl (fun C hC => ?_) | refine arunD_kn 1 rfl (fun C hC => ?_)); (repeat ((conv => whnf); simp [h1])); refine hC _ ?_; clear hC C; simp only [List.drop, Nat.reduceAdd]) | (refine arun_skip ?_ ?_; (focus (simp [awant, h1]; done))) | (refine arun_c0 (validStore_AC s t) ?_; rintro _ rfl) | (refine AW.regionK [] (fun K hK => ?_)) | (refine AW.regionDK [] (pcs [] []) (by kernel_rfl) (by kernel_rfl) (fun K hK => ?_)) | (refine AW.condT ?_ ?_; (focus (simp [aev, h1]; done))) | (refine AW.condF ?_ ?_; (focus (simp [aev, h1]; done))) | with_reducible refine AW.block ?_ | ((first | ((first | refine arun_nil ?_ | refine arunD_nil ?_); refine hK _ ?_; clear hK K) | refine AW.skip ?_ | refine AW.exit ?_ | refine AW.ret ?_); simp only [thenA_exit, inBlockA_exit, if_true, if_false, Nat.reduceEqDiff, thenA_normal, inBlockA_normal, reduceIte, thenA_ret, inBlockA_ret, endQ_ret, endR_ret, endG_ret, endQ_normal, endR_normal, endG_normal])))
    exact ⟨_, by simp [ares, aresL, upd, rowsOf_cons]; rfl, .inl ⟨storeZ_pur, by simp [putOk, h1], rfl⟩⟩
  cases h2 : nameB nm
  · (repeat (first | with_reducible refine AW.seq ?_ | ((first | refine arun_kn 4 rfl (fun C hC => ?_) | refine arunD_kn 4 rfl (fun C hC => ?_)); (repeat ((conv => whnf); simp [h1, h2])); refine hC _ ?_; clear hC C; simp only [List.drop, Nat.reduceAdd]) | ((first | refine arun_kn 1 rfl (fun C hC => ?_) | refine arunD_kn 1 rfl (fun C hC => ?_)); (repeat ((conv => whnf); simp [h1, h2])); refine hC _ ?_; clear hC C; simp only [List.drop, Nat.reduceAdd]) | (refine arun_skip ?_ ?_; (focus (simp [awant, h1, h2]; done))) | (refine arun_c0 (validStore_AC s t) ?_; rintro _ rfl) | (refine arun_c0 (validName_AC nm) ?_; rintro _ rfl) | (refine AW.regionK [] (fun K hK => ?_)) | (refine AW.regionDK [] (pcs [] []) (by kernel_rfl) (by kernel_rfl) (fun K hK => ?_)) | (refine AW.condT ?_ ?_; (focus (simp [aev, h1, h2]; done))) | (refine AW.condF ?_ ?_; (focus (simp [aev, h1, h2]; done))) | with_reducible refine AW.block ?_ | ((first | ((first | refine arun_nil ?_ | refine arunD_nil ?_); refine hK _ ?_; clear hK K) | refine AW.skip ?_ | refine AW.exit ?_ | refine AW.ret ?_); simp only [thenA_exit, inBlockA_exit, if_true, if_false, Nat.reduceEqDiff, thenA_normal, inBlockA_normal, reduceIte, thenA_ret, inBlockA_ret, endQ_ret, endR_ret, endG_ret, endQ_normal, endR_normal, endG_normal])))
    exact ⟨_, by simp [ares, aresL, upd, rowsOf_cons]; rfl, .inl ⟨storeZ_pur, by simp [putOk, h1, h2], rfl⟩⟩
  cases h3 : validB n
  · (repeat (first | with_reducible refine AW.seq ?_ | ((first | refine arun_kn 4 rfl (fun C hC => ?_) | refine arunD_kn 4 rfl (fun C hC => ?_)); (repeat ((conv => whnf); simp [h1, h2, h3])); refine hC _ ?_; clear hC C; simp only [List.drop, Nat.reduceAdd]) | ((first | refine arun_kn 1 rfl (fun C hC => ?_) | refine arunD_kn 1 rfl (fun C hC => ?_)); (repeat ((conv => whnf); simp [h1, h2, h3])); refine hC _ ?_; clear hC C; simp only [List.drop, Nat.reduceAdd]) | (refine arun_skip ?_ ?_; (focus (simp [awant, h1, h2, h3]; done))) | (refine arun_c0 (validStore_AC s t) ?_; rintro _ rfl) | (refine arun_c0 (validName_AC nm) ?_; rintro _ rfl) | (refine arun_c0 (validNode_AC n t') ?_; rintro _ rfl) | (refine AW.regionK [] (fun K hK => ?_)) | (refine AW.regionDK [] (pcs [] []) (by kernel_rfl) (by kernel_rfl) (fun K hK => ?_)) | (refine AW.condT ?_ ?_; (focus (simp [aev, h1, h2, h3]; done))) | (refine AW.condF ?_ ?_; (focus (simp [aev, h1, h2, h3]; done))) | with_reducible refine AW.block ?_ | ((first | ((first | refine arun_nil ?_ | refine arunD_nil ?_); refine hK _ ?_; clear hK K) | refine AW.skip ?_ | refine AW.exit ?_ | refine AW.ret ?_); simp only [thenA_exit, inBlockA_exit, if_true, if_false, Nat.reduceEqDiff, thenA_normal, inBlockA_normal, reduceIte, thenA_ret, inBlockA_ret, endQ_ret, endR_ret, endG_ret, endQ_normal, endR_normal, endG_normal])))
    exact ⟨_, by simp [ares, aresL, upd, rowsOf_cons]; rfl, .inl ⟨storeZ_pur, by simp [putOk, h1, h2, h3], rfl⟩⟩
  obtain ⟨_, q1, q2, _⟩ := storeB_parts h1
  have hput := put_ACR t t' s nm n (storeB_smlS h1) (valid_sml h3) ⟨q1, by omega⟩
  cases h4 : storeB (putS s nm n)
  · (repeat (first | with_reducible refine AW.seq ?_ | ((first | refine arun_kn 4 rfl (fun C hC => ?_) | refine arunD_kn 4 rfl (fun C hC => ?_)); (repeat ((conv => whnf); simp [h1, h2, h3, h4])); refine hC _ ?_; clear hC C; simp only [List.drop, Nat.reduceAdd]) | ((first | refine arun_kn 1 rfl (fun C hC => ?_) | refine arunD_kn 1 rfl (fun C hC => ?_)); (repeat ((conv => whnf); simp [h1, h2, h3, h4])); refine hC _ ?_; clear hC C; simp only [List.drop, Nat.reduceAdd]) | (refine arun_skip ?_ ?_; (focus (simp [awant, h1, h2, h3, h4]; done))) | (refine arun_c0 (validStore_AC s t) ?_; rintro _ rfl) | (refine arun_c0 (validName_AC nm) ?_; rintro _ rfl) | (refine arun_c0 (validNode_AC n t') ?_; rintro _ rfl) | (refine arun_cR (0) 90 (hput) ?_; (rintro _ _ ⟨rfl, rfl⟩)) | (refine arun_cL (0) (validStore_AC (putS s nm n) .lent) ?_; rintro _ rfl) | (refine AW.regionK [] (fun K hK => ?_)) | (refine AW.regionDK [] (pcs [] []) (by kernel_rfl) (by kernel_rfl) (fun K hK => ?_)) | (refine AW.condT ?_ ?_; (focus (simp [aev, h1, h2, h3, h4]; done))) | (refine AW.condF ?_ ?_; (focus (simp [aev, h1, h2, h3, h4]; done))) | with_reducible refine AW.block ?_ | ((first | ((first | refine arun_nil ?_ | refine arunD_nil ?_); refine hK _ ?_; clear hK K) | refine AW.skip ?_ | refine AW.exit ?_ | refine AW.ret ?_); simp only [thenA_exit, inBlockA_exit, if_true, if_false, Nat.reduceEqDiff, thenA_normal, inBlockA_normal, reduceIte, thenA_ret, inBlockA_ret, endQ_ret, endR_ret, endG_ret, endQ_normal, endR_normal, endG_normal])))
    exact ⟨_, by simp [ares, aresL, upd, rowsOf_cons]; rfl, .inl ⟨storeZ_pur, by simp [putOk, h1, h2, h3, h4], rfl⟩⟩
  · (repeat (first | with_reducible refine AW.seq ?_ | ((first | refine arun_kn 4 rfl (fun C hC => ?_) | refine arunD_kn 4 rfl (fun C hC => ?_)); (repeat ((conv => whnf); simp [h1, h2, h3, h4])); refine hC _ ?_; clear hC C; simp only [List.drop, Nat.reduceAdd]) | ((first | refine arun_kn 1 rfl (fun C hC => ?_) | refine arunD_kn 1 rfl (fun C hC => ?_)); (repeat ((conv => whnf); simp [h1, h2, h3, h4])); refine hC _ ?_; clear hC C; simp only [List.drop, Nat.reduceAdd]) | (refine arun_skip ?_ ?_; (focus (simp [awant, h1, h2, h3, h4]; done))) | (refine arun_c0 (validStore_AC s t) ?_; rintro _ rfl) | (refine arun_c0 (validName_AC nm) ?_; rintro _ rfl) | (refine arun_c0 (validNode_AC n t') ?_; rintro _ rfl) | (refine arun_cR (0) 90 (hput) ?_; (rintro _ _ ⟨rfl, rfl⟩)) | (refine arun_cL (0) (validStore_AC (putS s nm n) .lent) ?_; rintro _ rfl) | (refine AW.regionK [] (fun K hK => ?_)) | (refine AW.regionDK [] (pcs [] []) (by kernel_rfl) (by kernel_rfl) (fun K hK => ?_)) | (refine AW.condT ?_ ?_; (focus (simp [aev, h1, h2, h3, h4]; done))) | (refine AW.condF ?_ ?_; (focus (simp [aev, h1, h2, h3, h4]; done))) | with_reducible refine AW.block ?_ | ((first | ((first | refine arun_nil ?_ | refine arunD_nil ?_); refine hK _ ?_; clear hK K) | refine AW.skip ?_ | refine AW.exit ?_ | refine AW.ret ?_); simp only [thenA_exit, inBlockA_exit, if_true, if_false, Nat.reduceEqDiff, thenA_normal, inBlockA_normal, reduceIte, thenA_ret, inBlockA_ret, endQ_ret, endR_ret, endG_ret, endQ_normal, endR_normal, endG_normal])))
    exact ⟨.tup [storeO (putS s nm n) 90, .bool true], by simp [ares, aresL, upd, rowsOf_cons], .inr ⟨fun id => .tup [storeO (putS s nm n) id, .bool true], 90, itemsRow (putS s nm n), rfl, by simp [upd, itemsRow], tup_res _ true 90, itemsE_pur _, by simp [putOk, h1, h2, h3, h4], rfl, rfl⟩⟩
theorem specPut_ACR (t t' : VC) (s : Sto) (nm : ByteArray) (n : Nd) : ACR Try.prog 30 [storeT t s, .str nm, nodeT t' n] 0 (fun _ => False) (ResS (putOk s nm n) (putS s nm n)) := (specPut_ACR0 t t' s nm n).rowS
theorem specPut_AC (t t' : VC) (s : Sto) (nm : ByteArray) (n : Nd) : AC Try.prog 30 [storeT t s, .str nm, nodeT t' n] 0 (fun r => r = .tup [storeA (okS (putOk s nm n) (putS s nm n)), .bool (putOk s nm n)]) := AC.ofRes (specPut_ACR t t' s nm n)
theorem specDrop_ACR0 (t : VC) (s : Sto) (nm : ByteArray) : ACR Try.prog 51 [storeT t s, .str nm] 0 (Res0 (dropOk s nm)) (Res (dropOk s nm) (dropS s nm)) := by
  unfold storeT
  refine ACR.of tab_ok mixed_ok Try.func51 (by rfl) (by kernel_rfl) ?_; rintro ⟨P, T, hT, hm, w0, S0, rd0, k0⟩ hP hTT; dsimp only at hP hTT; subst hP hTT; unfold initSt; rw [Try.ntmps51]
  cases h1 : storeB s
  · (repeat (first | with_reducible refine AW.seq ?_ | ((first | refine arun_kn 4 rfl (fun C hC => ?_) | refine arunD_kn 4 rfl (fun C hC => ?_)); (repeat ((conv => whnf); simp [h1])); refine hC _ ?_; clear hC C; simp only [List.drop, Nat.reduceAdd]) | ((first | refine arun_kn 1 rfl (fun C hC => ?_) | refine arunD_kn 1 rfl (fun C hC => ?_)); (repeat ((conv => whnf); simp [h1])); refine hC _ ?_; clear hC C; simp only [List.drop, Nat.reduceAdd]) | (refine arun_skip ?_ ?_; (focus (simp [awant, h1]; done))) | (refine arun_c0 (validStore_AC s t) ?_; rintro _ rfl) | (refine AW.regionK [] (fun K hK => ?_)) | (refine AW.regionDK [] (pcs [] []) (by kernel_rfl) (by kernel_rfl) (fun K hK => ?_)) | (refine AW.condT ?_ ?_; (focus (simp [aev, h1]; done))) | (refine AW.condF ?_ ?_; (focus (simp [aev, h1]; done))) | with_reducible refine AW.block ?_ | ((first | ((first | refine arun_nil ?_ | refine arunD_nil ?_); refine hK _ ?_; clear hK K) | refine AW.skip ?_ | refine AW.exit ?_ | refine AW.ret ?_); simp only [thenA_exit, inBlockA_exit, if_true, if_false, Nat.reduceEqDiff, thenA_normal, inBlockA_normal, reduceIte, thenA_ret, inBlockA_ret, endQ_ret, endR_ret, endG_ret, endQ_normal, endR_normal, endG_normal])))
    exact ⟨_, by simp [ares, aresL, upd, rowsOf_cons]; rfl, .inl ⟨storeZ_pur, by simp [dropOk, h1], rfl⟩⟩
  obtain ⟨q0, q1, q2, _⟩ := storeB_parts h1
  have hdrop := drop_ACR t s nm (storeB_smlS h1) ⟨q1, by omega⟩
  have hfind := find_AC t s nm (by omega)
  by_cases h2 : findI s nm < 0
  · (repeat (first | with_reducible refine AW.seq ?_ | ((first | refine arun_kn 4 rfl (fun C hC => ?_) | refine arunD_kn 4 rfl (fun C hC => ?_)); (repeat ((conv => whnf); simp [h1, h2])); refine hC _ ?_; clear hC C; simp only [List.drop, Nat.reduceAdd]) | ((first | refine arun_kn 1 rfl (fun C hC => ?_) | refine arunD_kn 1 rfl (fun C hC => ?_)); (repeat ((conv => whnf); simp [h1, h2])); refine hC _ ?_; clear hC C; simp only [List.drop, Nat.reduceAdd]) | (refine arun_skip ?_ ?_; (focus (simp [awant, h1, h2]; done))) | (refine arun_c0 (validStore_AC s t) ?_; rintro _ rfl) | (refine arun_c0 (hfind) ?_; rintro _ rfl) | (refine AW.regionK [] (fun K hK => ?_)) | (refine AW.regionDK [] (pcs [] []) (by kernel_rfl) (by kernel_rfl) (fun K hK => ?_)) | (refine AW.condT ?_ ?_; (focus (simp [aev, h1, h2]; done))) | (refine AW.condF ?_ ?_; (focus (simp [aev, h1, h2]; done))) | with_reducible refine AW.block ?_ | ((first | ((first | refine arun_nil ?_ | refine arunD_nil ?_); refine hK _ ?_; clear hK K) | refine AW.skip ?_ | refine AW.exit ?_ | refine AW.ret ?_); simp only [thenA_exit, inBlockA_exit, if_true, if_false, Nat.reduceEqDiff, thenA_normal, inBlockA_normal, reduceIte, thenA_ret, inBlockA_ret, endQ_ret, endR_ret, endG_ret, endQ_normal, endR_normal, endG_normal])))
    exact ⟨_, by simp [ares, aresL, upd, rowsOf_cons]; rfl, .inl ⟨storeZ_pur, by simp [dropOk, h1, h2], rfl⟩⟩
  cases h3 : (s.2 == 999)
  · (repeat (first | with_reducible refine AW.seq ?_ | ((first | refine arun_kn 4 rfl (fun C hC => ?_) | refine arunD_kn 4 rfl (fun C hC => ?_)); (repeat ((conv => whnf); simp [h1, h2, h3])); refine hC _ ?_; clear hC C; simp only [List.drop, Nat.reduceAdd]) | ((first | refine arun_kn 1 rfl (fun C hC => ?_) | refine arunD_kn 1 rfl (fun C hC => ?_)); (repeat ((conv => whnf); simp [h1, h2, h3])); refine hC _ ?_; clear hC C; simp only [List.drop, Nat.reduceAdd]) | (refine arun_skip ?_ ?_; (focus (simp [awant, h1, h2, h3]; done))) | (refine arun_c0 (validStore_AC s t) ?_; rintro _ rfl) | (refine arun_c0 (hfind) ?_; rintro _ rfl) | (refine arun_cR (0) 90 (hdrop) ?_; (rintro _ _ ⟨rfl, rfl⟩)) | (refine AW.regionK [] (fun K hK => ?_)) | (refine AW.regionDK [] (pcs [] []) (by kernel_rfl) (by kernel_rfl) (fun K hK => ?_)) | (refine AW.condT ?_ ?_; (focus (simp [aev, h1, h2, h3]; done))) | (refine AW.condF ?_ ?_; (focus (simp [aev, h1, h2, h3]; done))) | with_reducible refine AW.block ?_ | ((first | ((first | refine arun_nil ?_ | refine arunD_nil ?_); refine hK _ ?_; clear hK K) | refine AW.skip ?_ | refine AW.exit ?_ | refine AW.ret ?_); simp only [thenA_exit, inBlockA_exit, if_true, if_false, Nat.reduceEqDiff, thenA_normal, inBlockA_normal, reduceIte, thenA_ret, inBlockA_ret, endQ_ret, endR_ret, endG_ret, endQ_normal, endR_normal, endG_normal])))
    exact ⟨.tup [storeO (dropS s nm) 90, .bool true], by simp [ares, aresL, upd, rowsOf_cons], .inr ⟨fun id => .tup [storeO (dropS s nm) id, .bool true], 90, itemsRow (dropS s nm), rfl, by simp [upd, itemsRow], tup_res _ true 90, itemsE_pur _, by simp [dropOk, h1, h2, h3], rfl, rfl⟩⟩
  · (repeat (first | with_reducible refine AW.seq ?_ | ((first | refine arun_kn 4 rfl (fun C hC => ?_) | refine arunD_kn 4 rfl (fun C hC => ?_)); (repeat ((conv => whnf); simp [h1, h2, h3])); refine hC _ ?_; clear hC C; simp only [List.drop, Nat.reduceAdd]) | ((first | refine arun_kn 1 rfl (fun C hC => ?_) | refine arunD_kn 1 rfl (fun C hC => ?_)); (repeat ((conv => whnf); simp [h1, h2, h3])); refine hC _ ?_; clear hC C; simp only [List.drop, Nat.reduceAdd]) | (refine arun_skip ?_ ?_; (focus (simp [awant, h1, h2, h3]; done))) | (refine arun_c0 (validStore_AC s t) ?_; rintro _ rfl) | (refine arun_c0 (hfind) ?_; rintro _ rfl) | (refine AW.regionK [] (fun K hK => ?_)) | (refine AW.regionDK [] (pcs [] []) (by kernel_rfl) (by kernel_rfl) (fun K hK => ?_)) | (refine AW.condT ?_ ?_; (focus (simp [aev, h1, h2, h3]; done))) | (refine AW.condF ?_ ?_; (focus (simp [aev, h1, h2, h3]; done))) | with_reducible refine AW.block ?_ | ((first | ((first | refine arun_nil ?_ | refine arunD_nil ?_); refine hK _ ?_; clear hK K) | refine AW.skip ?_ | refine AW.exit ?_ | refine AW.ret ?_); simp only [thenA_exit, inBlockA_exit, if_true, if_false, Nat.reduceEqDiff, thenA_normal, inBlockA_normal, reduceIte, thenA_ret, inBlockA_ret, endQ_ret, endR_ret, endG_ret, endQ_normal, endR_normal, endG_normal])))
    exact ⟨_, by simp [ares, aresL, upd, rowsOf_cons]; rfl, .inl ⟨storeZ_pur, by simp [dropOk, h1, h2, h3], rfl⟩⟩
theorem specDrop_ACR (t : VC) (s : Sto) (nm : ByteArray) : ACR Try.prog 51 [storeT t s, .str nm] 0 (fun _ => False) (ResS (dropOk s nm) (dropS s nm)) := (specDrop_ACR0 t s nm).rowS
theorem specDrop_AC (t : VC) (s : Sto) (nm : ByteArray) : AC Try.prog 51 [storeT t s, .str nm] 0 (fun r => r = .tup [storeA (okS (dropOk s nm) (dropS s nm)), .bool (dropOk s nm)]) := AC.ofRes (specDrop_ACR t s nm)
end Go.Proofs.Ytgfnmhfdmmnaoaa.Eng
namespace Go.Proofs.Ytgfnmhfdmmnaoaa
open Go.RowKit
theorem mkR_get' {α : Type} (mk : Nat → α → α) (cnt : α → Nat) : ∀ (k : Nat) (l : List α) (j : Nat) (h : j < l.length) (h' : j < (mkR mk cnt k l).length), (mkR mk cnt k l)[j] = mk (k + cntR cnt (l.take j)) l[j]
  | k, x :: l, 0, _, _ => by simp [mkR, cntR]
  | k, x :: l, j + 1, h, h' => by
    have := mkR_get' mk cnt (k + cnt x) l j (by simpa using h) (by simpa [mkR] using h')
    simp only [mkR, List.getElem_cons_succ, List.take_succ_cons]
    rw [this]
    simp [cntR, Nat.add_assoc]
end Go.Proofs.Ytgfnmhfdmmnaoaa
namespace Go.Proofs.Ytgfnmhfdmmnaoaa
open Go Go.RowKit
section
variable {α : Type} {E : Rep α}
variable {B : Nat} {T : TypeId} {w w' w0 : World} {t : Value} {l : List α}
end
end Go.Proofs.Ytgfnmhfdmmnaoaa
namespace Go.Proofs.Ytgfnmhfdmmnaoaa
open Go.RowKit
end Go.Proofs.Ytgfnmhfdmmnaoaa
namespace Go.Proofs.Ytgfnmhfdmmnaoaa
open Go.RowKit
end Go.Proofs.Ytgfnmhfdmmnaoaa
namespace Go.Proofs.Ytgfnmhfdmmnaoaa
open Go.RowKit
def nmL (l : List Itm) : List ByteArray := l.map (·.1)
theorem nmL_len (l : List Itm) : (nmL l).length = l.length := by simp [nmL]
theorem nmL_get (l : List Itm) (i : Nat) (h : i < (nmL l).length) : (nmL l)[i] = (l[i]'(by rw [nmL_len] at h; exact h)).1 := by simp [nmL]
theorem sgnT_lt {a b : ByteArray} (h : lt a b = true) : sgnT a b = -1 := by unfold sgnT; rw [if_pos h]
theorem sgnT_ge {a b : ByteArray} (h : lt a b = false) : 0 ≤ sgnT a b ∧ sgnT a b ≤ 1 := by unfold sgnT; rw [if_neg (by simp [h])]; split <;> omega
theorem findCl_ok (x : Itm) (cs : List Value) (s : ByteArray) (w : World) (hx : itmRep.R w any x cs) :
    Calls Try.prog 153 #[.agg cs.toArray, .string s] w fun e w' => e = .returned (.int .i64 (sgnT x.1 s)) ∧ Grow w w' := by
  obtain ⟨na2, nc2, ka2, kc2, rfl, h0, h2⟩ := itmRep_open hx
  clear hx h2
  unfold itmL
  go_enter Try.func153, Try.ntmps153
  go_wp2_with fail
  refine (stringsCompare_ok _ _ _).mono ?_
  rintro e w' ⟨rfl, rfl⟩
  go_wp2_with fail
  go_ret
  exact ⟨by simp, (by repeat (first | with_reducible exact Ext.refl _ _ | with_reducible refine Ext.trans ?_ (by assumption) | with_reducible refine Ext.drew ?_ | with_reducible refine Ext.drewN ?_ _ | with_reducible refine Ext.alloc ?_ _ | with_reducible refine Ext.setNew ?_ (by simp; done) _ | with_reducible refine Ext.setNew ?_ (by simp; omega) _))⟩
theorem bsF_ok (l : List Itm) (a : Option Addr) (c : Nat) (s : ByteArray) (w : World) (ha : SlR itmRep w any a c l) (hsort : Asc (nmL l)) (hbig : l.length ≤ 1000000) :
    Calls Try.prog 152 #[.slice a l.length c, .string s, .func (.func 153) #[] #[]] w
      fun e w' => e = .returned (.tuple #[.int .i64 (lbound (nmL l) s : Nat), .bool (mem (nmL l) s)]) ∧ Grow w w' := by
  have Ha := Lib.hid ha
  have S := Lib.hid hsort
  have hln := nmL_len l
  have Hln := Lib.hid hln
  clear ha hsort hln
  go_enter Try.func152, Try.ntmps152
  go_wp2
  go_loopg [9, 10] l.length (fun g s7 s8 wr => ∃ lo hi : Nat, s7 = .int .i64 lo ∧ s8 = .int .i64 hi ∧ lo ≤ hi ∧ hi ≤ l.length ∧ hi - lo ≤ g ∧ Grow w wr ∧ (∀ t (h : t < (nmL l).length), t < lo → lt (nmL l)[t] s = true) ∧ (∀ t (h : t < (nmL l).length), hi ≤ t → lt (nmL l)[t] s = false))
  case atStart => exact ⟨0, l.length, rfl, rfl, Nat.zero_le _, Nat.le_refl _, by omega, Ext.refl _ _, fun t _ ht => absurd ht (Nat.not_lt_zero _), fun t h1 h2 => by rw [Hln.out] at h1; omega⟩
  case round =>
    obtain ⟨lo, hi, rfl, rfl, hlh, hin, hg, hgr, h1, h2⟩ := hrel
    have I1 := Lib.hid h1
    have I2 := Lib.hid h2
    clear h1 h2
    by_cases hlt : lo < hi
    · obtain ⟨_, _, hks⟩ := (Ha.out).grow hgr
      rcases hks with rfl | ⟨bk, ok, rfl, _, hkr⟩
      · exfalso; simp at hin; omega
      have hm : (lo + hi) / 2 < l.length := by omega
      obtain ⟨m, hmm⟩ : ∃ m, m = (lo + hi) / 2 := ⟨_, rfl⟩
      have hmI : ((lo : Int) + (hi : Int)) / 2 = (m : Int) := by omega
      have hml : m < l.length := by rw [hmm]; exact hm
      obtain ⟨cs, hcs, hx⟩ := hkr m hml
      obtain ⟨na0, nc0, ka0, kc0, rfl, hsz, h0⟩ := itmRep_open hx
      rw [itmRep_n] at hcs
      have x0 : wr.cell? ⟨bk, ok + m * 7, none⟩ = _ := hcs 0 _ rfl
      have x1 := hcs 1 _ rfl
      have x2 := hcs 2 _ rfl
      have x3 := hcs 3 _ rfl
      have x4 := hcs 4 _ rfl
      have x5 := hcs 5 _ rfl
      have x6 := hcs 6 _ rfl
      have Hx := Lib.hid hx
      have hgm : (nmL l)[m]'(by rw [Hln.out]; exact hml) = l[m].1 := nmL_get l m _
      have Hgm := Lib.hid hgm
      have k1 : (m : Int) < (l.length : Int) := by omega
      have k0 : (0 : Int) ≤ (m : Int) := by omega
      have Hmm := Lib.hid hmm
      have mlo : lo ≤ m := by omega
      have mhi : m < hi := by omega
      clear hkr hcs hx h0 hgm Ha hsz hm hmm
      cases hyx : lt l[m].1 s
      · have Y := Lib.hid hyx
        obtain ⟨y1, y2⟩ := sgnT_ge hyx
        clear hyx
        go_wp2_with fail
        refine (findCl_ok l[m] (itmL l[m] na0 nc0 ka0 kc0) s wr Hx.out).mono ?_
        rintro e w2 ⟨rfl, hg2⟩
        go_wp2_with fail
        go_roundg (m - lo)
        case measure => omega
        case rel =>
          refine ⟨lo, m, rfl, rfl, by omega, by omega, Nat.le_refl _, hgr.trans hg2, I1.out, fun t h ht => ?_⟩
          rcases Nat.eq_or_lt_of_le ht with rfl | h'
          · rw [Hgm.out]; exact Y.out
          · have := S.out _ t (by rw [Hln.out]; exact hml) h h'
            rw [Hgm.out] at this
            cases hx : lt (nmL l)[t] s
            · rfl
            · have := bl_trans _ _ _ this hx
              have := Y.out
              simp_all
      · have Y := Lib.hid hyx
        have y1 := sgnT_lt hyx
        clear hyx
        go_wp2_with fail
        refine (findCl_ok l[m] (itmL l[m] na0 nc0 ka0 kc0) s wr Hx.out).mono ?_
        rintro e w2 ⟨rfl, hg2⟩
        simp only [y1]
        go_wp2_with fail
        go_roundg (hi - (m + 1))
        case measure => omega
        case rel =>
          refine ⟨m + 1, hi, by go_num, rfl, by omega, hin, Nat.le_refl _, hgr.trans hg2, fun t h ht => ?_, I2.out⟩
          rcases Nat.eq_or_lt_of_le (show t ≤ m by omega) with rfl | h'
          · rw [Hgm.out]; exact Y.out
          · have := S.out t _ h (by rw [Hln.out]; exact hml) h'
            rw [Hgm.out] at this
            exact bl_trans _ _ _ this Y.out
    · have : hi = lo := by omega
      subst this
      obtain ⟨e1, e2, e3⟩ := lb_end S.out (by rw [Hln.out]; exact hin) I1.out I2.out
      have E1 := Lib.hid e1
      have E2 := Lib.hid e2
      have E3 := Lib.hid e3
      clear e1 e2 e3
      by_cases hn : hi < l.length
      · obtain ⟨_, _, hks⟩ := (Ha.out).grow hgr
        rcases hks with rfl | ⟨bk, ok, rfl, _, hkr⟩
        · exfalso; simp at hn
        obtain ⟨cs, hcs, hx⟩ := hkr hi hn
        obtain ⟨na0, nc0, ka0, kc0, rfl, hsz, h0⟩ := itmRep_open hx
        rw [itmRep_n] at hcs
        have x0 : wr.cell? ⟨bk, ok + hi * 7, none⟩ = _ := hcs 0 _ rfl
        have x1 := hcs 1 _ rfl
        have x2 := hcs 2 _ rfl
        have x3 := hcs 3 _ rfl
        have x4 := hcs 4 _ rfl
        have x5 := hcs 5 _ rfl
        have x6 := hcs 6 _ rfl
        have Hx := Lib.hid hx
        have E2' : Hid (mem (nmL l) s = decide (l[hi].1 = s)) := Lib.hid (by rw [E2.out (by rw [Hln.out]; exact hn), nmL_get])
        clear hkr hcs hx h0 Ha hsz
        by_cases hd : l[hi].1 = s
        · have y1 : sgnT l[hi].1 s = 0 := sgnT_zero.2 hd
          have Hd := Lib.hid hd
          clear hd
          go_wp2_with fail
          refine (findCl_ok l[hi] (itmL l[hi] na0 nc0 ka0 kc0) s wr Hx.out).mono ?_
          rintro e w2 ⟨rfl, hg2⟩
          simp only [y1]
          go_wp2_with fail
          go_ret2
          exact ⟨by rw [E1.out, E2'.out]; simp [Hd.out], hgr.trans hg2⟩
        · have y1 : (sgnT l[hi].1 s == 0) = false := by simpa using fun h => hd (sgnT_zero.1 h)
          have Hd := Lib.hid hd
          clear hd
          go_wp2_with fail
          refine (findCl_ok l[hi] (itmL l[hi] na0 nc0 ka0 kc0) s wr Hx.out).mono ?_
          rintro e w2 ⟨rfl, hg2⟩
          go_wp2_with fail
          go_ret2
          exact ⟨by rw [E1.out, E2'.out]; simp [Hd.out], hgr.trans hg2⟩
      · have E3' := Lib.hid (E3.out (by rw [Hln.out]; exact hn))
        go_wp2_with fail
        go_ret2
        exact ⟨by rw [E1.out, E3'.out]; first | rfl | simp, hgr⟩
theorem findItem_ok (l : List Itm) (a : Option Addr) (c : Nat) (s : ByteArray) (w : World) (ha : SlR itmRep w any a c l) (hsort : Asc (nmL l)) (hbig : l.length ≤ 1000000) :
    Calls Try.prog 116 #[.slice a l.length c, .string s] w fun e w' => e = .returned (.tuple #[.int .i64 (lbound (nmL l) s : Nat), .bool (mem (nmL l) s)]) ∧ Grow w w' := by
  go_enter Try.func116, Try.ntmps116
  go_wp2_with fail
  refine (bsF_ok l a c s w ha hsort hbig).mono ?_
  rintro e w2 ⟨rfl, hg2⟩
  go_wp2_with fail
  go_ret2
  exact ⟨by simp, hg2⟩
end Go.Proofs.Ytgfnmhfdmmnaoaa
namespace Go.Proofs.Ytgfnmhfdmmnaoaa
open Go.RowKit
def cntItm (x : Itm) : Nat := 1 + 1 + cntK x.2.2
def mkItm (k : Nat) (x : Itm) : Itm := (mtxt (k), ((k + 1 : Nat) : Int), mkK (k + 1 + 1) x.2.2)
theorem markItemS_ok (l : List Itm) (a : Option Addr) (c : Nat) (fp : List Nat) (B k : Nat) (i : Int) (w : World) (hi : i = (k : Int)) (hF : SlF itmRep w a c l fp) (hfr : Free B w fp) (h1 : 0 < k) (h2 : k + cntR cntItm l ≤ 1000000000) (hl : l.length ≤ 1000000000) :
    Calls Try.prog 91 #[.slice a l.length c, .int .i64 i] w fun e w' => e = .returned (.int .i64 ((k + cntR cntItm l : Nat) : Int)) ∧ Ext (inl fp) w w' ∧ Free B w' fp ∧ SlF itmRep w' a c (mkR mkItm cntItm k l) fp := by
  subst hi
  obtain ⟨hle, hlen, hcc⟩ := hF
  rcases hcc with ⟨rfl, rfl⟩ | ⟨b, o, f, hne, rfl, rfl, hcc⟩
  · go_enter Try.func91, Try.ntmps91
    go_wp2_with fail
    go_loopw [1, 5] (fun t1 i wr => t1 = .int .i64 k ∧ i = .int .i64 0 ∧ wr = w) (fun _ _ _ => 0)
    case atStart => exact ⟨rfl, rfl, rfl⟩
    case round =>
      obtain ⟨rfl, rfl, rfl⟩ := hrel
      go_wp2_with fail
      go_ret
      exact ⟨by simp [cntR], Ext.refl _ _, hfr, ⟨by simp [mkR], by simp [mkR], .inl ⟨rfl, rfl⟩⟩⟩
  · have Hle := Lib.hid hle
    have Hlen := Lib.hid hlen
    have Hne := Lib.hid hne
    have hK0 : RowF itmRep w b o (mkR mkItm cntItm k (l.take 0) ++ l.drop 0) f := by simpa [mkR] using hcc
    clear hle hlen hne hcc
    go_enter Try.func91, Try.ntmps91
    go_wp2_with fail
    go_loopw [1, 5] (fun t1 i wr => ∃ j : Nat, j ≤ l.length ∧ i = .int .i64 j ∧ t1 = .int .i64 ((k + cntR cntItm (l.take j) : Nat) : Int) ∧ Ext (inl (b :: f)) w wr ∧ Free B wr (b :: f) ∧ RowF itmRep wr b o (mkR mkItm cntItm k (l.take j) ++ l.drop j) f) (fun _ i _ => l.length - (intOf i).toNat)
    case atStart => exact ⟨0, Nat.zero_le _, rfl, rfl, Ext.refl _ _, hfr, hK0⟩
    case round =>
      obtain ⟨j, hj, rfl, rfl, hg, hfr', hK⟩ := hrel
      have hct := cntR_take cntItm l j
      have Hg := Lib.hid hg
      have Hfr := Lib.hid hfr'
      have HK := Lib.hid hK
      clear hg hfr' hK hfr hK0
      by_cases hlt : j < l.length
      · obtain ⟨x, hx⟩ : ∃ x, x = l[j] := ⟨_, rfl⟩
        have htk : l.take (j + 1) = l.take j ++ [x] := by rw [take_snoc' _ _ hlt, hx]
        have hct2 := cntR_take cntItm l (j + 1)
        rw [htk, cntR_snoc] at hct2
        have hdr : l.drop j = x :: l.drop (j + 1) := by rw [drop_cons _ _ hlt, hx]
        have hK := HK.out
        rw [hdr] at hK
        obtain ⟨f1, f', hf, hK1, hK2⟩ := hK.split
        have hjl : (mkR mkItm cntItm k (l.take j)).length = j := by rw [mkR_len]; simp; omega
        rw [hjl] at hK2
        obtain ⟨fx, f2, cs, hf', hcs, hxF, hK3⟩ := hK2
        subst hf
        subst hf'
        have hcl := itmRep.flen hxF
        obtain ⟨_, _, fp0, fq0, rfl, hq0, ⟨rfl, h0, hz0⟩, ⟨_, _, fp1, fq1, rfl, hq1, ⟨rfl, hz1⟩, ⟨na2, nc2, ka2, kc2, rfl, h2⟩⟩⟩ := hxF
        subst hz0
        subst hz1
        obtain ⟨k', hk'⟩ : ∃ k', k' = k + cntR cntItm (l.take j) := ⟨_, rfl⟩
        have hk1 : 0 < k' := by omega
        have hb9 : k' + (1 + 1 + cntK x.2.2) ≤ 1000000000 := by have : cntItm x = 1 + 1 + cntK x.2.2 := rfl; omega
        obtain ⟨g2a, g2b, hfx2, ht2, hn2, hk2⟩ := h2.parts
        have Hck2 := Lib.hid (cntK_eq x.2.2)
        rw [← hk']
        clear hct2 hct
        have hs_g2a : ∀ y ∈ g2a, y ∈ fx := fun y hy => by simp [hq0, hq1, hfx2, hy]
        have hs_g2b : ∀ y ∈ g2b, y ∈ fx := fun y hy => by simp [hq0, hq1, hfx2, hy]
        have hbf : b ∉ f1 ++ (fx ++ f2) := (List.nodup_cons.1 Hfr.out.1).1
        have hnx : fx.Nodup := (List.nodup_append.1 (List.nodup_append.1 (List.nodup_cons.1 Hfr.out.1).2).2.1).1
        have hnx' := hnx
        simp only [hq0, hq1, hfx2] at hnx'
        simp only [List.nodup_append, List.nil_append] at hnx'
        have hn_g2a : g2a.Nodup := by simp_all
        have hb_g2a : b ∉ g2a := fun h => hbf (by simp [hs_g2a b h])
        have hf_g2a : Free B wr g2a := ⟨hn_g2a, fun y hy => Hfr.out.2 y (by simp [hs_g2a y hy])⟩
        have hn_g2b : g2b.Nodup := by simp_all
        have hb_g2b : b ∉ g2b := fun h => hbf (by simp [hs_g2b b h])
        have hf_g2b : Free B wr g2b := ⟨hn_g2b, fun y hy => Hfr.out.2 y (by simp [hs_g2b y hy])⟩
        have hd_g2a_g2b : ∀ y, y ∈ g2a → y ∈ g2b → False := by
          intro y h1 h2
          have h3 := hnx
          simp only [hq0, hq1, hfx2] at h3
          exact absurd h3 (not_nodup y (by simp [List.count_append]; have := List.count_pos_iff.2 h1; have := List.count_pos_iff.2 h2; omega))
        have he := Elm.new hcs hcl (Hfr.out.2 b (by simp)).2.2 (hcs.lt (by intro h; rw [h] at hcl; cases hcl))
        rw [itmRep_n] at he
        simp only [nodeL, List.cons_append, List.nil_append] at he
        have H_hs_g2a := Lib.hid hs_g2a
        have H_hb_g2a := Lib.hid hb_g2a
        have H_hf_g2a := Lib.hid hf_g2a
        have H_hs_g2b := Lib.hid hs_g2b
        have H_hb_g2b := Lib.hid hb_g2b
        have H_hf_g2b := Lib.hid hf_g2b
        have H_hd_g2a_g2b := Lib.hid hd_g2a_g2b
        have H_hn2 := Lib.hid hn2
        have H_hk2 := Lib.hid hk2
        have H_hfx2 := Lib.hid hfx2
        have H_hq0 := Lib.hid hq0
        have H_hq1 := Lib.hid hq1
        have H_hK1 := Lib.hid hK1
        have H_hK3 := Lib.hid hK3
        have H_htk := Lib.hid htk
        have H_hk' := Lib.hid hk'
        have HE := Lib.hid he
        clear hx hdr hK hnx hnx' hbf he hcs hcl hjl HK hs_g2a hb_g2a hf_g2a hn_g2a hs_g2b hb_g2b hf_g2b hn_g2b hd_g2a_g2b hn2 hk2 hfx2 h2 ht2 hq0 hq1 hK1 hK3 htk hk' h0
        have c0 : wr.cell? ⟨b, o + j * 7, none⟩ = _ := HE.out.cells 0 _ rfl
        have c1 := HE.out.cells 1 _ rfl
        have c2 := HE.out.cells 2 _ rfl
        have c3 := HE.out.cells 3 _ rfl
        have c4 := HE.out.cells 4 _ rfl
        have c5 := HE.out.cells 5 _ rfl
        have c6 := HE.out.cells 6 _ rfl
        have cz := HE.out.fr
        go_wp2_with fail
        have hea : Ext (inl [b]) wr wr := Ext.refl _ _
        have HA := Lib.hid hea
        clear hea
        clear c0 c1 c2 c3 c4 c5 c6 cz
        refine (markText_i (k') _ _ (by have := Hck2.out; omega) (by have := Hck2.out; omega) (by have := Hck2.out; omega)).mono ?_
        rintro e w1 ⟨rfl, hg⟩
        have he := HE.out.grow hg
        have hes : Ext (inl [b]) wr w1 := HA.out.trans hg.toX'
        clear hes HA hg HE
        have HE := Lib.hid he
        clear he
        have c0 : w1.cell? ⟨b, o + j * 7, none⟩ = _ := HE.out.cells 0 _ rfl
        have c1 := HE.out.cells 1 _ rfl
        have c2 := HE.out.cells 2 _ rfl
        have c3 := HE.out.cells 3 _ rfl
        have c4 := HE.out.cells 4 _ rfl
        have c5 := HE.out.cells 5 _ rfl
        have c6 := HE.out.cells 6 _ rfl
        have cz := HE.out.fr
        go_wp2_with fail
        obtain ⟨wa2, hwa⟩ : ∃ wa, wa = ((((w1.setCell ⟨b, o + j * 7, none⟩ (.string (mtxt (k')))).setCell ⟨b, o + j * 7 + 1, none⟩ (.int .i64 ((k' : Int) + 1))).setCell ⟨b, o + j * 7 + 2, none⟩ (.int .i64 ((k' : Int) + 1 + 1))).setCell ⟨b, o + j * 7 + 3, none⟩ (.int .i64 ((k' : Int) + 1 + 1 + 1))) := ⟨_, rfl⟩
        rw [← hwa]
        have he : Elm wr wa2 b (o + j * 7) 7 [.string (mtxt (k')), .int .i64 ((k' : Int) + 1), .int .i64 ((k' : Int) + 1 + 1), .int .i64 ((k' : Int) + 1 + 1 + 1), .string x.2.2.text, .slice na2 x.2.2.names.length nc2, .slice ka2 x.2.2.kids.length kc2] ([]) := by rw [hwa]; exact ((((HE.out.set0 (by simp) (.string (mtxt (k')))).set 1 (by simp) (.int .i64 ((k' : Int) + 1))).set 2 (by simp) (.int .i64 ((k' : Int) + 1 + 1))).set 3 (by simp) (.int .i64 ((k' : Int) + 1 + 1 + 1)))
        have hea : Ext (inl [b]) w1 wa2 := by rw [hwa]; exact (((((Ext.refl (inl [b]) w1).setIn (p := ⟨b, o + j * 7, none⟩) (by simp [inl]) (.string (mtxt (k')))).setIn (p := ⟨b, o + j * 7 + 1, none⟩) (by simp [inl]) (.int .i64 ((k' : Int) + 1))).setIn (p := ⟨b, o + j * 7 + 2, none⟩) (by simp [inl]) (.int .i64 ((k' : Int) + 1 + 1))).setIn (p := ⟨b, o + j * 7 + 3, none⟩) (by simp [inl]) (.int .i64 ((k' : Int) + 1 + 1 + 1)))
        clear hwa HE
        have HE := Lib.hid he
        clear he
        have HA := Lib.hid hea
        clear hea
        clear c0 c1 c2 c3 c4 c5 c6 cz
        refine (markText_i (k' + 1 + 1 + 1 + 1) _ _ (by have := Hck2.out; omega) (by have := Hck2.out; omega) (by have := Hck2.out; omega)).mono ?_
        rintro e w2 ⟨rfl, hg⟩
        have he := HE.out.grow hg
        have hes : Ext (inl [b]) w1 w2 := HA.out.trans hg.toX'
        clear hes HA hg HE
        have HE := Lib.hid he
        clear he
        have c0 : w2.cell? ⟨b, o + j * 7, none⟩ = _ := HE.out.cells 0 _ rfl
        have c1 := HE.out.cells 1 _ rfl
        have c2 := HE.out.cells 2 _ rfl
        have c3 := HE.out.cells 3 _ rfl
        have c4 := HE.out.cells 4 _ rfl
        have c5 := HE.out.cells 5 _ rfl
        have c6 := HE.out.cells 6 _ rfl
        have cz := HE.out.fr
        go_wp2_with fail
        obtain ⟨wa3, hwa⟩ : ∃ wa, wa = (w2.setCell ⟨b, o + j * 7 + 4, none⟩ (.string (mtxt (k' + 1 + 1 + 1 + 1)))) := ⟨_, rfl⟩
        rw [← hwa]
        have he : Elm wr wa3 b (o + j * 7) 7 [.string (mtxt (k')), .int .i64 ((k' : Int) + 1), .int .i64 ((k' : Int) + 1 + 1), .int .i64 ((k' : Int) + 1 + 1 + 1), .string (mtxt (k' + 1 + 1 + 1 + 1)), .slice na2 x.2.2.names.length nc2, .slice ka2 x.2.2.kids.length kc2] ([]) := by rw [hwa]; exact (HE.out.set 4 (by simp) (.string (mtxt (k' + 1 + 1 + 1 + 1))))
        have hea : Ext (inl [b]) w2 wa3 := by rw [hwa]; exact ((Ext.refl (inl [b]) w2).setIn (p := ⟨b, o + j * 7 + 4, none⟩) (by simp [inl]) (.string (mtxt (k' + 1 + 1 + 1 + 1))))
        clear hwa HE
        have HE := Lib.hid he
        clear he
        have HA := Lib.hid hea
        clear hea
        clear c0 c1 c2 c3 c4 c5 c6 cz
        have hni : ∀ y ∈ g2a, ¬ inl (b :: ([])) y := (fun y hy h => by simp [inl] at h; subst h; exact H_hb_g2a.out hy)
        have hko := HE.out.ext.keeps H_hf_g2a.out hni
        have hfo := H_hf_g2a.out.ext HE.out.ext hni
        have Hko := Lib.hid hko
        have Hfo := Lib.hid hfo
        clear hko hfo hni
        refine (markStringS_i na2 nc2 x.2.2.names g2a B (k' + 1 + 1 + 1 + 1 + 1) _ _ (by have := Hck2.out; omega) (H_hn2.out.keep Hko.out) Hfo.out (by have := Hck2.out; omega) (by have := Hck2.out; omega)).mono ?_
        rintro e w3 ⟨rfl, hx, hfree, hF⟩
        clear HA
        have he := HE.out.sub hx H_hb_g2a.out
        have M_g2a := Lib.hid hF
        have MF_g2a := Lib.hid hfree
        have X_g2a := Lib.hid hx
        clear hx hfree hF HE Hko Hfo
        have HE := Lib.hid he
        clear he
        have c0 : w3.cell? ⟨b, o + j * 7, none⟩ = _ := HE.out.cells 0 _ rfl
        have c1 := HE.out.cells 1 _ rfl
        have c2 := HE.out.cells 2 _ rfl
        have c3 := HE.out.cells 3 _ rfl
        have c4 := HE.out.cells 4 _ rfl
        have c5 := HE.out.cells 5 _ rfl
        have c6 := HE.out.cells 6 _ rfl
        have cz := HE.out.fr
        go_wp2_with fail
        have hea : Ext (inl [b]) w3 w3 := Ext.refl _ _
        have HA := Lib.hid hea
        clear hea
        clear c0 c1 c2 c3 c4 c5 c6 cz
        have hni : ∀ y ∈ g2b, ¬ inl (b :: ([] ++ g2a)) y := (fun y hy h => by simp [inl] at h; rcases h with h | h; subst h; exact H_hb_g2b.out hy; exact False.elim (H_hd_g2a_g2b.out y h hy))
        have hko := HE.out.ext.keeps H_hf_g2b.out hni
        have hfo := H_hf_g2b.out.ext HE.out.ext hni
        have Hko := Lib.hid hko
        have Hfo := Lib.hid hfo
        clear hko hfo hni
        refine (markNodeS_ok x.2.2.kids ka2 kc2 g2b B (k' + 1 + 1 + 1 + 1 + 1 + x.2.2.names.length) _ _ (by have := Hck2.out; omega) (H_hk2.out.keep Hko.out) Hfo.out (by have := Hck2.out; omega) (by have := Hck2.out; omega)).mono ?_
        rintro e w4 ⟨rfl, hx, hfree, hF⟩
        have hes : Ext (inl (b :: g2b)) w3 w4 := (HA.out.mono (fun y hy => by simp [inl] at hy ⊢; exact .inl hy)).trans (hx.mono (fun y hy => List.mem_cons_of_mem _ hy))
        have hnn : ∀ y ∈ g2a, ¬ inl (b :: g2b) y := (fun y hy h => by simp [inl] at h; rcases h with h | h; subst h; exact H_hb_g2a.out hy; exact H_hd_g2a_g2b.out y hy h)
        replace M_g2a := Lib.hid (M_g2a.out.keep (hes.keeps MF_g2a.out hnn))
        replace MF_g2a := Lib.hid (MF_g2a.out.ext hes hnn)
        clear hnn
        clear hes
        clear HA
        have he := HE.out.sub hx H_hb_g2b.out
        have M_g2b := Lib.hid hF
        have MF_g2b := Lib.hid hfree
        have X_g2b := Lib.hid hx
        clear hx hfree hF HE Hko Hfo
        have HE := Lib.hid he
        clear he
        have c0 : w4.cell? ⟨b, o + j * 7, none⟩ = _ := HE.out.cells 0 _ rfl
        have c1 := HE.out.cells 1 _ rfl
        have c2 := HE.out.cells 2 _ rfl
        have c3 := HE.out.cells 3 _ rfl
        have c4 := HE.out.cells 4 _ rfl
        have c5 := HE.out.cells 5 _ rfl
        have c6 := HE.out.cells 6 _ rfl
        have cz := HE.out.fr
        go_wp2_with fail
        clear c0 c1 c2 c3 c4 c5 c6 cz
        go_roundw
        case rel =>
          have he := HE.out
          have hG : ∀ y ∈ [] ++ g2a ++ g2b, y ∈ fx := by
            intro y hy
            simp at hy
            rcases hy with h | h
            · exact H_hs_g2a.out y h
            · exact H_hs_g2b.out y h
          have hes := (Ext.refl (inl [b]) w4)
          have hnn : ∀ y ∈ g2a, ¬ inl [b] y := (fun y hy h => by simp [inl] at h; subst h; exact H_hb_g2a.out hy)
          replace M_g2a := Lib.hid (M_g2a.out.keep (hes.keeps MF_g2a.out hnn))
          replace MF_g2a := Lib.hid (MF_g2a.out.ext hes hnn)
          clear hnn
          have hnn : ∀ y ∈ g2b, ¬ inl [b] y := (fun y hy h => by simp [inl] at h; subst h; exact H_hb_g2b.out hy)
          replace M_g2b := Lib.hid (M_g2b.out.keep (hes.keeps MF_g2b.out hnn))
          replace MF_g2b := Lib.hid (MF_g2b.out.ext hes hnn)
          clear hnn
          refine ⟨j + 1, by omega, by go_num, ?_, Hg.out.trans (he.ext.mono (fun y hy => ?_)), he.free Hfr.out (fun y hy q => ?_), ?_⟩
          · rw [H_htk.out, cntR_snoc]
            have h3 := H_hk'.out
            have h4 : cntItm x = 1 + 1 + cntK x.2.2 := rfl
            congr 1
            exact (by have := Hck2.out; first | omega | (unfold wrap64; omega))
          · simp only [inl, List.mem_cons] at hy ⊢
            rcases hy with hy | hy
            · exact .inl hy
            · right; simp [hG y hy]
          · simp at hy
            rcases hy with h | h
            · exact (MF_g2a.out.2 y h).2.2 q
            · exact (MF_g2b.out.2 y h).2.2 q
          · have hxF : itmRep.F _ (mkItm k' x) ([.string (mtxt (k'))] ++ ([.int .i64 ((k' + 1 : Nat) : Int)] ++ nodeL (mkK (k' + 1 + 1) x.2.2) na2 nc2 ka2 kc2)) ([] ++ ([] ++ (g2a ++ g2b))) := ⟨[.string (mtxt (k'))], ([.int .i64 ((k' + 1 : Nat) : Int)] ++ nodeL (mkK (k' + 1 + 1) x.2.2) na2 nc2 ka2 kc2), [], ([] ++ (g2a ++ g2b)), rfl, rfl, ⟨rfl, mtxt_size _ (by omega), rfl⟩, ⟨[.int .i64 ((k' + 1 : Nat) : Int)], nodeL (mkK (k' + 1 + 1) x.2.2) na2 nc2 ka2 kc2, [], (g2a ++ g2b), rfl, rfl, ⟨rfl, rfl⟩, ⟨na2, nc2, ka2, kc2, rfl, nodeF_mk (by have := Hck2.out; omega) M_g2a.out M_g2b.out⟩⟩⟩
            have hfx : fx = ([] ++ ([] ++ (g2a ++ g2b))) := by simp [H_hq0.out, H_hq1.out, H_hfx2.out]
            rw [← hfx] at hxF
            simp only [nodeL_mk] at hxF
            have hjl : (mkR mkItm cntItm k (l.take j)).length = j := by rw [mkR_len]; simp; omega
            rw [H_htk.out, mkR_snoc, ← H_hk'.out, List.append_assoc]
            exact RowF.marked H_hK1.out H_hK3.out (by rw [hjl]) he hG Hfr.out hxF
        case measure => simp [intOf]; omega
      · have hje : j = l.length := by omega
        subst hje
        have hK := HK.out
        rw [List.take_length, List.drop_length, List.append_nil] at hK
        have HK2 := Lib.hid hK
        clear hK
        simp only [List.take_length]
        go_wp2_with fail
        go_ret
        refine ⟨by simp, Hg.out, Hfr.out, ⟨by rw [mkR_len]; exact Hle.out, by rw [mkR_len]; exact Hlen.out, .inr ⟨b, o, f, ?_, rfl, rfl, HK2.out⟩⟩⟩
        intro h
        have := congrArg List.length h
        rw [mkR_len] at this
        exact Hne.out (List.length_eq_zero_iff.1 this)
end Go.Proofs.Ytgfnmhfdmmnaoaa
namespace Go.Proofs.Ytgfnmhfdmmnaoaa
open Go.RowKit
theorem openV_sto {w : World} {S : Nat → Prop} {s : Sto} {v : Value} (h : RV stoRep packA w S s v) : ∃ a c, v = stoV s a c := by
  obtain ⟨a, c, h, _⟩ := sto_open h; exact ⟨a, c, h⟩
def cntSto (s : Sto) : Nat := cntR cntItm s.1
def mkSto (k : Nat) (s : Sto) : Sto := (mkR mkItm cntItm k s.1, s.2)
theorem cntItm_le (x : Itm) : cntItm x ≤ 5 + 4 * costItm x := by
  have h := cntK_le x.2.2
  unfold cntItm costItm; omega
theorem cntSto_le (s : Sto) : cntSto s ≤ 5 * costSto s := by
  unfold cntSto costSto
  induction s.1 with
  | nil => simp [cntR]
  | cons x l ih =>
    have h := cntItm_le x
    simp only [cntR, costItmL, List.map_cons, List.sum_cons, List.length_cons] at ih ⊢
    omega
theorem cntSto_len (s : Sto) : s.1.length ≤ cntSto s := by
  unfold cntSto
  induction s.1 with
  | nil => simp
  | cons x l ih =>
    simp only [cntR, List.map_cons, List.sum_cons, List.length_cons, cntItm] at ih ⊢
    omega
theorem uSzSto (s : Sto) (v : Value) (left : Int) (w : World) (h0 : 0 ≤ left) (h1 : left ≤ 1048576) (h : RV stoRep packA w any s v) :
    Calls Try.prog 28 #[v, .int .i64 left] w fun e w' => e = .returned (.int .i64 (szR (costSto s) left)) ∧ Grow w w' := by
  obtain ⟨a, c, rfl, hs⟩ := sto_open h
  have Hs := Lib.hid hs
  clear h hs
  unfold stoV
  by_cases hb : (costSto s : Int) ≤ left
  · have Hz := Lib.hid (szR_pos hb)
    have Hz' : Hid (szR (costItmL s.1) left = left - costSto s) := Lib.hid (szR_pos hb)
    go_enter Try.func28, Try.ntmps28
    go_wp2_with fail
    refine (szItemS_ok s.1 _ _ left _ (Hs.out.grow (by repeat (first | with_reducible exact Ext.refl _ _ | with_reducible refine Ext.trans ?_ (by assumption) | with_reducible refine Ext.drew ?_ | with_reducible refine Ext.drewN ?_ _ | with_reducible refine Ext.alloc ?_ _ | with_reducible refine Ext.setNew ?_ (by simp; done) _ | with_reducible refine Ext.setNew ?_ (by simp; omega) _))) h0 h1).mono ?_
    rintro e w2 ⟨rfl, hg2⟩
    simp only [Hz'.out]
    go_wp2_with fail
    go_ret
    exact ⟨by simp [Hz.out], (by repeat (first | with_reducible exact Ext.refl _ _ | with_reducible refine Ext.trans ?_ (by assumption) | with_reducible refine Ext.drew ?_ | with_reducible refine Ext.drewN ?_ _ | with_reducible refine Ext.alloc ?_ _ | with_reducible refine Ext.setNew ?_ (by simp; done) _ | with_reducible refine Ext.setNew ?_ (by simp; omega) _))⟩
  · have Hz := Lib.hid (szR_neg (c := costSto s) (left := left) (by omega))
    have Hz' : Hid (szR (costItmL s.1) left = -1) := Lib.hid (szR_neg (by unfold costSto at hb; omega))
    clear hb
    go_enter Try.func28, Try.ntmps28
    go_wp2_with fail
    refine (szItemS_ok s.1 _ _ left _ (Hs.out.grow (by repeat (first | with_reducible exact Ext.refl _ _ | with_reducible refine Ext.trans ?_ (by assumption) | with_reducible refine Ext.drew ?_ | with_reducible refine Ext.drewN ?_ _ | with_reducible refine Ext.alloc ?_ _ | with_reducible refine Ext.setNew ?_ (by simp; done) _ | with_reducible refine Ext.setNew ?_ (by simp; omega) _))) h0 h1).mono ?_
    rintro e w2 ⟨rfl, hg2⟩
    simp only [Hz'.out]
    go_wp2_with fail
    go_ret
    exact ⟨by simp [Hz.out], (by repeat (first | with_reducible exact Ext.refl _ _ | with_reducible refine Ext.trans ?_ (by assumption) | with_reducible refine Ext.drew ?_ | with_reducible refine Ext.drewN ?_ _ | with_reducible refine Ext.alloc ?_ _ | with_reducible refine Ext.setNew ?_ (by simp; done) _ | with_reducible refine Ext.setNew ?_ (by simp; omega) _))⟩
theorem uToSto (s : Sto) (v : Value) (w : World) (hc : costSto s ≤ 1048576) (h : RV stoRep packA w any s v) :
    Calls Try.prog 31 #[v] w fun e w' => ∃ v' fp, e = .returned v' ∧ Grow w w' ∧ FV stoRep packA w' s v' fp ∧ Free w.heap.size w' fp := by
  obtain ⟨a, c, rfl, hs⟩ := sto_open h
  have Hs := Lib.hid hs
  clear h hs
  unfold stoV
  have HB0 := Lib.hid (((BoxN.new w [.slice a s.1.length c, .int .i64 s.2] 57).grow ((Ext.refl nil _).alloc (.cells #[.slice none 0 0, .int .i64 0] 62))).grow ((Ext.refl nil _).alloc (.cells #[.slice none 0 0, .int .i64 0] 62)))
  have HB1 := Lib.hid ((BoxN.new1 w (.cells #[.slice a s.1.length c, .int .i64 s.2] 57) [.slice none 0 0, .int .i64 0] 62).grow ((Ext.refl nil _).alloc (.cells #[.slice none 0 0, .int .i64 0] 62)))
  have HB2 := Lib.hid (BoxN.new2 w (.cells #[.slice a s.1.length c, .int .i64 s.2] 57) (.cells #[.slice none 0 0, .int .i64 0] 62) [.slice none 0 0, .int .i64 0] 62)
  go_enter Try.func31, Try.ntmps31
  go_wp2_with fail
  refine (toItemS_ok s.1 _ _ _ hc (Hs.out.grow (by repeat (first | with_reducible exact Ext.refl _ _ | with_reducible refine Ext.trans ?_ (by assumption) | with_reducible refine Ext.drew ?_ | with_reducible refine Ext.drewN ?_ _ | with_reducible refine Ext.alloc ?_ _ | with_reducible refine Ext.setNew ?_ (by simp; done) _ | with_reducible refine Ext.setNew ?_ (by simp; omega) _)))).mono ?_
  rintro e w2 ⟨a', c', fp, rfl, hg2, hF, hfr⟩
  have hgp : Grow w w2 := (by repeat (first | with_reducible exact Ext.refl _ _ | with_reducible refine Ext.trans ?_ (by assumption) | with_reducible refine Ext.drew ?_ | with_reducible refine Ext.drewN ?_ _ | with_reducible refine Ext.alloc ?_ _ | with_reducible refine Ext.setNew ?_ (by simp; done) _ | with_reducible refine Ext.setNew ?_ (by simp; omega) _))
  simp only [World.size_alloc] at hfr
  have HF := Lib.hid hF
  have Hfr := Lib.hid hfr
  replace HB0 := Lib.hid (HB0.out.grow hg2)
  replace HB1 := Lib.hid (HB1.out.grow hg2)
  replace HB2 := Lib.hid (HB2.out.grow hg2)
  clear hF hfr hg2
  have p0 := HB0.out.cell 0 _ rfl
  have p1 := HB0.out.cell 1 _ rfl
  have q0 := HB2.out.cell 0 _ rfl
  have q1 := HB2.out.cell 1 _ rfl
  have qf := HB2.out.fr
  have r0 := HB1.out.cell 0 _ rfl
  have r1 := HB1.out.cell 1 _ rfl
  have rf := HB1.out.fr
  have z1 := HB2.out.lt
  go_wp2_with fail
  have BF := (((HB1.out.other (p := ⟨w.heap.size + 1 + 1, 0, none⟩) (by simp) (.slice a' s.1.length c')).other (p := ⟨w.heap.size + 1 + 1, 1, none⟩) (by simp) (.int .i64 s.2)).set 0 (by simp) (.slice a' s.1.length c')).set 1 (by simp) (.int .i64 s.2)
  have s0 := BF.cell 0 _ rfl
  have s1 := BF.cell 1 _ rfl
  have x2 : ∀ b ∈ fp, ¬ (b = w.heap.size + 1 ∨ b = w.heap.size + 1 + 1) := fun b hb => by have := (Hfr.out.2 b hb).1; omega
  have ex : ∀ (w3 : World) (p : Addr) (v : Value), (p.block = w.heap.size + 1 ∨ p.block = w.heap.size + 1 + 1) → Ext (fun k => k = w.heap.size + 1 ∨ k = w.heap.size + 1 + 1) w3 (w3.setCell p v) := fun w3 p v hp => (Ext.refl _ w3).setIn hp v
  have hall := ((ex w2 ⟨w.heap.size + 1 + 1, 0, none⟩ (.slice a' s.1.length c') (.inr rfl)).trans (ex _ ⟨w.heap.size + 1 + 1, 1, none⟩ (.int .i64 s.2) (.inr rfl))).trans ((ex _ ⟨w.heap.size + 1, 0, none⟩ (.slice a' s.1.length c') (.inl rfl)).trans (ex _ ⟨w.heap.size + 1, 1, none⟩ (.int .i64 s.2) (.inl rfl)))
  refine bodyPost_ret (v := stoV s a' c') ?_ rfl ⟨_, fp, rfl, hgp.inner hall (by intro i hi; omega), sto_shutF (HF.out.keep (hall.keeps Hfr.out x2)), (Hfr.out.ext hall x2).mono (by omega)⟩
  unfold stoV
  simp [results, Try.results31, go_sem, s0, s1]
theorem uEqSto (s : Sto) (v u : Value) (w : World) (h : RV stoRep packA w any s v) (h' : RV stoRep packA w any s u) :
    Calls Try.prog 34 #[v, u] w fun e w' => e = .returned (.bool true) ∧ Grow w w' := by
  obtain ⟨a, c, rfl, hs⟩ := sto_open h
  obtain ⟨a', c', rfl, hs'⟩ := sto_open h'
  have Hs := Lib.hid hs
  have Hs' := Lib.hid hs'
  clear h hs h' hs'
  unfold stoV
  go_enter Try.func34, Try.ntmps34
  go_wp2_with fail
  refine (eqItemS_same s.1 _ _ _ _ _ (Hs.out.grow (by repeat (first | with_reducible exact Ext.refl _ _ | with_reducible refine Ext.trans ?_ (by assumption) | with_reducible refine Ext.drew ?_ | with_reducible refine Ext.drewN ?_ _ | with_reducible refine Ext.alloc ?_ _ | with_reducible refine Ext.setNew ?_ (by simp; done) _ | with_reducible refine Ext.setNew ?_ (by simp; omega) _))) (Hs'.out.grow (by repeat (first | with_reducible exact Ext.refl _ _ | with_reducible refine Ext.trans ?_ (by assumption) | with_reducible refine Ext.drew ?_ | with_reducible refine Ext.drewN ?_ _ | with_reducible refine Ext.alloc ?_ _ | with_reducible refine Ext.setNew ?_ (by simp; done) _ | with_reducible refine Ext.setNew ?_ (by simp; omega) _)))).mono ?_
  rintro e w2 ⟨rfl, hg2⟩
  have hcc := bcell hg2
  go_wp2_with fail
  go_ret
  exact ⟨by simp, (by repeat (first | with_reducible exact Ext.refl _ _ | with_reducible refine Ext.trans ?_ (by assumption) | with_reducible refine Ext.drew ?_ | with_reducible refine Ext.drewN ?_ _ | with_reducible refine Ext.alloc ?_ _ | with_reducible refine Ext.setNew ?_ (by simp; done) _ | with_reducible refine Ext.setNew ?_ (by simp; omega) _))⟩
theorem uMarkSto (s : Sto) (v : Value) (fp : List Nat) (B k : Nat) (i : Int) (w : World) (hi : i = (k : Int)) (hF : FV stoRep packA w s v fp) (hfr : Free B w fp) (h1 : 0 < k) (h2 : k + cntSto s ≤ 1000000000) :
    Calls Try.prog 35 #[v, .int .i64 i] w fun e w' => e = .returned (.int .i64 ((k + cntSto s : Nat) : Int)) ∧ Ext (inl fp) w w' ∧ Free B w' fp ∧ FV stoRep packA w' (mkSto k s) v fp := by
  have hl : s.1.length ≤ 1000000000 := by have := cntSto_len s; omega
  obtain ⟨a, c, rfl, hs⟩ := sto_openF hF
  subst hi
  have Hs := Lib.hid hs
  have Hfr := Lib.hid hfr
  clear hF hs hfr
  unfold stoV
  go_enter Try.func35, Try.ntmps35
  go_wp2_with fail
  have hg1 : Grow w (w.alloc (.cells #[.slice a s.1.length c, .int .i64 s.2] 62)) := (Ext.refl nil w).alloc _
  refine (markItemS_ok s.1 _ _ fp B k _ _ rfl (Hs.out.keep (hg1.keeps Hfr.out (fun _ _ h => h))) (Hfr.out.ext hg1 (fun _ _ h => h)) h1 h2 hl).mono ?_
  rintro e w2 ⟨rfl, hx2, hfr2, hF2⟩
  go_wp2_with fail
  go_ret
  refine ⟨rfl, hg1.toX.trans hx2, hfr2, ?_⟩
  have := sto_shutF (s := mkSto k s) hF2
  unfold stoV mkSto at this
  simp only [mkR_len] at this
  exact this
end Go.Proofs.Ytgfnmhfdmmnaoaa
namespace Go.Proofs.Ytgfnmhfdmmnaoaa
open Go.RowKit
def Itm.zero : Itm := (⟨#[]⟩, 0, Nd.zero)
theorem storeB_asc {s : Sto} (h : storeB s = true) : Asc (nmL s.1) := by
  have h5 := (storeB_parts h).2.2.2.2
  intro i j hi hj hij
  exact List.pairwise_iff_getElem.1 h5 i j hi hj hij
end Go.Proofs.Ytgfnmhfdmmnaoaa
namespace Go.Proofs.Ytgfnmhfdmmnaoaa
open Go.RowKit
end Go.Proofs.Ytgfnmhfdmmnaoaa
-- EV: store
namespace Go.Proofs.Ytgfnmhfdmmnaoaa.Eng
open Go Go.RowKit
end Go.Proofs.Ytgfnmhfdmmnaoaa.Eng
namespace Go.Proofs.Ytgfnmhfdmmnaoaa.Eng
open Go Go.RowKit
attribute [local simp] big size_mk ASt.pay Option.map_map Function.comp_def awant aop acall ado aev ofVal ofVal0 ASt.put ASt.add ASt.turn ASt.kill abox aalloc astore aload aloadD astoreD idOf ASt.at cellsTo afieldAddr afield aindexAddr aindex alen abin aint acmp astr aun apick aextract anil aslice abound abuild afill abuildSlice asCells aps avCells over upd aappend asrc amax amin aconv mkSt slots rowsOf_cons rowsOf_nil usedOf_cons usedOf_nil ZK.av List.replicate ASt.back ASt.addL ASt.killL nodeA nodeT nodeTL_eq nodeL_eq strsE_get strsE_len intsE_get intsE_len strsE_at intsE_at tab2 tab3 tab4 tab5 tab6 tab7 tab8 tab9 tab10 tab11 tab12 tab13 tab14 tab15 tab16 tab17 tab18 tab19 tab21 tab22 tab23 tab24 tab25 tab26 tab27 tab28 tab29 tab30 tab39 tab40 tab41 tab42 tab43 tab47 tab48 tab55 tab56 tab57 tab60 tab61 tab62 tab73 tab74 tab75 tab85 tab92 tab115 tab116 tab143 tab144 tab145 tab154 tab155 tab170 tab175 tab182 tab197 tab198 tab203 tab204 tab205 tab207 tab208 tab209
def namesR (xs : List ByteArray) : Row := ⟨false, 9, 1, strsE xs⟩
def zeroN : List AV := [.int .i64 0, .int .i64 0, .str ⟨#[]⟩, .view .tight 0 [], .view .tight 0 []]
def part (ks : List Nd) (i : Nat) : List (List AV) := (ks.take i).map nodeL ++ List.replicate (ks.length - i) zeroN
theorem sml_ind {p : Nd → Prop} (h : ∀ n, Sml n → (∀ k ∈ n.kids, p k) → p n) : ∀ n, Sml n → p n := Nd.ind' _ (fun n ih hs => h n hs (fun k hk => ih k hk (hs.kid hk)))
end Go.Proofs.Ytgfnmhfdmmnaoaa.Eng
namespace Go.Proofs.Ytgfnmhfdmmnaoaa
open Go Go.RowKit
def Row0 (w : World) (g : Nat) (L : List Value) (e : TypeId) : Prop := Hid (w.heap[g]? = some (.cells L.toArray e (0, 0)))
theorem Row0.out {w : World} {g : Nat} {L : List Value} {e : TypeId} (h : Row0 w g L e) : w.heap[g]? = some (.cells L.toArray e (0, 0)) := h
theorem Row0.lt {w : World} {g : Nat} {L : List Value} {e : TypeId} (h : Row0 w g L e) : g < w.heap.size := (Array.getElem?_eq_some_iff.1 h.out).1
theorem Row0.ext {X : Nat → Prop} {w w' : World} {g : Nat} {L : List Value} {e : TypeId} (h : Row0 w g L e) (hx : Ext X w w') (hg : ¬ X g) : Row0 w' g L e := by
  show w'.heap[g]? = _
  rw [hx.block g h.lt hg]; exact h
theorem Row0.cell {w : World} {g : Nat} {L : List Value} {e : TypeId} (h : Row0 w g L e) {j : Nat} {v : Value} (hj : L[j]? = some v) : w.cell? ⟨g, j, none⟩ = some v := by
  unfold World.cell?
  rw [h.out]
  simpa using hj
theorem addr_plus (b o j : Nat) : (⟨b, o, Option.none⟩ : Addr).add j = ⟨b, o + j, Option.none⟩ := by unfold Addr.add; split <;> simp_all
theorem splice_two {α : Type} (A Z xs X : List α) (o1 o2 : Nat) (h1 : A.length = o1) (h2 : o2 = o1 + xs.length) (h3 : xs.length + X.length ≤ Z.length) : splice (splice (A ++ Z) o1 xs) o2 X = A ++ (xs ++ (X ++ Z.drop (xs.length + X.length))) := by
  subst h1 h2
  have e1 : splice (A ++ Z) A.length xs = A ++ (xs ++ Z.drop xs.length) := by
    unfold splice
    rw [List.take_left, List.drop_append, Nat.add_sub_cancel_left, List.drop_of_length_le (by omega), List.nil_append]
  rw [e1, ← List.append_assoc]
  unfold splice
  rw [← List.length_append, List.take_left, List.drop_append, Nat.add_sub_cancel_left, List.drop_of_length_le (by omega), List.nil_append, List.drop_drop]
  simp
theorem splice_shift {α : Type} (L xs X : List α) (o m : Nat) (h1 : xs.length = m) (h2 : o + m + X.length ≤ L.length) : splice (splice L (o + m) X) o xs = L.take o ++ (xs ++ (X ++ L.drop (o + m + X.length))) := by
  subst h1
  unfold splice
  have e1 : List.take o (List.take (o + xs.length) L ++ (X ++ List.drop (o + xs.length + X.length) L)) = List.take o L := by
    rw [List.take_append_of_le_length (by rw [List.length_take]; omega), List.take_take]
    congr 1; omega
  have e2 : List.drop (o + xs.length) (List.take (o + xs.length) L ++ (X ++ List.drop (o + xs.length + X.length) L)) = X ++ List.drop (o + xs.length + X.length) L := by
    have : (List.take (o + xs.length) L).length = o + xs.length := by rw [List.length_take]; omega
    rw [List.drop_append, this, Nat.sub_self, List.drop_of_length_le (by omega), List.nil_append, List.drop_zero]
  rw [e1, e2]
variable {P : Program}
theorem run_copyN (w : World) (dT sT ty elem : TypeId) (sz g o dLen dCap b off sLen sCap : Nat) (L M : List Value) (e e' : TypeId) (cs : List Value)
    (hu : P.underlying dT = some (.slice elem)) (hs : (P.info? elem).map (·.size) = some sz) (hg : Row0 w g L e) (hb : Row0 w b M e') (hn : cs.length = Nat.min sLen dLen * sz)
    (hsrc : cs = (M.drop off).take cs.length) (hfit : o + cs.length ≤ L.length) (h1 : ∀ v ∈ cs, v.oneCell' = true) :
    (Builtin.copy_ #[dT, sT] ty #[.slice (some ⟨g, o, none⟩) dLen dCap, .slice (some ⟨b, off, none⟩) sLen sCap]).run P w = .ok (goInt (Nat.min sLen dLen : Nat)) (w.setRow g (splice L o cs).toArray) := by
  have hcell : ∀ j v, cs[j]? = some v → w.cell? ((⟨b, off, none⟩ : Addr).add j) = some v := fun j v hj => by
    rw [addr_plus]
    refine hb.cell ?_
    rw [hsrc] at hj
    have hjl : j < cs.length := by
      have := (List.getElem?_eq_some_iff.1 hj).1
      rw [List.length_take] at this; omega
    rw [List.getElem?_take_of_lt hjl, List.getElem?_drop] at hj
    exact hj
  have hl := run_loadCells_list (P := P) w ⟨b, off, none⟩ cs hcell
  have hst := run_storeCells_at P g o e cs 0 L.toArray w hg.out (by simpa using hfit) h1
  cases hq : P.info? elem with
  | none => simp [hq] at hs
  | some i =>
    have hi : i.size = sz := by simpa [hq] using hs
    simp only [Nat.add_zero] at hst
    simp [Builtin.copy_, run_underlying hu, Builtin.lenOf, Builtin.firstCells, sizeOf, typeInfo, hq, hi, ← hn, hl, hst, splice]
theorem Row0.set {w : World} {g : Nat} {L L' : List Value} {e : TypeId} (h : Row0 w g L e) : Row0 (w.setRow g L'.toArray) g L' e := setRow_heap w g _ _ e _ h.out
theorem setRow_ext (w : World) (g : Nat) (cs : Array Value) : Ext (fun k => k = g) w (w.setRow g cs) := ⟨rfl, rfl, rfl, by simp [World.setRow], fun k _ hk => setRow_other w g k cs hk⟩
theorem wpList_copyN {w : World} {ops : Array Oper} {rest : List Oper} {o : Oper} {a : Act} {Q : Exit → Act → World → Prop} (hgd : o.guard = none) (d s : Operand) (dT sT : TypeId)
    (ho : o.op = .call { callee := .builtin .copy, args := #[d, s], argTypes := #[dT, sT] }) (elem : TypeId) (sz : Nat) (hu : P.underlying dT = some (.slice elem)) (hs : (P.info? elem).map (·.size) = some sz)
    (g oo dLen dCap b off sLen sCap : Nat) (hd : a.eval d = .slice (some ⟨g, oo, none⟩) dLen dCap) (hv : a.eval s = .slice (some ⟨b, off, none⟩) sLen sCap) (L M : List Value) (e e' : TypeId) (hg : Row0 w g L e) (hb : Row0 w b M e') (cs : List Value)
    (hn : cs.length = Nat.min sLen dLen * sz) (hsrc : cs = (M.drop off).take cs.length) (hfit : oo + cs.length ≤ L.length) (h1 : ∀ v ∈ cs, v.oneCell' = true)
    (h : ∀ x w', Row0 w' g (splice L oo cs) e → Ext (fun k => k = g) w w' → wpList P ops Q rest (a.put o.dst x) w') : wpList P ops Q (o :: rest) a w := by
  refine wpList_plain hgd fun K hK => ?_
  have hrun := run_copyN (P := P) w dT sT o.type elem sz g oo dLen dCap b off sLen sCap L M e e' cs hu hs hg hb hn hsrc hfit h1
  unfold Oper.wp
  simp only [execOp, ho, resolve, invoke, builtin, Sem.run_bind, Sem.run_pure, Result.andThen_ok, List.map_toArray, List.map_cons, List.map_nil, hd, hv, hrun]
  exact hK _ _ (h _ _ hg.set (setRow_ext w g _))
theorem step_copyN {ops : Array Oper} {o : Oper} {a : Act} {w : World} {K : Act → World → Prop} {Q : Exit → Act → World → Prop} {E : Prop} (hgd : o.guard = none) (d s : Operand) (dT sT : TypeId)
    (ho : o.op = .call { callee := .builtin .copy, args := #[d, s], argTypes := #[dT, sT] }) (elem : TypeId) (sz : Nat) (hu : P.underlying dT = some (.slice elem)) (hs : (P.info? elem).map (·.size) = some sz)
    (g oo dLen dCap b off sLen sCap : Nat) (hd : a.eval d = .slice (some ⟨g, oo, none⟩) dLen dCap) (hv : a.eval s = .slice (some ⟨b, off, none⟩) sLen sCap) (L M : List Value) (e e' : TypeId) (hg : Row0 w g L e) (hb : Row0 w b M e') (cs : List Value)
    (hn : cs.length = Nat.min sLen dLen * sz) (hsrc : cs = (M.drop off).take cs.length) (hfit : oo + cs.length ≤ L.length) (h1 : ∀ v ∈ cs, v.oneCell' = true)
    (h : ∀ x w', Row0 w' g (splice L oo cs) e → Ext (fun k => k = g) w w' → K (a.put o.dst x) w') :
    if Region.wanted o (yielded ops a.tmps) = true then Oper.wp P o a w K Q else E := by
  have hw : Region.wanted o (yielded ops a.tmps) = true := by simp [Region.wanted, hgd]
  rw [if_pos hw]
  have hrun := run_copyN (P := P) w dT sT o.type elem sz g oo dLen dCap b off sLen sCap L M e e' cs hu hs hg hb hn hsrc hfit h1
  unfold Oper.wp
  simp only [execOp, ho, resolve, invoke, builtin, Sem.run_bind, Sem.run_pure, Result.andThen_ok, List.map_toArray, List.map_cons, List.map_nil, hd, hv, hrun]
  exact h _ _ hg.set (setRow_ext w g _)
theorem run_firstCells_row (w : World) (size n : Nat) (g c : Nat) (L : List Value) (e : TypeId) (h : Row0 w g L e) (hl : n * size ≤ L.length) :
    (Builtin.firstCells size n (.slice (some ⟨g, 0, none⟩) n c)).run P w = .ok (L.take (n * size)).toArray w := by
  have hcell : ∀ j v, (L.take (n * size))[j]? = some v → w.cell? ((⟨g, 0, none⟩ : Addr).add j) = some v := fun j v hj => by
    rw [addr_plus, Nat.zero_add]
    refine h.cell ?_
    have hjl := (List.getElem?_eq_some_iff.1 hj).1
    rw [List.length_take] at hjl
    rwa [List.getElem?_take_of_lt (by omega)] at hj
  have hl2 := run_loadCells_list (P := P) w ⟨g, 0, none⟩ _ hcell
  have : (L.take (n * size)).length = n * size := by rw [List.length_take]; omega
  rw [this] at hl2
  simp [Builtin.firstCells, hl2]
theorem wpList_appendZ {w : World} {ops : Array Oper} {rest : List Oper} {o : Oper} {a : Act} {Q : Exit → Act → World → Prop} (hgd : o.guard = none) (x y : Operand) (t tn : TypeId)
    (ho : o.op = .call { callee := .builtin .append, args := #[x, y], argTypes := #[t, tn] }) (e : TypeId) (i : TypeInfo) (z : Value) (kq kn : IntKind) (ht : P.underlying t = some (.slice e)) (htn : P.underlying tn = some (.int kn)) (hi : P.info? e = some i) (hz : i.zero = some z) (hzs : z.cells.size = i.size)
    (g n c k : Nat) (hx : a.eval x = .slice (some ⟨g, 0, none⟩) n c) (hy : a.eval y = .int kq k) (L : List Value) (hL : Row0 w g L e) (hl : n * i.size ≤ L.length) (h0 : 0 < k) (hs : 0 < i.size) (hc : c < n + k) (h63 : n + k ≤ maxLen) (hby : (n + k) * i.bytes ≤ 140737488355328)
    (h : ∀ G w' Z, Row0 w' w.heap.size (L.take (n * i.size) ++ Z) e → Z.length = (G - n) * i.size → n + k ≤ G → G ≤ maxLen → Grow w w' → wpList P ops Q rest (a.put o.dst (.slice (some ⟨w.heap.size, 0, none⟩) (n + k) G)) w') : wpList P ops Q (o :: rest) a w := by
  refine wpList_plain hgd fun K hK => ?_
  have hold : (Builtin.firstCells i.size n (.slice (some ⟨g, 0, none⟩) n c)).run P w.drew = .ok (L.take (n * i.size)).toArray w.drew := run_firstCells_row w.drew i.size n g c L e hL hl
  have h63' : ((n + k : Nat) : Int) ≤ 9223372036854775807 := by unfold maxLen at h63; omega
  have hkb : k * i.bytes ≤ 281474976710656 := Nat.le_trans (Nat.mul_le_mul_right _ (Nat.le_add_left k n)) (by omega)
  have hrun := Lib.run_append_grow_zeros w t tn o.type e i z kq kn ht htn hi hz (some ⟨g, 0, none⟩) n c _ hold k h0 hs hc h63' hkb (growslice_fits hc hby)
  unfold Oper.wp
  simp only [execOp, ho, resolve, invoke, builtin, Sem.run_bind, Sem.run_pure, Result.andThen_ok, List.map_toArray, List.map_cons, List.map_nil, hx, hy, hrun]
  have hge := grownCap_ge w (n + k) c e
  refine hK _ _ (h (grownCap w (n + k) c e) _ ((Builtin.zeroCells z.cells k).toList ++ (Builtin.zeroCells z.cells (grownCap w (n + k) c e - (n + k))).toList) ?_ ?_ hge (grownCap_le_maxLen w _ _ _ h63) (((Ext.refl nil w).drew).alloc _))
  · show _ = _
    have := heap_alloc_new w.drew (.cells ((L.take (n * i.size)).toArray ++ Builtin.zeroCells z.cells k ++ Builtin.zeroCells z.cells (grownCap w (n + k) c e - (n + k))) e)
    rw [show w.heap.size = w.drew.heap.size from rfl, this]
    congr 2
    apply Array.ext'
    simp [List.append_assoc]
  · simp only [List.length_append, Array.length_toList, size_zeroCells, hzs]
    rw [← Nat.add_mul]
    congr 1; omega
theorem run_overlaps_rows (w : World) (tS tR e : TypeId) (ht : P.underlying tS = some (.slice e)) (size : Nat) (hz : ∀ w, (Go.sizeOf e).run P w = .ok size w) (g o g' o' la ca lb cb : Nat) (L L' : List Value) (e1 e2 : TypeId) (hg : Row0 w g L e1) (hg' : Row0 w g' L' e2) (hne : g ≠ g') (hL : 0 < L'.length) :
    (Extern.SlicesOverlaps.overlaps #[tS, tS] #[tR] #[.slice (some ⟨g, o, none⟩) la ca, .slice (some ⟨g', o', none⟩) lb cb]).run P w = .ok (.bool false) w := by
  have hsh : ∀ (g : Nat) (L : List Value) (e : TypeId), Row0 w g L e → w.shape? g = some (e, L.length) := fun g L e h => by
    have := h.out
    unfold World.shape?
    simp [this]
  have hfr : ∀ (g : Nat) (L : List Value) (e : TypeId) (o : Nat), Row0 w g L e → w.frozen? ⟨g, o, none⟩ = false := fun g L e o h => by
    have := h.out
    simp [World.frozen?, this]
  exact Lib.run_overlaps_apart w tS tR e ht size hz ⟨g, o, none⟩ ⟨g', o', none⟩ la ca lb cb hne e1 e2 L.length L'.length (hsh _ _ _ hg) (hsh _ _ _ hg') (by omega) (hfr _ _ _ _ hg) (hfr _ _ _ _ hg)
theorem step_appendN {ops : Array Oper} {o : Oper} {a : Act} {w : World} {K : Act → World → Prop} {Q : Exit → Act → World → Prop} {E : Prop} (hgd : o.guard = none) (d s : Operand) (t e : TypeId)
    (ho : o.op = .call { callee := .builtin .append, args := #[d, s], argTypes := #[t, t] }) (i : TypeInfo) (ht : P.underlying t = some (.slice e)) (hi : P.info? e = some i)
    (g n cap b off m c : Nat) (hd : a.eval d = .slice (some ⟨g, 0, none⟩) n cap) (hv : a.eval s = .slice (some ⟨b, off, none⟩) m c) (L M : List Value) (e' : TypeId) (hg : Row0 w g L e) (hb : Row0 w b M e') (news : List Value)
    (hn : news.length = m * i.size) (hsrc : news = (M.drop off).take news.length) (hroom : n + m ≤ cap) (hfit : n * i.size + news.length ≤ L.length) (h1 : ∀ v ∈ news, v.oneCell' = true)
    (h : ∀ w', Row0 w' g (splice L (n * i.size) news) e → Ext (fun k => k = g) w w' → K (a.put o.dst (.slice (some ⟨g, 0, none⟩) (n + m) cap)) w') :
    if Region.wanted o (yielded ops a.tmps) = true then Oper.wp P o a w K Q else E := by
  have hw : Region.wanted o (yielded ops a.tmps) = true := by simp [Region.wanted, hgd]
  rw [if_pos hw]
  have hcell : ∀ j v, news[j]? = some v → w.cell? ((⟨b, off, none⟩ : Addr).add j) = some v := fun j v hj => by
    rw [addr_plus]
    refine hb.cell ?_
    rw [hsrc] at hj
    have hjl : j < news.length := by
      have := (List.getElem?_eq_some_iff.1 hj).1
      rw [List.length_take] at this; omega
    rw [List.getElem?_take_of_lt hjl, List.getElem?_drop] at hj
    exact hj
  have hrun := run_append_room (P := P) w t o.type e i ht hi g n cap L.toArray hg.out ⟨b, off, none⟩ m c news hn hcell h1 hroom (by simpa using hfit)
  unfold Oper.wp
  simp only [execOp, ho, resolve, invoke, builtin, Sem.run_bind, Sem.run_pure, Result.andThen_ok, List.map_toArray, List.map_cons, List.map_nil, hd, hv, hrun]
  refine h _ ?_ (setRow_ext w g _)
  have := hg.set (L' := splice L (n * i.size) news)
  simpa [splice] using this
theorem wpList_clearN {w : World} {ops : Array Oper} {rest : List Oper} {o : Oper} {a : Act} {Q : Exit → Act → World → Prop} (hgd : o.guard = none) (x : Operand) (t e : TypeId)
    (ho : o.op = .call { callee := .builtin .clear, args := #[x], argTypes := #[t] }) (i : TypeInfo) (z : Value) (ht : P.underlying t = some (.slice e)) (hi : P.info? e = some i) (hz : i.zero = some z) (hzs : z.cells.size = i.size) (hz1 : ∀ u ∈ z.cells.toList, u.oneCell' = true)
    (g off n c : Nat) (hx : a.eval x = .slice (some ⟨g, off, none⟩) n c) (hn : 0 < n) (L : List Value) (hg : Row0 w g L e) (hfit : off + n * i.size ≤ L.length)
    (h : ∀ v w' Z, Row0 w' g (splice L off Z) e → Z.length = n * i.size → (∀ u ∈ Z, u.oneCell' = true) → Ext (fun k => k = g) w w' → wpList P ops Q rest (a.put o.dst v) w') : wpList P ops Q (o :: rest) a w := by
  refine wpList_plain hgd fun K hK => ?_
  have hZl : (Builtin.zeroCells z.cells n).toList.length = n * i.size := by simp [size_zeroCells, hzs]
  have hZ1 : ∀ u ∈ (Builtin.zeroCells z.cells n).toList, u.oneCell' = true := fun u hu => by
    unfold Builtin.zeroCells at hu
    simp only [Array.toList_map, List.mem_map] at hu
    obtain ⟨k, hk, rfl⟩ := hu
    have hk' : k < n * z.cells.size := by simpa using hk
    have hp : 0 < z.cells.size := by rcases Nat.eq_zero_or_pos z.cells.size with h0 | h0; rw [h0] at hk'; simp at hk'; exact h0
    have hm := Nat.mod_lt k hp
    rw [getElem!_pos z.cells _ hm]
    exact hz1 _ (by simp)
  have hst := run_storeCells_at P g off e (Builtin.zeroCells z.cells n).toList 0 L.toArray w hg.out (by rw [hZl]; simpa using hfit) hZ1
  simp only [Nat.add_zero] at hst
  obtain ⟨m, rfl⟩ : ∃ m, n = m + 1 := ⟨n - 1, by omega⟩
  have hrun : (Builtin.clear_ #[t] o.type #[.slice (some ⟨g, off, none⟩) (m + 1) c]).run P w = .ok (.tuple #[]) (w.setRow g (splice L off (Builtin.zeroCells z.cells (m + 1)).toList).toArray) := by
    simp [Builtin.clear_, run_underlying ht, zeroValue, typeInfo, hi, hz, hst, splice]
  unfold Oper.wp
  simp only [execOp, ho, resolve, invoke, builtin, Sem.run_bind, Sem.run_pure, Result.andThen_ok, List.map_toArray, List.map_cons, List.map_nil, hx, hrun]
  exact hK _ _ (h _ _ _ hg.set hZl hZ1 (setRow_ext w g _))
end Go.Proofs.Ytgfnmhfdmmnaoaa
