/-
  Texts of this claim, joined: EDraw, Open, EBytes, EChg, EDrawP, Paths, Row, AllP, CopyI, FindI, ItmMark, StoLaw, CopyS, ItmU, EStoBr2, ECopyN, RowOps.
-/
import Derived.ProofKit
import Derived.Deep.Slices
import Derived.Deep.Fields
import Derived.Laws.CopyOwn
import Derived.Deep.RegionHeld3
import Derived.Laws.CopyRow
import Derived.Laws.IdiomCopy
import Derived.Laws.AppendOwn
import Derived.Lib.AppendZerosOnto
import Derived.Lib.Overlaps
import Derived.Deep.RegionLaw
import Derived.Test.YtmeobmegnneegaaPjG

set_option linter.unusedSimpArgs false
set_option linter.unusedVariables false
-- EV: store
namespace Go.Proofs.Ytmeobmegnneegaa.Eng
open Go Go.RowKit
attribute [local simp] big size_mk ASt.pay Option.map_map Function.comp_def awant aop acall ado aev ofVal ofVal0 ASt.put ASt.add ASt.turn ASt.kill abox aalloc astore aload ASt.at cellsTo afieldAddr afield aindexAddr aindex alen abin aint acmp astr aun apick aextract anil aslice abound abuild afill abuildSlice asCells aps avCells over upd aappend asrc amax amin aconv mkSt slots rowsOf_cons rowsOf_nil usedOf_cons usedOf_nil ZK.av List.replicate ASt.back ASt.addL ASt.killL nodeA nodeT nodeTL_eq nodeL_eq strsE_get strsE_len intsE_get intsE_len strsE_at intsE_at itemA itemL_eq storeA storeT storeO itemsRow tab2 tab3 tab4 tab5 tab6 tab7 tab8 tab9 tab10 tab11 tab12 tab13 tab14 tab15 tab16 tab17 tab18 tab19 tab21 tab22 tab23 tab24 tab25 tab26 tab27 tab28 tab31 tab32 tab33 tab37 tab38 tab39 tab46 tab53 tab61 tab62 tab69 tab70 tab98 tab116 tab117 tab125 tab126 tab128 tab136 tab145 tab146 tab151 tab152 tab153 tab155 tab156 tab157
def ByteL (zs : List Int) : Prop := ∀ z ∈ zs, 0 ≤ z ∧ z ≤ 255
theorem bytes_clo {t : VC} (zs : List Int) : Clo (.view t 1 (bytesE zs)) := clo_view (by
  intro e he c hc
  obtain ⟨z, _, rfl⟩ := List.mem_map.1 he
  rw [List.mem_singleton.1 hc]; exact clo_int)
theorem bytesE_len (zs : List Int) : (bytesE zs).length = zs.length := by unfold bytesE; rw [List.length_map]
set_option linter.unusedSimpArgs false
def cD : Nat := cS + 2 + cN + 10 + cN + cN
theorem cD_le : cD ≤ 1000000 := by decide +kernel
theorem tup3_pur {a b c : AV} (h : Pur a) (k : Pur b) (l : Pur c) : Pur (.tup [a, b, c]) := pur_tup (by
  simp only [List.forall_mem_cons, List.not_mem_nil, false_implies, implies_true, and_true]
  exact ⟨h, k, l⟩)
set_option maxRecDepth 100000 in
set_option maxHeartbeats 16000000 in
theorem drawGetItem_AC0 (zs : List Int) (hl : zs.length ≤ 1048576) (hb : ByteL zs) : AC0 Try.prog 49 [.view .loose 1 (bytesE zs)] (fun r => ∃ (s : Sto) (x : ByteArray), s.1.length ≤ 1000 ∧ r = .tup [storeA s, .str x]) := by
  have hc := cD_le
  have hlt : cS + 2 + cN + 10 ≤ cD := by unfold cD; omega
  have hS := anyStore_AC
  generalize cS + 2 + cN = C at *
  generalize cD = D at *
  refine AC0.of tab_ok mixed_ok Try.func49 (by rfl) (by kernel_rfl) ?_; rintro ⟨P, T, hT, hm, w0, S0, rd0, k0⟩ hP hTT hk0; dsimp only at hP hTT hk0; subst hP hTT hk0; unfold initSt; rw [Try.ntmps49]
  (repeat (first | with_reducible refine AW.seq ?_ | ((first | refine arun_kn 4 rfl (fun C hC => ?_) | refine arunD_kn 4 rfl (fun C hC => ?_)); (repeat ((conv => whnf); simp)); refine hC _ ?_; clear hC C; simp only [List.drop, Nat.reduceAdd]) | ((first | refine arun_kn 1 rfl (fun C hC => ?_) | refine arunD_kn 1 rfl (fun C hC => ?_)); (repeat ((conv => whnf); simp)); refine hC _ ?_; clear hC C; simp only [List.drop, Nat.reduceAdd]) | (refine arun_skip ?_ ?_; (focus (simp [awant]; done))) | (refine arun_cN D (newReader_ACN zs (0 + D) hl (by omega) hb) ?_) | (refine arun_c (C) (hS) ?_; (rintro _ ⟨s, hs, rfl⟩)) | (refine arun_c (3) (nameIn_AC .loose s (by omega)) ?_; (rintro _ ⟨x, rfl⟩)) | (refine arunD_skip ?_ ?_; (focus (simp [awant]; done))) | (refine arunD_c (C) (hS) ?_; (rintro _ ⟨s, hs, rfl⟩); intro _) | (refine arunD_cE (3) (nameIn_AC .loose s (by omega)) (by exact ⟨_, ⟨⟨#[]⟩, rfl⟩, in_str⟩) ?_; (rintro _ ⟨x, rfl⟩); intro _) | (refine AW.regionK [] (fun K hK => ?_)) | (refine AW.regionDK [] (pcs [(3, 3, fun r => ∃ x, r = .str x)] []) (by kernel_rfl) (by kernel_rfl) (fun K hK => ?_)) | (refine AW.condT ?_ ?_; (focus (simp [aev]; done))) | (refine AW.condF ?_ ?_; (focus (simp [aev]; done))) | with_reducible refine AW.block ?_ | ((first | ((first | refine arun_nil ?_ | refine arunD_nil ?_); refine hK _ ?_; clear hK K) | refine AW.skip ?_ | refine AW.exit ?_ | refine AW.ret ?_); simp only [thenA_exit, inBlockA_exit, if_true, if_false, Nat.reduceEqDiff, thenA_normal, inBlockA_normal, reduceIte, thenA_ret, inBlockA_ret, endQ_ret, endR_ret, endG_ret, endQ_normal, endR_normal, endG_normal])))
  exact ⟨.tup [storeA s, .str x], by simp [ares, aresL, upd, rowsOf_cons], tup2_pur (storeA_pur s) pur_str, s, x, hs, rfl⟩
def eqT : List ByteArray → List ByteArray → Bool
  | [], [] => true
  | x :: xs, y :: ys => eqs x y && eqT xs ys
  | _, _ => false
theorem eqT_len : ∀ {xs ys : List ByteArray}, eqT xs ys = true → xs.length = ys.length
  | [], [], _ => rfl
  | x :: xs, y :: ys, h => by unfold eqT at h; rw [Bool.and_eq_true] at h; simp [eqT_len h.2]
  | [], _ :: _, h => by cases h
  | _ :: _, [], h => by cases h
theorem eqT_refl : ∀ xs : List ByteArray, eqT xs xs = true
  | [] => rfl
  | x :: xs => by unfold eqT; rw [eqs_iff.2 rfl, eqT_refl xs]; rfl
theorem eqT_of_ne {xs ys : List ByteArray} (h : xs.length ≠ ys.length) : eqT xs ys = false := by
  cases hb : eqT xs ys
  · rfl
  · exact absurd (eqT_len hb) h
set_option maxRecDepth 100000 in
set_option maxHeartbeats 16000000 in
theorem equalTexts_AC (t t' : VC) (xs ys : List ByteArray) (hb : xs.length ≤ 1000000) : AC Try.prog 36 [.view t 1 (strsE xs), .view t' 1 (strsE ys)] 0 (fun r => r = .bool (eqT xs ys)) := by
  refine AC.of tab_ok mixed_ok Try.func36 (by rfl) (by kernel_rfl) ?_; rintro ⟨P, T, hT, hm, w0, S0, rd0, k0⟩ hP hTT; dsimp only at hP hTT; subst hP hTT; unfold initSt; rw [Try.ntmps36]
  by_cases hlen : xs.length = ys.length
  · have hlen' : ((xs.length : Int) != (ys.length : Int)) = false := by rw [hlen]; simp
    (repeat (first | with_reducible refine AW.seq ?_ | ((first | refine arun_kn 4 rfl (fun C hC => ?_) | refine arunD_kn 4 rfl (fun C hC => ?_)); (repeat ((conv => whnf); simp [strsE_len, hlen'])); refine hC _ ?_; clear hC C; simp only [List.drop, Nat.reduceAdd]) | ((first | refine arun_kn 1 rfl (fun C hC => ?_) | refine arunD_kn 1 rfl (fun C hC => ?_)); (repeat ((conv => whnf); simp [strsE_len, hlen'])); refine hC _ ?_; clear hC C; simp only [List.drop, Nat.reduceAdd]) | (refine arun_skip ?_ ?_; (focus (simp [awant, strsE_len, hlen']; done))) | (refine arunD_skip ?_ ?_; (focus (simp [awant, strsE_len, hlen']; done))) | (refine AW.regionK [] (fun K hK => ?_)) | (refine AW.regionDK [] (pcs [] []) (by kernel_rfl) (by kernel_rfl) (fun K hK => ?_)) | (refine AW.condT ?_ ?_; (focus (simp [aev, strsE_len, hlen']; done))) | (refine AW.condF ?_ ?_; (focus (simp [aev, strsE_len, hlen']; done))) | with_reducible refine AW.block ?_ | ((first | ((first | refine arun_nil ?_ | refine arunD_nil ?_); refine hK _ ?_; clear hK K) | refine AW.skip ?_ | refine AW.exit ?_ | refine AW.ret ?_); simp only [thenA_exit, inBlockA_exit, if_true, if_false, Nat.reduceEqDiff, thenA_normal, inBlockA_normal, reduceIte, thenA_ret, inBlockA_ret, endQ_ret, endR_ret, endG_ret, endQ_normal, endR_normal, endG_normal])))
    refine AW.loopS (fun (i : Nat) => mkSt (slots 0 26 [(0, .view t 1 (strsE xs)), (1, .view t' 1 (strsE ys)), (5, .int .i64 i)]) [] [] (rd0.map fun _ => 0)) (fun i => xs.length - i) (fun i => i ≤ xs.length ∧ eqT xs ys = eqT (xs.drop i) (ys.drop i)) 0 ?_ ⟨Nat.zero_le _, rfl⟩ ?_
    · exact less_s
    · rintro i ⟨hi, hf⟩
      by_cases hlt : i < xs.length
      · have hlt2 : i < ys.length := by omega
        have hw : IntKind.i64.wrap ((i : Int) + 1) = (i : Int) + 1 := i64_nat (by omega) (by omega)
        rw [List.drop_eq_getElem_cons hlt, List.drop_eq_getElem_cons hlt2, eqT] at hf
        cases h2 : eqs xs[i] ys[i] <;> rw [h2] at hf
        · (repeat (first | with_reducible refine AW.seq ?_ | ((first | refine arun_kn 4 rfl (fun C hC => ?_) | refine arunD_kn 4 rfl (fun C hC => ?_)); (repeat ((conv => whnf); simp [hlt, hlt2, hw, h2, strsE_len])); refine hC _ ?_; clear hC C; simp only [List.drop, Nat.reduceAdd]) | ((first | refine arun_kn 1 rfl (fun C hC => ?_) | refine arunD_kn 1 rfl (fun C hC => ?_)); (repeat ((conv => whnf); simp [hlt, hlt2, hw, h2, strsE_len])); refine hC _ ?_; clear hC C; simp only [List.drop, Nat.reduceAdd]) | (refine arun_skip ?_ ?_; (focus (simp [awant, hlt, hlt2, hw, h2, strsE_len]; done))) | (refine arunD_skip ?_ ?_; (focus (simp [awant, hlt, hlt2, hw, h2, strsE_len]; done))) | (refine AW.regionK [] (fun K hK => ?_)) | (refine AW.regionDK [] (pcs [] []) (by kernel_rfl) (by kernel_rfl) (fun K hK => ?_)) | (refine AW.condT ?_ ?_; (focus (simp [aev, hlt, hlt2, hw, h2, strsE_len]; done))) | (refine AW.condF ?_ ?_; (focus (simp [aev, hlt, hlt2, hw, h2, strsE_len]; done))) | with_reducible refine AW.block ?_ | ((first | ((first | refine arun_nil ?_ | refine arunD_nil ?_); refine hK _ ?_; clear hK K) | refine AW.skip ?_ | refine AW.exit ?_ | refine AW.ret ?_); simp only [thenA_exit, inBlockA_exit, if_true, if_false, Nat.reduceEqDiff, thenA_normal, inBlockA_normal, reduceIte, thenA_ret, inBlockA_ret, endQ_ret, endR_ret, endG_ret, endQ_normal, endR_normal, endG_normal])))
          exact ⟨.bool false, by simp [ares, aresL], pur_bool, by rw [hf]; rfl⟩
        · (repeat (first | with_reducible refine AW.seq ?_ | ((first | refine arun_kn 4 rfl (fun C hC => ?_) | refine arunD_kn 4 rfl (fun C hC => ?_)); (repeat ((conv => whnf); simp [hlt, hlt2, hw, h2, strsE_len])); refine hC _ ?_; clear hC C; simp only [List.drop, Nat.reduceAdd]) | ((first | refine arun_kn 1 rfl (fun C hC => ?_) | refine arunD_kn 1 rfl (fun C hC => ?_)); (repeat ((conv => whnf); simp [hlt, hlt2, hw, h2, strsE_len])); refine hC _ ?_; clear hC C; simp only [List.drop, Nat.reduceAdd]) | (refine arun_skip ?_ ?_; (focus (simp [awant, hlt, hlt2, hw, h2, strsE_len]; done))) | (refine arunD_skip ?_ ?_; (focus (simp [awant, hlt, hlt2, hw, h2, strsE_len]; done))) | (refine AW.regionK [] (fun K hK => ?_)) | (refine AW.regionDK [] (pcs [] []) (by kernel_rfl) (by kernel_rfl) (fun K hK => ?_)) | (refine AW.condT ?_ ?_; (focus (simp [aev, hlt, hlt2, hw, h2, strsE_len]; done))) | (refine AW.condF ?_ ?_; (focus (simp [aev, hlt, hlt2, hw, h2, strsE_len]; done))) | with_reducible refine AW.block ?_ | ((first | ((first | refine arun_nil ?_ | refine arunD_nil ?_); refine hK _ ?_; clear hK K) | refine AW.skip ?_ | refine AW.exit ?_ | refine AW.ret ?_); simp only [thenA_exit, inBlockA_exit, if_true, if_false, Nat.reduceEqDiff, thenA_normal, inBlockA_normal, reduceIte, thenA_ret, inBlockA_ret, endQ_ret, endR_ret, endG_ret, endQ_normal, endR_normal, endG_normal])))
          exact ⟨i + 1, by omega, ⟨by omega, by rw [hf]; rfl⟩, less_s⟩
      · rw [List.drop_eq_nil_of_le (by omega), List.drop_eq_nil_of_le (by omega)] at hf
        (repeat (first | with_reducible refine AW.seq ?_ | ((first | refine arun_kn 4 rfl (fun C hC => ?_) | refine arunD_kn 4 rfl (fun C hC => ?_)); (repeat ((conv => whnf); simp [hlt, strsE_len])); refine hC _ ?_; clear hC C; simp only [List.drop, Nat.reduceAdd]) | ((first | refine arun_kn 1 rfl (fun C hC => ?_) | refine arunD_kn 1 rfl (fun C hC => ?_)); (repeat ((conv => whnf); simp [hlt, strsE_len])); refine hC _ ?_; clear hC C; simp only [List.drop, Nat.reduceAdd]) | (refine arun_skip ?_ ?_; (focus (simp [awant, hlt, strsE_len]; done))) | (refine arunD_skip ?_ ?_; (focus (simp [awant, hlt, strsE_len]; done))) | (refine AW.regionK [] (fun K hK => ?_)) | (refine AW.regionDK [] (pcs [] []) (by kernel_rfl) (by kernel_rfl) (fun K hK => ?_)) | (refine AW.condT ?_ ?_; (focus (simp [aev, hlt, strsE_len]; done))) | (refine AW.condF ?_ ?_; (focus (simp [aev, hlt, strsE_len]; done))) | with_reducible refine AW.block ?_ | ((first | ((first | refine arun_nil ?_ | refine arunD_nil ?_); refine hK _ ?_; clear hK K) | refine AW.skip ?_ | refine AW.exit ?_ | refine AW.ret ?_); simp only [thenA_exit, inBlockA_exit, if_true, if_false, Nat.reduceEqDiff, thenA_normal, inBlockA_normal, reduceIte, thenA_ret, inBlockA_ret, endQ_ret, endR_ret, endG_ret, endQ_normal, endR_normal, endG_normal])))
        exact ⟨.bool true, by simp [ares, aresL], pur_bool, by rw [hf]; rfl⟩
  · have hlen' : ((xs.length : Int) != (ys.length : Int)) = true := by rw [bne_iff_ne]; omega
    (repeat (first | with_reducible refine AW.seq ?_ | ((first | refine arun_kn 4 rfl (fun C hC => ?_) | refine arunD_kn 4 rfl (fun C hC => ?_)); (repeat ((conv => whnf); simp [strsE_len, hlen'])); refine hC _ ?_; clear hC C; simp only [List.drop, Nat.reduceAdd]) | ((first | refine arun_kn 1 rfl (fun C hC => ?_) | refine arunD_kn 1 rfl (fun C hC => ?_)); (repeat ((conv => whnf); simp [strsE_len, hlen'])); refine hC _ ?_; clear hC C; simp only [List.drop, Nat.reduceAdd]) | (refine arun_skip ?_ ?_; (focus (simp [awant, strsE_len, hlen']; done))) | (refine arunD_skip ?_ ?_; (focus (simp [awant, strsE_len, hlen']; done))) | (refine AW.regionK [] (fun K hK => ?_)) | (refine AW.regionDK [] (pcs [] []) (by kernel_rfl) (by kernel_rfl) (fun K hK => ?_)) | (refine AW.condT ?_ ?_; (focus (simp [aev, strsE_len, hlen']; done))) | (refine AW.condF ?_ ?_; (focus (simp [aev, strsE_len, hlen']; done))) | with_reducible refine AW.block ?_ | ((first | ((first | refine arun_nil ?_ | refine arunD_nil ?_); refine hK _ ?_; clear hK K) | refine AW.skip ?_ | refine AW.exit ?_ | refine AW.ret ?_); simp only [thenA_exit, inBlockA_exit, if_true, if_false, Nat.reduceEqDiff, thenA_normal, inBlockA_normal, reduceIte, thenA_ret, inBlockA_ret, endQ_ret, endR_ret, endG_ret, endQ_normal, endR_normal, endG_normal])))
    exact ⟨.bool false, by simp [ares, aresL], pur_bool, by rw [eqT_of_ne hlen]⟩
end Go.Proofs.Ytmeobmegnneegaa.Eng
namespace Go.Proofs.Ytmeobmegnneegaa
open Go.RowKit Go.ChangeShapes Go.WideShapes Go.Deep
section
variable {H : Type} {enc : TypeId × Value → H} {W : World} {base : Nat} {sp : Nat → Bool} {held : Bool}
theorem addr_spot {w : World} {a : Addr} {v : Value} (h : w.cell? a = some v) : ∃ b o, a = ⟨b, o, none⟩ := by
  have := World.cell?_spot h
  exact ⟨a.block, a.off, by cases a; simp_all⟩
theorem add_mk (b o i : Nat) : (⟨b, o, none⟩ : Addr).add i = ⟨b, o + i, none⟩ := by
  unfold Addr.add; split
  · rename_i h; subst h; rfl
  · rfl
end
end Go.Proofs.Ytmeobmegnneegaa
namespace Go.Proofs.Ytmeobmegnneegaa
open Go.RowKit Go.ChangeShapes Go.WideShapes Go.Deep
def BytesR (W : World) (zs : List Int) (v : Value) : Prop := ∃ a c, v = .slice a zs.length c ∧ zs.length ≤ c ∧ zs.length ≤ big ∧ (zs = [] ∨ ∃ b o, a = some ⟨b, o, none⟩ ∧ ∀ i (h : i < zs.length), W.cell? ⟨b, o + i, none⟩ = some (.int .u8 zs[i])) ∧ Eng.ByteL zs
section
variable {H : Type} {enc : TypeId × Value → H} {W : World} {base : Nat} {sp : Nat → Bool} {held : Bool}
set_option maxRecDepth 100000 in
theorem rv_bytes {fuel : Nat} {v : Value} {x : DataW H × List MemPlace} (h : DataW.trod enc Try.prog W base sp held fuel 46 [v] = some x) : ∃ zs, BytesR W zs v := by
  rcases open_slice Try.underlying46 h with ⟨e, _⟩ | ⟨a, len, cap, m, n, D, Pl, e, _, hl, hm, hmm, _, hi⟩
  · cases e
    exact ⟨[], none, 0, rfl, by simp, by simp, .inl rfl, fun z hz => by cases hz⟩
  · cases e
    have hlm : len ≤ m := by rw [hmm]; split <;> omega
    have hel : ∀ i, i < len → ∃ z : Int, W.cell? (a.add i) = some (.int .u8 z) ∧ (0 ≤ z ∧ z ≤ 255) := fun i hi' => by
      obtain ⟨cs', h1, h2⟩ := hi i (by omega)
      have hc : Try.prog.cellsOf 5 = 1 := by kernel_rfl
      rw [hc] at h1
      obtain ⟨_, hlen, hat⟩ := World.cells?_some h1
      obtain ⟨z, rfl, _, hz⟩ := DataW.trod_int Try.underlying5 h2
      have := hat 0 (by omega)
      refine ⟨z, by simpa [Go.Deep.add_add] using this, ?_⟩
      simp only [Lit.wf, Bool.and_eq_true, decide_eq_true_eq] at hz
      simpa [IntKind.min, IntKind.max, IntKind.signed, IntKind.bits] using hz
    have : Inhabited Int := ⟨0⟩
    obtain ⟨f, hf⟩ := choose_lt hel
    have hkl : ((List.range len).map f).length = len := by simp
    refine ⟨(List.range len).map f, some a, cap, by rw [hkl], by rw [hkl]; exact hl, by rw [hkl]; unfold maxLen at hm; unfold big; omega, ?_, ?_⟩
    · by_cases h0 : len = 0
      · subst h0; exact .inl rfl
      · obtain ⟨b, o, ha⟩ := addr_spot (hf 0 (by omega)).1
        have ha' : a = ⟨b, o, none⟩ := by simpa [Addr.add] using ha
        subst ha'
        refine .inr ⟨b, o, rfl, fun i hi' => ?_⟩
        simp at hi'
        have := (hf i hi').1
        rw [add_mk] at this
        simpa using this
    · intro z hz
      obtain ⟨i, hi', rfl⟩ := List.mem_map.1 hz
      exact (hf i (List.mem_range.1 hi')).2
end
theorem law_bytes {f : FuncId} {zs : List Int} {v : Value} (h : Eng.ByteL zs → Eng.AC0 Try.prog f [.view .loose 1 (Eng.bytesE zs)] (fun r => r = .bool true)) (W : World) (hv : BytesR W zs v) :
    Calls Try.prog f #[v] W fun e W' => e = .returned (.bool true) ∧ Grow W W' := by
  obtain ⟨a, c, rfl, h1, h2, h3, h4⟩ := hv
  refine ((h h4).2 W nil (fun b => b < W.heap.size) [.slice a zs.length c] (fun b hb => hb.elim) (fun b hb => hb) ?_).mono ?_
  · unfold Eng.RepL
    refine ⟨_, _, rfl, ?_, by unfold Eng.RepL; rfl⟩
    refine Eng.rep_view.2 ⟨a, c, by rw [Eng.bytesE_len], fun h => (by cases h), by rw [Eng.bytesE_len]; exact h1, by rw [Eng.bytesE_len]; exact h2, fun e he => ?_, ?_⟩
    · obtain ⟨k, _, rfl⟩ := List.mem_map.1 he; rfl
    · rcases h3 with rfl | ⟨b, o, ha, hc⟩
      · exact .inl rfl
      · by_cases hz : zs = []
        · subst hz; exact .inl rfl
        · have hb : b < W.heap.size := lt_of_cell (hc 0 (List.length_pos_iff.2 hz))
          refine .inr ⟨b, o, ha, hb, Eng.RepE.of_get (sz := 1) (fun e he => ?_) (fun i e he => ?_)⟩
          · obtain ⟨k, _, rfl⟩ := List.mem_map.1 he; rfl
          · unfold Eng.bytesE at he
            rw [List.getElem?_map, Option.map_eq_some_iff] at he
            obtain ⟨x, hx, rfl⟩ := he
            obtain ⟨hi, rfl⟩ := List.getElem?_eq_some_iff.1 hx
            refine Eng.RepC.of_get (fun j d hd => ?_)
            have hj := (List.getElem?_eq_some_iff.1 hd).1
            simp only [List.length_cons, List.length_nil] at hj
            obtain rfl : j = 0 := by omega
            simp only [List.getElem?_cons_zero, Option.some.injEq] at hd
            subst hd
            exact ⟨_, by simpa using hc i hi, rfl, Eng.rep_int.2 rfl⟩
  · rintro e w' ⟨u, r, S', rfl, hg, _, _, hr, rfl⟩
    rw [Eng.rep_bool.1 hr]
    exact ⟨rfl, hg⟩
end Go.Proofs.Ytmeobmegnneegaa
namespace Go.Proofs.Ytmeobmegnneegaa.Eng
open Go Go.RowKit
def changeL (nm : ByteArray) (g : Bool) (n : Nd) : List AV := .str nm :: .bool g :: nodeL n
def changeA (nm : ByteArray) (g : Bool) (n : Nd) : AV := .agg (changeL nm g n)
theorem changeL_eq (nm : ByteArray) (g : Bool) (n : Nd) : changeL nm g n = [.str nm, .bool g, .int .i64 n.kind, .int .i64 n.num, .str n.text, .view .loose 1 (strsE n.names), .view .loose 5 (n.kids.map nodeL)] := by unfold changeL; rw [nodeL_eq]
theorem changeL_pur (nm : ByteArray) (g : Bool) (n : Nd) : ∀ c ∈ changeL nm g n, Pur c := by
  unfold changeL
  simp only [List.forall_mem_cons]
  exact ⟨pur_str, pur_bool, nodeL_pur n⟩
theorem change_pur (nm : ByteArray) (g : Bool) (n : Nd) : Pur (changeA nm g n) := pur_agg (changeL_pur nm g n)
theorem change_clo (nm : ByteArray) (g : Bool) (n : Nd) : Clo (changeA nm g n) := (change_pur nm g n).clo
end Go.Proofs.Ytmeobmegnneegaa.Eng
-- EV: store change
namespace Go.Proofs.Ytmeobmegnneegaa.Eng
open Go Go.RowKit
attribute [local simp] big size_mk ASt.pay Option.map_map Function.comp_def awant aop acall ado aev ofVal ofVal0 ASt.put ASt.add ASt.turn ASt.kill abox aalloc astore aload ASt.at cellsTo afieldAddr afield aindexAddr aindex alen abin aint acmp astr aun apick aextract anil aslice abound abuild afill abuildSlice asCells aps avCells over upd aappend asrc amax amin aconv mkSt slots rowsOf_cons rowsOf_nil usedOf_cons usedOf_nil ZK.av List.replicate ASt.back ASt.addL ASt.killL nodeA nodeT nodeTL_eq nodeL_eq strsE_get strsE_len intsE_get intsE_len strsE_at intsE_at itemA itemL_eq storeA storeT storeO itemsRow changeA changeL_eq tab2 tab3 tab4 tab5 tab6 tab7 tab8 tab9 tab10 tab11 tab12 tab13 tab14 tab15 tab16 tab17 tab18 tab19 tab21 tab22 tab23 tab24 tab25 tab26 tab27 tab28 tab31 tab32 tab33 tab37 tab38 tab39 tab46 tab53 tab61 tab62 tab69 tab70 tab98 tab116 tab117 tab125 tab126 tab128 tab136 tab145 tab146 tab151 tab152 tab153 tab155 tab156 tab157
set_option linter.unusedSimpArgs false
set_option maxRecDepth 100000 in
set_option maxHeartbeats 16000000 in
theorem drawPutItem_AC0 (zs : List Int) (hl : zs.length ≤ 1048576) (hb : ByteL zs) : AC0 Try.prog 66 [.view .loose 1 (bytesE zs)] (fun r => ∃ (s : Sto) (x : ByteArray) (n : Nd), s.1.length ≤ 1000 ∧ Sml n ∧ r = .tup [storeA s, .str x, nodeA n]) := by
  have hc := cD_le
  have hlt : cS + 2 + cN + 10 + cN ≤ cD := by unfold cD; omega
  have hS := anyStore_AC
  have hN : AC Try.prog 109 [.rdr] cN rNodeA := anyNode_AC
  generalize cS + 2 + cN = C at *
  generalize cN = M at *
  generalize cD = D at *
  refine AC0.of tab_ok mixed_ok Try.func66 (by rfl) (by kernel_rfl) ?_; rintro ⟨P, T, hT, hm, w0, S0, rd0, k0⟩ hP hTT hk0; dsimp only at hP hTT hk0; subst hP hTT hk0; unfold initSt; rw [Try.ntmps66]
  (repeat (first | with_reducible refine AW.seq ?_ | ((first | refine arun_kn 4 rfl (fun C hC => ?_) | refine arunD_kn 4 rfl (fun C hC => ?_)); (repeat ((conv => whnf); simp)); refine hC _ ?_; clear hC C; simp only [List.drop, Nat.reduceAdd]) | ((first | refine arun_kn 1 rfl (fun C hC => ?_) | refine arunD_kn 1 rfl (fun C hC => ?_)); (repeat ((conv => whnf); simp)); refine hC _ ?_; clear hC C; simp only [List.drop, Nat.reduceAdd]) | (refine arun_skip ?_ ?_; (focus (simp [awant]; done))) | (refine arun_cN D (newReader_ACN zs (0 + D) hl (by omega) hb) ?_) | (refine arun_c (C) (hS) ?_; (rintro _ ⟨s, hs, rfl⟩)) | (refine arun_c (3) (nameIn_AC .loose s (by omega)) ?_; (rintro _ ⟨x, rfl⟩)) | (refine arun_c (M) (hN) ?_; (rintro _ ⟨n, hn, rfl⟩)) | (refine arunD_skip ?_ ?_; (focus (simp [awant]; done))) | (refine arunD_c (C) (hS) ?_; (rintro _ ⟨s, hs, rfl⟩); intro _) | (refine arunD_c (3) (nameIn_AC .loose s (by omega)) ?_; (rintro _ ⟨x, rfl⟩); intro _) | (refine arunD_cE (M) (hN) (by exact ⟨_, ⟨_, sml_leaf 0 0 ⟨#[]⟩, rfl⟩, node_in _⟩) ?_; (rintro _ ⟨n, hn, rfl⟩); intro _) | (refine AW.regionK [] (fun K hK => ?_)) | (refine AW.regionDK [] (pcs [(3, M, rNodeA)] []) (by kernel_rfl) (by kernel_rfl) (fun K hK => ?_)) | (refine AW.condT ?_ ?_; (focus (simp [aev]; done))) | (refine AW.condF ?_ ?_; (focus (simp [aev]; done))) | with_reducible refine AW.block ?_ | ((first | ((first | refine arun_nil ?_ | refine arunD_nil ?_); refine hK _ ?_; clear hK K) | refine AW.skip ?_ | refine AW.exit ?_ | refine AW.ret ?_); simp only [thenA_exit, inBlockA_exit, if_true, if_false, Nat.reduceEqDiff, thenA_normal, inBlockA_normal, reduceIte, thenA_ret, inBlockA_ret, endQ_ret, endR_ret, endG_ret, endQ_normal, endR_normal, endG_normal])))
  exact ⟨.tup [storeA s, .str x, nodeA n], by simp [ares, aresL, upd, rowsOf_cons], tup3_pur (storeA_pur s) pur_str (node_pur n), s, x, n, hs, hn, rfl⟩
set_option maxRecDepth 100000 in
set_option maxHeartbeats 16000000 in
theorem drawDropItem_AC0 (zs : List Int) (hl : zs.length ≤ 1048576) (hb : ByteL zs) : AC0 Try.prog 60 [.view .loose 1 (bytesE zs)] (fun r => ∃ (s : Sto) (x : ByteArray), s.1.length ≤ 1000 ∧ r = .tup [storeA s, .str x]) := by
  refine AC0.of tab_ok mixed_ok Try.func60 (by rfl) (by kernel_rfl) ?_; rintro ⟨P, T, hT, hm, w0, S0, rd0, k0⟩ hP hTT hk0; dsimp only at hP hTT hk0; subst hP hTT hk0; unfold initSt; rw [Try.ntmps60]
  (repeat (first | with_reducible refine AW.seq ?_ | ((first | refine arun_kn 4 rfl (fun C hC => ?_) | refine arunD_kn 4 rfl (fun C hC => ?_)); (repeat ((conv => whnf); simp)); refine hC _ ?_; clear hC C; simp only [List.drop, Nat.reduceAdd]) | ((first | refine arun_kn 1 rfl (fun C hC => ?_) | refine arunD_kn 1 rfl (fun C hC => ?_)); (repeat ((conv => whnf); simp)); refine hC _ ?_; clear hC C; simp only [List.drop, Nat.reduceAdd]) | (refine arun_skip ?_ ?_; (focus (simp [awant]; done))) | (refine arun_cZ (drawGetItem_AC0 zs hl hb) ?_; (rintro _ ⟨s, x, hs, rfl⟩)) | (refine arunD_skip ?_ ?_; (focus (simp [awant]; done))) | (refine AW.regionK [] (fun K hK => ?_)) | (refine AW.regionDK [] (pcs [] []) (by kernel_rfl) (by kernel_rfl) (fun K hK => ?_)) | (refine AW.condT ?_ ?_; (focus (simp [aev]; done))) | (refine AW.condF ?_ ?_; (focus (simp [aev]; done))) | with_reducible refine AW.block ?_ | ((first | ((first | refine arun_nil ?_ | refine arunD_nil ?_); refine hK _ ?_; clear hK K) | refine AW.skip ?_ | refine AW.exit ?_ | refine AW.ret ?_); simp only [thenA_exit, inBlockA_exit, if_true, if_false, Nat.reduceEqDiff, thenA_normal, inBlockA_normal, reduceIte, thenA_ret, inBlockA_ret, endQ_ret, endR_ret, endG_ret, endQ_normal, endR_normal, endG_normal])))
  exact ⟨.tup [storeA s, .str x], by simp [ares, aresL, upd, rowsOf_cons], tup2_pur (storeA_pur s) pur_str, s, x, hs, rfl⟩
end Go.Proofs.Ytmeobmegnneegaa.Eng
namespace Go.Proofs.Ytmeobmegnneegaa
open Go.RowKit
end Go.Proofs.Ytmeobmegnneegaa
namespace Go.Proofs.Ytmeobmegnneegaa
open Go Go.RowKit
section
variable {α : Type} {E : Rep α}
def RCells (E : Rep α) (w : World) (S : Nat → Prop) : List α → List Value → Prop
  | [], cs => cs = []
  | x :: l, cs => ∃ c d, cs = c ++ d ∧ E.R w S x c ∧ RCells E w S l d
def FCells (E : Rep α) (w : World) : List α → List Value → List Nat → Prop
  | [], cs, fp => cs = [] ∧ fp = []
  | x :: l, cs, fp => ∃ c d f g, cs = c ++ d ∧ fp = f ++ g ∧ E.F w x c f ∧ FCells E w l d g
theorem RCells.len {w : World} {S : Nat → Prop} : ∀ {l : List α} {cs : List Value}, RCells E w S l cs → cs.length = l.length * E.n
  | [], _, h => by cases h; simp
  | x :: l, cs, ⟨c, d, e, h1, h2⟩ => by rw [e, List.length_append, E.rlen h1, RCells.len h2, List.length_cons, Nat.succ_mul]; omega
theorem RCells.snoc {w : World} {S : Nat → Prop} {x : α} {c : List Value} (hx : E.R w S x c) : ∀ {l : List α} {cs : List Value}, RCells E w S l cs → RCells E w S (l ++ [x]) (cs ++ c)
  | [], _, h => by cases h; exact ⟨c, [], by simp, hx, rfl⟩
  | y :: l, cs, ⟨c', d, e, h1, h2⟩ => ⟨c', d ++ c, by rw [e, List.append_assoc], h1, RCells.snoc hx h2⟩
theorem RCells.app {w : World} {S : Nat → Prop} {m : List α} {ds : List Value} (hm : RCells E w S m ds) : ∀ {l : List α} {cs : List Value}, RCells E w S l cs → RCells E w S (l ++ m) (cs ++ ds)
  | [], _, h => by cases h; simpa using hm
  | y :: l, cs, ⟨c', d, e, h1, h2⟩ => ⟨c', d ++ ds, by rw [e, List.append_assoc], h1, RCells.app hm h2⟩
theorem RCells.ext {X S : Nat → Prop} {w w' : World} (h : Ext X w w') (hS : ∀ k, S k → ¬ X k) : ∀ {l : List α} {cs : List Value}, RCells E w S l cs → RCells E w' S l cs
  | [], _, h => h
  | x :: l, cs, ⟨c, d, e, h1, h2⟩ => ⟨c, d, e, E.ext h hS h1, RCells.ext h hS h2⟩
theorem RCells.mono {S T : Nat → Prop} {w : World} (hS : ∀ k, S k → T k) : ∀ {l : List α} {cs : List Value}, RCells E w S l cs → RCells E w T l cs
  | [], _, h => h
  | x :: l, cs, ⟨c, d, e, h1, h2⟩ => ⟨c, d, e, E.mono hS h1, RCells.mono hS h2⟩
theorem RCells.lt {S : Nat → Prop} {w : World} : ∀ {l : List α} {cs : List Value}, RCells E w S l cs → RCells E w (fun k => S k ∧ k < w.heap.size) l cs
  | [], _, h => h
  | x :: l, cs, ⟨c, d, e, h1, h2⟩ => ⟨c, d, e, E.lt h1, RCells.lt h2⟩
theorem RCells.get {w : World} {S : Nat → Prop} : ∀ {l : List α} {cs : List Value}, RCells E w S l cs → ∀ i (h : i < l.length), ∃ c, (∀ j v, c[j]? = some v → cs[i * E.n + j]? = some v) ∧ E.R w S l[i] c
  | [], _, _, i, h => absurd h (by simp)
  | x :: l, cs, ⟨c, d, e, h1, h2⟩, 0, _ => ⟨c, fun j v hj => by
      subst e; rw [Nat.zero_mul, Nat.zero_add, List.getElem?_append_left (List.getElem?_eq_some_iff.1 hj).1]; exact hj, h1⟩
  | x :: l, cs, ⟨c, d, e, h1, h2⟩, i + 1, h => by
    obtain ⟨c', h3, h4⟩ := RCells.get h2 i (by simpa using h)
    refine ⟨c', fun j v hj => ?_, by simpa using h4⟩
    subst e
    have hl := E.rlen h1
    rw [List.getElem?_append_right (by rw [hl, Nat.succ_mul]; omega), hl, show (i + 1) * E.n + j - E.n = i * E.n + j by rw [Nat.succ_mul]; omega]
    exact h3 j v hj
theorem FCells.len {w : World} : ∀ {l : List α} {cs : List Value} {fp : List Nat}, FCells E w l cs fp → cs.length = l.length * E.n
  | [], _, _, h => by rw [h.1]; simp
  | x :: l, cs, fp, ⟨c, d, f, g, e, _, h1, h2⟩ => by rw [e, List.length_append, E.flen h1, FCells.len h2, List.length_cons, Nat.succ_mul]; omega
theorem FCells.snoc {w : World} {x : α} {c : List Value} {f' : List Nat} (hx : E.F w x c f') : ∀ {l : List α} {cs : List Value} {fp : List Nat}, FCells E w l cs fp → FCells E w (l ++ [x]) (cs ++ c) (fp ++ f')
  | [], _, _, h => by obtain ⟨rfl, rfl⟩ := h; exact ⟨c, [], f', [], by simp, by simp, hx, rfl, rfl⟩
  | y :: l, cs, fp, ⟨c', d, f, g, e1, e2, h1, h2⟩ => ⟨c', d ++ c, f, g ++ f', by rw [e1, List.append_assoc], by rw [e2, List.append_assoc], h1, FCells.snoc hx h2⟩
theorem FCells.keep {w w' : World} : ∀ {l : List α} {cs : List Value} {fp : List Nat}, FCells E w l cs fp → (∀ b ∈ fp, ∀ o, w'.cell? ⟨b, o, none⟩ = w.cell? ⟨b, o, none⟩) → FCells E w' l cs fp
  | [], _, _, h, _ => h
  | x :: l, cs, fp, ⟨c, d, f, g, e1, e2, h1, h2⟩, hk => ⟨c, d, f, g, e1, e2, E.keep h1 (fun b hb => hk b (by rw [e2]; simp [hb])), FCells.keep h2 (fun b hb => hk b (by rw [e2]; simp [hb]))⟩
theorem FCells.toR {w : World} {S : Nat → Prop} : ∀ {l : List α} {cs : List Value} {fp : List Nat}, FCells E w l cs fp → (∀ b ∈ fp, S b) → RCells E w S l cs
  | [], _, _, h, _ => h.1
  | x :: l, cs, fp, ⟨c, d, f, g, e1, e2, h1, h2⟩, hk => ⟨c, d, e1, E.toR h1 (fun b hb => hk b (by rw [e2]; simp [hb])), FCells.toR h2 (fun b hb => hk b (by rw [e2]; simp [hb]))⟩
theorem FCells.row {w : World} {b : Nat} : ∀ {l : List α} {cs : List Value} {fp : List Nat} {o : Nat}, FCells E w l cs fp → (∀ i v, cs[i]? = some v → w.cell? ⟨b, o + i, none⟩ = some v) → RowF E w b o l fp
  | [], _, _, _, h, _ => h.2
  | x :: l, cs, fp, o, ⟨c, d, f, g, e1, e2, h1, h2⟩, hk => by
    have hl := E.flen h1
    refine ⟨f, g, c, e2, fun i v hi => hk i v (by rw [e1, List.getElem?_append_left (List.getElem?_eq_some_iff.1 hi).1]; exact hi), h1, FCells.row h2 (fun i v hi => ?_)⟩
    have := hk (E.n + i) v (by rw [e1, List.getElem?_append_right (by omega), hl, Nat.add_sub_cancel_left]; exact hi)
    rw [Nat.add_assoc]; exact this
def rowB (t : Value) (k : Nat) : Prop := t.ownBlock = some k
def RowR (E : Rep α) (B : Nat) (T : TypeId) (w : World) (t : Value) (l : List α) : Prop := ∃ cs, w.ownsRow B T E.n t l.length cs ∧ RCells E w (offRow B t) l cs
def RowO (E : Rep α) (B : Nat) (T : TypeId) (w : World) (t : Value) (l : List α) : Prop :=
  ∃ cs fp, w.ownsRow B T E.n t l.length cs ∧ FCells E w l cs fp ∧ Free B w fp ∧ ∀ b ∈ fp, ¬ rowB t b
variable {B : Nat} {T : TypeId} {w w' w0 : World} {t : Value} {l : List α}
theorem RowR.nil : RowR E B T w (.slice none 0 0) [] := ⟨[], World.ownsRow_nil _ _ _ _, rfl⟩
theorem RowO.nil : RowO E B T w (.slice none 0 0) [] := ⟨[], [], World.ownsRow_nil _ _ _ _, ⟨rfl, rfl⟩, Free.nil _ _, by simp⟩
theorem RowR.made (h : B ≤ w.heap.size) : RowR E B T (w.alloc (.cells #[] T)) (.slice (some ⟨w.heap.size, 0, Option.none⟩) 0 0) [] :=
  ⟨[], World.ownsRow_made w #[] 0 h (by unfold maxLen; omega) (by simp), rfl⟩
theorem RowO.made (h : B ≤ w.heap.size) : RowO E B T (w.alloc (.cells #[] T)) (.slice (some ⟨w.heap.size, 0, Option.none⟩) 0 0) [] :=
  ⟨[], [], World.ownsRow_made w #[] 0 h (by unfold maxLen; omega) (by simp), ⟨rfl, rfl⟩, Free.nil _ _, by simp⟩
theorem RowR.grow (h : RowR E B T w t l) (hg : Grow w w') : RowR E B T w' t l := by
  obtain ⟨cs, h1, h2⟩ := h; exact ⟨cs, row_grow h1 hg, h2.ext hg (fun _ _ h => h)⟩
theorem RowO.grow (h : RowO E B T w t l) (hg : Grow w w') : RowO E B T w' t l := by
  obtain ⟨cs, fp, h1, h2, h3, h4⟩ := h; exact ⟨cs, fp, row_grow h1 hg, h2.keep (hg.keeps h3 (fun _ _ h => h)), h3.ext hg (fun _ _ h => h), h4⟩
theorem RowR.slice (h : RowR E B T w t l) : ∃ a c, t = .slice a l.length c := by
  obtain ⟨cs, h1, _⟩ := h
  rcases h1.2 with ⟨rfl, h0⟩ | ⟨g, cap, cur, rfl, _⟩
  · exact ⟨_, _, by rw [h0]⟩
  · exact ⟨_, _, rfl⟩
theorem RowO.slice (h : RowO E B T w t l) : ∃ a c, t = .slice a l.length c := by
  obtain ⟨cs, fp, h1, _⟩ := h
  rcases h1.2 with ⟨rfl, h0⟩ | ⟨g, cap, cur, rfl, _⟩
  · exact ⟨_, _, by rw [h0]⟩
  · exact ⟨_, _, rfl⟩
theorem RowR.slR (h : RowR E B T w t l) : ∃ a c, t = .slice a l.length c ∧ SlR E w (upB B) a c l := by
  obtain ⟨cs, ⟨h1, h2⟩, h3⟩ := h
  rcases h2 with ⟨rfl, h0⟩ | ⟨g, cap, cur, rfl, hb, hg, hle, hcap, hcs, htake⟩
  · exact ⟨none, 0, by rw [h0], by omega, by unfold big; omega, .inl (List.length_eq_zero_iff.1 h0)⟩
  · refine ⟨_, cap, rfl, hle, by unfold maxLen at hcap; unfold big; omega, .inr ⟨g, 0, rfl, hb, fun i hi => ?_⟩⟩
    obtain ⟨c, h4, h5⟩ := h3.get i hi
    refine ⟨c, fun j v hj => ?_, E.mono (fun k hk => hk.1) h5⟩
    have := row_cells hg htake (i * E.n + j) v (h4 j v hj)
    rw [Nat.add_assoc]; exact this
theorem RowR.rv {hp : 0 < E.n} (h : RowR E B T w t l) : RV (slRep E hp) packO w (upB B) l t := by
  obtain ⟨a, c, rfl, hs⟩ := h.slR; exact ⟨_, rfl, a, c, rfl, hs⟩
theorem grownBy_rowB (h : w.grownBy w' t.ownBlock) : Ext (rowB t) w w' := grownBy_ext h
theorem RowR.snoc {x : α} {c cs : List Value} {t' : Value} (h1 : w.ownsRow B T E.n t l.length cs) (h2 : RCells E w (fun k => offRow B t k ∧ k < w.heap.size) l cs) (hx : E.R w (fun k => offRow B t k ∧ k < w.heap.size) x c)
    (h3 : w'.ownsRow B T E.n t' (l.length + 1) (cs ++ c)) (hg : w.grownBy w' t.ownBlock) (hv : t'.ownBlock = t.ownBlock ∨ t'.ownBlock = some w.heap.size) : RowR E B T w' t' (l ++ [x]) := by
  have he := grownBy_rowB hg
  have hoff : ∀ k, (offRow B t k ∧ k < w.heap.size) → offRow B t' k := fun k hk => ⟨hk.1.1, fun e => by
    rcases hv with hv | hv
    · exact hk.1.2 (hv ▸ e)
    · rw [hv] at e; cases e; omega⟩
  refine ⟨cs ++ c, by simpa using h3, ?_⟩
  exact (RCells.snoc (E.ext he (fun k hk => hk.1.2) hx) (h2.ext he (fun k hk => hk.1.2))).mono hoff
theorem RowO.snoc {x : α} {c : List Value} {f : List Nat} {t' : Value} {cs : List Value} {fp : List Nat} (hown : w0.ownsRow B T E.n t l.length cs) (hF : FCells E w0 l cs fp) (hfr : Free B w0 fp) (hoff : ∀ b ∈ fp, ¬ rowB t b)
    (hg : Grow w0 w) (hx : E.F w x c f) (hfx : Free w0.heap.size w f) (hb : B ≤ w0.heap.size)
    (h3 : w'.ownsRow B T E.n t' (l.length + 1) (cs ++ c)) (hgr : w.grownBy w' t.ownBlock) (hv : t'.ownBlock = t.ownBlock ∨ t'.ownBlock = some w.heap.size) : RowO E B T w' t' (l ++ [x]) := by
  have he := grownBy_rowB hgr
  have hlow := hown.lt
  have hfr1 := hfr.ext hg (fun _ _ h => h)
  have hofx : ∀ b ∈ f, ¬ rowB t b := fun b hb' e => by have := (hlow b e).2; have := (hfx.2 b hb').1; omega
  refine ⟨cs ++ c, fp ++ f, by simpa using h3, FCells.snoc (E.keep hx (he.keeps hfx hofx)) ((hF.keep (hg.keeps hfr (fun _ _ h => h))).keep (he.keeps hfr1 hoff)), ?_, fun b hb' e => ?_⟩
  · refine Free.app2 (hfr1.ext he hoff) ((hfx.ext he hofx).mono hb) (fun y h1 h2 => ?_)
    have := (hfr.2 y h1).2.1
    have := (hfx.2 y h2).1
    omega
  · rcases List.mem_append.1 hb' with h1 | h1
    · rcases hv with hv | hv
      · exact hoff b h1 (hv.symm.trans e)
      · unfold rowB at e; rw [hv] at e; cases e; have := (hfr1.2 _ h1).2.1; omega
    · rcases hv with hv | hv
      · exact hofx b h1 (hv.symm.trans e)
      · unfold rowB at e; rw [hv] at e; cases e; have := (hfx.2 _ h1).2.1; omega
end
end Go.Proofs.Ytmeobmegnneegaa
namespace Go.Proofs.Ytmeobmegnneegaa
open Go.RowKit
def strOf : Value → ByteArray
  | .string s => s
  | _ => ⟨#[]⟩
end Go.Proofs.Ytmeobmegnneegaa
namespace Go.Proofs.Ytmeobmegnneegaa
open Go.RowKit
theorem set_ext (w : World) (b o : Nat) (v : Value) : Ext (fun k => k = b) w (w.setCell ⟨b, o, none⟩ v) := Ext.setIn (X := fun k => k = b) (Ext.refl _ w) (p := ⟨b, o, none⟩) rfl v
theorem below_ext {g : Nat} {w w' : World} (h : Below g w w') (hl : w.heap.size = g + 1) : Ext (fun k => k = g) w w' :=
  ⟨h.os, h.tape, h.output, h.size, fun k hk hx => h.block k (by omega)⟩
theorem heap_at {w : World} {o : Obj} {g : Nat} (h : g = w.heap.size) : (w.alloc o).heap[g]? = some o := by subst h; exact heap_alloc_new w o
theorem wpList_copy_strs {P : Program} {w : World} {ops : Array Oper} {rest : List Oper} {o : Oper} {a : Act} {Q : Exit → Act → World → Prop} (hgd : o.guard = none) (d s : Operand) (dT sT : TypeId)
    (ho : o.op = .call { callee := .builtin .copy, args := #[d, s], argTypes := #[dT, sT] }) (elem : TypeId) (hu : P.underlying dT = some (.slice elem)) (hsz : (P.info? elem).map (·.size) = some 1)
    (names : List ByteArray) (S : Nat → Prop) (na : Option Addr) (nc g cap : Nat) (hd : a.eval d = .slice (some ⟨g, 0, none⟩) names.length cap) (hs : a.eval s = .slice na names.length nc)
    (cur : Array Value) (t : TypeId) (hg : w.heap[g]? = some (.cells cur t (0, 0))) (hcs : cur.size = names.length) (hgl : w.heap.size = g + 1) (hsrc : StrsR w S na nc names) (hne : 0 < names.length)
    (h : ∀ w', (∀ i (hi : i < names.length), w'.cell? ⟨g, i, none⟩ = some (.string names[i])) → (∀ o, w'.frozen? ⟨g, o, none⟩ = false) → g < w'.heap.size → Ext (fun k => k = g) w w' →
      wpList P ops Q rest (a.put o.dst (goInt names.length)) w') : wpList P ops Q (o :: rest) a w := by
  obtain ⟨_, _, _, h4⟩ := hsrc
  rcases h4 with rfl | ⟨b, oo, rfl, _, hc⟩
  · simp at hne
  have hmin : (names.map Value.string).length = Nat.min names.length names.length := by simp
  refine wpList_copy_splice hgd d s dT sT ho elem hu hsz (some ⟨g, 0, none⟩) (some ⟨b, oo, none⟩) names.length cap names.length nc hd hs g 0 cur.toList t (by simpa using hg) (names.map Value.string) hmin
    (fun _ => ⟨rfl, _, rfl, fun j v hj => ?_⟩) (by simp [hcs]) (by intro v hv; simp at hv; obtain ⟨x, _, rfl⟩ := hv; simp [Value.oneCell']) g w (Below.refl _ _) (Nat.le_refl _) ?_
  · rw [addr_add]
    simp only [List.getElem?_map, Option.map_eq_some_iff] at hj
    obtain ⟨x, hx, rfl⟩ := hj
    obtain ⟨hj', rfl⟩ := List.getElem?_eq_some_iff.1 hx
    exact hc j hj'
  · intro w' hw' hb
    have hw := hw'.out
    have he := below_ext hb hgl
    have hsp : splice cur.toList 0 (names.map Value.string) = names.map Value.string := by
      unfold splice
      simp [hcs]
    rw [hsp] at hw
    have hlen : (names.map Value.string).length = names.length := by simp
    have := h w' (fun i hi => ?_) (fun o => ?_) (Array.getElem?_eq_some_iff.1 hw).1 he
    · rw [hlen]; exact this
    · unfold World.cell?
      simp only [hw]
      simp [hi]
    · unfold World.frozen?
      simp [hw]
theorem st5_far {w : World} {b o b' q : Nat} {v0 v1 v2 v3 v4 : Value} (h : b' ≠ b) :
    (((((w.setCell ⟨b, o, none⟩ v0).setCell ⟨b, o + 1, none⟩ v1).setCell ⟨b, o + 2, none⟩ v2).setCell ⟨b, o + 3, none⟩ v3).setCell ⟨b, o + 4, none⟩ v4).cell? ⟨b', q, none⟩ = w.cell? ⟨b', q, none⟩ := by
  rw [World.cell?_setCell_other _ _ _ _ (by intro e; cases e; exact h rfl), World.cell?_setCell_other _ _ _ _ (by intro e; cases e; exact h rfl), World.cell?_setCell_other _ _ _ _ (by intro e; cases e; exact h rfl),
    World.cell?_setCell_other _ _ _ _ (by intro e; cases e; exact h rfl), World.cell?_setCell_other _ _ _ _ (by intro e; cases e; exact h rfl)]
theorem strs_st5 {wr w2 : World} {a : Option Addr} {c B R o : Nat} {xs : List ByteArray} {f1 : List Nat} (v0 v1 v2 v3 v4 : Value) (hF : StrsF wr a c xs f1) (h1 : Free B wr f1) (hg : Grow wr w2) (hR : ∀ y ∈ f1, y < R) :
    StrsF (store5 w2 R o v0 v1 v2 v3 v4) a c xs f1 ∧ Free B (store5 w2 R o v0 v1 v2 v3 v4) f1 := by
  have h2 := h1.ext hg (fun _ _ h => h)
  have he5 := store5_ext w2 R o v0 v1 v2 v3 v4
  have hx : ∀ b ∈ f1, ¬ b = R := fun b hb e => by have := hR b hb; omega
  have hF1 := hF.keep (hg.keeps h1 (fun _ _ h => h))
  exact ⟨hF1.keep (he5.keeps h2 hx), h2.ext he5 hx⟩
theorem box_st5 {wr w2 : World} {b R o : Nat} {cs : List Value} (v0 v1 v2 v3 v4 : Value) (h : BoxN wr b cs) (hg : Grow wr w2) (hb : b ≠ R) : BoxN (store5 w2 R o v0 v1 v2 v3 v4) b cs :=
  (h.grow hg).ext (store5_ext w2 R o v0 v1 v2 v3 v4) hb
def CpRel (w : World) (n : Nd) (ns : Value) (R : Nat) (f1 : List Nat) (i : Value) (wr : World) : Prop :=
  ∃ (k : Nat) (fp : List Nat), k ≤ n.kids.length ∧ i = .int .i64 k ∧ Grow w wr ∧ BoxN wr (w.heap.size + 1) [.int .i64 0, .int .i64 0, .string ⟨#[]⟩, .slice none 0 0, .slice none 0 0] ∧
    BoxN wr (w.heap.size + 1 + 1) [.int .i64 n.kind, .int .i64 n.num, .string n.text, ns, .slice (some ⟨R, 0, none⟩) n.kids.length n.kids.length] ∧
    (∃ na2 nc2, ns = .slice na2 n.names.length nc2 ∧ StrsF wr na2 nc2 n.names f1) ∧ Free (w.heap.size + 3) wr f1 ∧ (∀ y ∈ f1, y < R) ∧ RowIn wr R (n.kids.length * 5) ∧ KidsF wr R 0 (n.kids.take k) fp ∧ Free (R + 1) wr fp
theorem cpRel_next {w wr w2 : World} {n : Nd} {ns : Value} {R k : Nat} {f1 fp f' : List Nat} {na2 : Option Addr} {nc2 : Nat} {ka2 : Option Addr} {kc2 : Nat} (hlt : k < n.kids.length) (hRw : w.heap.size + 1 + 1 < R)
    (hg0 : Grow w wr) (hbr : BoxN wr (w.heap.size + 1) [.int .i64 0, .int .i64 0, .string ⟨#[]⟩, .slice none 0 0, .slice none 0 0])
    (hbl : BoxN wr (w.heap.size + 1 + 1) [.int .i64 n.kind, .int .i64 n.num, .string n.text, ns, .slice (some ⟨R, 0, none⟩) n.kids.length n.kids.length])
    (hst : ∃ na2 nc2, ns = .slice na2 n.names.length nc2 ∧ StrsF wr na2 nc2 n.names f1) (hf1 : Free (w.heap.size + 3) wr f1) (hl1 : ∀ y ∈ f1, y < R) (hrow : RowIn wr R (n.kids.length * 5))
    (hkf : KidsF wr R 0 (n.kids.take k) fp) (hfr : Free (R + 1) wr fp) (hg2 : Grow wr w2) (hN : NodeF w2 n.kids[k] na2 nc2 ka2 kc2 f') (hf' : Free wr.heap.size w2 f') :
    CpRel w n ns R f1 (.int .i64 ((k : Int) + 1)) (store5 w2 R (k * 5) (.int .i64 n.kids[k].kind) (.int .i64 n.kids[k].num) (.string n.kids[k].text) (.slice na2 n.kids[k].names.length nc2) (.slice ka2 n.kids[k].kids.length kc2)) := by
  have zr := hrow.1
  have hrow2 := hrow.ext hg2 (fun h => h)
  have hl : (n.kids.take k).length = k := by simp; omega
  have hbf : R ∉ fp := fun h => by have := (hfr.2 _ h).1; omega
  have hbf' : R ∉ f' := fun h => by have := (hf'.2 _ h).1; omega
  have hkf2 := hkf.keep (hg2.keeps hfr (fun _ _ h => h)) (fun o' _ ho => hg2.cell (p := ⟨R, o', none⟩) hrow.1 (fun h => h))
  have hlay := KidsF.lay hrow2 hkf2 hN (by rw [hl]; omega) hbf hbf'
  rw [hl] at hlay
  have hfr3 := Free.append hfr hf' hg2 (Nat.le_refl _) (by omega)
  have he5 := store5_ext w2 R (k * 5) (.int .i64 n.kids[k].kind) (.int .i64 n.kids[k].num) (.string n.kids[k].text) (.slice na2 n.kids[k].names.length nc2) (.slice ka2 n.kids[k].kids.length kc2)
  obtain ⟨a, c, hs, hF⟩ := hst
  obtain ⟨hF2, hf2⟩ := strs_st5 (o := k * 5) (.int .i64 n.kids[k].kind) (.int .i64 n.kids[k].num) (.string n.kids[k].text) (.slice na2 n.kids[k].names.length nc2) (.slice ka2 n.kids[k].kids.length kc2) hF hf1 hg2 hl1
  have hgw : Grow w (store5 w2 R (k * 5) (.int .i64 n.kids[k].kind) (.int .i64 n.kids[k].num) (.string n.kids[k].text) (.slice na2 n.kids[k].names.length nc2) (.slice ka2 n.kids[k].kids.length kc2)) := Grow.inner (hg0.trans hg2) he5 (by intro i hi; have : i = R := hi; omega)
  refine ⟨k + 1, fp ++ f', by omega, by go_num, hgw, box_st5 _ _ _ _ _ hbr hg2 (by omega), box_st5 _ _ _ _ _ hbl hg2 (by omega), ⟨a, c, hs, hF2⟩, hf2, hl1, store5_row hrow2 _ _ _ _ _ _, ?_, store5_free hfr3 _ _ _ _ _ _ _⟩
  rw [take_snoc' _ _ hlt]; exact hlay
def CopyIOk (n : Nd) : Prop := ∀ (v : Value) (w : World), Good n → NodeR w any n v →
  Calls Try.prog 81 #[v] w fun e w' => ∃ v' fp, e = .returned v' ∧ Grow w w' ∧ NodeO w' n v' fp ∧ Free w.heap.size w' fp
set_option maxRecDepth 100000 in
set_option maxHeartbeats 4000000 in
theorem copyI_none (n : Nd) (ih : ∀ k ∈ n.kids, CopyIOk k) (hn0 : ¬ 0 < n.names.length) (hk0 : ¬ 0 < n.kids.length) : CopyIOk n := by
  intro v w hg hn
  obtain ⟨na, nc, ka, kc, rfl, hc⟩ := hn
  obtain ⟨htx, hns, hks⟩ := hc.parts
  have l6 := hg.kids6
  have n6 : n.names.length ≤ 6 := by have := hg.len; omega
  have Htx := Lib.hid htx
  have Hns := Lib.hid hns
  have Hks := Lib.hid hks
  have Ih := Lib.hid ih
  have Hg := Lib.hid hg
  clear hc hns hks ih hg htx
  unfold nodeV
  have hmk := run_mk (P := Try.prog) 25 9 _ 1 16 Try.underlying25 info_string .i64 .i64 n.names.length (by omega) (by omega)
  have hmk2 := run_mk (P := Try.prog) 37 39 _ 5 80 Try.underlying37 info_Node .i64 .i64 n.kids.length (by omega) (by omega)
  have Hn0 : Hid (n.names = []) := Lib.hid (List.length_eq_zero_iff.1 (by omega))
  have Hnl : Hid (n.names.length = 0) := Lib.hid (by omega)
  go_enter Try.func81, Try.ntmps81
  go_wp2_with fail
  refine bodyPost_ret (v := nodeV n none 0 none 0) ?_ rfl ⟨_, [], rfl, (by repeat (first | with_reducible exact Ext.refl _ _ | with_reducible refine Ext.trans ?_ (by assumption) | with_reducible refine Ext.drew ?_ | with_reducible refine Ext.drewN ?_ _ | with_reducible refine Ext.alloc ?_ _ | with_reducible refine Ext.setNew ?_ (by simp; done) _ | with_reducible refine Ext.setNew ?_ (by simp; omega) _)), ⟨none, 0, none, 0, rfl, ?_⟩, Free.nil _ _⟩
  · simp [results, Try.results81, go_sem, nodeV, Hnl.out]; omega
  · exact NodeF.mk (f1 := []) (f2 := []) Htx.out ⟨by omega, by unfold big; omega, by rw [Hn0.out]; simp, .inl ⟨Hn0.out, rfl⟩⟩ ⟨by omega, by unfold big; omega, .inl ⟨List.length_eq_zero_iff.1 (by omega), rfl⟩⟩
set_option maxRecDepth 100000 in
set_option maxHeartbeats 4000000 in
theorem copyI_kids (n : Nd) (ih : ∀ k ∈ n.kids, CopyIOk k) (hn0 : ¬ 0 < n.names.length) (hk0 : 0 < n.kids.length) : CopyIOk n := by
  intro v w hg hn
  obtain ⟨na, nc, ka, kc, rfl, hc⟩ := hn
  obtain ⟨htx, hns, hks⟩ := hc.parts
  have l6 := hg.kids6
  have n6 : n.names.length ≤ 6 := by have := hg.len; omega
  have Htx := Lib.hid htx
  have Hns := Lib.hid hns
  have Hks := Lib.hid hks
  have Ih := Lib.hid ih
  have Hg := Lib.hid hg
  clear hc hns hks ih hg htx
  unfold nodeV
  have hmk := run_mk (P := Try.prog) 25 9 _ 1 16 Try.underlying25 info_string .i64 .i64 n.names.length (by omega) (by omega)
  have hmk2 := run_mk (P := Try.prog) 37 39 _ 5 80 Try.underlying37 info_Node .i64 .i64 n.kids.length (by omega) (by omega)
  have Hn0 : Hid (n.names = []) := Lib.hid (List.length_eq_zero_iff.1 (by omega))
  have Hnl : Hid (n.names.length = 0) := Lib.hid (by omega)
  go_enter Try.func81, Try.ntmps81
  go_wp2_with fail
  clear hmk hmk2
  go_loopw [4, 5, 39] (fun _ _ i wr => CpRel w n (.slice none 0 0) (w.heap.size + 1 + 1 + 1) ([]) i wr) (fun _ _ i _ => n.kids.length - (intOf i).toNat)
  case round =>
    obtain ⟨k, fp, hk, rfl, hg0, hbr, hbl, hst, hf1, hlt1, hrow, hkf, hfr⟩ := hrel
    have Hbr := Lib.hid hbr
    have Hbl := Lib.hid hbl
    have Hst := Lib.hid hst
    have Hf1 := Lib.hid hf1
    have Hl1 := Lib.hid hlt1
    have Hrow := Lib.hid hrow
    have Hkf := Lib.hid hkf
    have Hfr := Lib.hid hfr
    have zr := hrow.1
    have zl := hbl.lt
    clear hbr hbl hst hf1 hlt1 hrow hkf hfr
    by_cases hlt : k < n.kids.length
    · obtain ⟨_, _, hks⟩ := (Hks.out).ext hg0 (fun _ _ h => h)
      rcases hks with hks | ⟨bk, ok, rfl, _, hkr⟩
      · simp [hks] at hlt
      obtain ⟨na', nc', ka', kc', c0, c1, c2, c3, c4, hkc⟩ := hkr.get k hlt
      have Hkc := Lib.hid hkc
      clear hkr hkc
      have zb : bk < wr.heap.size := lt_of_cell c0
      have ha : Grow wr (wr.alloc (.cells #[.int .i64 n.kids[k].kind, .int .i64 n.kids[k].num, .string n.kids[k].text, .slice na' n.kids[k].names.length nc', .slice ka' n.kids[k].kids.length kc'] 39)) := (Ext.refl nil wr).alloc _
      have hbk := BoxN.new wr [.int .i64 n.kids[k].kind, .int .i64 n.kids[k].num, .string n.kids[k].text, .slice na' n.kids[k].names.length nc', .slice ka' n.kids[k].kids.length kc'] 39
      have Hc : Hid (∀ w', Grow wr w' → Calls Try.prog 81 #[.agg #[.int .i64 n.kids[k].kind, .int .i64 n.kids[k].num, .string n.kids[k].text, .slice na' n.kids[k].names.length nc', .slice ka' n.kids[k].kids.length kc']] w' fun e w'' => ∃ v' fp, e = .returned v' ∧ Grow w' w'' ∧ NodeO w'' n.kids[k] v' fp ∧ Free w'.heap.size w'' fp) := Lib.hid (fun w' hg' => Ih.out _ (List.getElem_mem hlt) _ _ (Hg.out.kid (List.getElem_mem hlt)) ⟨_, _, _, _, rfl, Hkc.out.ext hg' (fun _ _ h => h)⟩)
      have Hbl1 := Lib.hid (Hbl.out.grow ha)
      have Hbk := Lib.hid hbk
      have hrk : (k : Int) < (n.kids.length : Int) := by omega
      have hrk0 : (0 : Int) ≤ (k : Int) := by omega
      go_wp2_with fail
      obtain ⟨wa, hwa, ga, ba, bk2, za⟩ : ∃ wa, wr.alloc (.cells #[.int .i64 n.kids[k].kind, .int .i64 n.kids[k].num, .string n.kids[k].text, .slice na' n.kids[k].names.length nc', .slice ka' n.kids[k].kids.length kc'] 39) = wa ∧ Grow wr wa ∧ BoxN wa (w.heap.size + 1 + 1) [.int .i64 n.kind, .int .i64 n.num, .string n.text, .slice none 0 0, .slice (some ⟨w.heap.size + 1 + 1 + 1, 0, none⟩) n.kids.length n.kids.length] ∧ BoxN wa wr.heap.size [.int .i64 n.kids[k].kind, .int .i64 n.kids[k].num, .string n.kids[k].text, .slice na' n.kids[k].names.length nc', .slice ka' n.kids[k].kids.length kc'] ∧ wa.heap.size = wr.heap.size + 1 := ⟨_, rfl, ha, Hbl1.out, Hbk.out, by simp⟩
      rw [hwa]
      clear hwa ha hbk c0 c1 c2 c3 c4
      have za' : wr.heap.size < wa.heap.size := by omega
      clear za
      have y4 := ba.cell 4 _ rfl
      have x0 := bk2.cell 0 _ rfl
      have x1 := bk2.cell 1 _ rfl
      have x2 := bk2.cell 2 _ rfl
      have x3 := bk2.cell 3 _ rfl
      have x4 := bk2.cell 4 _ rfl
      clear ba bk2
      go_region_held3 (fun w' => w'.cell? ⟨w.heap.size + 1 + 1, 4, none⟩ = some (.slice (some ⟨w.heap.size + 1 + 1 + 1, 0, none⟩) n.kids.length n.kids.length) ∧ w'.cell? ⟨wr.heap.size, 0, none⟩ = some (.int .i64 n.kids[k].kind) ∧ w'.cell? ⟨wr.heap.size, 1, none⟩ = some (.int .i64 n.kids[k].num) ∧ w'.cell? ⟨wr.heap.size, 2, none⟩ = some (.string n.kids[k].text) ∧ w'.cell? ⟨wr.heap.size, 3, none⟩ = some (.slice na' n.kids[k].names.length nc') ∧ w'.cell? ⟨wr.heap.size, 4, none⟩ = some (.slice ka' n.kids[k].kids.length kc'))
        (first | (go_keep; done) | (refine ⟨?_, ?_, ?_, ?_, ?_, ?_⟩ <;> (first | (first | with_reducible exact hg2.some (by simpa using y4) | with_reducible exact hg2.some (by simpa using x0) | with_reducible exact hg2.some (by simpa using x1) | with_reducible exact hg2.some (by simpa using x2) | with_reducible exact hg2.some (by simpa using x3) | with_reducible exact hg2.some (by simpa using x4)) | (with_reducible rw [st5_far]; (first | with_reducible exact hg2.some (by simpa using y4) | with_reducible exact hg2.some (by simpa using x0) | with_reducible exact hg2.some (by simpa using x1) | with_reducible exact hg2.some (by simpa using x2) | with_reducible exact hg2.some (by simpa using x3) | with_reducible exact hg2.some (by simpa using x4)); omega))))
        ((go_at_call 81; refine (Hc.out _ (ga.drewN _)).mono ?_; rintro e w2 ⟨v', f', rfl, hg2, hN, hf'⟩; obtain ⟨na2, nc2, ka2, kc2, rfl, hN⟩ := hN; have hg2' := (ga.drewN _).trans hg2; have hrow2 := Hrow.out.ext hg2' (fun h => h); have hfz := hrow2.2.2; obtain ⟨u0, d0⟩ := hrow2.2.1 (k * 5) (by omega); obtain ⟨u1, d1⟩ := hrow2.2.1 (k * 5 + 1) (by omega); obtain ⟨u2, d2⟩ := hrow2.2.1 (k * 5 + 2) (by omega); obtain ⟨u3, d3⟩ := hrow2.2.1 (k * 5 + 3) (by omega); obtain ⟨u4, d4⟩ := hrow2.2.1 (k * 5 + 4) (by omega); have Hrow2 := Lib.hid hrow2; clear hrow2; unfold nodeV))
      rename_i hHeld
      clear hHeld y4 x0 x1 x2 x3 x4 d0 d1 d2 d3 d4 hfz
      have hsz2 : (wa.drewN 1).heap.size = wa.heap.size := rfl
      have hrel := cpRel_next hlt (by omega) hg0 Hbr.out Hbl.out Hst.out Hf1.out Hl1.out Hrow.out Hkf.out Hfr.out hg2' hN (hf'.mono (B' := wr.heap.size) (by omega))
      have Hrel := Lib.hid hrel
      clear hrel
      go_wp2_with fail
      go_roundw
      case rel => exact Hrel.out
      case measure => simp [intOf]; omega
    · have hke : k = n.kids.length := by omega
      subst hke
      rw [List.take_length] at Hkf
      obtain ⟨na2, nc2, hns, hF⟩ := Hst.out
      have Hns2 := Lib.hid hns
      have HF := Lib.hid hF
      have hfl := Hbl.out.fr
      have hfb := Hbr.out.fr
      have q0 := Hbl.out.cell 0 _ rfl
      have q1 := Hbl.out.cell 1 _ rfl
      have q2 := Hbl.out.cell 2 _ rfl
      have q3 := Hbl.out.cell 3 _ rfl
      have q4 := Hbl.out.cell 4 _ rfl
      have r0 := Hbr.out.cell 0 _ rfl
      have r1 := Hbr.out.cell 1 _ rfl
      have r2 := Hbr.out.cell 2 _ rfl
      have r3 := Hbr.out.cell 3 _ rfl
      have r4 := Hbr.out.cell 4 _ rfl
      clear hns hF
      go_wp2_with fail
      clear q0 q1 q2 q3 q4 r0 r1 r2 r3 r4
      have BF := ((((Hbr.out.set 0 (by simp) (.int .i64 n.kind)).set 1 (by simp) (.int .i64 n.num)).set 2 (by simp) (.string n.text)).set 3 (by simp) (.slice none 0 0)).set 4 (by simp) (.slice (some ⟨w.heap.size + 1 + 1 + 1, 0, none⟩) n.kids.length n.kids.length)
      have s0 := BF.cell 0 _ rfl
      have s1 := BF.cell 1 _ rfl
      have s2 := BF.cell 2 _ rfl
      have s3 := BF.cell 3 _ rfl
      have s4 := BF.cell 4 _ rfl
      have he5 := store5_ext wr (w.heap.size + 1) 0 (.int .i64 n.kind) (.int .i64 n.num) (.string n.text) (.slice none 0 0) (.slice (some ⟨w.heap.size + 1 + 1 + 1, 0, none⟩) n.kids.length n.kids.length)
      have x1 : ∀ b ∈ ([] : List Nat), ¬ (b = w.heap.size + 1) := fun b hb e => by have := (Hf1.out.2 b hb).1; omega
      have x2 : ∀ b ∈ (w.heap.size + 1 + 1 + 1) :: fp, ¬ (b = w.heap.size + 1) := fun b hb e => by
        rcases List.mem_cons.1 hb with rfl | hb
        · omega
        · have := (Hfr.out.2 b hb).1; omega
      have hfrR : Free (w.heap.size + 1 + 1 + 1) wr ((w.heap.size + 1 + 1 + 1) :: fp) := Free.cons Hrow.out (by omega) Hfr.out
      refine bodyPost_ret (v := .agg #[.int .i64 n.kind, .int .i64 n.num, .string n.text, .slice none 0 0, .slice (some ⟨w.heap.size + 1 + 1 + 1, 0, none⟩) n.kids.length n.kids.length]) ?_ rfl ⟨_, ([]) ++ ((w.heap.size + 1 + 1 + 1) :: fp), rfl, hg0.inner he5 (by intro i hi; omega), ⟨na2, nc2, _, _, by rw [Hns2.out]; rfl, ?_⟩, ?_⟩
      · simp [results, Try.results81, go_sem, s0, s1, s2, s3, s4]
      · refine NodeF.mk Htx.out (HF.out.keep (he5.keeps Hf1.out x1)) ⟨Nat.le_refl _, Hks.out.2.1, .inr ⟨w.heap.size + 1 + 1 + 1, 0, fp, ?_, rfl, rfl, ?_⟩⟩
        · intro e; rw [e] at hk0; simp at hk0
        · exact Hkf.out.keep (he5.keeps Hfr.out (fun b hb e => x2 b (by simp [hb]) e)) (fun o' _ _ => he5.cell (p := ⟨w.heap.size + 1 + 1 + 1, o', none⟩) Hrow.out.1 (by intro e; have e' : w.heap.size + 1 + 1 + 1 = w.heap.size + 1 := e; omega))
      · refine Free.app2 ((Hf1.out.ext he5 x1).mono (by omega)) ((hfrR.ext he5 x2).mono (by omega)) (fun y h1 h2 => ?_)
        have := Hl1.out y h1
        rcases List.mem_cons.1 h2 with h3 | h3
        · omega
        · have := (Hfr.out.2 y h3).1; omega
  case atStart =>
    refine ⟨0, [], Nat.zero_le _, rfl, (by repeat (first | with_reducible exact Ext.refl _ _ | with_reducible refine Ext.trans ?_ (by assumption) | with_reducible refine Ext.drew ?_ | with_reducible refine Ext.drewN ?_ _ | with_reducible refine Ext.alloc ?_ _ | with_reducible refine Ext.setNew ?_ (by simp; done) _ | with_reducible refine Ext.setNew ?_ (by simp; omega) _)), (BoxN.new1 w _ [.int .i64 0, .int .i64 0, .string ⟨#[]⟩, .slice none 0 0, .slice none 0 0] _).grow (((Ext.refl nil _).alloc _).alloc _), (BoxN.new2 w _ _ [.int .i64 n.kind, .int .i64 n.num, .string n.text, .slice none 0 0, .slice (some ⟨w.heap.size + 1 + 1 + 1, 0, none⟩) n.kids.length n.kids.length] _).grow ((Ext.refl nil _).alloc _), ⟨none, 0, by rw [Hnl.out], ?_⟩, Free.nil _ _, by simp, ?_, by simp [KidsF], Free.nil _ _⟩
    · rw [Hn0.out]; exact ⟨Nat.le_refl _, Nat.zero_le _, by simp, .inl ⟨rfl, rfl⟩⟩
    · have := RowIn.made (((w.alloc (.cells #[.int .i64 n.kind, .int .i64 n.num, .string n.text, .slice na n.names.length nc, .slice ka n.kids.length kc] 39)).alloc (.cells #[.int .i64 0, .int .i64 0, .string ⟨#[]⟩, .slice none 0 0, .slice none 0 0] 39)).alloc (.cells #[.int .i64 n.kind, .int .i64 n.num, .string n.text, .slice none 0 0, .slice (some ⟨w.heap.size + 1 + 1 + 1, 0, none⟩) n.kids.length n.kids.length] 39)) #[.int .i64 0, .int .i64 0, .string ⟨#[]⟩, .slice none 0 0, .slice none 0 0] (n.kids.length * 5) 39
      simpa using this
set_option maxRecDepth 100000 in
set_option maxHeartbeats 4000000 in
theorem copyI_names (n : Nd) (ih : ∀ k ∈ n.kids, CopyIOk k) (hn0 : 0 < n.names.length) (hk0 : ¬ 0 < n.kids.length) : CopyIOk n := by
  intro v w hg hn
  obtain ⟨na, nc, ka, kc, rfl, hc⟩ := hn
  obtain ⟨htx, hns, hks⟩ := hc.parts
  have l6 := hg.kids6
  have n6 : n.names.length ≤ 6 := by have := hg.len; omega
  have Htx := Lib.hid htx
  have Hns := Lib.hid hns
  have Hks := Lib.hid hks
  have Ih := Lib.hid ih
  have Hg := Lib.hid hg
  clear hc hns hks ih hg htx
  unfold nodeV
  have hmk := run_mk (P := Try.prog) 25 9 _ 1 16 Try.underlying25 info_string .i64 .i64 n.names.length (by omega) (by omega)
  have hmk2 := run_mk (P := Try.prog) 37 39 _ 5 80 Try.underlying37 info_Node .i64 .i64 n.kids.length (by omega) (by omega)
  have hB0 := BoxN.new1 w (.cells #[.int .i64 n.kind, .int .i64 n.num, .string n.text, .slice na n.names.length nc, .slice ka n.kids.length kc] 39) [.int .i64 0, .int .i64 0, .string ⟨#[]⟩, .slice none 0 0, .slice none 0 0] 39
  have hB1 := BoxN.new2 w (.cells #[.int .i64 n.kind, .int .i64 n.num, .string n.text, .slice na n.names.length nc, .slice ka n.kids.length kc] 39) (.cells #[.int .i64 0, .int .i64 0, .string ⟨#[]⟩, .slice none 0 0, .slice none 0 0] 39) [.int .i64 n.kind, .int .i64 n.num, .string n.text, .slice (some ⟨w.heap.size + 1 + 1 + 1, 0, none⟩) n.names.length n.names.length, .slice none 0 0] 39
  have hBp := ((BoxN.new w [.int .i64 n.kind, .int .i64 n.num, .string n.text, .slice na n.names.length nc, .slice ka n.kids.length kc] 39).grow ((Ext.refl nil _).alloc (.cells #[.int .i64 0, .int .i64 0, .string ⟨#[]⟩, .slice none 0 0, .slice none 0 0] 39))).grow ((Ext.refl nil _).alloc (.cells #[.int .i64 n.kind, .int .i64 n.num, .string n.text, .slice (some ⟨w.heap.size + 1 + 1 + 1, 0, none⟩) n.names.length n.names.length, .slice none 0 0] 39))
  have HB0 := Lib.hid hB0
  have HB1 := Lib.hid hB1
  have HBp := Lib.hid hBp
  clear hB0 hB1 hBp
  go_enter Try.func81, Try.ntmps81
  go_wp2_with ((refine wpList_copy_strs rfl (.tmp 23) (.tmp 25) 25 25 rfl 9 Try.underlying25 ?c0 n.names any na nc (w.heap.size + 1 + 1 + 1) n.names.length rfl rfl _ 9 (heap_at (by simp)) ?c1 ?c2 ?c3 hn0 ?_))
  case c0 => kernel_rfl
  case c1 => rw [size_madeCells]
  case c2 => simp
  case c3 => exact Hns.out.grow (((((Ext.refl nil w).alloc _).alloc _).alloc _).alloc _)
  intro w3 hc3 hfz3 hlt3 he3
  have hs3 : StrsF w3 (some ⟨w.heap.size + 1 + 1 + 1, 0, none⟩) n.names.length n.names [w.heap.size + 1 + 1 + 1] := ⟨Nat.le_refl _, by unfold big; omega, Hns.out.2.2.1, .inr ⟨_, 0, by intro e; rw [e] at hn0; simp at hn0, rfl, rfl, fun i hi => by rw [Nat.zero_add]; exact hc3 i hi⟩⟩
  have hf3 : Free (w.heap.size + 3) w3 [w.heap.size + 1 + 1 + 1] := ⟨by simp, fun b hb => by simp at hb; subst hb; exact ⟨by omega, hlt3, hfz3⟩⟩
  have hg3 : Grow w w3 := Grow.inner (((((Ext.refl nil w).alloc _).alloc _).alloc _).alloc _) he3 (by intro i hi; omega)
  have HS3 := Lib.hid hs3
  have HF3 := Lib.hid hf3
  replace HB0 := Lib.hid ((HB0.out.grow (((Ext.refl nil _).alloc (.cells #[.int .i64 n.kind, .int .i64 n.num, .string n.text, .slice (some ⟨w.heap.size + 1 + 1 + 1, 0, none⟩) n.names.length n.names.length, .slice none 0 0] 39)).alloc _)).ext he3 (by omega))
  replace HB1 := Lib.hid ((HB1.out.grow ((Ext.refl nil _).alloc _)).ext he3 (by omega))
  replace HBp := Lib.hid ((HBp.out.grow ((Ext.refl nil _).alloc _)).ext he3 (by omega))
  clear hs3 hf3 hc3 hfz3 he3
  have q0 := HB1.out.cell 0 _ rfl
  have q1 := HB1.out.cell 1 _ rfl
  have q2 := HB1.out.cell 2 _ rfl
  have q3 := HB1.out.cell 3 _ rfl
  have q4 := HB1.out.cell 4 _ rfl
  have hfl := HB1.out.fr
  have zl := HB1.out.lt
  have p4 := HBp.out.cell 4 _ rfl
  have zp := HBp.out.lt
  have hfb := HB0.out.fr
  have r0 := HB0.out.cell 0 _ rfl
  have r1 := HB0.out.cell 1 _ rfl
  have r2 := HB0.out.cell 2 _ rfl
  have r3 := HB0.out.cell 3 _ rfl
  have r4 := HB0.out.cell 4 _ rfl
  go_wp2_with fail
  clear q0 q1 q2 q3 q4 r0 r1 r2 r3 r4 p4
  have BF := ((((HB0.out.set 0 (by simp) (.int .i64 n.kind)).set 1 (by simp) (.int .i64 n.num)).set 2 (by simp) (.string n.text)).set 3 (by simp) (.slice (some ⟨w.heap.size + 1 + 1 + 1, 0, none⟩) n.names.length n.names.length)).set 4 (by simp) (.slice none 0 0)
  have s0 := BF.cell 0 _ rfl
  have s1 := BF.cell 1 _ rfl
  have s2 := BF.cell 2 _ rfl
  have s3 := BF.cell 3 _ rfl
  have s4 := BF.cell 4 _ rfl
  have he5 := store5_ext w3 (w.heap.size + 1) 0 (.int .i64 n.kind) (.int .i64 n.num) (.string n.text) (.slice (some ⟨w.heap.size + 1 + 1 + 1, 0, none⟩) n.names.length n.names.length) (.slice none 0 0)
  have x1 : ∀ b ∈ [w.heap.size + 1 + 1 + 1], ¬ (b = w.heap.size + 1) := fun b hb e => by simp at hb; omega
  have hk : n.kids = [] := List.length_eq_zero_iff.1 (by omega)
  have hkl : n.kids.length = 0 := by omega
  refine bodyPost_ret (v := .agg #[.int .i64 n.kind, .int .i64 n.num, .string n.text, .slice (some ⟨w.heap.size + 1 + 1 + 1, 0, none⟩) n.names.length n.names.length, .slice none 0 0]) ?_ rfl ⟨_, [w.heap.size + 1 + 1 + 1] ++ [], rfl, hg3.inner he5 (by intro i hi; have : i = w.heap.size + 1 := hi; omega), ⟨_, _, none, 0, by rw [nodeV, hkl], ?_⟩, ?_⟩
  · simp [results, Try.results81, go_sem, s0, s1, s2, s3, s4]
  · exact NodeF.mk Htx.out (HS3.out.keep (he5.keeps HF3.out x1)) ⟨by omega, by unfold big; omega, .inl ⟨hk, rfl⟩⟩
  · have := (HF3.out.ext he5 x1).mono (B' := w.heap.size) (by omega)
    exact this
set_option maxRecDepth 100000 in
set_option maxHeartbeats 4000000 in
theorem copyI_both (n : Nd) (ih : ∀ k ∈ n.kids, CopyIOk k) (hn0 : 0 < n.names.length) (hk0 : 0 < n.kids.length) : CopyIOk n := by
  intro v w hg hn
  obtain ⟨na, nc, ka, kc, rfl, hc⟩ := hn
  obtain ⟨htx, hns, hks⟩ := hc.parts
  have l6 := hg.kids6
  have n6 : n.names.length ≤ 6 := by have := hg.len; omega
  have Htx := Lib.hid htx
  have Hns := Lib.hid hns
  have Hks := Lib.hid hks
  have Ih := Lib.hid ih
  have Hg := Lib.hid hg
  clear hc hns hks ih hg htx
  unfold nodeV
  have hmk := run_mk (P := Try.prog) 25 9 _ 1 16 Try.underlying25 info_string .i64 .i64 n.names.length (by omega) (by omega)
  have hmk2 := run_mk (P := Try.prog) 37 39 _ 5 80 Try.underlying37 info_Node .i64 .i64 n.kids.length (by omega) (by omega)
  have hB0 := BoxN.new1 w (.cells #[.int .i64 n.kind, .int .i64 n.num, .string n.text, .slice na n.names.length nc, .slice ka n.kids.length kc] 39) [.int .i64 0, .int .i64 0, .string ⟨#[]⟩, .slice none 0 0, .slice none 0 0] 39
  have hB1 := BoxN.new2 w (.cells #[.int .i64 n.kind, .int .i64 n.num, .string n.text, .slice na n.names.length nc, .slice ka n.kids.length kc] 39) (.cells #[.int .i64 0, .int .i64 0, .string ⟨#[]⟩, .slice none 0 0, .slice none 0 0] 39) [.int .i64 n.kind, .int .i64 n.num, .string n.text, .slice (some ⟨w.heap.size + 1 + 1 + 1, 0, none⟩) n.names.length n.names.length, .slice none 0 0] 39
  have hBp := ((BoxN.new w [.int .i64 n.kind, .int .i64 n.num, .string n.text, .slice na n.names.length nc, .slice ka n.kids.length kc] 39).grow ((Ext.refl nil _).alloc (.cells #[.int .i64 0, .int .i64 0, .string ⟨#[]⟩, .slice none 0 0, .slice none 0 0] 39))).grow ((Ext.refl nil _).alloc (.cells #[.int .i64 n.kind, .int .i64 n.num, .string n.text, .slice (some ⟨w.heap.size + 1 + 1 + 1, 0, none⟩) n.names.length n.names.length, .slice none 0 0] 39))
  have HB0 := Lib.hid hB0
  have HB1 := Lib.hid hB1
  have HBp := Lib.hid hBp
  clear hB0 hB1 hBp
  go_enter Try.func81, Try.ntmps81
  go_wp2_with ((refine wpList_copy_strs rfl (.tmp 23) (.tmp 25) 25 25 rfl 9 Try.underlying25 ?c0 n.names any na nc (w.heap.size + 1 + 1 + 1) n.names.length rfl rfl _ 9 (heap_at (by simp)) ?c1 ?c2 ?c3 hn0 ?_))
  case c0 => kernel_rfl
  case c1 => rw [size_madeCells]
  case c2 => simp
  case c3 => exact Hns.out.grow (((((Ext.refl nil w).alloc _).alloc _).alloc _).alloc _)
  intro w3 hc3 hfz3 hlt3 he3
  have hs3 : StrsF w3 (some ⟨w.heap.size + 1 + 1 + 1, 0, none⟩) n.names.length n.names [w.heap.size + 1 + 1 + 1] := ⟨Nat.le_refl _, by unfold big; omega, Hns.out.2.2.1, .inr ⟨_, 0, by intro e; rw [e] at hn0; simp at hn0, rfl, rfl, fun i hi => by rw [Nat.zero_add]; exact hc3 i hi⟩⟩
  have hf3 : Free (w.heap.size + 3) w3 [w.heap.size + 1 + 1 + 1] := ⟨by simp, fun b hb => by simp at hb; subst hb; exact ⟨by omega, hlt3, hfz3⟩⟩
  have hg3 : Grow w w3 := Grow.inner (((((Ext.refl nil w).alloc _).alloc _).alloc _).alloc _) he3 (by intro i hi; omega)
  have HS3 := Lib.hid hs3
  have HF3 := Lib.hid hf3
  replace HB0 := Lib.hid ((HB0.out.grow (((Ext.refl nil _).alloc (.cells #[.int .i64 n.kind, .int .i64 n.num, .string n.text, .slice (some ⟨w.heap.size + 1 + 1 + 1, 0, none⟩) n.names.length n.names.length, .slice none 0 0] 39)).alloc _)).ext he3 (by omega))
  replace HB1 := Lib.hid ((HB1.out.grow ((Ext.refl nil _).alloc _)).ext he3 (by omega))
  replace HBp := Lib.hid ((HBp.out.grow ((Ext.refl nil _).alloc _)).ext he3 (by omega))
  clear hs3 hf3 hc3 hfz3 he3
  have q0 := HB1.out.cell 0 _ rfl
  have q1 := HB1.out.cell 1 _ rfl
  have q2 := HB1.out.cell 2 _ rfl
  have q3 := HB1.out.cell 3 _ rfl
  have q4 := HB1.out.cell 4 _ rfl
  have hfl := HB1.out.fr
  have zl := HB1.out.lt
  have p4 := HBp.out.cell 4 _ rfl
  have zp := HBp.out.lt
  have hfb := HB0.out.fr
  have r0 := HB0.out.cell 0 _ rfl
  have r1 := HB0.out.cell 1 _ rfl
  have r2 := HB0.out.cell 2 _ rfl
  have r3 := HB0.out.cell 3 _ rfl
  have r4 := HB0.out.cell 4 _ rfl
  go_wp2_with fail
  clear q0 q1 q2 q3 q4 r0 r1 r2 r3 r4 p4 hfl hfb hmk hmk2
  have he3 : Ext (fun k => k = w.heap.size + 1 + 1) w3 (w3.setCell ⟨w.heap.size + 1 + 1, 4, none⟩ (.slice (some ⟨w3.heap.size, 0, none⟩) n.kids.length n.kids.length)) := set_ext _ _ _ _
  have x3 : ∀ b ∈ [w.heap.size + 1 + 1 + 1], ¬ (b = w.heap.size + 1 + 1) := fun b hb e => by simp at hb; omega
  have hrow0 := RowIn.made (w3.setCell ⟨w.heap.size + 1 + 1, 4, none⟩ (.slice (some ⟨w3.heap.size, 0, none⟩) n.kids.length n.kids.length)) #[.int .i64 0, .int .i64 0, .string ⟨#[]⟩, .slice none 0 0, .slice none 0 0] (n.kids.length * 5) 39
  rw [size_setCell] at hrow0
  have Hrow0 := Lib.hid hrow0
  have hst0 : ∃ na2 nc2, (.slice (some ⟨w.heap.size + 1 + 1 + 1, 0, none⟩) n.names.length n.names.length : Value) = .slice na2 n.names.length nc2 ∧ StrsF ((w3.setCell ⟨w.heap.size + 1 + 1, 4, none⟩ (.slice (some ⟨w3.heap.size, 0, none⟩) n.kids.length n.kids.length)).alloc (.cells (madeCells #[.int .i64 0, .int .i64 0, .string ⟨#[]⟩, .slice none 0 0, .slice none 0 0] (n.kids.length * 5)) 39)) na2 nc2 n.names [w.heap.size + 1 + 1 + 1] := by
    have h4 := HF3.out.ext he3 x3
    exact ⟨_, _, rfl, (HS3.out.keep (he3.keeps HF3.out x3)).keep (Ext.keeps ((Ext.refl nil _).alloc _) h4 (fun _ _ h => h))⟩
  have hf0 : Free (w.heap.size + 3) ((w3.setCell ⟨w.heap.size + 1 + 1, 4, none⟩ (.slice (some ⟨w3.heap.size, 0, none⟩) n.kids.length n.kids.length)).alloc (.cells (madeCells #[.int .i64 0, .int .i64 0, .string ⟨#[]⟩, .slice none 0 0, .slice none 0 0] (n.kids.length * 5)) 39)) [w.heap.size + 1 + 1 + 1] := (HF3.out.ext he3 x3).ext ((Ext.refl nil _).alloc _) (fun _ _ h => h)
  have Hst0 := Lib.hid hst0
  have Hf0 := Lib.hid hf0
  clear hst0 hf0 hrow0 he3 x3
  go_loopw [4, 5, 39] (fun _ _ i wr => CpRel w n (.slice (some ⟨w.heap.size + 1 + 1 + 1, 0, none⟩) n.names.length n.names.length) (w3.heap.size) ([w.heap.size + 1 + 1 + 1]) i wr) (fun _ _ i _ => n.kids.length - (intOf i).toNat)
  case round =>
    obtain ⟨k, fp, hk, rfl, hg0, hbr, hbl, hst, hf1, hlt1, hrow, hkf, hfr⟩ := hrel
    have Hbr := Lib.hid hbr
    have Hbl := Lib.hid hbl
    have Hst := Lib.hid hst
    have Hf1 := Lib.hid hf1
    have Hl1 := Lib.hid hlt1
    have Hrow := Lib.hid hrow
    have Hkf := Lib.hid hkf
    have Hfr := Lib.hid hfr
    have zr := hrow.1
    have zl := hbl.lt
    clear hbr hbl hst hf1 hlt1 hrow hkf hfr
    by_cases hlt : k < n.kids.length
    · obtain ⟨_, _, hks⟩ := (Hks.out).ext hg0 (fun _ _ h => h)
      rcases hks with hks | ⟨bk, ok, rfl, _, hkr⟩
      · simp [hks] at hlt
      obtain ⟨na', nc', ka', kc', c0, c1, c2, c3, c4, hkc⟩ := hkr.get k hlt
      have Hkc := Lib.hid hkc
      clear hkr hkc
      have zb : bk < wr.heap.size := lt_of_cell c0
      have ha : Grow wr (wr.alloc (.cells #[.int .i64 n.kids[k].kind, .int .i64 n.kids[k].num, .string n.kids[k].text, .slice na' n.kids[k].names.length nc', .slice ka' n.kids[k].kids.length kc'] 39)) := (Ext.refl nil wr).alloc _
      have hbk := BoxN.new wr [.int .i64 n.kids[k].kind, .int .i64 n.kids[k].num, .string n.kids[k].text, .slice na' n.kids[k].names.length nc', .slice ka' n.kids[k].kids.length kc'] 39
      have Hc : Hid (∀ w', Grow wr w' → Calls Try.prog 81 #[.agg #[.int .i64 n.kids[k].kind, .int .i64 n.kids[k].num, .string n.kids[k].text, .slice na' n.kids[k].names.length nc', .slice ka' n.kids[k].kids.length kc']] w' fun e w'' => ∃ v' fp, e = .returned v' ∧ Grow w' w'' ∧ NodeO w'' n.kids[k] v' fp ∧ Free w'.heap.size w'' fp) := Lib.hid (fun w' hg' => Ih.out _ (List.getElem_mem hlt) _ _ (Hg.out.kid (List.getElem_mem hlt)) ⟨_, _, _, _, rfl, Hkc.out.ext hg' (fun _ _ h => h)⟩)
      have Hbl1 := Lib.hid (Hbl.out.grow ha)
      have Hbk := Lib.hid hbk
      have hrk : (k : Int) < (n.kids.length : Int) := by omega
      have hrk0 : (0 : Int) ≤ (k : Int) := by omega
      go_wp2_with fail
      obtain ⟨wa, hwa, ga, ba, bk2, za⟩ : ∃ wa, wr.alloc (.cells #[.int .i64 n.kids[k].kind, .int .i64 n.kids[k].num, .string n.kids[k].text, .slice na' n.kids[k].names.length nc', .slice ka' n.kids[k].kids.length kc'] 39) = wa ∧ Grow wr wa ∧ BoxN wa (w.heap.size + 1 + 1) [.int .i64 n.kind, .int .i64 n.num, .string n.text, .slice (some ⟨w.heap.size + 1 + 1 + 1, 0, none⟩) n.names.length n.names.length, .slice (some ⟨w3.heap.size, 0, none⟩) n.kids.length n.kids.length] ∧ BoxN wa wr.heap.size [.int .i64 n.kids[k].kind, .int .i64 n.kids[k].num, .string n.kids[k].text, .slice na' n.kids[k].names.length nc', .slice ka' n.kids[k].kids.length kc'] ∧ wa.heap.size = wr.heap.size + 1 := ⟨_, rfl, ha, Hbl1.out, Hbk.out, by simp⟩
      rw [hwa]
      clear hwa ha hbk c0 c1 c2 c3 c4
      have za' : wr.heap.size < wa.heap.size := by omega
      clear za
      have y4 := ba.cell 4 _ rfl
      have x0 := bk2.cell 0 _ rfl
      have x1 := bk2.cell 1 _ rfl
      have x2 := bk2.cell 2 _ rfl
      have x3 := bk2.cell 3 _ rfl
      have x4 := bk2.cell 4 _ rfl
      clear ba bk2
      go_region_held3 (fun w' => w'.cell? ⟨w.heap.size + 1 + 1, 4, none⟩ = some (.slice (some ⟨w3.heap.size, 0, none⟩) n.kids.length n.kids.length) ∧ w'.cell? ⟨wr.heap.size, 0, none⟩ = some (.int .i64 n.kids[k].kind) ∧ w'.cell? ⟨wr.heap.size, 1, none⟩ = some (.int .i64 n.kids[k].num) ∧ w'.cell? ⟨wr.heap.size, 2, none⟩ = some (.string n.kids[k].text) ∧ w'.cell? ⟨wr.heap.size, 3, none⟩ = some (.slice na' n.kids[k].names.length nc') ∧ w'.cell? ⟨wr.heap.size, 4, none⟩ = some (.slice ka' n.kids[k].kids.length kc'))
        (first | (go_keep; done) | (refine ⟨?_, ?_, ?_, ?_, ?_, ?_⟩ <;> (first | (first | with_reducible exact hg2.some (by simpa using y4) | with_reducible exact hg2.some (by simpa using x0) | with_reducible exact hg2.some (by simpa using x1) | with_reducible exact hg2.some (by simpa using x2) | with_reducible exact hg2.some (by simpa using x3) | with_reducible exact hg2.some (by simpa using x4)) | (with_reducible rw [st5_far]; (first | with_reducible exact hg2.some (by simpa using y4) | with_reducible exact hg2.some (by simpa using x0) | with_reducible exact hg2.some (by simpa using x1) | with_reducible exact hg2.some (by simpa using x2) | with_reducible exact hg2.some (by simpa using x3) | with_reducible exact hg2.some (by simpa using x4)); omega))))
        ((go_at_call 81; refine (Hc.out _ (ga.drewN _)).mono ?_; rintro e w2 ⟨v', f', rfl, hg2, hN, hf'⟩; obtain ⟨na2, nc2, ka2, kc2, rfl, hN⟩ := hN; have hg2' := (ga.drewN _).trans hg2; have hrow2 := Hrow.out.ext hg2' (fun h => h); have hfz := hrow2.2.2; obtain ⟨u0, d0⟩ := hrow2.2.1 (k * 5) (by omega); obtain ⟨u1, d1⟩ := hrow2.2.1 (k * 5 + 1) (by omega); obtain ⟨u2, d2⟩ := hrow2.2.1 (k * 5 + 2) (by omega); obtain ⟨u3, d3⟩ := hrow2.2.1 (k * 5 + 3) (by omega); obtain ⟨u4, d4⟩ := hrow2.2.1 (k * 5 + 4) (by omega); have Hrow2 := Lib.hid hrow2; clear hrow2; unfold nodeV))
      rename_i hHeld
      clear hHeld y4 x0 x1 x2 x3 x4 d0 d1 d2 d3 d4 hfz
      have hsz2 : (wa.drewN 1).heap.size = wa.heap.size := rfl
      have hrel := cpRel_next hlt (by omega) hg0 Hbr.out Hbl.out Hst.out Hf1.out Hl1.out Hrow.out Hkf.out Hfr.out hg2' hN (hf'.mono (B' := wr.heap.size) (by omega))
      have Hrel := Lib.hid hrel
      clear hrel
      go_wp2_with fail
      go_roundw
      case rel => exact Hrel.out
      case measure => simp [intOf]; omega
    · have hke : k = n.kids.length := by omega
      subst hke
      rw [List.take_length] at Hkf
      obtain ⟨na2, nc2, hns, hF⟩ := Hst.out
      have Hns2 := Lib.hid hns
      have HF := Lib.hid hF
      have hfl := Hbl.out.fr
      have hfb := Hbr.out.fr
      have q0 := Hbl.out.cell 0 _ rfl
      have q1 := Hbl.out.cell 1 _ rfl
      have q2 := Hbl.out.cell 2 _ rfl
      have q3 := Hbl.out.cell 3 _ rfl
      have q4 := Hbl.out.cell 4 _ rfl
      have r0 := Hbr.out.cell 0 _ rfl
      have r1 := Hbr.out.cell 1 _ rfl
      have r2 := Hbr.out.cell 2 _ rfl
      have r3 := Hbr.out.cell 3 _ rfl
      have r4 := Hbr.out.cell 4 _ rfl
      clear hns hF
      go_wp2_with fail
      clear q0 q1 q2 q3 q4 r0 r1 r2 r3 r4
      have BF := ((((Hbr.out.set 0 (by simp) (.int .i64 n.kind)).set 1 (by simp) (.int .i64 n.num)).set 2 (by simp) (.string n.text)).set 3 (by simp) (.slice (some ⟨w.heap.size + 1 + 1 + 1, 0, none⟩) n.names.length n.names.length)).set 4 (by simp) (.slice (some ⟨w3.heap.size, 0, none⟩) n.kids.length n.kids.length)
      have s0 := BF.cell 0 _ rfl
      have s1 := BF.cell 1 _ rfl
      have s2 := BF.cell 2 _ rfl
      have s3 := BF.cell 3 _ rfl
      have s4 := BF.cell 4 _ rfl
      have he5 := store5_ext wr (w.heap.size + 1) 0 (.int .i64 n.kind) (.int .i64 n.num) (.string n.text) (.slice (some ⟨w.heap.size + 1 + 1 + 1, 0, none⟩) n.names.length n.names.length) (.slice (some ⟨w3.heap.size, 0, none⟩) n.kids.length n.kids.length)
      have x1 : ∀ b ∈ ([w.heap.size + 1 + 1 + 1] : List Nat), ¬ (b = w.heap.size + 1) := fun b hb e => by have := (Hf1.out.2 b hb).1; omega
      have x2 : ∀ b ∈ (w3.heap.size) :: fp, ¬ (b = w.heap.size + 1) := fun b hb e => by
        rcases List.mem_cons.1 hb with rfl | hb
        · omega
        · have := (Hfr.out.2 b hb).1; omega
      have hfrR : Free (w.heap.size + 1 + 1 + 1) wr ((w3.heap.size) :: fp) := Free.cons Hrow.out (by omega) Hfr.out
      refine bodyPost_ret (v := .agg #[.int .i64 n.kind, .int .i64 n.num, .string n.text, .slice (some ⟨w.heap.size + 1 + 1 + 1, 0, none⟩) n.names.length n.names.length, .slice (some ⟨w3.heap.size, 0, none⟩) n.kids.length n.kids.length]) ?_ rfl ⟨_, ([w.heap.size + 1 + 1 + 1]) ++ ((w3.heap.size) :: fp), rfl, hg0.inner he5 (by intro i hi; omega), ⟨na2, nc2, _, _, by rw [Hns2.out]; rfl, ?_⟩, ?_⟩
      · simp [results, Try.results81, go_sem, s0, s1, s2, s3, s4]
      · refine NodeF.mk Htx.out (HF.out.keep (he5.keeps Hf1.out x1)) ⟨Nat.le_refl _, Hks.out.2.1, .inr ⟨w3.heap.size, 0, fp, ?_, rfl, rfl, ?_⟩⟩
        · intro e; rw [e] at hk0; simp at hk0
        · exact Hkf.out.keep (he5.keeps Hfr.out (fun b hb e => x2 b (by simp [hb]) e)) (fun o' _ _ => he5.cell (p := ⟨w3.heap.size, o', none⟩) Hrow.out.1 (by intro e; have e' : w3.heap.size = w.heap.size + 1 := e; omega))
      · refine Free.app2 ((Hf1.out.ext he5 x1).mono (by omega)) ((hfrR.ext he5 x2).mono (by omega)) (fun y h1 h2 => ?_)
        have := Hl1.out y h1
        rcases List.mem_cons.1 h2 with h3 | h3
        · omega
        · have := (Hfr.out.2 y h3).1; omega
  case atStart =>
    exact ⟨0, [], Nat.zero_le _, rfl, (hg3.setNew (p := ⟨w.heap.size + 1 + 1, 4, none⟩) (by show w.heap.size ≤ w.heap.size + 1 + 1; omega) _).alloc _, (HB0.out.other (by simp) _).grow ((Ext.refl nil _).alloc _), (HB1.out.set 4 (by simp) _).grow ((Ext.refl nil _).alloc _), Hst0.out, Hf0.out, fun y hy => by simp at hy; omega, Hrow0.out, by simp [KidsF], Free.nil _ _⟩
theorem copyNodeI_ok : ∀ n, CopyIOk n := Nd.ind' CopyIOk fun n ih => by
  by_cases hn0 : 0 < n.names.length
  · by_cases hk0 : 0 < n.kids.length
    · exact copyI_both n ih hn0 hk0
    · exact copyI_names n ih hn0 hk0
  · by_cases hk0 : 0 < n.kids.length
    · exact copyI_kids n ih hn0 hk0
    · exact copyI_none n ih hn0 hk0
end Go.Proofs.Ytmeobmegnneegaa
namespace Go.Proofs.Ytmeobmegnneegaa
open Go.RowKit
def nmL (l : List Itm) : List ByteArray := l.map (·.1)
theorem nmL_len (l : List Itm) : (nmL l).length = l.length := by simp [nmL]
theorem nmL_get (l : List Itm) (i : Nat) (h : i < (nmL l).length) : (nmL l)[i] = (l[i]'(by rw [nmL_len] at h; exact h)).1 := by simp [nmL]
theorem sgnT_lt {a b : ByteArray} (h : lt a b = true) : sgnT a b = -1 := by unfold sgnT; rw [if_pos h]
theorem sgnT_ge {a b : ByteArray} (h : lt a b = false) : 0 ≤ sgnT a b ∧ sgnT a b ≤ 1 := by unfold sgnT; rw [if_neg (by simp [h])]; split <;> omega
theorem findCl_ok (x : Itm) (cs : List Value) (s : ByteArray) (w : World) (hx : itmRep.R w any x cs) :
    Calls Try.prog 124 #[.agg cs.toArray, .string s] w fun e w' => e = .returned (.int .i64 (sgnT x.1 s)) ∧ Grow w w' := by
  obtain ⟨na2, nc2, ka2, kc2, rfl, h0, h2⟩ := itmRep_open hx
  clear hx h2
  unfold itmL
  go_enter Try.func124, Try.ntmps124
  go_wp2_with fail
  refine (stringsCompare_ok _ _ _).mono ?_
  rintro e w' ⟨rfl, rfl⟩
  go_wp2_with fail
  go_ret
  exact ⟨by simp, (by repeat (first | with_reducible exact Ext.refl _ _ | with_reducible refine Ext.trans ?_ (by assumption) | with_reducible refine Ext.drew ?_ | with_reducible refine Ext.drewN ?_ _ | with_reducible refine Ext.alloc ?_ _ | with_reducible refine Ext.setNew ?_ (by simp; done) _ | with_reducible refine Ext.setNew ?_ (by simp; omega) _))⟩
set_option maxHeartbeats 4000000 in
theorem bsF_ok (l : List Itm) (a : Option Addr) (c : Nat) (s : ByteArray) (w : World) (ha : SlR itmRep w any a c l) (hsort : Asc (nmL l)) (hbig : l.length ≤ 1000000) :
    Calls Try.prog 123 #[.slice a l.length c, .string s, .func (.func 124) #[] #[]] w
      fun e w' => e = .returned (.tuple #[.int .i64 (lbound (nmL l) s : Nat), .bool (mem (nmL l) s)]) ∧ Grow w w' := by
  have Ha := Lib.hid ha
  have S := Lib.hid hsort
  have hln := nmL_len l
  have Hln := Lib.hid hln
  clear ha hsort hln
  go_enter Try.func123, Try.ntmps123
  go_wp2
  go_loopg [9, 10] l.length (fun g s7 s8 wr => ∃ lo hi : Nat, s7 = .int .i64 lo ∧ s8 = .int .i64 hi ∧ lo ≤ hi ∧ hi ≤ l.length ∧ hi - lo ≤ g ∧ Grow w wr ∧ (∀ t (h : t < (nmL l).length), t < lo → lt (nmL l)[t] s = true) ∧ (∀ t (h : t < (nmL l).length), hi ≤ t → lt (nmL l)[t] s = false))
  case atStart => exact ⟨0, l.length, rfl, rfl, Nat.zero_le _, Nat.le_refl _, by omega, Ext.refl _ _, fun t _ ht => absurd ht (Nat.not_lt_zero _), fun t h1 h2 => by rw [Hln.out] at h1; omega⟩
  case round =>
    obtain ⟨lo, hi, rfl, rfl, hlh, hin, hg, hgr, h1, h2⟩ := hrel
    have I1 := Lib.hid h1
    have I2 := Lib.hid h2
    clear h1 h2
    by_cases hlt : lo < hi
    · obtain ⟨_, _, hks⟩ := (Ha.out).grow hgr
      rcases hks with rfl | ⟨bk, ok, rfl, _, hkr⟩
      · exfalso; simp at hin; omega
      have hm : (lo + hi) / 2 < l.length := by omega
      obtain ⟨m, hmm⟩ : ∃ m, m = (lo + hi) / 2 := ⟨_, rfl⟩
      have hmI : ((lo : Int) + (hi : Int)) / 2 = (m : Int) := by omega
      have hml : m < l.length := by rw [hmm]; exact hm
      obtain ⟨cs, hcs, hx⟩ := hkr m hml
      obtain ⟨na0, nc0, ka0, kc0, rfl, hsz, h0⟩ := itmRep_open hx
      rw [itmRep_n] at hcs
      have x0 : wr.cell? ⟨bk, ok + m * 7, none⟩ = _ := hcs 0 _ rfl
      have x1 := hcs 1 _ rfl
      have x2 := hcs 2 _ rfl
      have x3 := hcs 3 _ rfl
      have x4 := hcs 4 _ rfl
      have x5 := hcs 5 _ rfl
      have x6 := hcs 6 _ rfl
      have Hx := Lib.hid hx
      have hgm : (nmL l)[m]'(by rw [Hln.out]; exact hml) = l[m].1 := nmL_get l m _
      have Hgm := Lib.hid hgm
      have k1 : (m : Int) < (l.length : Int) := by omega
      have k0 : (0 : Int) ≤ (m : Int) := by omega
      have Hmm := Lib.hid hmm
      have mlo : lo ≤ m := by omega
      have mhi : m < hi := by omega
      clear hkr hcs hx h0 hgm Ha hsz hm hmm
      cases hyx : lt l[m].1 s
      · have Y := Lib.hid hyx
        obtain ⟨y1, y2⟩ := sgnT_ge hyx
        clear hyx
        go_wp2_with fail
        refine (findCl_ok l[m] (itmL l[m] na0 nc0 ka0 kc0) s wr Hx.out).mono ?_
        rintro e w2 ⟨rfl, hg2⟩
        go_wp2_with fail
        go_roundg (m - lo)
        case measure => omega
        case rel =>
          refine ⟨lo, m, rfl, rfl, by omega, by omega, Nat.le_refl _, hgr.trans hg2, I1.out, fun t h ht => ?_⟩
          rcases Nat.eq_or_lt_of_le ht with rfl | h'
          · rw [Hgm.out]; exact Y.out
          · have := S.out _ t (by rw [Hln.out]; exact hml) h h'
            rw [Hgm.out] at this
            cases hx : lt (nmL l)[t] s
            · rfl
            · have := bl_trans _ _ _ this hx
              have := Y.out
              simp_all
      · have Y := Lib.hid hyx
        have y1 := sgnT_lt hyx
        clear hyx
        go_wp2_with fail
        refine (findCl_ok l[m] (itmL l[m] na0 nc0 ka0 kc0) s wr Hx.out).mono ?_
        rintro e w2 ⟨rfl, hg2⟩
        simp only [y1]
        go_wp2_with fail
        go_roundg (hi - (m + 1))
        case measure => omega
        case rel =>
          refine ⟨m + 1, hi, by go_num, rfl, by omega, hin, Nat.le_refl _, hgr.trans hg2, fun t h ht => ?_, I2.out⟩
          rcases Nat.eq_or_lt_of_le (show t ≤ m by omega) with rfl | h'
          · rw [Hgm.out]; exact Y.out
          · have := S.out t _ h (by rw [Hln.out]; exact hml) h'
            rw [Hgm.out] at this
            exact bl_trans _ _ _ this Y.out
    · have : hi = lo := by omega
      subst this
      obtain ⟨e1, e2, e3⟩ := lb_end S.out (by rw [Hln.out]; exact hin) I1.out I2.out
      have E1 := Lib.hid e1
      have E2 := Lib.hid e2
      have E3 := Lib.hid e3
      clear e1 e2 e3
      by_cases hn : hi < l.length
      · obtain ⟨_, _, hks⟩ := (Ha.out).grow hgr
        rcases hks with rfl | ⟨bk, ok, rfl, _, hkr⟩
        · exfalso; simp at hn
        obtain ⟨cs, hcs, hx⟩ := hkr hi hn
        obtain ⟨na0, nc0, ka0, kc0, rfl, hsz, h0⟩ := itmRep_open hx
        rw [itmRep_n] at hcs
        have x0 : wr.cell? ⟨bk, ok + hi * 7, none⟩ = _ := hcs 0 _ rfl
        have x1 := hcs 1 _ rfl
        have x2 := hcs 2 _ rfl
        have x3 := hcs 3 _ rfl
        have x4 := hcs 4 _ rfl
        have x5 := hcs 5 _ rfl
        have x6 := hcs 6 _ rfl
        have Hx := Lib.hid hx
        have E2' : Hid (mem (nmL l) s = decide (l[hi].1 = s)) := Lib.hid (by rw [E2.out (by rw [Hln.out]; exact hn), nmL_get])
        clear hkr hcs hx h0 Ha hsz
        by_cases hd : l[hi].1 = s
        · have y1 : sgnT l[hi].1 s = 0 := sgnT_zero.2 hd
          have Hd := Lib.hid hd
          clear hd
          go_wp2_with fail
          refine (findCl_ok l[hi] (itmL l[hi] na0 nc0 ka0 kc0) s wr Hx.out).mono ?_
          rintro e w2 ⟨rfl, hg2⟩
          simp only [y1]
          go_wp2_with fail
          go_ret2
          exact ⟨by rw [E1.out, E2'.out]; simp [Hd.out], hgr.trans hg2⟩
        · have y1 : (sgnT l[hi].1 s == 0) = false := by simpa using fun h => hd (sgnT_zero.1 h)
          have Hd := Lib.hid hd
          clear hd
          go_wp2_with fail
          refine (findCl_ok l[hi] (itmL l[hi] na0 nc0 ka0 kc0) s wr Hx.out).mono ?_
          rintro e w2 ⟨rfl, hg2⟩
          go_wp2_with fail
          go_ret2
          exact ⟨by rw [E1.out, E2'.out]; simp [Hd.out], hgr.trans hg2⟩
      · have E3' := Lib.hid (E3.out (by rw [Hln.out]; exact hn))
        go_wp2_with fail
        go_ret2
        exact ⟨by rw [E1.out, E3'.out]; first | rfl | simp, hgr⟩
theorem findItem_ok (l : List Itm) (a : Option Addr) (c : Nat) (s : ByteArray) (w : World) (ha : SlR itmRep w any a c l) (hsort : Asc (nmL l)) (hbig : l.length ≤ 1000000) :
    Calls Try.prog 97 #[.slice a l.length c, .string s] w fun e w' => e = .returned (.tuple #[.int .i64 (lbound (nmL l) s : Nat), .bool (mem (nmL l) s)]) ∧ Grow w w' := by
  go_enter Try.func97, Try.ntmps97
  go_wp2_with fail
  refine (bsF_ok l a c s w ha hsort hbig).mono ?_
  rintro e w2 ⟨rfl, hg2⟩
  go_wp2_with fail
  go_ret2
  exact ⟨by simp, hg2⟩
end Go.Proofs.Ytmeobmegnneegaa
namespace Go.Proofs.Ytmeobmegnneegaa
open Go.RowKit
end Go.Proofs.Ytmeobmegnneegaa
namespace Go.Proofs.Ytmeobmegnneegaa
open Go.RowKit
end Go.Proofs.Ytmeobmegnneegaa
namespace Go.Proofs.Ytmeobmegnneegaa
open Go.RowKit
def Itm.zero : Itm := (⟨#[]⟩, 0, Nd.zero)
theorem itmRep_shutF {w : World} {x : Itm} {na : Option Addr} {nc : Nat} {ka : Option Addr} {kc : Nat} {fp : List Nat} (h1 : x.1.size ≤ big) (h2 : NodeF w x.2.2 na nc ka kc fp) : itmRep.F w x (itmL x na nc ka kc) fp :=
  ⟨[.string x.1], _, [], fp, rfl, rfl, ⟨rfl, h1, rfl⟩, [.int .i64 x.2.1], _, [], fp, rfl, rfl, ⟨rfl, rfl⟩, na, nc, ka, kc, rfl, h2⟩
theorem itm_zeroF (w : World) : itmRep.F w Itm.zero [.string ⟨#[]⟩, .int .i64 0, .int .i64 0, .int .i64 0, .string ⟨#[]⟩, .slice none 0 0, .slice none 0 0] [] := by
  have h : NodeF w Nd.zero none 0 none 0 ([] ++ []) := NodeF.mk (by unfold big Nd.zero; decide) ⟨Nat.le_refl _, Nat.zero_le _, by simp [Nd.zero], .inl ⟨rfl, rfl⟩⟩ ⟨Nat.le_refl _, Nat.zero_le _, .inl ⟨rfl, rfl⟩⟩
  exact itmRep_shutF (x := Itm.zero) (by unfold big Itm.zero; decide) h
theorem storeB_asc {s : Sto} (h : storeB s = true) : Asc (nmL s.1) := by
  have h5 := (storeB_parts h).2.2.2.2
  intro i j hi hj hij
  exact List.pairwise_iff_getElem.1 h5 i j hi hj hij
theorem storeB_good {s : Sto} (h : storeB s = true) : ∀ x ∈ s.1, Good x.2.2 := by
  intro x hx
  have := (storeB_parts h).2.2.2.1 x hx
  unfold itmB at this
  simp only [Bool.and_eq_true] at this
  exact validB_good this.2
def st7 (w : World) (b : Nat) (v0 v1 v2 v3 v4 v5 v6 : Value) : World :=
  ((((((w.setCell ⟨b, 0, none⟩ v0).setCell ⟨b, 1, none⟩ v1).setCell ⟨b, 2, none⟩ v2).setCell ⟨b, 3, none⟩ v3).setCell ⟨b, 4, none⟩ v4).setCell ⟨b, 5, none⟩ v5).setCell ⟨b, 6, none⟩ v6
theorem st7_ext (w : World) (b : Nat) (v0 v1 v2 v3 v4 v5 v6 : Value) : Ext (fun k => k = b) w (st7 w b v0 v1 v2 v3 v4 v5 v6) :=
  ((((((set_ext _ _ _ _).trans (set_ext _ _ _ _)).trans (set_ext _ _ _ _)).trans (set_ext _ _ _ _)).trans (set_ext _ _ _ _)).trans (set_ext _ _ _ _)).trans (set_ext _ _ _ _)
theorem st7_far {w : World} {b b' q : Nat} {v0 v1 v2 v3 v4 v5 v6 : Value} {u : Value} (hu : w.cell? ⟨b', q, none⟩ = some u) (h : b' ≠ b) :
    (((((((w.setCell ⟨b, 0, none⟩ v0).setCell ⟨b, 1, none⟩ v1).setCell ⟨b, 2, none⟩ v2).setCell ⟨b, 3, none⟩ v3).setCell ⟨b, 4, none⟩ v4).setCell ⟨b, 5, none⟩ v5).setCell ⟨b, 6, none⟩ v6).cell? ⟨b', q, none⟩ = some u :=
  (st7_ext w b v0 v1 v2 v3 v4 v5 v6).some hu h
set_option maxRecDepth 100000 in
set_option maxHeartbeats 4000000 in
theorem copyItem_ok (x : Itm) (cs : List Value) (w : World) (hgd : Good x.2.2) (hx : itmRep.R w any x cs) :
    Calls Try.prog 98 #[.agg cs.toArray] w fun e w' => ∃ cs' fp, e = .returned (.agg (cs' : List Value).toArray) ∧ Grow w w' ∧ itmRep.F w' x cs' fp ∧ Free w.heap.size w' fp := by
  obtain ⟨na, nc, ka, kc, rfl, h0, h2⟩ := itmRep_open hx
  have H0 := Lib.hid h0
  have Hgd := Lib.hid hgd
  have Hc : Hid (∀ w', Grow w w' → Calls Try.prog 81 #[.agg #[.int .i64 x.2.2.kind, .int .i64 x.2.2.num, .string x.2.2.text, .slice na x.2.2.names.length nc, .slice ka x.2.2.kids.length kc]] w' fun e w'' => ∃ v' fp, e = .returned v' ∧ Grow w' w'' ∧ NodeO w'' x.2.2 v' fp ∧ Free w'.heap.size w'' fp) := Lib.hid (fun w' hg' => copyNodeI_ok x.2.2 _ _ hgd ⟨_, _, _, _, rfl, h2.ext hg' (fun _ _ h => h)⟩)
  clear hx h0 h2 hgd
  unfold itmL
  have hb0 := (BoxN.new w [.string x.1, .int .i64 x.2.1, .int .i64 x.2.2.kind, .int .i64 x.2.2.num, .string x.2.2.text, .slice na x.2.2.names.length nc, .slice ka x.2.2.kids.length kc] 62).grow ((Ext.refl nil _).alloc (.cells #[.string ⟨#[]⟩, .int .i64 0, .int .i64 0, .int .i64 0, .string ⟨#[]⟩, .slice none 0 0, .slice none 0 0] 62))
  have hb1 := BoxN.new1 w (.cells #[.string x.1, .int .i64 x.2.1, .int .i64 x.2.2.kind, .int .i64 x.2.2.num, .string x.2.2.text, .slice na x.2.2.names.length nc, .slice ka x.2.2.kids.length kc] 62) [.string ⟨#[]⟩, .int .i64 0, .int .i64 0, .int .i64 0, .string ⟨#[]⟩, .slice none 0 0, .slice none 0 0] 62
  have HB0 := Lib.hid hb0
  have HB1 := Lib.hid hb1
  clear hb0 hb1
  go_enter Try.func98, Try.ntmps98
  go_wp2_with fail
  obtain ⟨wa, hwa, ga, hb0, hb1⟩ : ∃ wa, (w.alloc (.cells #[.string x.1, .int .i64 x.2.1, .int .i64 x.2.2.kind, .int .i64 x.2.2.num, .string x.2.2.text, .slice na x.2.2.names.length nc, .slice ka x.2.2.kids.length kc] 62)).alloc (.cells #[.string ⟨#[]⟩, .int .i64 0, .int .i64 0, .int .i64 0, .string ⟨#[]⟩, .slice none 0 0, .slice none 0 0] 62) = wa ∧ Grow w wa ∧ BoxN wa w.heap.size [.string x.1, .int .i64 x.2.1, .int .i64 x.2.2.kind, .int .i64 x.2.2.num, .string x.2.2.text, .slice na x.2.2.names.length nc, .slice ka x.2.2.kids.length kc] ∧ BoxN wa (w.heap.size + 1) [.string ⟨#[]⟩, .int .i64 0, .int .i64 0, .int .i64 0, .string ⟨#[]⟩, .slice none 0 0, .slice none 0 0] := ⟨_, rfl, (by repeat (first | with_reducible exact Ext.refl _ _ | with_reducible refine Ext.trans ?_ (by assumption) | with_reducible refine Ext.drew ?_ | with_reducible refine Ext.drewN ?_ _ | with_reducible refine Ext.alloc ?_ _ | with_reducible refine Ext.setNew ?_ (by simp; done) _ | with_reducible refine Ext.setNew ?_ (by simp; omega) _)), HB0.out, HB1.out⟩
  rw [hwa]
  clear hwa
  have x0 := hb0.cell 0 _ rfl
  have x1 := hb0.cell 1 _ rfl
  have x2 := hb0.cell 2 _ rfl
  have x3 := hb0.cell 3 _ rfl
  have x4 := hb0.cell 4 _ rfl
  have x5 := hb0.cell 5 _ rfl
  have x6 := hb0.cell 6 _ rfl
  have zb := hb0.lt
  have zb1 := hb1.lt
  have Hb1 := Lib.hid hb1
  clear hb0 hb1
  go_region_held3 (fun w' => w'.cell? ⟨w.heap.size, 0, none⟩ = some (.string x.1) ∧ w'.cell? ⟨w.heap.size, 1, none⟩ = some (.int .i64 x.2.1) ∧ w'.cell? ⟨w.heap.size, 2, none⟩ = some (.int .i64 x.2.2.kind) ∧ w'.cell? ⟨w.heap.size, 3, none⟩ = some (.int .i64 x.2.2.num) ∧ w'.cell? ⟨w.heap.size, 4, none⟩ = some (.string x.2.2.text) ∧ w'.cell? ⟨w.heap.size, 5, none⟩ = some (.slice na x.2.2.names.length nc) ∧ w'.cell? ⟨w.heap.size, 6, none⟩ = some (.slice ka x.2.2.kids.length kc))
    (first | (go_keep; done) | (with_reducible exact ⟨hg2.some (by simpa using x0), hg2.some (by simpa using x1), hg2.some (by simpa using x2), hg2.some (by simpa using x3), hg2.some (by simpa using x4), hg2.some (by simpa using x5), hg2.some (by simpa using x6)⟩) | (with_reducible exact ⟨st7_far (hg2.some (by simpa using x0)) (by omega), st7_far (hg2.some (by simpa using x1)) (by omega), st7_far (hg2.some (by simpa using x2)) (by omega), st7_far (hg2.some (by simpa using x3)) (by omega), st7_far (hg2.some (by simpa using x4)) (by omega), st7_far (hg2.some (by simpa using x5)) (by omega), st7_far (hg2.some (by simpa using x6)) (by omega)⟩))
    ((go_at_call 81; refine (Hc.out _ (ga.drewN _)).mono ?_; rintro e w2 ⟨v', f', rfl, hg2, hN, hf'⟩; obtain ⟨na2, nc2, ka2, kc2, rfl, hN⟩ := hN; have hg2' := (Ext.drewN (Ext.refl nil wa) _).trans hg2; have hb2 := Hb1.out.grow hg2'; have hfz := hb2.fr; have d0 := hb2.cell 0 _ rfl; have d1 := hb2.cell 1 _ rfl; have d2 := hb2.cell 2 _ rfl; have d3 := hb2.cell 3 _ rfl; have d4 := hb2.cell 4 _ rfl; have d5 := hb2.cell 5 _ rfl; have d6 := hb2.cell 6 _ rfl; have Hb2 := Lib.hid hb2; clear hb2; unfold nodeV))
  rename_i hHeld
  clear hHeld x0 x1 x2 x3 x4 x5 x6 d0 d1 d2 d3 d4 d5 d6 hfz
  have hsz2 : (wa.drewN 1).heap.size = wa.heap.size := rfl
  have BF := ((((((Hb2.out.set 0 (by simp) (.string x.1)).set 1 (by simp) (.int .i64 x.2.1)).set 2 (by simp) (.int .i64 x.2.2.kind)).set 3 (by simp) (.int .i64 x.2.2.num)).set 4 (by simp) (.string x.2.2.text)).set 5 (by simp) (.slice na2 x.2.2.names.length nc2)).set 6 (by simp) (.slice ka2 x.2.2.kids.length kc2)
  have s0 := BF.cell 0 _ rfl
  have s1 := BF.cell 1 _ rfl
  have s2 := BF.cell 2 _ rfl
  have s3 := BF.cell 3 _ rfl
  have s4 := BF.cell 4 _ rfl
  have s5 := BF.cell 5 _ rfl
  have s6 := BF.cell 6 _ rfl
  have he := st7_ext w2 (w.heap.size + 1) (.string x.1) (.int .i64 x.2.1) (.int .i64 x.2.2.kind) (.int .i64 x.2.2.num) (.string x.2.2.text) (.slice na2 x.2.2.names.length nc2) (.slice ka2 x.2.2.kids.length kc2)
  have hx2 : ∀ b ∈ f', ¬ b = w.heap.size + 1 := fun b hb e => by have := (hf'.2 b hb).1; omega
  go_wp2_with fail
  refine bodyPost_ret (v := .agg (itmL x na2 nc2 ka2 kc2).toArray) ?_ rfl ⟨_, f', rfl, Grow.inner (ga.trans hg2') he (by intro i hi; have : i = w.heap.size + 1 := hi; omega), itmRep_shutF H0.out (hN.keep (he.keeps hf' hx2)), (hf'.ext he hx2).mono (by omega)⟩
  unfold itmL
  simp [results, Try.results98, go_sem, s0, s1, s2, s3, s4, s5, s6]
def gtB (s : Sto) (nm : ByteArray) : Bool := storeB s && mem (nmL s.1) nm
def gtI (s : Sto) (nm : ByteArray) : Itm := if gtB s nm then s.1[lbound (nmL s.1) nm]?.getD Itm.zero else Itm.zero
theorem gt_no {s : Sto} {nm : ByteArray} (h : storeB s = false ∨ mem (nmL s.1) nm = false) : gtB s nm = false ∧ gtI s nm = Itm.zero := by
  have : gtB s nm = false := by unfold gtB; rcases h with h | h <;> rw [h] <;> simp
  exact ⟨this, by unfold gtI; rw [this]; rfl⟩
theorem gt_yes {s : Sto} {nm : ByteArray} (h : storeB s = true) (h' : mem (nmL s.1) nm = true) : gtB s nm = true ∧ ∃ h : lbound (nmL s.1) nm < s.1.length, gtI s nm = s.1[lbound (nmL s.1) nm] ∧ s.1[lbound (nmL s.1) nm].1 = nm := by
  have hb : gtB s nm = true := by unfold gtB; rw [h, h']; rfl
  obtain ⟨hl, he⟩ := lb_lt (storeB_asc h) h'
  have hl' : lbound (nmL s.1) nm < s.1.length := by rw [nmL_len] at hl; exact hl
  refine ⟨hb, hl', ?_, by rw [nmL_get] at he; exact he⟩
  unfold gtI
  rw [hb, List.getElem?_eq_getElem hl']
  rfl
set_option maxRecDepth 100000 in
set_option maxHeartbeats 4000000 in
theorem implGetItem_ok (s : Sto) (nm : ByteArray) (v : Value) (w : World) (hsz : nm.size ≤ big) (h : RV stoRep packA w any s v) :
    Calls Try.prog 47 #[v, .string nm] w fun e w' => ∃ r fp, e = .returned (.tuple #[r, .bool (gtB s nm)]) ∧ Grow w w' ∧ FV itmRep packA w' (gtI s nm) r fp ∧ Free w.heap.size w' fp := by
  obtain ⟨a, c, rfl, hs⟩ := sto_open h
  have HS := Lib.hid h
  have Hs := Lib.hid hs
  clear h hs
  unfold stoV at *
  have hb0 := (BoxN.new w [.slice a s.1.length c, .int .i64 s.2] 33).grow ((Ext.refl nil _).alloc (.cells #[.string ⟨#[]⟩, .int .i64 0, .int .i64 0, .int .i64 0, .string ⟨#[]⟩, .slice none 0 0, .slice none 0 0] 62))
  have hb1 := BoxN.new1 w (.cells #[.slice a s.1.length c, .int .i64 s.2] 33) [.string ⟨#[]⟩, .int .i64 0, .int .i64 0, .int .i64 0, .string ⟨#[]⟩, .slice none 0 0, .slice none 0 0] 62
  have HB0 := Lib.hid hb0
  have HB1 := Lib.hid hb1
  clear hb0 hb1
  cases hv : storeB s
  · have Hv := Lib.hid hv
    have Hf := Lib.hid (gt_no (nm := nm) (.inl hv))
    clear hv
    go_enter Try.func47, Try.ntmps47
    go_wp2_with fail
    refine (ValidStore_ok s _ _ (HS.out.grow (by repeat (first | with_reducible exact Ext.refl _ _ | with_reducible refine Ext.trans ?_ (by assumption) | with_reducible refine Ext.drew ?_ | with_reducible refine Ext.drewN ?_ _ | with_reducible refine Ext.alloc ?_ _ | with_reducible refine Ext.setNew ?_ (by simp; done) _ | with_reducible refine Ext.setNew ?_ (by simp; omega) _)))).mono ?_
    rintro e w2 ⟨rfl, hg2⟩
    simp only [Hv.out]
    have hgw : Grow w w2 := (by repeat (first | with_reducible exact Ext.refl _ _ | with_reducible refine Ext.trans ?_ (by assumption) | with_reducible refine Ext.drew ?_ | with_reducible refine Ext.drewN ?_ _ | with_reducible refine Ext.alloc ?_ _ | with_reducible refine Ext.setNew ?_ (by simp; done) _ | with_reducible refine Ext.setNew ?_ (by simp; omega) _))
    replace HB1 := Lib.hid (HB1.out.grow hg2)
    have r0 := HB1.out.cell 0 _ rfl
    have r1 := HB1.out.cell 1 _ rfl
    have r2 := HB1.out.cell 2 _ rfl
    have r3 := HB1.out.cell 3 _ rfl
    have r4 := HB1.out.cell 4 _ rfl
    have r5 := HB1.out.cell 5 _ rfl
    have r6 := HB1.out.cell 6 _ rfl
    have rf := HB1.out.fr
    have zr := HB1.out.lt
    go_wp2_with fail
    clear r0 r1 r2 r3 r4 r5 r6 rf
    have BF := ((((((HB1.out.set 0 (by simp) (.string ⟨#[]⟩)).set 1 (by simp) (.int .i64 0)).set 2 (by simp) (.int .i64 0)).set 3 (by simp) (.int .i64 0)).set 4 (by simp) (.string ⟨#[]⟩)).set 5 (by simp) (.slice none 0 0)).set 6 (by simp) (.slice none 0 0)
    have s0 := BF.cell 0 _ rfl
    have s1 := BF.cell 1 _ rfl
    have s2 := BF.cell 2 _ rfl
    have s3 := BF.cell 3 _ rfl
    have s4 := BF.cell 4 _ rfl
    have s5 := BF.cell 5 _ rfl
    have s6 := BF.cell 6 _ rfl
    have he := st7_ext w2 (w.heap.size + 1) (.string ⟨#[]⟩) (.int .i64 0) (.int .i64 0) (.int .i64 0) (.string ⟨#[]⟩) (.slice none 0 0) (.slice none 0 0)
    refine bodyPost_ret (v := .tuple #[.agg #[.string ⟨#[]⟩, .int .i64 0, .int .i64 0, .int .i64 0, .string ⟨#[]⟩, .slice none 0 0, .slice none 0 0], .bool false]) ?_ rfl ⟨_, [], by rw [Hf.out.1], Grow.inner hgw he (by intro i hi; have : i = w.heap.size + 1 := hi; omega), by rw [Hf.out.2]; exact ⟨_, rfl, itm_zeroF _⟩, Free.nil _ _⟩
    simp [results, Try.results47, go_sem, s0, s1, s2, s3, s4, s5, s6]
  have Hv := Lib.hid hv
  have Hasc := Lib.hid (storeB_asc hv)
  have hl10 : s.1.length ≤ 10 := (storeB_parts hv).1
  cases hm : mem (nmL s.1) nm
  · have Hm := Lib.hid hm
    have Hf := Lib.hid (gt_no (s := s) (nm := nm) (.inr hm))
    clear hv hm
    go_enter Try.func47, Try.ntmps47
    go_wp2_with fail
    refine (ValidStore_ok s _ _ (HS.out.grow (by repeat (first | with_reducible exact Ext.refl _ _ | with_reducible refine Ext.trans ?_ (by assumption) | with_reducible refine Ext.drew ?_ | with_reducible refine Ext.drewN ?_ _ | with_reducible refine Ext.alloc ?_ _ | with_reducible refine Ext.setNew ?_ (by simp; done) _ | with_reducible refine Ext.setNew ?_ (by simp; omega) _)))).mono ?_
    rintro e w2 ⟨rfl, hg2⟩
    simp only [Hv.out]
    replace HB0 := Lib.hid (HB0.out.grow hg2)
    have q0 := HB0.out.cell 0 _ rfl
    have q1 := HB0.out.cell 1 _ rfl
    go_wp2_with fail
    refine (findItem_ok s.1 _ _ nm _ (Hs.out.grow (by repeat (first | with_reducible exact Ext.refl _ _ | with_reducible refine Ext.trans ?_ (by assumption) | with_reducible refine Ext.drew ?_ | with_reducible refine Ext.drewN ?_ _ | with_reducible refine Ext.alloc ?_ _ | with_reducible refine Ext.setNew ?_ (by simp; done) _ | with_reducible refine Ext.setNew ?_ (by simp; omega) _))) Hasc.out (by omega)).mono ?_
    rintro e w3 ⟨rfl, hg3⟩
    simp only [Hm.out]
    have hgw : Grow w w3 := (by repeat (first | with_reducible exact Ext.refl _ _ | with_reducible refine Ext.trans ?_ (by assumption) | with_reducible refine Ext.drew ?_ | with_reducible refine Ext.drewN ?_ _ | with_reducible refine Ext.alloc ?_ _ | with_reducible refine Ext.setNew ?_ (by simp; done) _ | with_reducible refine Ext.setNew ?_ (by simp; omega) _))
    clear q0 q1
    replace HB1 := Lib.hid ((HB1.out.grow hg2).grow hg3)
    have r0 := HB1.out.cell 0 _ rfl
    have r1 := HB1.out.cell 1 _ rfl
    have r2 := HB1.out.cell 2 _ rfl
    have r3 := HB1.out.cell 3 _ rfl
    have r4 := HB1.out.cell 4 _ rfl
    have r5 := HB1.out.cell 5 _ rfl
    have r6 := HB1.out.cell 6 _ rfl
    have rf := HB1.out.fr
    have zr := HB1.out.lt
    go_wp2_with fail
    clear r0 r1 r2 r3 r4 r5 r6 rf
    have BF := ((((((HB1.out.set 0 (by simp) (.string ⟨#[]⟩)).set 1 (by simp) (.int .i64 0)).set 2 (by simp) (.int .i64 0)).set 3 (by simp) (.int .i64 0)).set 4 (by simp) (.string ⟨#[]⟩)).set 5 (by simp) (.slice none 0 0)).set 6 (by simp) (.slice none 0 0)
    have s0 := BF.cell 0 _ rfl
    have s1 := BF.cell 1 _ rfl
    have s2 := BF.cell 2 _ rfl
    have s3 := BF.cell 3 _ rfl
    have s4 := BF.cell 4 _ rfl
    have s5 := BF.cell 5 _ rfl
    have s6 := BF.cell 6 _ rfl
    have he := st7_ext w3 (w.heap.size + 1) (.string ⟨#[]⟩) (.int .i64 0) (.int .i64 0) (.int .i64 0) (.string ⟨#[]⟩) (.slice none 0 0) (.slice none 0 0)
    refine bodyPost_ret (v := .tuple #[.agg #[.string ⟨#[]⟩, .int .i64 0, .int .i64 0, .int .i64 0, .string ⟨#[]⟩, .slice none 0 0, .slice none 0 0], .bool false]) ?_ rfl ⟨_, [], by rw [Hf.out.1], Grow.inner hgw he (by intro i hi; have : i = w.heap.size + 1 := hi; omega), by rw [Hf.out.2]; exact ⟨_, rfl, itm_zeroF _⟩, Free.nil _ _⟩
    simp [results, Try.results47, go_sem, s0, s1, s2, s3, s4, s5, s6]
  have Hm := Lib.hid hm
  obtain ⟨hgb, hlb, hgi, hnm⟩ := gt_yes hv hm
  have Hgb := Lib.hid hgb
  have Hgi := Lib.hid hgi
  have Hgood := Lib.hid (storeB_good hv)
  have k1 : ((lbound (nmL s.1) nm : Nat) : Int) < (s.1.length : Int) := by omega
  have k0 : (0 : Int) ≤ ((lbound (nmL s.1) nm : Nat) : Int) := by omega
  clear hv hm hgb hgi hnm
  go_enter Try.func47, Try.ntmps47
  go_wp2_with fail
  refine (ValidStore_ok s _ _ (HS.out.grow (by repeat (first | with_reducible exact Ext.refl _ _ | with_reducible refine Ext.trans ?_ (by assumption) | with_reducible refine Ext.drew ?_ | with_reducible refine Ext.drewN ?_ _ | with_reducible refine Ext.alloc ?_ _ | with_reducible refine Ext.setNew ?_ (by simp; done) _ | with_reducible refine Ext.setNew ?_ (by simp; omega) _)))).mono ?_
  rintro e w2 ⟨rfl, hg2⟩
  simp only [Hv.out]
  replace HB0 := Lib.hid (HB0.out.grow hg2)
  have q0 := HB0.out.cell 0 _ rfl
  have q1 := HB0.out.cell 1 _ rfl
  go_wp2_with fail
  refine (findItem_ok s.1 _ _ nm _ (Hs.out.grow (by repeat (first | with_reducible exact Ext.refl _ _ | with_reducible refine Ext.trans ?_ (by assumption) | with_reducible refine Ext.drew ?_ | with_reducible refine Ext.drewN ?_ _ | with_reducible refine Ext.alloc ?_ _ | with_reducible refine Ext.setNew ?_ (by simp; done) _ | with_reducible refine Ext.setNew ?_ (by simp; omega) _))) Hasc.out (by omega)).mono ?_
  rintro e w3 ⟨rfl, hg3⟩
  simp only [Hm.out]
  have hgw : Grow w w3 := (by repeat (first | with_reducible exact Ext.refl _ _ | with_reducible refine Ext.trans ?_ (by assumption) | with_reducible refine Ext.drew ?_ | with_reducible refine Ext.drewN ?_ _ | with_reducible refine Ext.alloc ?_ _ | with_reducible refine Ext.setNew ?_ (by simp; done) _ | with_reducible refine Ext.setNew ?_ (by simp; omega) _))
  clear q0 q1
  replace HB0 := Lib.hid (HB0.out.grow hg3)
  replace HB1 := Lib.hid ((HB1.out.grow hg2).grow hg3)
  have q0 := HB0.out.cell 0 _ rfl
  have q1 := HB0.out.cell 1 _ rfl
  obtain ⟨_, _, hks⟩ := (Hs.out).grow hgw
  rcases hks with hks | ⟨bk, ok, rfl, _, hkr⟩
  · exfalso; rw [hks] at hlb; simp at hlb
  obtain ⟨k, hk⟩ : ∃ k, k = lbound (nmL s.1) nm := ⟨_, rfl⟩
  rw [← hk] at k1 k0 ⊢
  have hkl : k < s.1.length := by rw [hk]; exact hlb
  obtain ⟨cs, hcs, hx⟩ := hkr k hkl
  obtain ⟨na0, nc0, ka0, kc0, rfl, hsz0, h0⟩ := itmRep_open hx
  rw [itmRep_n] at hcs
  have x0 : w3.cell? ⟨bk, ok + k * 7, none⟩ = _ := hcs 0 _ rfl
  have x1 := hcs 1 _ rfl
  have x2 := hcs 2 _ rfl
  have x3 := hcs 3 _ rfl
  have x4 := hcs 4 _ rfl
  have x5 := hcs 5 _ rfl
  have x6 := hcs 6 _ rfl
  have Hx := Lib.hid hx
  have Hgi2 : Hid (gtI s nm = s.1[k]) := Lib.hid (by rw [Hgi.out]; simp only [hk])
  have HB3 := Lib.hid HB1.out
  clear hkr hcs hx h0 hsz0 hk
  go_wp2_with fail
  refine (copyItem_ok s.1[k] _ _ (Hgood.out _ (List.getElem_mem hkl)) Hx.out).mono ?_
  rintro e w4 ⟨cs', fp, rfl, hg4, hF, hfr⟩
  obtain ⟨na2, nc2, ka2, kc2, rfl, _, _⟩ := itmRep_openF hF
  have HF := Lib.hid hF
  have Hfr := Lib.hid hfr
  have HB1 := Lib.hid (HB3.out.grow hg4)
  have z4 := hg4.size
  have z3 := HB3.out.lt
  clear hF hfr x0 x1 x2 x3 x4 x5 x6 q0 q1
  unfold itmL at *
  have r0 := HB1.out.cell 0 _ rfl
  have r1 := HB1.out.cell 1 _ rfl
  have r2 := HB1.out.cell 2 _ rfl
  have r3 := HB1.out.cell 3 _ rfl
  have r4 := HB1.out.cell 4 _ rfl
  have r5 := HB1.out.cell 5 _ rfl
  have r6 := HB1.out.cell 6 _ rfl
  have rf := HB1.out.fr
  have zr := HB1.out.lt
  go_wp2_with fail
  clear r0 r1 r2 r3 r4 r5 r6 rf
  have BF := ((((((HB1.out.set 0 (by simp) (.string s.1[k].1)).set 1 (by simp) (.int .i64 s.1[k].2.1)).set 2 (by simp) (.int .i64 s.1[k].2.2.kind)).set 3 (by simp) (.int .i64 s.1[k].2.2.num)).set 4 (by simp) (.string s.1[k].2.2.text)).set 5 (by simp) (.slice na2 s.1[k].2.2.names.length nc2)).set 6 (by simp) (.slice ka2 s.1[k].2.2.kids.length kc2)
  have s0 := BF.cell 0 _ rfl
  have s1 := BF.cell 1 _ rfl
  have s2 := BF.cell 2 _ rfl
  have s3 := BF.cell 3 _ rfl
  have s4 := BF.cell 4 _ rfl
  have s5 := BF.cell 5 _ rfl
  have s6 := BF.cell 6 _ rfl
  have he := st7_ext w4 (w.heap.size + 1) (.string s.1[k].1) (.int .i64 s.1[k].2.1) (.int .i64 s.1[k].2.2.kind) (.int .i64 s.1[k].2.2.num) (.string s.1[k].2.2.text) (.slice na2 s.1[k].2.2.names.length nc2) (.slice ka2 s.1[k].2.2.kids.length kc2)
  have hx2 : ∀ b ∈ fp, ¬ b = w.heap.size + 1 := fun b hb e => by have := (Hfr.out.2 b hb).1; omega
  have hfin : FV itmRep packA (st7 w4 (w.heap.size + 1) (.string s.1[k].1) (.int .i64 s.1[k].2.1) (.int .i64 s.1[k].2.2.kind) (.int .i64 s.1[k].2.2.num) (.string s.1[k].2.2.text) (.slice na2 s.1[k].2.2.names.length nc2) (.slice ka2 s.1[k].2.2.kids.length kc2)) (gtI s nm) (.agg #[.string s.1[k].1, .int .i64 s.1[k].2.1, .int .i64 s.1[k].2.2.kind, .int .i64 s.1[k].2.2.num, .string s.1[k].2.2.text, .slice na2 s.1[k].2.2.names.length nc2, .slice ka2 s.1[k].2.2.kids.length kc2]) fp := by
    rw [Hgi2.out]; exact ⟨_, rfl, itmRep.keep HF.out (he.keeps Hfr.out hx2)⟩
  refine bodyPost_ret (v := .tuple #[.agg #[.string s.1[k].1, .int .i64 s.1[k].2.1, .int .i64 s.1[k].2.2.kind, .int .i64 s.1[k].2.2.num, .string s.1[k].2.2.text, .slice na2 s.1[k].2.2.names.length nc2, .slice ka2 s.1[k].2.2.kids.length kc2], .bool true]) ?_ rfl ⟨_, fp, by rw [Hgb.out], Grow.inner (hgw.trans hg4) he (by intro i hi; have : i = w.heap.size + 1 := hi; omega), hfin, (Hfr.out.ext he hx2).mono (by have := hgw.size; omega)⟩
  simp [results, Try.results47, go_sem, s0, s1, s2, s3, s4, s5, s6]
end Go.Proofs.Ytmeobmegnneegaa
namespace Go.Proofs.Ytmeobmegnneegaa
open Go.RowKit
def itmV (x : Itm) (na : Option Addr) (nc : Nat) (ka : Option Addr) (kc : Nat) : Value := .agg #[.string x.1, .int .i64 x.2.1, .int .i64 x.2.2.kind, .int .i64 x.2.2.num, .string x.2.2.text, .slice na x.2.2.names.length nc, .slice ka x.2.2.kids.length kc]
theorem itm_openF {w : World} {x : Itm} {v : Value} {fp : List Nat} (h : FV itmRep packA w x v fp) : ∃ na nc ka kc, v = itmV x na nc ka kc ∧ x.1.size ≤ big ∧ NodeF w x.2.2 na nc ka kc fp := by
  obtain ⟨cs, rfl, _, _, f0, g0, rfl, rfl, ⟨rfl, h1, rfl⟩, _, _, f1, g1, rfl, rfl, ⟨rfl, rfl⟩, na, nc, ka, kc, rfl, h2⟩ := h
  exact ⟨na, nc, ka, kc, rfl, h1, by simpa using h2⟩
end Go.Proofs.Ytmeobmegnneegaa
-- EV: store
namespace Go.Proofs.Ytmeobmegnneegaa.Eng
open Go Go.RowKit
theorem item_to_rep {w : World} {S : Nat → Prop} {x : Itm} {v : Value} {fp : List Nat} (h : FV itmRep packA w x v fp) (hS : ∀ b ∈ fp, S b) : Rep w (pureC nil S none) (itemA x) v := by
  obtain ⟨na, nc, ka, kc, rfl, h1, h2⟩ := itm_openF h
  obtain ⟨r1, r2, r3⟩ := nodeC_to_rep x.2.2 na nc ka kc (h2.toC hS)
  unfold itemA itmV
  rw [itemL_eq]
  refine rep_agg.2 ⟨[_, _, _, _, _, _, _], rfl, ?_, repL7 (rep_str.2 ⟨rfl, h1⟩) (rep_int.2 rfl) (rep_int.2 rfl) (rep_int.2 rfl) r1 r2 r3⟩
  intro u hu
  simp only [List.mem_cons, List.not_mem_nil, or_false] at hu
  rcases hu with rfl | rfl | rfl | rfl | rfl | rfl | rfl <;> rfl
theorem GetItem_AC (s : Sto) (t : VC) (nm : ByteArray) : AC Try.prog 47 [storeT t s, .str nm] 0 (fun r => r = .tup [itemA (gtI s nm), .bool (gtB s nm)]) := by
  refine AC.ofNew (enters_of Try.func47 (by kernel_rfl) (by kernel_rfl)) (fun w L S rb vs h => ?_)
  obtain ⟨v, u, rfl, h1, h2⟩ := repL2_inv h
  obtain ⟨rfl, hs⟩ := rep_str.1 h2
  refine (implGetItem_ok s nm v w hs (store_of_rep h1)).mono ?_
  rintro e w' ⟨r, fp, rfl, hg, hF, hfr⟩
  exact ⟨_, _, rfl, hg, tup2_rep (item_to_rep hF (free_fresh hfr)) (rep_bool.2 rfl), rfl⟩
end Go.Proofs.Ytmeobmegnneegaa.Eng
namespace Go.Proofs.Ytmeobmegnneegaa.Eng
open Go Go.RowKit
attribute [local simp] big size_mk ASt.pay Option.map_map Function.comp_def awant aop acall ado aev ofVal ofVal0 ASt.put ASt.add ASt.turn ASt.kill abox aalloc astore aload ASt.at cellsTo afieldAddr afield aindexAddr aindex alen abin aint acmp astr aun apick aextract anil aslice abound abuild afill abuildSlice asCells aps avCells over upd aappend asrc amax amin aconv mkSt slots rowsOf_cons rowsOf_nil usedOf_cons usedOf_nil ZK.av List.replicate ASt.back ASt.addL ASt.killL nodeA nodeT nodeTL_eq nodeL_eq strsE_get strsE_len intsE_get intsE_len strsE_at intsE_at tab2 tab3 tab4 tab5 tab6 tab7 tab8 tab9 tab10 tab11 tab12 tab13 tab14 tab15 tab16 tab17 tab18 tab19 tab21 tab22 tab23 tab24 tab25 tab26 tab27 tab28 tab31 tab32 tab33 tab37 tab38 tab39 tab46 tab53 tab61 tab62 tab69 tab70 tab98 tab116 tab117 tab125 tab126 tab128 tab136 tab145 tab146 tab151 tab152 tab153 tab155 tab156 tab157
def nodeRR (n : Nd) (a b : Nat) : AV := .agg [.int .i64 n.kind, .int .i64 n.num, .str n.text, .own a n.names.length, .own b n.kids.length]
def namesR (xs : List ByteArray) : Row := ⟨false, 9, 1, strsE xs⟩
def nodesR (ks : List Nd) : Row := ⟨false, 39, 5, ks.map nodeL⟩
def zeroN : List AV := [.int .i64 0, .int .i64 0, .str ⟨#[]⟩, .view .tight 0 [], .view .tight 0 []]
def part (ks : List Nd) (i : Nat) : List (List AV) := (ks.take i).map nodeL ++ List.replicate (ks.length - i) zeroN
theorem part_len (ks : List Nd) (i : Nat) (h : i ≤ ks.length) : (part ks i).length = ks.length := by unfold part; simp; omega
theorem part_zero (ks : List Nd) : part ks 0 = List.replicate ks.length zeroN := by unfold part; simp
theorem part_all (ks : List Nd) : part ks ks.length = ks.map nodeL := by unfold part; simp
theorem part_get (ks : List Nd) (i : Nat) (h : i < ks.length) : (part ks i)[i]? = some [.int .i64 0, .int .i64 0, .str ⟨#[]⟩, .view .tight 0 [], .view .tight 0 []] := by
  unfold part
  have : ((ks.take i).map nodeL).length = i := by simp; omega
  rw [List.getElem?_append_right (by omega), this, Nat.sub_self, List.getElem?_replicate, if_pos (by omega)]
  rfl
theorem part_set (ks : List Nd) (i : Nat) (h : i < ks.length) : (part ks i).set i (nodeL ks[i]) = part ks (i + 1) := by
  unfold part
  have hl : ((ks.take i).map nodeL).length = i := by simp; omega
  rw [List.set_append_right _ _ (by omega), hl, Nat.sub_self, List.take_add_one, List.getElem?_eq_getElem h]
  have : ks.length - i = (ks.length - (i + 1)) + 1 := by omega
  rw [this, List.replicate_succ, List.set_cons_zero, List.map_append, List.append_assoc]
  rfl
theorem part_in {U : Nat → Bool} (ks : List Nd) (i : Nat) : ∀ e ∈ part ks i, ∀ c ∈ e, AV.In U c := by
  intro e he c hc
  unfold part at he
  rcases List.mem_append.1 he with he | he
  · exact nodesE_in (ks.take i) e he c hc
  · rw [List.eq_of_mem_replicate he] at hc
    simp only [zeroN, List.mem_cons, List.not_mem_nil, or_false] at hc
    rcases hc with rfl | rfl | rfl | rfl | rfl
    · exact in_int
    · exact in_int
    · exact in_str
    · exact in_vnil
    · exact in_vnil
set_option linter.unusedSimpArgs false
set_option maxRecDepth 100000 in
set_option maxHeartbeats 8000000 in
theorem implCopy_step (n : Nd) (hs : Sml n) (ih : ∀ k ∈ n.kids, AC Try.prog 81 [nodeA k] 0 (fun r => r = nodeA k)) : ACG Try.prog 81 [nodeA n] [] 0 (fun r l => r = nodeRR n 20 34 ∧ l = [(20, namesR n.names), (34, nodesR n.kids)]) := by
  have hs1 := hs.names
  have hs2 := hs.kids
  unfold nodeA
  rw [nodeL_eq]
  refine ACG.of tab_ok mixed_ok Try.func81 (by rfl) (by kernel_rfl) (by simp) ?_; rintro ⟨P, T, hT, hm, w0, S0, rd0, k0⟩ hP hTT; dsimp only at hP hTT; subst hP hTT; unfold initStG; rw [Try.ntmps81]
  refine AW.seq ?_
  (refine AW.regionK [] (fun K hK => ?_); (repeat (refine arun_ks 4 rfl (fun C hC => ?_); (repeat ((conv => whnf); simp)); refine hC _ ?_; clear hC C; simp only [List.drop_succ_cons, List.drop_zero, List.drop_nil])); refine arun_nil ?_; refine hK _ ?_; clear hK K; simp only [thenA_normal, inBlockA_normal, endQ_normal, endR_normal])
  refine AW.seq ?_
  (refine AW.regionK [] (fun K hK => ?_); (repeat (refine arun_ks 4 rfl (fun C hC => ?_); (repeat ((conv => whnf); simp)); refine hC _ ?_; clear hC C; simp only [List.drop_succ_cons, List.drop_zero, List.drop_nil])); refine arun_nil ?_; refine hK _ ?_; clear hK K; simp only [thenA_normal, inBlockA_normal, endQ_normal, endR_normal])
  refine AW.seq ?_
  refine AW.cutN (fun (_ : Unit) => mkSt (slots 0 52 [(1, .ptr true 5 1 1 0 0), (2, .ptr true 5 1 2 0 0), (3, .ptr true 5 1 3 0 0)]) [(1, ⟨true, 39, 5, [[.int .i64 n.kind, .int .i64 n.num, .str n.text, .view .loose 1 (strsE n.names), .view .loose 5 (n.kids.map nodeL)]]⟩), (2, ⟨true, 39, 5, [zeroN]⟩), (3, ⟨true, 39, 5, [[.int .i64 n.kind, .int .i64 n.num, .str n.text, .own 20 n.names.length, .view .tight 0 []]]⟩), (20, namesR n.names)] [1, 2, 3, 20] (rd0.map fun _ => 0)) (fun _ => True) ?_ ?_
  · by_cases hn0 : 0 < n.names.length
    · (repeat (first | with_reducible refine AW.seq ?_ | ((first | refine arun_kn 4 rfl (fun C hC => ?_) | refine arunD_kn 4 rfl (fun C hC => ?_)); (repeat ((conv => whnf); simp [hn0])); refine hC _ ?_; clear hC C; simp only [List.drop, Nat.reduceAdd]) | ((first | refine arun_kn 1 rfl (fun C hC => ?_) | refine arunD_kn 1 rfl (fun C hC => ?_)); (repeat ((conv => whnf); simp [hn0])); refine hC _ ?_; clear hC C; simp only [List.drop, Nat.reduceAdd]) | (refine arun_skip ?_ ?_; (focus (simp [awant, hn0]; done))) | (refine arunD_skip ?_ ?_; (focus (simp [awant, hn0]; done))) | (refine AW.regionK [] (fun K hK => ?_)) | (refine AW.regionDK [] (pcs [] []) (by kernel_rfl) (by kernel_rfl) (fun K hK => ?_)) | (refine AW.condT ?_ ?_; (focus (simp [aev, hn0]; done))) | (refine AW.condF ?_ ?_; (focus (simp [aev, hn0]; done))) | with_reducible refine AW.block ?_ | ((first | ((first | refine arun_nil ?_ | refine arunD_nil ?_); refine hK _ ?_; clear hK K) | refine AW.skip ?_ | refine AW.exit ?_ | refine AW.ret ?_); simp only [thenA_exit, inBlockA_exit, if_true, if_false, Nat.reduceEqDiff, thenA_normal, inBlockA_normal, reduceIte, thenA_ret, inBlockA_ret, endQ_ret, endR_ret, endG_ret, endQ_normal, endR_normal, endG_normal])))
      refine arun_make 20 rfl (by simp [awant]) rfl tab25 tab9 (by decide) rfl (by dsimp only; omega) (by unfold maxLen; omega) (by simp [upd]) ?_
      (repeat (first | with_reducible refine AW.seq ?_ | ((first | refine arun_kn 4 rfl (fun C hC => ?_) | refine arunD_kn 4 rfl (fun C hC => ?_)); (repeat ((conv => whnf); simp [hn0])); refine hC _ ?_; clear hC C; simp only [List.drop, Nat.reduceAdd]) | ((first | refine arun_kn 1 rfl (fun C hC => ?_) | refine arunD_kn 1 rfl (fun C hC => ?_)); (repeat ((conv => whnf); simp [hn0])); refine hC _ ?_; clear hC C; simp only [List.drop, Nat.reduceAdd]) | (refine arun_skip ?_ ?_; (focus (simp [awant, hn0]; done))) | (refine arunD_skip ?_ ?_; (focus (simp [awant, hn0]; done))) | (refine AW.regionK [] (fun K hK => ?_)) | (refine AW.regionDK [] (pcs [] []) (by kernel_rfl) (by kernel_rfl) (fun K hK => ?_)) | (refine AW.condT ?_ ?_; (focus (simp [aev, hn0]; done))) | (refine AW.condF ?_ ?_; (focus (simp [aev, hn0]; done))) | with_reducible refine AW.block ?_ | ((first | ((first | refine arun_nil ?_ | refine arunD_nil ?_); refine hK _ ?_; clear hK K) | refine AW.skip ?_ | refine AW.exit ?_ | refine AW.ret ?_); simp only [thenA_exit, inBlockA_exit, if_true, if_false, Nat.reduceEqDiff, thenA_normal, inBlockA_normal, reduceIte, thenA_ret, inBlockA_ret, endQ_ret, endR_ret, endG_ret, endQ_normal, endR_normal, endG_normal])))
      refine arun_copyAll (r := ⟨false, 9, 1, List.replicate n.names.length [AV.str ⟨#[]⟩]⟩) rfl (by simp [awant]) rfl (by simp [upd]) rfl rfl List.length_replicate rfl (strsE_len _) tab25 tab9 rfl ?_
      (repeat (first | with_reducible refine AW.seq ?_ | ((first | refine arun_kn 4 rfl (fun C hC => ?_) | refine arunD_kn 4 rfl (fun C hC => ?_)); (repeat ((conv => whnf); simp [hn0])); refine hC _ ?_; clear hC C; simp only [List.drop, Nat.reduceAdd]) | ((first | refine arun_kn 1 rfl (fun C hC => ?_) | refine arunD_kn 1 rfl (fun C hC => ?_)); (repeat ((conv => whnf); simp [hn0])); refine hC _ ?_; clear hC C; simp only [List.drop, Nat.reduceAdd]) | (refine arun_skip ?_ ?_; (focus (simp [awant, hn0]; done))) | (refine arunD_skip ?_ ?_; (focus (simp [awant, hn0]; done))) | (refine AW.regionK [] (fun K hK => ?_)) | (refine AW.regionDK [] (pcs [] []) (by kernel_rfl) (by kernel_rfl) (fun K hK => ?_)) | (refine AW.condT ?_ ?_; (focus (simp [aev, hn0]; done))) | (refine AW.condF ?_ ?_; (focus (simp [aev, hn0]; done))) | with_reducible refine AW.block ?_ | ((first | ((first | refine arun_nil ?_ | refine arunD_nil ?_); refine hK _ ?_; clear hK K) | refine AW.skip ?_ | refine AW.exit ?_ | refine AW.ret ?_); simp only [thenA_exit, inBlockA_exit, if_true, if_false, Nat.reduceEqDiff, thenA_normal, inBlockA_normal, reduceIte, thenA_ret, inBlockA_ret, endQ_ret, endR_ret, endG_ret, endQ_normal, endR_normal, endG_normal])))
      exact ⟨(), trivial, (less_of (by simp [lessL, mkSt, slots, namesR, zeroN]) (by simp [upd, mkSt, rowsOf_cons, namesR, zeroN]) (by simp [upd, mkSt, usedOf_cons, namesR, zeroN]) (by first | exact rd_less (by omega) | simp [mkSt, namesR, zeroN]) (by simp [slots, in_any, in_int, in_bool, in_str, in_ptr, in_own, in_agg, in_vnil, in_rdr, usedOf_cons, usedOf_nil, strs_in, ints_in, nodes_in, in_tup, namesR, zeroN]) (by simp only [List.forall_mem_cons, List.not_mem_nil, false_implies, implies_true, and_true, true_and, namesR, zeroN]; (repeat (first | with_reducible exact trivial | with_reducible refine And.intro ?_ ?_ | with_reducible exact in_int | with_reducible exact in_str | with_reducible exact in_bool | with_reducible exact strs_in _ | with_reducible exact nodes_in _ | with_reducible exact items_in _ | with_reducible exact in_vnil | with_reducible exact in_any | exact hin _ | with_reducible refine take_in ?_ | with_reducible exact strsE_in _ | with_reducible exact nodesE_in _ | with_reducible exact nodeL_in _ | with_reducible exact itemsE_in _ | with_reducible exact itemL_in _ | with_reducible refine app_in ?_ ?_ | with_reducible refine sing_in ?_ | (focus (simp [in_any, in_int, in_bool, in_str, in_ptr, in_own, in_agg, in_vnil, in_rdr, usedOf_cons, usedOf_nil, strs_in, ints_in, nodes_in, namesR, zeroN]; done)))); done))⟩
    · have hl0 : n.names.length = 0 := by omega
      have he0 : n.names = [] := List.length_eq_zero_iff.1 hl0
      refine AW.adoptB 3 3 20 9 1 ⟨_, tab9, rfl⟩ (by simp [upd]; rfl) rfl rfl (by simp [upd]) ?_
      simp only [ASt.adoptB]
      (repeat (first | with_reducible refine AW.seq ?_ | ((first | refine arun_kn 4 rfl (fun C hC => ?_) | refine arunD_kn 4 rfl (fun C hC => ?_)); (repeat ((conv => whnf); simp [hl0])); refine hC _ ?_; clear hC C; simp only [List.drop, Nat.reduceAdd]) | ((first | refine arun_kn 1 rfl (fun C hC => ?_) | refine arunD_kn 1 rfl (fun C hC => ?_)); (repeat ((conv => whnf); simp [hl0])); refine hC _ ?_; clear hC C; simp only [List.drop, Nat.reduceAdd]) | (refine arun_skip ?_ ?_; (focus (simp [awant, hl0]; done))) | (refine arunD_skip ?_ ?_; (focus (simp [awant, hl0]; done))) | (refine AW.regionK [] (fun K hK => ?_)) | (refine AW.regionDK [] (pcs [] []) (by kernel_rfl) (by kernel_rfl) (fun K hK => ?_)) | (refine AW.condT ?_ ?_; (focus (simp [aev, hl0]; done))) | (refine AW.condF ?_ ?_; (focus (simp [aev, hl0]; done))) | with_reducible refine AW.block ?_ | ((first | ((first | refine arun_nil ?_ | refine arunD_nil ?_); refine hK _ ?_; clear hK K) | refine AW.skip ?_ | refine AW.exit ?_ | refine AW.ret ?_); simp only [thenA_exit, inBlockA_exit, if_true, if_false, Nat.reduceEqDiff, thenA_normal, inBlockA_normal, reduceIte, thenA_ret, inBlockA_ret, endQ_ret, endR_ret, endG_ret, endQ_normal, endR_normal, endG_normal])))
      exact ⟨(), trivial, (less_of (by simp [lessL, mkSt, slots, namesR, zeroN, he0, strsE]) (by simp [upd, mkSt, rowsOf_cons, namesR, zeroN, he0, strsE]) (by simp [upd, mkSt, usedOf_cons, namesR, zeroN, he0, strsE]) (by first | exact rd_less (by omega) | simp [mkSt, namesR, zeroN, he0, strsE]) (by simp [slots, in_any, in_int, in_bool, in_str, in_ptr, in_own, in_agg, in_vnil, in_rdr, usedOf_cons, usedOf_nil, strs_in, ints_in, nodes_in, in_tup, namesR, zeroN, he0, strsE]) (by simp only [List.forall_mem_cons, List.not_mem_nil, false_implies, implies_true, and_true, true_and, namesR, zeroN, he0, strsE]; (repeat (first | with_reducible exact trivial | with_reducible refine And.intro ?_ ?_ | with_reducible exact in_int | with_reducible exact in_str | with_reducible exact in_bool | with_reducible exact strs_in _ | with_reducible exact nodes_in _ | with_reducible exact items_in _ | with_reducible exact in_vnil | with_reducible exact in_any | exact hin _ | with_reducible refine take_in ?_ | with_reducible exact strsE_in _ | with_reducible exact nodesE_in _ | with_reducible exact nodeL_in _ | with_reducible exact itemsE_in _ | with_reducible exact itemL_in _ | with_reducible refine app_in ?_ ?_ | with_reducible refine sing_in ?_ | (focus (simp [in_any, in_int, in_bool, in_str, in_ptr, in_own, in_agg, in_vnil, in_rdr, usedOf_cons, usedOf_nil, strs_in, ints_in, nodes_in, namesR, zeroN, he0, strsE]; done)))); done))⟩
  rintro ⟨⟩ s' - hls
  refine AW.less _ hls ?_
  clear hls s'
  refine AW.seq ?_
  refine AW.cutN (fun (_ : Unit) => mkSt (slots 0 52 [(2, .ptr true 5 1 2 0 0), (3, .ptr true 5 1 3 0 0)]) [(2, ⟨true, 39, 5, [zeroN]⟩), (3, ⟨true, 39, 5, [[.int .i64 n.kind, .int .i64 n.num, .str n.text, .own 20 n.names.length, .own 34 n.kids.length]]⟩), (20, namesR n.names), (34, nodesR n.kids)] [2, 3, 20, 34] (rd0.map fun _ => 0)) (fun _ => True) ?_ ?_
  · by_cases hn0 : 0 < n.kids.length
    · (repeat (first | with_reducible refine AW.seq ?_ | ((first | refine arun_kn 4 rfl (fun C hC => ?_) | refine arunD_kn 4 rfl (fun C hC => ?_)); (repeat ((conv => whnf); simp [hn0])); refine hC _ ?_; clear hC C; simp only [List.drop, Nat.reduceAdd]) | ((first | refine arun_kn 1 rfl (fun C hC => ?_) | refine arunD_kn 1 rfl (fun C hC => ?_)); (repeat ((conv => whnf); simp [hn0])); refine hC _ ?_; clear hC C; simp only [List.drop, Nat.reduceAdd]) | (refine arun_skip ?_ ?_; (focus (simp [awant, hn0]; done))) | (refine arunD_skip ?_ ?_; (focus (simp [awant, hn0]; done))) | (refine AW.regionK [] (fun K hK => ?_)) | (refine AW.regionDK [] (pcs [] []) (by kernel_rfl) (by kernel_rfl) (fun K hK => ?_)) | (refine AW.condT ?_ ?_; (focus (simp [aev, hn0]; done))) | (refine AW.condF ?_ ?_; (focus (simp [aev, hn0]; done))) | with_reducible refine AW.block ?_ | ((first | ((first | refine arun_nil ?_ | refine arunD_nil ?_); refine hK _ ?_; clear hK K) | refine AW.skip ?_ | refine AW.exit ?_ | refine AW.ret ?_); simp only [thenA_exit, inBlockA_exit, if_true, if_false, Nat.reduceEqDiff, thenA_normal, inBlockA_normal, reduceIte, thenA_ret, inBlockA_ret, endQ_ret, endR_ret, endG_ret, endQ_normal, endR_normal, endG_normal])))
      refine arun_make 34 rfl (by simp [awant]) rfl tab37 tab39 (by decide) rfl (by dsimp only; omega) (by unfold maxLen; omega) (by simp [upd]) ?_
      (repeat (first | with_reducible refine AW.seq ?_ | ((first | refine arun_kn 4 rfl (fun C hC => ?_) | refine arunD_kn 4 rfl (fun C hC => ?_)); (repeat ((conv => whnf); simp [hn0])); refine hC _ ?_; clear hC C; simp only [List.drop, Nat.reduceAdd]) | ((first | refine arun_kn 1 rfl (fun C hC => ?_) | refine arunD_kn 1 rfl (fun C hC => ?_)); (repeat ((conv => whnf); simp [hn0])); refine hC _ ?_; clear hC C; simp only [List.drop, Nat.reduceAdd]) | (refine arun_skip ?_ ?_; (focus (simp [awant, hn0]; done))) | (refine arunD_skip ?_ ?_; (focus (simp [awant, hn0]; done))) | (refine AW.regionK [] (fun K hK => ?_)) | (refine AW.regionDK [] (pcs [] []) (by kernel_rfl) (by kernel_rfl) (fun K hK => ?_)) | (refine AW.condT ?_ ?_; (focus (simp [aev, hn0]; done))) | (refine AW.condF ?_ ?_; (focus (simp [aev, hn0]; done))) | with_reducible refine AW.block ?_ | ((first | ((first | refine arun_nil ?_ | refine arunD_nil ?_); refine hK _ ?_; clear hK K) | refine AW.skip ?_ | refine AW.exit ?_ | refine AW.ret ?_); simp only [thenA_exit, inBlockA_exit, if_true, if_false, Nat.reduceEqDiff, thenA_normal, inBlockA_normal, reduceIte, thenA_ret, inBlockA_ret, endQ_ret, endR_ret, endG_ret, endQ_normal, endR_normal, endG_normal])))
      refine AW.loopS (fun (i : Nat) => mkSt (slots 0 52 [(1, .ptr true 5 1 1 0 0), (2, .ptr true 5 1 2 0 0), (3, .ptr true 5 1 3 0 0), (37, .view .loose 5 (n.kids.map nodeL)), (38, .int .i64 n.kids.length), (39, .int .i64 i)]) [(1, ⟨true, 39, 5, [[.int .i64 n.kind, .int .i64 n.num, .str n.text, .view .loose 1 (strsE n.names), .view .loose 5 (n.kids.map nodeL)]]⟩), (2, ⟨true, 39, 5, [zeroN]⟩), (3, ⟨true, 39, 5, [[.int .i64 n.kind, .int .i64 n.num, .str n.text, .own 20 n.names.length, .own 34 n.kids.length]]⟩), (20, namesR n.names), (34, ⟨false, 39, 5, part n.kids i⟩)] [1, 2, 3, 20, 34] (rd0.map fun _ => 0)) (fun i => n.kids.length - i) (fun i => i ≤ n.kids.length) 0 ?_ (Nat.zero_le _) ?_
      · have hin : ∀ U : Nat → Bool, ∀ e ∈ part n.kids 0, ∀ c ∈ e, AV.In U c := fun U => part_in _ _
        rw [part_zero] at hin ⊢
        exact (less_of (by simp [lessL, mkSt, slots, namesR, zeroN]) (by simp [upd, mkSt, rowsOf_cons, namesR, zeroN]) (by simp [upd, mkSt, usedOf_cons, namesR, zeroN]) (by first | exact rd_less (by omega) | simp [mkSt, namesR, zeroN]) (by simp [slots, in_any, in_int, in_bool, in_str, in_ptr, in_own, in_agg, in_vnil, in_rdr, usedOf_cons, usedOf_nil, strs_in, ints_in, nodes_in, in_tup, namesR, zeroN]) (by simp only [List.forall_mem_cons, List.not_mem_nil, false_implies, implies_true, and_true, true_and, namesR, zeroN]; (repeat (first | with_reducible exact trivial | with_reducible refine And.intro ?_ ?_ | with_reducible exact in_int | with_reducible exact in_str | with_reducible exact in_bool | with_reducible exact strs_in _ | with_reducible exact nodes_in _ | with_reducible exact items_in _ | with_reducible exact in_vnil | with_reducible exact in_any | exact hin _ | with_reducible refine take_in ?_ | with_reducible exact strsE_in _ | with_reducible exact nodesE_in _ | with_reducible exact nodeL_in _ | with_reducible exact itemsE_in _ | with_reducible exact itemL_in _ | with_reducible refine app_in ?_ ?_ | with_reducible refine sing_in ?_ | (focus (simp [in_any, in_int, in_bool, in_str, in_ptr, in_own, in_agg, in_vnil, in_rdr, usedOf_cons, usedOf_nil, strs_in, ints_in, nodes_in, namesR, zeroN]; done)))); done))
      · intro i hi
        have hpl := part_len n.kids i hi
        by_cases hlt : i < n.kids.length
        · have hw : IntKind.i64.wrap ((i : Int) + 1) = (i : Int) + 1 := i64_nat (by omega) (by omega)
          have hg := part_get n.kids i hlt
          have hgd : ∀ h, (part n.kids i)[i]'h = [.int .i64 0, .int .i64 0, .str ⟨#[]⟩, .view .tight 0 [], .view .tight 0 []] := fun h => by
            rw [List.getElem?_eq_getElem h] at hg; exact Option.some.inj hg
          have hset := part_set n.kids i hlt
          rw [nodeL_eq] at hset
          have hin : ∀ U : Nat → Bool, ∀ e ∈ part n.kids (i + 1), ∀ c ∈ e, AV.In U c := fun U => part_in _ _
          (repeat (first | with_reducible refine AW.seq ?_ | ((first | refine arun_kn 4 rfl (fun C hC => ?_) | refine arunD_kn 4 rfl (fun C hC => ?_)); (repeat ((conv => whnf); simp [hlt, hw, hpl, hg, hgd])); refine hC _ ?_; clear hC C; simp only [List.drop, Nat.reduceAdd]) | ((first | refine arun_kn 1 rfl (fun C hC => ?_) | refine arunD_kn 1 rfl (fun C hC => ?_)); (repeat ((conv => whnf); simp [hlt, hw, hpl, hg, hgd])); refine hC _ ?_; clear hC C; simp only [List.drop, Nat.reduceAdd]) | (refine arun_skip ?_ ?_; (focus (simp [awant, hlt, hw, hpl, hg, hgd]; done))) | (refine arun_c0 (ih n.kids[i] (List.getElem_mem hlt)) ?_; rintro _ rfl) | (refine arunD_skip ?_ ?_; (focus (simp [awant, hlt, hw, hpl, hg, hgd]; done))) | (refine arunD_c (0) (ih n.kids[i] (List.getElem_mem hlt)) ?_; rintro _ rfl; intro _) | (refine AW.regionK [] (fun K hK => ?_)) | (refine AW.regionDK [] (pcs [(4, 0, fun r => r = nodeA n.kids[i])] []) (by kernel_rfl) (by kernel_rfl) (fun K hK => ?_)) | (refine AW.condT ?_ ?_; (focus (simp [aev, hlt, hw, hpl, hg, hgd]; done))) | (refine AW.condF ?_ ?_; (focus (simp [aev, hlt, hw, hpl, hg, hgd]; done))) | with_reducible refine AW.block ?_ | ((first | ((first | refine arun_nil ?_ | refine arunD_nil ?_); refine hK _ ?_; clear hK K) | refine AW.skip ?_ | refine AW.exit ?_ | refine AW.ret ?_); simp only [thenA_exit, inBlockA_exit, if_true, if_false, Nat.reduceEqDiff, thenA_normal, inBlockA_normal, reduceIte, thenA_ret, inBlockA_ret, endQ_ret, endR_ret, endG_ret, endQ_normal, endR_normal, endG_normal])))
          refine ⟨i + 1, by omega, by omega, ?_⟩
          exact (less_of (by simp [lessL, mkSt, slots, namesR, zeroN, hset]) (by simp [upd, mkSt, rowsOf_cons, namesR, zeroN, hset]) (by simp [upd, mkSt, usedOf_cons, namesR, zeroN, hset]) (by first | exact rd_less (by omega) | simp [mkSt, namesR, zeroN, hset]) (by simp [slots, in_any, in_int, in_bool, in_str, in_ptr, in_own, in_agg, in_vnil, in_rdr, usedOf_cons, usedOf_nil, strs_in, ints_in, nodes_in, in_tup, namesR, zeroN, hset]) (by simp only [List.forall_mem_cons, List.not_mem_nil, false_implies, implies_true, and_true, true_and, namesR, zeroN, hset]; (repeat (first | with_reducible exact trivial | with_reducible refine And.intro ?_ ?_ | with_reducible exact in_int | with_reducible exact in_str | with_reducible exact in_bool | with_reducible exact strs_in _ | with_reducible exact nodes_in _ | with_reducible exact items_in _ | with_reducible exact in_vnil | with_reducible exact in_any | exact hin _ | with_reducible refine take_in ?_ | with_reducible exact strsE_in _ | with_reducible exact nodesE_in _ | with_reducible exact nodeL_in _ | with_reducible exact itemsE_in _ | with_reducible exact itemL_in _ | with_reducible refine app_in ?_ ?_ | with_reducible refine sing_in ?_ | (focus (simp [in_any, in_int, in_bool, in_str, in_ptr, in_own, in_agg, in_vnil, in_rdr, usedOf_cons, usedOf_nil, strs_in, ints_in, nodes_in, namesR, zeroN, hset]; done)))); done))
        · obtain rfl : i = n.kids.length := by omega
          (repeat (first | with_reducible refine AW.seq ?_ | ((first | refine arun_kn 4 rfl (fun C hC => ?_) | refine arunD_kn 4 rfl (fun C hC => ?_)); (repeat ((conv => whnf); simp)); refine hC _ ?_; clear hC C; simp only [List.drop, Nat.reduceAdd]) | ((first | refine arun_kn 1 rfl (fun C hC => ?_) | refine arunD_kn 1 rfl (fun C hC => ?_)); (repeat ((conv => whnf); simp)); refine hC _ ?_; clear hC C; simp only [List.drop, Nat.reduceAdd]) | (refine arun_skip ?_ ?_; (focus (simp [awant]; done))) | (refine arunD_skip ?_ ?_; (focus (simp [awant]; done))) | (refine AW.regionK [] (fun K hK => ?_)) | (refine AW.regionDK [] (pcs [] []) (by kernel_rfl) (by kernel_rfl) (fun K hK => ?_)) | (refine AW.condT ?_ ?_; (focus (simp [aev]; done))) | (refine AW.condF ?_ ?_; (focus (simp [aev]; done))) | with_reducible refine AW.block ?_ | ((first | ((first | refine arun_nil ?_ | refine arunD_nil ?_); refine hK _ ?_; clear hK K) | refine AW.skip ?_ | refine AW.exit ?_ | refine AW.ret ?_); simp only [thenA_exit, inBlockA_exit, if_true, if_false, Nat.reduceEqDiff, thenA_normal, inBlockA_normal, reduceIte, thenA_ret, inBlockA_ret, endQ_ret, endR_ret, endG_ret, endQ_normal, endR_normal, endG_normal])))
          refine ⟨(), trivial, ?_⟩
          rw [part_all]
          exact (less_of (by simp [lessL, mkSt, slots, namesR, nodesR, zeroN]) (by simp [upd, mkSt, rowsOf_cons, namesR, nodesR, zeroN]) (by simp [upd, mkSt, usedOf_cons, namesR, nodesR, zeroN]) (by first | exact rd_less (by omega) | simp [mkSt, namesR, nodesR, zeroN]) (by simp [slots, in_any, in_int, in_bool, in_str, in_ptr, in_own, in_agg, in_vnil, in_rdr, usedOf_cons, usedOf_nil, strs_in, ints_in, nodes_in, in_tup, namesR, nodesR, zeroN]) (by simp only [List.forall_mem_cons, List.not_mem_nil, false_implies, implies_true, and_true, true_and, namesR, nodesR, zeroN]; (repeat (first | with_reducible exact trivial | with_reducible refine And.intro ?_ ?_ | with_reducible exact in_int | with_reducible exact in_str | with_reducible exact in_bool | with_reducible exact strs_in _ | with_reducible exact nodes_in _ | with_reducible exact items_in _ | with_reducible exact in_vnil | with_reducible exact in_any | exact hin _ | with_reducible refine take_in ?_ | with_reducible exact strsE_in _ | with_reducible exact nodesE_in _ | with_reducible exact nodeL_in _ | with_reducible exact itemsE_in _ | with_reducible exact itemL_in _ | with_reducible refine app_in ?_ ?_ | with_reducible refine sing_in ?_ | (focus (simp [in_any, in_int, in_bool, in_str, in_ptr, in_own, in_agg, in_vnil, in_rdr, usedOf_cons, usedOf_nil, strs_in, ints_in, nodes_in, namesR, nodesR, zeroN]; done)))); done))
    · have hl0 : n.kids.length = 0 := by omega
      have he0 : n.kids = [] := List.length_eq_zero_iff.1 hl0
      refine AW.adoptB 3 4 34 39 5 ⟨_, tab39, rfl⟩ (by simp [mkSt, rowsOf_cons]; rfl) rfl rfl (by simp [mkSt, usedOf_cons, usedOf_nil]) ?_
      simp only [ASt.adoptB]
      (repeat (first | with_reducible refine AW.seq ?_ | ((first | refine arun_kn 4 rfl (fun C hC => ?_) | refine arunD_kn 4 rfl (fun C hC => ?_)); (repeat ((conv => whnf); simp [hl0])); refine hC _ ?_; clear hC C; simp only [List.drop, Nat.reduceAdd]) | ((first | refine arun_kn 1 rfl (fun C hC => ?_) | refine arunD_kn 1 rfl (fun C hC => ?_)); (repeat ((conv => whnf); simp [hl0])); refine hC _ ?_; clear hC C; simp only [List.drop, Nat.reduceAdd]) | (refine arun_skip ?_ ?_; (focus (simp [awant, hl0]; done))) | (refine arunD_skip ?_ ?_; (focus (simp [awant, hl0]; done))) | (refine AW.regionK [] (fun K hK => ?_)) | (refine AW.regionDK [] (pcs [] []) (by kernel_rfl) (by kernel_rfl) (fun K hK => ?_)) | (refine AW.condT ?_ ?_; (focus (simp [aev, hl0]; done))) | (refine AW.condF ?_ ?_; (focus (simp [aev, hl0]; done))) | with_reducible refine AW.block ?_ | ((first | ((first | refine arun_nil ?_ | refine arunD_nil ?_); refine hK _ ?_; clear hK K) | refine AW.skip ?_ | refine AW.exit ?_ | refine AW.ret ?_); simp only [thenA_exit, inBlockA_exit, if_true, if_false, Nat.reduceEqDiff, thenA_normal, inBlockA_normal, reduceIte, thenA_ret, inBlockA_ret, endQ_ret, endR_ret, endG_ret, endQ_normal, endR_normal, endG_normal])))
      exact ⟨(), trivial, (less_of (by simp [lessL, mkSt, slots, namesR, nodesR, zeroN, he0]) (by simp [upd, mkSt, rowsOf_cons, namesR, nodesR, zeroN, he0]) (by simp [upd, mkSt, usedOf_cons, namesR, nodesR, zeroN, he0]) (by first | exact rd_less (by omega) | simp [mkSt, namesR, nodesR, zeroN, he0]) (by simp [slots, in_any, in_int, in_bool, in_str, in_ptr, in_own, in_agg, in_vnil, in_rdr, usedOf_cons, usedOf_nil, strs_in, ints_in, nodes_in, in_tup, namesR, nodesR, zeroN, he0]) (by simp only [List.forall_mem_cons, List.not_mem_nil, false_implies, implies_true, and_true, true_and, namesR, nodesR, zeroN, he0]; (repeat (first | with_reducible exact trivial | with_reducible refine And.intro ?_ ?_ | with_reducible exact in_int | with_reducible exact in_str | with_reducible exact in_bool | with_reducible exact strs_in _ | with_reducible exact nodes_in _ | with_reducible exact items_in _ | with_reducible exact in_vnil | with_reducible exact in_any | exact hin _ | with_reducible refine take_in ?_ | with_reducible exact strsE_in _ | with_reducible exact nodesE_in _ | with_reducible exact nodeL_in _ | with_reducible exact itemsE_in _ | with_reducible exact itemL_in _ | with_reducible refine app_in ?_ ?_ | with_reducible refine sing_in ?_ | (focus (simp [in_any, in_int, in_bool, in_str, in_ptr, in_own, in_agg, in_vnil, in_rdr, usedOf_cons, usedOf_nil, strs_in, ints_in, nodes_in, namesR, nodesR, zeroN, he0]; done)))); done))⟩
  rintro ⟨⟩ s' - hls
  refine AW.less _ hls ?_
  clear hls s'
  (repeat (first | with_reducible refine AW.seq ?_ | ((first | refine arun_kn 4 rfl (fun C hC => ?_) | refine arunD_kn 4 rfl (fun C hC => ?_)); (repeat ((conv => whnf); simp [zeroN])); refine hC _ ?_; clear hC C; simp only [List.drop, Nat.reduceAdd]) | ((first | refine arun_kn 1 rfl (fun C hC => ?_) | refine arunD_kn 1 rfl (fun C hC => ?_)); (repeat ((conv => whnf); simp [zeroN])); refine hC _ ?_; clear hC C; simp only [List.drop, Nat.reduceAdd]) | (refine arun_skip ?_ ?_; (focus (simp [awant, zeroN]; done))) | (refine arunD_skip ?_ ?_; (focus (simp [awant, zeroN]; done))) | (refine AW.regionK [] (fun K hK => ?_)) | (refine AW.regionDK [] (pcs [] []) (by kernel_rfl) (by kernel_rfl) (fun K hK => ?_)) | (refine AW.condT ?_ ?_; (focus (simp [aev, zeroN]; done))) | (refine AW.condF ?_ ?_; (focus (simp [aev, zeroN]; done))) | with_reducible refine AW.block ?_ | ((first | ((first | refine arun_nil ?_ | refine arunD_nil ?_); refine hK _ ?_; clear hK K) | refine AW.skip ?_ | refine AW.exit ?_ | refine AW.ret ?_); simp only [thenA_exit, inBlockA_exit, if_true, if_false, Nat.reduceEqDiff, thenA_normal, inBlockA_normal, reduceIte, thenA_ret, inBlockA_ret, endQ_ret, endR_ret, endG_ret, endQ_normal, endR_normal, endG_normal])))
  refine ⟨nodeRR n 20 34, [(20, namesR n.names), (34, nodesR n.kids)], by simp [ares, aresL, upd, rowsOf_cons, nodeRR], by simp [mkSt, rowsOf_cons], ?_, ?_, ?_, rfl, rfl⟩
  · refine purR_agg ?_
    simp only [List.forall_mem_cons, List.not_mem_nil, false_implies, implies_true, and_true]
    exact ⟨pur_int.purR, pur_int.purR, pur_str.purR, purR_own, purR_own⟩
  · simp only [List.forall_mem_cons, List.not_mem_nil, false_implies, implies_true, and_true]
    exact ⟨fun e he c hc => (strsE_pur _ e he c hc).purR, fun e he c hc => (nodesE_pur _ e he c hc).purR⟩
  · refine ⟨by simp [nodeRR, in_agg, in_int, in_str, in_own, rowsOf_cons], ?_⟩
    simp only [List.forall_mem_cons, List.not_mem_nil, false_implies, implies_true, and_true]
    exact ⟨fun e he c hc => strsE_in _ e he c hc, fun e he c hc => nodesE_in _ e he c hc⟩
theorem sml_ind {p : Nd → Prop} (h : ∀ n, Sml n → (∀ k ∈ n.kids, p k) → p n) : ∀ n, Sml n → p n := Nd.ind' _ (fun n ih hs => h n hs (fun k hk => ih k hk (hs.kid hk)))
theorem implCopy_hd {l : List (Nat × Row)} {n : Nd} (h : l = [(20, namesR n.names), (34, nodesR n.kids)]) : Hd l (nodeRR n 20 34) (nodeA n) := by
  subst h
  refine .base ?_
  unfold nodeRR nodeA
  rw [nodeL_eq]
  refine .agg (.cons (.pur pur_int) (.cons (.pur pur_int) (.cons (.pur pur_str) (.cons ?_ (.cons ?_ .nil)))))
  · exact .own (R := namesR n.names) (t := .loose) rfl rfl (by simp [namesR, strsE]) (strsE_pur _)
  · exact .own (R := nodesR n.kids) (t := .loose) rfl (by simp [rowsOf_cons]) (by simp [nodesR]) (nodesE_pur _)
theorem implCopy_AC : ∀ n, Sml n → AC Try.prog 81 [nodeA n] 0 (fun r => r = nodeA n) :=
  sml_ind fun n hs ih => AC.ofG (implCopy_step n hs ih) (fun r l ⟨h1, h2⟩ => ⟨nodeA n, by rw [h1]; exact implCopy_hd h2, rfl⟩)
end Go.Proofs.Ytmeobmegnneegaa.Eng
namespace Go.Proofs.Ytmeobmegnneegaa
open Go Go.RowKit
def Row0 (w : World) (g : Nat) (L : List Value) (e : TypeId) : Prop := Hid (w.heap[g]? = some (.cells L.toArray e (0, 0)))
theorem Row0.out {w : World} {g : Nat} {L : List Value} {e : TypeId} (h : Row0 w g L e) : w.heap[g]? = some (.cells L.toArray e (0, 0)) := h
theorem Row0.lt {w : World} {g : Nat} {L : List Value} {e : TypeId} (h : Row0 w g L e) : g < w.heap.size := (Array.getElem?_eq_some_iff.1 h.out).1
theorem Row0.ext {X : Nat → Prop} {w w' : World} {g : Nat} {L : List Value} {e : TypeId} (h : Row0 w g L e) (hx : Ext X w w') (hg : ¬ X g) : Row0 w' g L e := by
  show w'.heap[g]? = _
  rw [hx.block g h.lt hg]; exact h
theorem Row0.cell {w : World} {g : Nat} {L : List Value} {e : TypeId} (h : Row0 w g L e) {j : Nat} {v : Value} (hj : L[j]? = some v) : w.cell? ⟨g, j, none⟩ = some v := by
  unfold World.cell?
  rw [h.out]
  simpa using hj
theorem addr_plus (b o j : Nat) : (⟨b, o, Option.none⟩ : Addr).add j = ⟨b, o + j, Option.none⟩ := by unfold Addr.add; split <;> simp_all
theorem splice_two {α : Type} (A Z xs X : List α) (o1 o2 : Nat) (h1 : A.length = o1) (h2 : o2 = o1 + xs.length) (h3 : xs.length + X.length ≤ Z.length) : splice (splice (A ++ Z) o1 xs) o2 X = A ++ (xs ++ (X ++ Z.drop (xs.length + X.length))) := by
  subst h1 h2
  have e1 : splice (A ++ Z) A.length xs = A ++ (xs ++ Z.drop xs.length) := by
    unfold splice
    rw [List.take_left, List.drop_append, Nat.add_sub_cancel_left, List.drop_of_length_le (by omega), List.nil_append]
  rw [e1, ← List.append_assoc]
  unfold splice
  rw [← List.length_append, List.take_left, List.drop_append, Nat.add_sub_cancel_left, List.drop_of_length_le (by omega), List.nil_append, List.drop_drop]
  simp
theorem splice_shift {α : Type} (L xs X : List α) (o m : Nat) (h1 : xs.length = m) (h2 : o + m + X.length ≤ L.length) : splice (splice L (o + m) X) o xs = L.take o ++ (xs ++ (X ++ L.drop (o + m + X.length))) := by
  subst h1
  unfold splice
  have e1 : List.take o (List.take (o + xs.length) L ++ (X ++ List.drop (o + xs.length + X.length) L)) = List.take o L := by
    rw [List.take_append_of_le_length (by rw [List.length_take]; omega), List.take_take]
    congr 1; omega
  have e2 : List.drop (o + xs.length) (List.take (o + xs.length) L ++ (X ++ List.drop (o + xs.length + X.length) L)) = X ++ List.drop (o + xs.length + X.length) L := by
    have : (List.take (o + xs.length) L).length = o + xs.length := by rw [List.length_take]; omega
    rw [List.drop_append, this, Nat.sub_self, List.drop_of_length_le (by omega), List.nil_append, List.drop_zero]
  rw [e1, e2]
variable {P : Program}
theorem run_copyN (w : World) (dT sT ty elem : TypeId) (sz g o dLen dCap b off sLen sCap : Nat) (L M : List Value) (e e' : TypeId) (cs : List Value)
    (hu : P.underlying dT = some (.slice elem)) (hs : (P.info? elem).map (·.size) = some sz) (hg : Row0 w g L e) (hb : Row0 w b M e') (hn : cs.length = Nat.min sLen dLen * sz)
    (hsrc : cs = (M.drop off).take cs.length) (hfit : o + cs.length ≤ L.length) (h1 : ∀ v ∈ cs, v.oneCell' = true) :
    (Builtin.copy_ #[dT, sT] ty #[.slice (some ⟨g, o, none⟩) dLen dCap, .slice (some ⟨b, off, none⟩) sLen sCap]).run P w = .ok (goInt (Nat.min sLen dLen : Nat)) (w.setRow g (splice L o cs).toArray) := by
  have hcell : ∀ j v, cs[j]? = some v → w.cell? ((⟨b, off, none⟩ : Addr).add j) = some v := fun j v hj => by
    rw [addr_plus]
    refine hb.cell ?_
    rw [hsrc] at hj
    have hjl : j < cs.length := by
      have := (List.getElem?_eq_some_iff.1 hj).1
      rw [List.length_take] at this; omega
    rw [List.getElem?_take_of_lt hjl, List.getElem?_drop] at hj
    exact hj
  have hl := run_loadCells_list (P := P) w ⟨b, off, none⟩ cs hcell
  have hst := run_storeCells_at P g o e cs 0 L.toArray w hg.out (by simpa using hfit) h1
  cases hq : P.info? elem with
  | none => simp [hq] at hs
  | some i =>
    have hi : i.size = sz := by simpa [hq] using hs
    simp only [Nat.add_zero] at hst
    simp [Builtin.copy_, run_underlying hu, Builtin.lenOf, Builtin.firstCells, sizeOf, typeInfo, hq, hi, ← hn, hl, hst, splice]
theorem Row0.set {w : World} {g : Nat} {L L' : List Value} {e : TypeId} (h : Row0 w g L e) : Row0 (w.setRow g L'.toArray) g L' e := setRow_heap w g _ _ e _ h.out
theorem setRow_ext (w : World) (g : Nat) (cs : Array Value) : Ext (fun k => k = g) w (w.setRow g cs) := ⟨rfl, rfl, rfl, by simp [World.setRow], fun k _ hk => setRow_other w g k cs hk⟩
theorem wpList_copyN {w : World} {ops : Array Oper} {rest : List Oper} {o : Oper} {a : Act} {Q : Exit → Act → World → Prop} (hgd : o.guard = none) (d s : Operand) (dT sT : TypeId)
    (ho : o.op = .call { callee := .builtin .copy, args := #[d, s], argTypes := #[dT, sT] }) (elem : TypeId) (sz : Nat) (hu : P.underlying dT = some (.slice elem)) (hs : (P.info? elem).map (·.size) = some sz)
    (g oo dLen dCap b off sLen sCap : Nat) (hd : a.eval d = .slice (some ⟨g, oo, none⟩) dLen dCap) (hv : a.eval s = .slice (some ⟨b, off, none⟩) sLen sCap) (L M : List Value) (e e' : TypeId) (hg : Row0 w g L e) (hb : Row0 w b M e') (cs : List Value)
    (hn : cs.length = Nat.min sLen dLen * sz) (hsrc : cs = (M.drop off).take cs.length) (hfit : oo + cs.length ≤ L.length) (h1 : ∀ v ∈ cs, v.oneCell' = true)
    (h : ∀ x w', Row0 w' g (splice L oo cs) e → Ext (fun k => k = g) w w' → wpList P ops Q rest (a.put o.dst x) w') : wpList P ops Q (o :: rest) a w := by
  refine wpList_plain hgd fun K hK => ?_
  have hrun := run_copyN (P := P) w dT sT o.type elem sz g oo dLen dCap b off sLen sCap L M e e' cs hu hs hg hb hn hsrc hfit h1
  unfold Oper.wp
  simp only [execOp, ho, resolve, invoke, builtin, Sem.run_bind, Sem.run_pure, Result.andThen_ok, List.map_toArray, List.map_cons, List.map_nil, hd, hv, hrun]
  exact hK _ _ (h _ _ hg.set (setRow_ext w g _))
theorem step_copyN {ops : Array Oper} {o : Oper} {a : Act} {w : World} {K : Act → World → Prop} {Q : Exit → Act → World → Prop} {E : Prop} (hgd : o.guard = none) (d s : Operand) (dT sT : TypeId)
    (ho : o.op = .call { callee := .builtin .copy, args := #[d, s], argTypes := #[dT, sT] }) (elem : TypeId) (sz : Nat) (hu : P.underlying dT = some (.slice elem)) (hs : (P.info? elem).map (·.size) = some sz)
    (g oo dLen dCap b off sLen sCap : Nat) (hd : a.eval d = .slice (some ⟨g, oo, none⟩) dLen dCap) (hv : a.eval s = .slice (some ⟨b, off, none⟩) sLen sCap) (L M : List Value) (e e' : TypeId) (hg : Row0 w g L e) (hb : Row0 w b M e') (cs : List Value)
    (hn : cs.length = Nat.min sLen dLen * sz) (hsrc : cs = (M.drop off).take cs.length) (hfit : oo + cs.length ≤ L.length) (h1 : ∀ v ∈ cs, v.oneCell' = true)
    (h : ∀ x w', Row0 w' g (splice L oo cs) e → Ext (fun k => k = g) w w' → K (a.put o.dst x) w') :
    if Region.wanted o (yielded ops a.tmps) = true then Oper.wp P o a w K Q else E := by
  have hw : Region.wanted o (yielded ops a.tmps) = true := by simp [Region.wanted, hgd]
  rw [if_pos hw]
  have hrun := run_copyN (P := P) w dT sT o.type elem sz g oo dLen dCap b off sLen sCap L M e e' cs hu hs hg hb hn hsrc hfit h1
  unfold Oper.wp
  simp only [execOp, ho, resolve, invoke, builtin, Sem.run_bind, Sem.run_pure, Result.andThen_ok, List.map_toArray, List.map_cons, List.map_nil, hd, hv, hrun]
  exact h _ _ hg.set (setRow_ext w g _)
theorem run_firstCells_row (w : World) (size n : Nat) (g c : Nat) (L : List Value) (e : TypeId) (h : Row0 w g L e) (hl : n * size ≤ L.length) :
    (Builtin.firstCells size n (.slice (some ⟨g, 0, none⟩) n c)).run P w = .ok (L.take (n * size)).toArray w := by
  have hcell : ∀ j v, (L.take (n * size))[j]? = some v → w.cell? ((⟨g, 0, none⟩ : Addr).add j) = some v := fun j v hj => by
    rw [addr_plus, Nat.zero_add]
    refine h.cell ?_
    have hjl := (List.getElem?_eq_some_iff.1 hj).1
    rw [List.length_take] at hjl
    rwa [List.getElem?_take_of_lt (by omega)] at hj
  have hl2 := run_loadCells_list (P := P) w ⟨g, 0, none⟩ _ hcell
  have : (L.take (n * size)).length = n * size := by rw [List.length_take]; omega
  rw [this] at hl2
  simp [Builtin.firstCells, hl2]
theorem wpList_appendZ {w : World} {ops : Array Oper} {rest : List Oper} {o : Oper} {a : Act} {Q : Exit → Act → World → Prop} (hgd : o.guard = none) (x y : Operand) (t tn : TypeId)
    (ho : o.op = .call { callee := .builtin .append, args := #[x, y], argTypes := #[t, tn] }) (e : TypeId) (i : TypeInfo) (z : Value) (kq kn : IntKind) (ht : P.underlying t = some (.slice e)) (htn : P.underlying tn = some (.int kn)) (hi : P.info? e = some i) (hz : i.zero = some z) (hzs : z.cells.size = i.size)
    (g n c k : Nat) (hx : a.eval x = .slice (some ⟨g, 0, none⟩) n c) (hy : a.eval y = .int kq k) (L : List Value) (hL : Row0 w g L e) (hl : n * i.size ≤ L.length) (h0 : 0 < k) (hs : 0 < i.size) (hc : c < n + k) (h63 : n + k ≤ maxLen) (hby : (n + k) * i.bytes ≤ 140737488355328)
    (h : ∀ G w' Z, Row0 w' w.heap.size (L.take (n * i.size) ++ Z) e → Z.length = (G - n) * i.size → n + k ≤ G → G ≤ maxLen → Grow w w' → wpList P ops Q rest (a.put o.dst (.slice (some ⟨w.heap.size, 0, none⟩) (n + k) G)) w') : wpList P ops Q (o :: rest) a w := by
  refine wpList_plain hgd fun K hK => ?_
  have hold : (Builtin.firstCells i.size n (.slice (some ⟨g, 0, none⟩) n c)).run P w.drew = .ok (L.take (n * i.size)).toArray w.drew := run_firstCells_row w.drew i.size n g c L e hL hl
  have h63' : ((n + k : Nat) : Int) ≤ 9223372036854775807 := by unfold maxLen at h63; omega
  have hkb : k * i.bytes ≤ 281474976710656 := Nat.le_trans (Nat.mul_le_mul_right _ (Nat.le_add_left k n)) (by omega)
  have hrun := Lib.run_append_grow_zeros w t tn o.type e i z kq kn ht htn hi hz (some ⟨g, 0, none⟩) n c _ hold k h0 hs hc h63' hkb (growslice_fits hc hby)
  unfold Oper.wp
  simp only [execOp, ho, resolve, invoke, builtin, Sem.run_bind, Sem.run_pure, Result.andThen_ok, List.map_toArray, List.map_cons, List.map_nil, hx, hy, hrun]
  have hge := grownCap_ge w (n + k) c e
  refine hK _ _ (h (grownCap w (n + k) c e) _ ((Builtin.zeroCells z.cells k).toList ++ (Builtin.zeroCells z.cells (grownCap w (n + k) c e - (n + k))).toList) ?_ ?_ hge (grownCap_le_maxLen w _ _ _ h63) (((Ext.refl nil w).drew).alloc _))
  · show _ = _
    have := heap_alloc_new w.drew (.cells ((L.take (n * i.size)).toArray ++ Builtin.zeroCells z.cells k ++ Builtin.zeroCells z.cells (grownCap w (n + k) c e - (n + k))) e)
    rw [show w.heap.size = w.drew.heap.size from rfl, this]
    congr 2
    apply Array.ext'
    simp [List.append_assoc]
  · simp only [List.length_append, Array.length_toList, size_zeroCells, hzs]
    rw [← Nat.add_mul]
    congr 1; omega
theorem run_overlaps_rows (w : World) (tS tR e : TypeId) (ht : P.underlying tS = some (.slice e)) (size : Nat) (hz : ∀ w, (Go.sizeOf e).run P w = .ok size w) (g o g' o' la ca lb cb : Nat) (L L' : List Value) (e1 e2 : TypeId) (hg : Row0 w g L e1) (hg' : Row0 w g' L' e2) (hne : g ≠ g') (hL : 0 < L'.length) :
    (Extern.SlicesOverlaps.overlaps #[tS, tS] #[tR] #[.slice (some ⟨g, o, none⟩) la ca, .slice (some ⟨g', o', none⟩) lb cb]).run P w = .ok (.bool false) w := by
  have hsh : ∀ (g : Nat) (L : List Value) (e : TypeId), Row0 w g L e → w.shape? g = some (e, L.length) := fun g L e h => by
    have := h.out
    unfold World.shape?
    simp [this]
  have hfr : ∀ (g : Nat) (L : List Value) (e : TypeId) (o : Nat), Row0 w g L e → w.frozen? ⟨g, o, none⟩ = false := fun g L e o h => by
    have := h.out
    simp [World.frozen?, this]
  exact Lib.run_overlaps_apart w tS tR e ht size hz ⟨g, o, none⟩ ⟨g', o', none⟩ la ca lb cb hne e1 e2 L.length L'.length (hsh _ _ _ hg) (hsh _ _ _ hg') (by omega) (hfr _ _ _ _ hg) (hfr _ _ _ _ hg)
theorem step_appendN {ops : Array Oper} {o : Oper} {a : Act} {w : World} {K : Act → World → Prop} {Q : Exit → Act → World → Prop} {E : Prop} (hgd : o.guard = none) (d s : Operand) (t e : TypeId)
    (ho : o.op = .call { callee := .builtin .append, args := #[d, s], argTypes := #[t, t] }) (i : TypeInfo) (ht : P.underlying t = some (.slice e)) (hi : P.info? e = some i)
    (g n cap b off m c : Nat) (hd : a.eval d = .slice (some ⟨g, 0, none⟩) n cap) (hv : a.eval s = .slice (some ⟨b, off, none⟩) m c) (L M : List Value) (e' : TypeId) (hg : Row0 w g L e) (hb : Row0 w b M e') (news : List Value)
    (hn : news.length = m * i.size) (hsrc : news = (M.drop off).take news.length) (hroom : n + m ≤ cap) (hfit : n * i.size + news.length ≤ L.length) (h1 : ∀ v ∈ news, v.oneCell' = true)
    (h : ∀ w', Row0 w' g (splice L (n * i.size) news) e → Ext (fun k => k = g) w w' → K (a.put o.dst (.slice (some ⟨g, 0, none⟩) (n + m) cap)) w') :
    if Region.wanted o (yielded ops a.tmps) = true then Oper.wp P o a w K Q else E := by
  have hw : Region.wanted o (yielded ops a.tmps) = true := by simp [Region.wanted, hgd]
  rw [if_pos hw]
  have hcell : ∀ j v, news[j]? = some v → w.cell? ((⟨b, off, none⟩ : Addr).add j) = some v := fun j v hj => by
    rw [addr_plus]
    refine hb.cell ?_
    rw [hsrc] at hj
    have hjl : j < news.length := by
      have := (List.getElem?_eq_some_iff.1 hj).1
      rw [List.length_take] at this; omega
    rw [List.getElem?_take_of_lt hjl, List.getElem?_drop] at hj
    exact hj
  have hrun := run_append_room (P := P) w t o.type e i ht hi g n cap L.toArray hg.out ⟨b, off, none⟩ m c news hn hcell h1 hroom (by simpa using hfit)
  unfold Oper.wp
  simp only [execOp, ho, resolve, invoke, builtin, Sem.run_bind, Sem.run_pure, Result.andThen_ok, List.map_toArray, List.map_cons, List.map_nil, hd, hv, hrun]
  refine h _ ?_ (setRow_ext w g _)
  have := hg.set (L' := splice L (n * i.size) news)
  simpa [splice] using this
theorem wpList_clearN {w : World} {ops : Array Oper} {rest : List Oper} {o : Oper} {a : Act} {Q : Exit → Act → World → Prop} (hgd : o.guard = none) (x : Operand) (t e : TypeId)
    (ho : o.op = .call { callee := .builtin .clear, args := #[x], argTypes := #[t] }) (i : TypeInfo) (z : Value) (ht : P.underlying t = some (.slice e)) (hi : P.info? e = some i) (hz : i.zero = some z) (hzs : z.cells.size = i.size) (hz1 : ∀ u ∈ z.cells.toList, u.oneCell' = true)
    (g off n c : Nat) (hx : a.eval x = .slice (some ⟨g, off, none⟩) n c) (hn : 0 < n) (L : List Value) (hg : Row0 w g L e) (hfit : off + n * i.size ≤ L.length)
    (h : ∀ v w' Z, Row0 w' g (splice L off Z) e → Z.length = n * i.size → (∀ u ∈ Z, u.oneCell' = true) → Ext (fun k => k = g) w w' → wpList P ops Q rest (a.put o.dst v) w') : wpList P ops Q (o :: rest) a w := by
  refine wpList_plain hgd fun K hK => ?_
  have hZl : (Builtin.zeroCells z.cells n).toList.length = n * i.size := by simp [size_zeroCells, hzs]
  have hZ1 : ∀ u ∈ (Builtin.zeroCells z.cells n).toList, u.oneCell' = true := fun u hu => by
    unfold Builtin.zeroCells at hu
    simp only [Array.toList_map, List.mem_map] at hu
    obtain ⟨k, hk, rfl⟩ := hu
    have hk' : k < n * z.cells.size := by simpa using hk
    have hp : 0 < z.cells.size := by rcases Nat.eq_zero_or_pos z.cells.size with h0 | h0; rw [h0] at hk'; simp at hk'; exact h0
    have hm := Nat.mod_lt k hp
    rw [getElem!_pos z.cells _ hm]
    exact hz1 _ (by simp)
  have hst := run_storeCells_at P g off e (Builtin.zeroCells z.cells n).toList 0 L.toArray w hg.out (by rw [hZl]; simpa using hfit) hZ1
  simp only [Nat.add_zero] at hst
  obtain ⟨m, rfl⟩ : ∃ m, n = m + 1 := ⟨n - 1, by omega⟩
  have hrun : (Builtin.clear_ #[t] o.type #[.slice (some ⟨g, off, none⟩) (m + 1) c]).run P w = .ok (.tuple #[]) (w.setRow g (splice L off (Builtin.zeroCells z.cells (m + 1)).toList).toArray) := by
    simp [Builtin.clear_, run_underlying ht, zeroValue, typeInfo, hi, hz, hst, splice]
  unfold Oper.wp
  simp only [execOp, ho, resolve, invoke, builtin, Sem.run_bind, Sem.run_pure, Result.andThen_ok, List.map_toArray, List.map_cons, List.map_nil, hx, hrun]
  exact hK _ _ (h _ _ _ hg.set hZl hZ1 (setRow_ext w g _))
end Go.Proofs.Ytmeobmegnneegaa
