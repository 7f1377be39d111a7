/-
  Texts of this claim, joined.
-/
import Derived.Lib.Bytealg
import Derived.BigQuiet
import Derived.Laws.AppendOwn
import Derived.Laws.AppendOwnNone
import Derived.Test.YtfjaobfaepjfnaaDoorSrE

set_option linter.unusedSimpArgs false
set_option linter.unusedVariables false
set_option linter.unnecessarySimpa false
set_option maxRecDepth 100000
set_option maxHeartbeats 16000000
namespace Go.Proofs.YtfjaobfaepjfnaaDoor.Eng
open Go Go.RowKit
attribute [local simp] big size_mk ASt.pay Option.map_map Function.comp_def awant aop acall ado aev ofVal ofVal0 ASt.put ASt.add ASt.turn ASt.kill abox aalloc astore aload aloadD astoreD idOf ASt.at cellsTo afieldAddr afield aindexAddr aindex alen abin aint acmp astr aun apick aextract anil aslice abound abuild afill abuildSlice asCells aps avCells over upd aappend asrc amax amin aconv mkSt slots rowsOf_cons rowsOf_nil usedOf_cons usedOf_nil ZK.av List.replicate ASt.back ASt.addL ASt.killL nodeA nodeT nodeTL_eq nodeL_eq strsE_get strsE_len intsE_get intsE_len strsE_at intsE_at tab2 tab3 tab4 tab5 tab6 tab7 tab8 tab9 tab10 tab11 tab12 tab13 tab14 tab15 tab16 tab17 tab18 tab19 tab21 tab22 tab23 tab24 tab25 tab26 tab28 tab29 tab30 tab31 tab42 tab43 tab44 tab46 tab63 tab64 tab67 tab68 tab75 tab98 tab100 tab101 tab105 tab106 tab107 tab122 tab123 tab125 tab128 tab138 tab144 tab151 tab152 tab157 tab158 tab160 tab161 tab162
theorem AC.args {P : Program} {f : FuncId} {args args' : List AV} {c : Nat} {Post : AV → Prop} (h : AC P f args c Post) (hw : ∀ w ρ vs, RepL w ρ args' vs → RepL w ρ args vs) : AC P f args' c Post :=
  ⟨h.1, fun w L S rb k vs h0 h1 h2 h3 => h.2 w L S rb k vs h0 h1 h2 (hw w _ vs h3)⟩
theorem ACR.args {P : Program} {f : FuncId} {args args' : List AV} {c : Nat} {Post0 : AV → Prop} {Post : (Nat → AV) → Row → Prop} (h : ACR P f args c Post0 Post) (hw : ∀ w ρ vs, RepL w ρ args' vs → RepL w ρ args vs) : ACR P f args' c Post0 Post :=
  ⟨h.1, fun w L S rb k vs h0 h1 h2 h3 => h.2 w L S rb k vs h0 h1 h2 (hw w _ vs h3)⟩
theorem Less.hold {s : ASt} (id : Nat) : Less s (s.hold id) := fun _ _ _ _ _ _ _ _ hs => by
  obtain ⟨ρ', h, _⟩ := SR.held hs id
  exact ⟨ρ', h⟩
end Go.Proofs.YtfjaobfaepjfnaaDoor.Eng
namespace Go.Proofs.YtfjaobfaepjfnaaDoor.Eng
open Go Go.RowKit
inductive Dst : Nd → Prop where
  | mk (n : Nd) (h1 : ∀ i j, i < j → j < n.kids.length → stp n.kind n.names i ≠ stp n.kind n.names j) (h2 : ∀ k ∈ n.kids, Dst k) : Dst n
theorem Dst.step {n : Nd} : Dst n → ∀ i j, i < j → j < n.kids.length → stp n.kind n.names i ≠ stp n.kind n.names j | .mk _ h _ => h
theorem Dst.kid {n : Nd} : Dst n → ∀ k ∈ n.kids, Dst k | .mk _ _ h => h
end Go.Proofs.YtfjaobfaepjfnaaDoor.Eng
namespace Go.Proofs.YtfjaobfaepjfnaaDoor
open Go.RowKit
def pathB (p : List ByteArray) : Bool := decide (p.length ≤ 5) && p.all plainT
theorem allD_step {α : Type} {p : α → Bool} (xs : List α) (k : Nat) (h : k < xs.length) : (xs.drop k).all p = (p xs[k] && (xs.drop (k + 1)).all p) := by
  rw [drop_cons xs k h, List.all_cons]
theorem allD_end {α : Type} {p : α → Bool} (xs : List α) (k : Nat) (h : ¬ k < xs.length) : (xs.drop k).all p = true := by
  rw [List.drop_eq_nil_of_le (by omega)]; rfl
theorem isPath_ok (a : Option Addr) (c : Nat) (xs : List ByteArray) (w : World) (ha : StrsR w any a c xs) :
    Calls Tryd.prog 56 #[.slice a xs.length c] w fun e w' => e = .returned (.bool (pathB xs)) ∧ w = w' := by
  have hbig : xs.length ≤ 9223372036854775807 := ha.2.1
  have Ha := Lib.hid ha
  clear ha
  by_cases hl : 5 < xs.length
  · go_enter Tryd.func56, Tryd.ntmps56
    go_wp2
    go_ret
    exact ⟨by simp [pathB]; omega, rfl⟩
  · go_enter Tryd.func56, Tryd.ntmps56
    go_wp2
    go_loop [2, 4, 10] (fun n _ i => n = .bool false ∧ ∃ k : Nat, k ≤ xs.length ∧ i = .int .i64 k ∧ Hid (xs.all plainT = (xs.drop k).all plainT)) (fun _ _ i => xs.length - (intOf i).toNat)
    case atStart => exact ⟨rfl, 0, Nat.zero_le _, rfl, Lib.hid rfl⟩
    case round =>
      obtain ⟨rfl, k, hk, rfl, Hr⟩ := hrel
      by_cases hlt : k < xs.length
      · obtain ⟨_, _, hxs, ha4⟩ := Ha.out
        rcases ha4 with rfl | ⟨ba, oa, rfl, _, hca⟩
        · simp at hlt
        have hx := hca k hlt
        have hsz := hxs _ (List.getElem_mem hlt)
        have Hs := Lib.hid (allD_step (p := plainT) xs k hlt)
        clear hca Ha hxs
        cases hp : plainT xs[k]
        all_goals
          go_wp2_with (go_at_call 98; refine (isPlainText_ok _ _ hsz).mono ?_; rintro e w' ⟨rfl, rfl⟩)
        · go_ret
          exact ⟨by simp [pathB, Hr.out, Hs.out, hp], rfl⟩
        · go_round
          case rel => exact ⟨rfl, k + 1, by omega, by go_num, Lib.hid (by rw [Hr.out, Hs.out, hp, Bool.true_and])⟩
          case measure => simp [intOf]; omega
      · have Hs := Lib.hid (allD_end (p := plainT) xs k hlt)
        go_wp2
        go_ret
        exact ⟨by simp [pathB, Hr.out, Hs.out]; omega, rfl⟩
end Go.Proofs.YtfjaobfaepjfnaaDoor
namespace Go.Proofs.YtfjaobfaepjfnaaDoor.Eng
open Go Go.RowKit
theorem placeF_cases (n : Nd) (st : ByteArray) : ∀ f k, (placeF n st f k = -1 ∧ ∀ j, k ≤ j → j < k + f → hitP n st j = false) ∨ (∃ j, k ≤ j ∧ j < k + f ∧ placeF n st f k = (j : Int) ∧ hitP n st j = true)
  | 0, k => .inl ⟨rfl, fun j h1 h2 => by omega⟩
  | f + 1, k => by
    rw [placeF]
    cases hb : hitP n st k
    · rcases placeF_cases n st f (k + 1) with ⟨h1, h2⟩ | ⟨j, h1, h2, h3, h4⟩
      · refine .inl ⟨by simpa using h1, fun j h3 h4 => ?_⟩
        rcases Nat.eq_or_lt_of_le h3 with rfl | h5
        · exact hb
        · exact h2 j (by omega) (by omega)
      · exact .inr ⟨j, by omega, by omega, by simpa using h3, h4⟩
    · exact .inr ⟨k, Nat.le_refl _, by omega, by simp, hb⟩
theorem placeI_cases (n : Nd) (st : ByteArray) : (placeI n st = -1 ∧ ∀ j, j < n.kids.length → hitP n st j = false) ∨ (∃ j, j < n.kids.length ∧ placeI n st = (j : Int) ∧ hitP n st j = true) := by
  rcases placeF_cases n st n.kids.length 0 with ⟨h1, h2⟩ | ⟨j, h1, h2, h3, h4⟩
  · exact .inl ⟨h1, fun j hj => h2 j (Nat.zero_le _) (by omega)⟩
  · exact .inr ⟨j, by omega, h3, h4⟩
def Shp (n : Nd) : Prop := ∃ d, shapeB n d = true
theorem Shp.kid {n : Nd} (h : Shp n) {k : Nd} (hk : k ∈ n.kids) : Shp k := by
  obtain ⟨d, h⟩ := h
  rw [shapeB_eq] at h
  simp only [Bool.and_eq_true] at h
  exact ⟨d - 1, shapeL_mem h.2 k hk⟩
theorem Shp.parts {n : Nd} (h : Shp n) : partsB n = true := by
  obtain ⟨d, h⟩ := h
  rw [shapeB_eq] at h
  simp only [Bool.and_eq_true] at h
  exact h.1.2
theorem Shp.kids {n : Nd} (h : Shp n) : n.kids.length ≤ 6 := partsB_kids h.parts
theorem Shp.map {n : Nd} (h : Shp n) (h4 : n.kind = 4) : areNamesB n.names = true ∧ n.kids.length = n.names.length := by
  have hp := h.parts
  unfold partsB at hp
  simp only [Bool.and_eq_true] at hp
  have hp := hp.2
  rw [h4] at hp
  simp at hp
  exact hp
theorem Shp.leaf {n : Nd} (h : Shp n) (h4 : n.kind ≠ 4) (h3 : n.kind ≠ 3) : n.kids.length = 0 := by
  have hp := h.parts
  unfold partsB at hp
  simp only [Bool.and_eq_true] at hp
  have hp := hp.2
  split at hp
  · simpa using hp
  · split at hp
    · simp at hp; simp [hp]
    · split at hp
      · simp at hp; simp [hp]
      · simp [h3, h4] at hp
theorem Shp.asc {n : Nd} (h : Shp n) (h4 : n.kind = 4) : Asc n.names := by
  have := (h.map h4).1
  simp only [areNamesB, Bool.and_eq_true] at this
  exact namesB_asc this.2
theorem Shp.of {n : Nd} (h : validB n = true) : Shp n := by
  unfold validB at h
  rw [Bool.and_eq_true] at h
  exact ⟨5, h.1⟩
theorem Shp.sml {n : Nd} (h : Shp n) : Sml n := shape_sml n _ h.choose_spec
theorem lb_at {xs : List ByteArray} (ha : Asc xs) {j : Nat} (hj : j < xs.length) : lbound xs xs[j] = j :=
  lb_of (Nat.le_of_lt hj) (fun t ht htj => ha t j ht hj htj) (fun t ht hjt => by
    rcases Nat.eq_or_lt_of_le hjt with rfl | h
    · exact lt_irr _
    · exact bl_asymm _ _ (ha j t hj ht h))
theorem hit_map {n : Nd} {st : ByteArray} (h4 : n.kind = 4) {j : Nat} (hj : j < n.names.length) : hitP n st j = eqs n.names[j] st := by
  simp [hitP, h4, List.getElem?_eq_getElem hj]
theorem hit_list {n : Nd} {st : ByteArray} (h3 : n.kind = 3) {j : Nat} : hitP n st j = eqs (txt (dig1 j)) st := by
  simp [hitP, h3]
theorem place_map {n : Nd} (h : Shp n) (h4 : n.kind = 4) (st : ByteArray) : placeI n st = if mem n.names st then (lbound n.names st : Int) else -1 := by
  have hl := (h.map h4).2
  have ha := h.asc h4
  rcases placeI_cases n st with ⟨h1, h2⟩ | ⟨j, h1, h2, h3⟩
  · have : mem n.names st = false := mem_no (fun hm => by
      obtain ⟨i, hi, rfl⟩ := List.getElem_of_mem hm
      have := h2 i (by omega)
      rw [hit_map h4 hi, eqs_iff.2 rfl] at this
      cases this)
    rw [this, h1]; rfl
  · have hj : j < n.names.length := by omega
    rw [hit_map h4 hj, eqs_iff] at h3
    subst h3
    rw [lb_at ha hj, mem_iff.2 (List.getElem_mem hj), h2]; rfl
def kidI (n : Nd) (st : ByteArray) : Int := if n.kind = 4 then (lbound n.names st : Int) else if 0 ≤ placeI n st then placeI n st else 0
theorem kidI_eq {n : Nd} (h : Shp n) {st : ByteArray} (hp : 0 ≤ placeI n st) : kidI n st = placeI n st := by
  unfold kidI
  by_cases h4 : n.kind = 4
  · rw [if_pos h4]
    rw [place_map h h4] at hp ⊢
    split at hp
    · rename_i hm; rw [if_pos hm]
    · omega
  · rw [if_neg h4, if_pos hp]
theorem place_leaf {n : Nd} (h : Shp n) (h4 : n.kind ≠ 4) (h3 : n.kind ≠ 3) (st : ByteArray) : placeI n st = -1 := by
  unfold placeI; rw [h.leaf h4 h3]; rfl
def getS : Nd → List ByteArray → Option Nd
  | n, [] => some n
  | n, s :: p => if 0 ≤ placeI n s then getS ((n.kids[(placeI n s).toNat]?).getD Nd.zero) p else none
theorem getS_no {n : Nd} {s : ByteArray} (p : List ByteArray) (h : placeI n s = -1) : getS n (s :: p) = none := by
  rw [getS, if_neg (by omega)]
theorem getS_yes {n : Nd} {s : ByteArray} (p : List ByteArray) {k : Nat} (hk : k < n.kids.length) (h : placeI n s = (k : Int)) : getS n (s :: p) = getS n.kids[k] p := by
  rw [getS, h, if_pos (by omega)]
  simp [hk]
theorem getS_shp : ∀ (p : List ByteArray) (n m : Nd), Shp n → getS n p = some m → Shp m
  | [], n, m, h, e => by rw [getS] at e; cases e; exact h
  | s :: p, n, m, h, e => by
    rcases placeI_cases n s with ⟨h1, _⟩ | ⟨j, h1, h2, _⟩
    · rw [getS_no p h1] at e; cases e
    · rw [getS_yes p h1 h2] at e
      exact getS_shp p _ m (h.kid (List.getElem_mem h1)) e
end Go.Proofs.YtfjaobfaepjfnaaDoor.Eng
namespace Go.Proofs.YtfjaobfaepjfnaaDoor.Eng
open Go Go.RowKit
attribute [local simp] big size_mk ASt.pay Option.map_map Function.comp_def awant aop acall ado aev ofVal ofVal0 ASt.put ASt.add ASt.turn ASt.kill abox aalloc astore aload aloadD astoreD idOf ASt.at cellsTo afieldAddr afield aindexAddr aindex alen abin aint acmp astr aun apick aextract anil aslice abound abuild afill abuildSlice asCells aps avCells over upd aappend asrc amax amin aconv mkSt slots rowsOf_cons rowsOf_nil usedOf_cons usedOf_nil ZK.av List.replicate ASt.back ASt.addL ASt.killL nodeA nodeT nodeTL_eq nodeL_eq strsE_get strsE_len intsE_get intsE_len strsE_at intsE_at tab2 tab3 tab4 tab5 tab6 tab7 tab8 tab9 tab10 tab11 tab12 tab13 tab14 tab15 tab16 tab17 tab18 tab19 tab21 tab22 tab23 tab24 tab25 tab26 tab28 tab29 tab30 tab31 tab42 tab43 tab44 tab46 tab63 tab64 tab67 tab68 tab75 tab98 tab100 tab101 tab105 tab106 tab107 tab122 tab123 tab125 tab128 tab138 tab144 tab151 tab152 tab157 tab158 tab160 tab161 tab162
theorem isPath_AC (p : List ByteArray) (t : VC) : AC Tryd.prog 56 [.view t 1 (strsE p)] 0 (fun r => r = .bool (pathB p)) := by
  refine AC.ofGrow (enters_of Tryd.func56 (by kernel_rfl) (by kernel_rfl)) (fun w L S rb vs h => ?_)
  obtain ⟨v, rfl, h1⟩ := repL1_inv h
  obtain ⟨a, c, rfl, h2⟩ := strs_of_rep h1
  refine (isPath_ok a c p w h2).mono ?_
  rintro e w' ⟨rfl, rfl⟩
  exact ⟨_, _, rfl, Ext.refl _ _, rep_bool.2 rfl, rfl⟩
theorem bsearch_AC (xs : List ByteArray) (s : ByteArray) (t : VC) (ha : Asc xs) (hl : xs.length ≤ 1000) : AC Tryd.prog 99 [.view t 1 (strsE xs), .str s] 0 (fun r => r = .tup [.int .i64 (lbound xs s : Nat), .bool (mem xs s)]) := by
  refine AC.ofGrow (enters_of Tryd.func99 (by kernel_rfl) (by kernel_rfl)) (fun w L S rb vs h => ?_)
  obtain ⟨v, u, rfl, h1, h2⟩ := repL2_inv h
  obtain ⟨a, c, rfl, h3⟩ := strs_of_rep h1
  rw [rep_str] at h2
  obtain ⟨rfl, _⟩ := h2
  refine (bsearch_ok a c xs s w h3 ha (by omega)).mono ?_
  rintro e w' ⟨rfl, hg⟩
  exact ⟨_, .tup [.int .i64 (lbound xs s : Nat), .bool (mem xs s)], rfl, hg, rep_tup.2 ⟨[_, _], rfl, repL2 (rep_int.2 rfl) (rep_bool.2 rfl)⟩, rfl⟩
theorem kidIndex_AC (n : Nd) (st : ByteArray) (h : Shp n) : AC Tryd.prog 59 [nodeA n, .str st] 0 (fun r => r = .tup [.int .i64 (kidI n st), .bool (decide (0 ≤ placeI n st))]) := by
  have h6 := h.kids
  unfold nodeA
  rw [nodeL_eq]
  refine AC.of tab_ok mixed_ok Tryd.func59 (by rfl) (by kernel_rfl) ?_; rintro ⟨P, T, hT, hm, w0, S0, rd0, k0⟩ hP hTT; dsimp only at hP hTT; subst hP hTT; unfold initSt; rw [Tryd.ntmps59]
  by_cases h4 : n.kind = 4
  · have hm := h.map h4
    have hp := place_map h h4 st
    have pb := bsearch_AC n.names st .loose (h.asc h4) (by omega)
    (repeat (first | with_reducible refine AW.seq ?_ | ((first | refine arun_kn 4 rfl (fun C hC => ?_) | refine arunD_kn 4 rfl (fun C hC => ?_)); (repeat ((conv => whnf); simp [h4])); refine hC _ ?_; clear hC C; simp only [List.drop, Nat.reduceAdd]) | ((first | refine arun_kn 1 rfl (fun C hC => ?_) | refine arunD_kn 1 rfl (fun C hC => ?_)); (repeat ((conv => whnf); simp [h4])); refine hC _ ?_; clear hC C; simp only [List.drop, Nat.reduceAdd]) | (refine arun_skip ?_ ?_; (focus (simp [awant, h4]; done))) | (refine arun_c0 (pb) ?_; rintro _ rfl) | (refine AW.regionK [] (fun K hK => ?_)) | (refine AW.regionDK [] (pcs [] []) (by kernel_rfl) (by kernel_rfl) (fun K hK => ?_)) | (refine AW.condT ?_ ?_; (focus (simp [aev, h4]; done))) | (refine AW.condF ?_ ?_; (focus (simp [aev, h4]; done))) | with_reducible refine AW.block ?_ | ((first | ((first | refine arun_nil ?_ | refine arunD_nil ?_); refine hK _ ?_; clear hK K) | refine AW.skip ?_ | refine AW.exit ?_ | refine AW.ret ?_); simp only [thenA_exit, inBlockA_exit, if_true, if_false, Nat.reduceEqDiff, thenA_normal, inBlockA_normal, reduceIte, thenA_ret, inBlockA_ret, endQ_ret, endR_ret, endG_ret, endQ_normal, endR_normal, endG_normal])))
    refine ⟨.tup [.int .i64 (lbound n.names st : Nat), .bool (mem n.names st)], by simp [ares, aresL], tup2_pur pur_int pur_bool, ?_⟩
    unfold kidI
    rw [if_pos h4, hp]
    cases mem n.names st <;> simp
  · by_cases h3 : n.kind = 3
    · have e4 : (n.kind == 4) = false := by simpa using h4
      (repeat (first | with_reducible refine AW.seq ?_ | ((first | refine arun_kn 4 rfl (fun C hC => ?_) | refine arunD_kn 4 rfl (fun C hC => ?_)); (repeat ((conv => whnf); simp [h3, e4])); refine hC _ ?_; clear hC C; simp only [List.drop, Nat.reduceAdd]) | ((first | refine arun_kn 1 rfl (fun C hC => ?_) | refine arunD_kn 1 rfl (fun C hC => ?_)); (repeat ((conv => whnf); simp [h3, e4])); refine hC _ ?_; clear hC C; simp only [List.drop, Nat.reduceAdd]) | (refine arun_skip ?_ ?_; (focus (simp [awant, h3, e4]; done))) | (refine AW.regionK [] (fun K hK => ?_)) | (refine AW.regionDK [] (pcs [] []) (by kernel_rfl) (by kernel_rfl) (fun K hK => ?_)) | (refine AW.condT ?_ ?_; (focus (simp [aev, h3, e4]; done))) | (refine AW.condF ?_ ?_; (focus (simp [aev, h3, e4]; done))) | with_reducible refine AW.block ?_ | ((first | ((first | refine arun_nil ?_ | refine arunD_nil ?_); refine hK _ ?_; clear hK K) | refine AW.skip ?_ | refine AW.exit ?_ | refine AW.ret ?_); simp only [thenA_exit, inBlockA_exit, if_true, if_false, Nat.reduceEqDiff, thenA_normal, inBlockA_normal, reduceIte, thenA_ret, inBlockA_ret, endQ_ret, endR_ret, endG_ret, endQ_normal, endR_normal, endG_normal])))
      refine AW.loopS (fun (i : Nat) => mkSt (slots 0 31 [(1, .str st), (2, .ptr true 5 1 2 0 0), (4, .int .i64 0), (5, .bool false), (21, .int .i64 n.kids.length), (22, .int .i64 i)]) [(2, ⟨true, 26, 5, [nodeL n]⟩)] [2] (rd0.map fun _ => 0)) (fun i => n.kids.length - i) (fun i => i ≤ n.kids.length ∧ placeI n st = placeF n st (n.kids.length - i) i) 0 ?_ ⟨Nat.zero_le _, rfl⟩ ?_
      · rw [nodeL_eq]
        exact (less_of (by simp [lessL, mkSt, slots, h3]) (by simp [upd, mkSt, rowsOf_cons, h3]) (by simp [upd, mkSt, usedOf_cons, h3]) (by first | exact rd_less (by omega) | simp [mkSt, h3]) (by simp [slots, in_any, in_int, in_bool, in_str, in_ptr, in_own, in_agg, in_vnil, in_rdr, usedOf_cons, usedOf_nil, strs_in, ints_in, nodes_in, in_tup, h3]) (by simp only [List.forall_mem_cons, List.not_mem_nil, false_implies, implies_true, and_true, true_and, h3]; (repeat (first | with_reducible exact trivial | with_reducible refine And.intro ?_ ?_ | with_reducible exact in_int | with_reducible exact in_str | with_reducible exact in_bool | with_reducible exact strs_in _ | with_reducible exact nodes_in _ | with_reducible exact items_in _ | with_reducible exact in_vnil | with_reducible exact in_any | exact hin _ | with_reducible refine take_in ?_ | with_reducible exact strsE_in _ | with_reducible exact nodesE_in _ | with_reducible exact nodeL_in _ | with_reducible exact itemsE_in _ | with_reducible exact itemL_in _ | with_reducible refine app_in ?_ ?_ | with_reducible refine sing_in ?_ | (focus (simp [in_any, in_int, in_bool, in_str, in_ptr, in_own, in_agg, in_vnil, in_rdr, usedOf_cons, usedOf_nil, strs_in, ints_in, nodes_in, h3]; done)))); done))
      · rintro i ⟨hi, hf⟩
        rw [nodeL_eq]
        by_cases hlt : i < n.kids.length
        · have hw : IntKind.i64.wrap ((i : Int) + 1) = (i : Int) + 1 := i64_nat (by omega) (by omega)
          have hsub : n.kids.length - i = (n.kids.length - (i + 1)) + 1 := by omega
          rw [hsub, placeF, hit_list h3] at hf
          cases hb : eqs (txt (dig1 i)) st
          · rw [hb] at hf
            (repeat (first | with_reducible refine AW.seq ?_ | ((first | refine arun_kn 4 rfl (fun C hC => ?_) | refine arunD_kn 4 rfl (fun C hC => ?_)); (repeat ((conv => whnf); simp [hlt, hw, hb])); refine hC _ ?_; clear hC C; simp only [List.drop, Nat.reduceAdd]) | ((first | refine arun_kn 1 rfl (fun C hC => ?_) | refine arunD_kn 1 rfl (fun C hC => ?_)); (repeat ((conv => whnf); simp [hlt, hw, hb])); refine hC _ ?_; clear hC C; simp only [List.drop, Nat.reduceAdd]) | (refine arun_skip ?_ ?_; (focus (simp [awant, hlt, hw, hb]; done))) | (refine arun_c0 (Itoa_AC i (by omega)) ?_; rintro _ rfl) | (refine AW.regionK [] (fun K hK => ?_)) | (refine AW.regionDK [] (pcs [] []) (by kernel_rfl) (by kernel_rfl) (fun K hK => ?_)) | (refine AW.condT ?_ ?_; (focus (simp [aev, hlt, hw, hb]; done))) | (refine AW.condF ?_ ?_; (focus (simp [aev, hlt, hw, hb]; done))) | with_reducible refine AW.block ?_ | ((first | ((first | refine arun_nil ?_ | refine arunD_nil ?_); refine hK _ ?_; clear hK K) | refine AW.skip ?_ | refine AW.exit ?_ | refine AW.ret ?_); simp only [thenA_exit, inBlockA_exit, if_true, if_false, Nat.reduceEqDiff, thenA_normal, inBlockA_normal, reduceIte, thenA_ret, inBlockA_ret, endQ_ret, endR_ret, endG_ret, endQ_normal, endR_normal, endG_normal])))
            exact ⟨i + 1, by omega, ⟨by omega, by simpa using hf⟩, (less_of (by simp [lessL, mkSt, slots, h3]) (by simp [upd, mkSt, rowsOf_cons, h3]) (by simp [upd, mkSt, usedOf_cons, h3]) (by first | exact rd_less (by omega) | simp [mkSt, h3]) (by simp [slots, in_any, in_int, in_bool, in_str, in_ptr, in_own, in_agg, in_vnil, in_rdr, usedOf_cons, usedOf_nil, strs_in, ints_in, nodes_in, in_tup, h3]) (by simp only [List.forall_mem_cons, List.not_mem_nil, false_implies, implies_true, and_true, true_and, h3]; (repeat (first | with_reducible exact trivial | with_reducible refine And.intro ?_ ?_ | with_reducible exact in_int | with_reducible exact in_str | with_reducible exact in_bool | with_reducible exact strs_in _ | with_reducible exact nodes_in _ | with_reducible exact items_in _ | with_reducible exact in_vnil | with_reducible exact in_any | exact hin _ | with_reducible refine take_in ?_ | with_reducible exact strsE_in _ | with_reducible exact nodesE_in _ | with_reducible exact nodeL_in _ | with_reducible exact itemsE_in _ | with_reducible exact itemL_in _ | with_reducible refine app_in ?_ ?_ | with_reducible refine sing_in ?_ | (focus (simp [in_any, in_int, in_bool, in_str, in_ptr, in_own, in_agg, in_vnil, in_rdr, usedOf_cons, usedOf_nil, strs_in, ints_in, nodes_in, h3]; done)))); done))⟩
          · rw [hb] at hf
            have hf' : placeI n st = (i : Int) := by simpa using hf
            (repeat (first | with_reducible refine AW.seq ?_ | ((first | refine arun_kn 4 rfl (fun C hC => ?_) | refine arunD_kn 4 rfl (fun C hC => ?_)); (repeat ((conv => whnf); simp [hlt, hw, hb])); refine hC _ ?_; clear hC C; simp only [List.drop, Nat.reduceAdd]) | ((first | refine arun_kn 1 rfl (fun C hC => ?_) | refine arunD_kn 1 rfl (fun C hC => ?_)); (repeat ((conv => whnf); simp [hlt, hw, hb])); refine hC _ ?_; clear hC C; simp only [List.drop, Nat.reduceAdd]) | (refine arun_skip ?_ ?_; (focus (simp [awant, hlt, hw, hb]; done))) | (refine arun_c0 (Itoa_AC i (by omega)) ?_; rintro _ rfl) | (refine AW.regionK [] (fun K hK => ?_)) | (refine AW.regionDK [] (pcs [] []) (by kernel_rfl) (by kernel_rfl) (fun K hK => ?_)) | (refine AW.condT ?_ ?_; (focus (simp [aev, hlt, hw, hb]; done))) | (refine AW.condF ?_ ?_; (focus (simp [aev, hlt, hw, hb]; done))) | with_reducible refine AW.block ?_ | ((first | ((first | refine arun_nil ?_ | refine arunD_nil ?_); refine hK _ ?_; clear hK K) | refine AW.skip ?_ | refine AW.exit ?_ | refine AW.ret ?_); simp only [thenA_exit, inBlockA_exit, if_true, if_false, Nat.reduceEqDiff, thenA_normal, inBlockA_normal, reduceIte, thenA_ret, inBlockA_ret, endQ_ret, endR_ret, endG_ret, endQ_normal, endR_normal, endG_normal])))
            refine ⟨.tup [.int .i64 i, .bool true], by simp [ares, aresL], tup2_pur pur_int pur_bool, ?_⟩
            unfold kidI
            rw [if_neg h4, hf', if_pos (by omega)]
            simp
        · have hz : n.kids.length - i = 0 := by omega
          rw [hz, placeF] at hf
          (repeat (first | with_reducible refine AW.seq ?_ | ((first | refine arun_kn 4 rfl (fun C hC => ?_) | refine arunD_kn 4 rfl (fun C hC => ?_)); (repeat ((conv => whnf); simp [hlt])); refine hC _ ?_; clear hC C; simp only [List.drop, Nat.reduceAdd]) | ((first | refine arun_kn 1 rfl (fun C hC => ?_) | refine arunD_kn 1 rfl (fun C hC => ?_)); (repeat ((conv => whnf); simp [hlt])); refine hC _ ?_; clear hC C; simp only [List.drop, Nat.reduceAdd]) | (refine arun_skip ?_ ?_; (focus (simp [awant, hlt]; done))) | (refine AW.regionK [] (fun K hK => ?_)) | (refine AW.regionDK [] (pcs [] []) (by kernel_rfl) (by kernel_rfl) (fun K hK => ?_)) | (refine AW.condT ?_ ?_; (focus (simp [aev, hlt]; done))) | (refine AW.condF ?_ ?_; (focus (simp [aev, hlt]; done))) | with_reducible refine AW.block ?_ | ((first | ((first | refine arun_nil ?_ | refine arunD_nil ?_); refine hK _ ?_; clear hK K) | refine AW.skip ?_ | refine AW.exit ?_ | refine AW.ret ?_); simp only [thenA_exit, inBlockA_exit, if_true, if_false, Nat.reduceEqDiff, thenA_normal, inBlockA_normal, reduceIte, thenA_ret, inBlockA_ret, endQ_ret, endR_ret, endG_ret, endQ_normal, endR_normal, endG_normal])))
          refine ⟨.tup [.int .i64 0, .bool false], by simp [ares, aresL], tup2_pur pur_int pur_bool, ?_⟩
          unfold kidI
          rw [if_neg h4, hf]
          simp
    · have e4 : (n.kind == 4) = false := by simpa using h4
      have e3 : (n.kind == 3) = false := by simpa using h3
      (repeat (first | with_reducible refine AW.seq ?_ | ((first | refine arun_kn 4 rfl (fun C hC => ?_) | refine arunD_kn 4 rfl (fun C hC => ?_)); (repeat ((conv => whnf); simp [e3, e4])); refine hC _ ?_; clear hC C; simp only [List.drop, Nat.reduceAdd]) | ((first | refine arun_kn 1 rfl (fun C hC => ?_) | refine arunD_kn 1 rfl (fun C hC => ?_)); (repeat ((conv => whnf); simp [e3, e4])); refine hC _ ?_; clear hC C; simp only [List.drop, Nat.reduceAdd]) | (refine arun_skip ?_ ?_; (focus (simp [awant, e3, e4]; done))) | (refine AW.regionK [] (fun K hK => ?_)) | (refine AW.regionDK [] (pcs [] []) (by kernel_rfl) (by kernel_rfl) (fun K hK => ?_)) | (refine AW.condT ?_ ?_; (focus (simp [aev, e3, e4]; done))) | (refine AW.condF ?_ ?_; (focus (simp [aev, e3, e4]; done))) | with_reducible refine AW.block ?_ | ((first | ((first | refine arun_nil ?_ | refine arunD_nil ?_); refine hK _ ?_; clear hK K) | refine AW.skip ?_ | refine AW.exit ?_ | refine AW.ret ?_); simp only [thenA_exit, inBlockA_exit, if_true, if_false, Nat.reduceEqDiff, thenA_normal, inBlockA_normal, reduceIte, thenA_ret, inBlockA_ret, endQ_ret, endR_ret, endG_ret, endQ_normal, endR_normal, endG_normal])))
      refine ⟨.tup [.int .i64 0, .bool false], by simp [ares, aresL], tup2_pur pur_int pur_bool, ?_⟩
      unfold kidI
      rw [if_neg h4, place_leaf h h4 h3]
      simp
def optA (o : Option Nd) : AV := .tup [nodeA (o.getD Nd.zero), .bool o.isSome]
end Go.Proofs.YtfjaobfaepjfnaaDoor.Eng
namespace Go.Proofs.YtfjaobfaepjfnaaDoor.Eng
open Go Go.RowKit
def setK (n : Nd) (k : Nat) (v : Nd) : Nd := ⟨n.kind, n.num, n.text, n.names, n.kids.set k v⟩
def setS : Nd → List ByteArray → Nd → Option Nd
  | _, [], v => some v
  | n, s :: p, v => if 0 ≤ placeI n s then (setS ((n.kids[(placeI n s).toNat]?).getD Nd.zero) p v).map (setK n (placeI n s).toNat) else none
theorem setS_no {n v : Nd} {s : ByteArray} (p : List ByteArray) (h : placeI n s = -1) : setS n (s :: p) v = none := by
  rw [setS, if_neg (by omega)]
theorem setS_yes {n v : Nd} {s : ByteArray} (p : List ByteArray) {k : Nat} (hk : k < n.kids.length) (h : placeI n s = (k : Int)) : setS n (s :: p) v = (setS n.kids[k] p v).map (setK n k) := by
  rw [setS, h, if_pos (by omega)]
  simp [hk]
def delK (n : Nd) (k : Nat) : Nd := ⟨n.kind, 0, ⟨#[]⟩, if n.kind = 4 then n.names.take k ++ n.names.drop (k + 1) else [], n.kids.take k ++ n.kids.drop (k + 1)⟩
def remS (n : Nd) (p : List ByteArray) : Option Nd :=
  match p.getLast? with
  | none => none
  | some s => (getS n p.dropLast).bind (fun m => if 0 ≤ placeI m s then setS n p.dropLast (delK m (placeI m s).toNat) else none)
end Go.Proofs.YtfjaobfaepjfnaaDoor.Eng
-- EV: rows
namespace Go.Proofs.YtfjaobfaepjfnaaDoor.Eng
open Go Go.RowKit
attribute [local simp] big size_mk ASt.pay Option.map_map Function.comp_def awant aop acall ado aev ofVal ofVal0 ASt.put ASt.add ASt.turn ASt.kill abox aalloc astore aload aloadD astoreD idOf ASt.at cellsTo afieldAddr afield aindexAddr aindex alen abin aint acmp astr aun apick aextract anil aslice abound abuild afill abuildSlice asCells aps avCells over upd aappend asrc amax amin aconv mkSt slots rowsOf_cons rowsOf_nil usedOf_cons usedOf_nil ZK.av List.replicate ASt.back ASt.addL ASt.killL nodeA nodeT nodeTL_eq nodeL_eq strsE_get strsE_len intsE_get intsE_len strsE_at intsE_at nodeN namesRow nodeO kidsRow tab2 tab3 tab4 tab5 tab6 tab7 tab8 tab9 tab10 tab11 tab12 tab13 tab14 tab15 tab16 tab17 tab18 tab19 tab21 tab22 tab23 tab24 tab25 tab26 tab28 tab29 tab30 tab31 tab42 tab43 tab44 tab46 tab63 tab64 tab67 tab68 tab75 tab98 tab100 tab101 tab105 tab106 tab107 tab122 tab123 tab125 tab128 tab138 tab144 tab151 tab152 tab157 tab158 tab160 tab161 tab162
end Go.Proofs.YtfjaobfaepjfnaaDoor.Eng
-- EV: rows
namespace Go.Proofs.YtfjaobfaepjfnaaDoor.Eng
open Go Go.RowKit
attribute [local simp] big size_mk ASt.pay Option.map_map Function.comp_def awant aop acall ado aev ofVal ofVal0 ASt.put ASt.add ASt.turn ASt.kill abox aalloc astore aload aloadD astoreD idOf ASt.at cellsTo afieldAddr afield aindexAddr aindex alen abin aint acmp astr aun apick aextract anil aslice abound abuild afill abuildSlice asCells aps avCells over upd aappend asrc amax amin aconv mkSt slots rowsOf_cons rowsOf_nil usedOf_cons usedOf_nil ZK.av List.replicate ASt.back ASt.addL ASt.killL nodeA nodeT nodeTL_eq nodeL_eq strsE_get strsE_len intsE_get intsE_len strsE_at intsE_at nodeN namesRow nodeO kidsRow tab2 tab3 tab4 tab5 tab6 tab7 tab8 tab9 tab10 tab11 tab12 tab13 tab14 tab15 tab16 tab17 tab18 tab19 tab21 tab22 tab23 tab24 tab25 tab26 tab28 tab29 tab30 tab31 tab42 tab43 tab44 tab46 tab63 tab64 tab67 tab68 tab75 tab98 tab100 tab101 tab105 tab106 tab107 tab122 tab123 tab125 tab128 tab138 tab144 tab151 tab152 tab157 tab158 tab160 tab161 tab162
theorem strs_snoc (q : List ByteArray) (s : ByteArray) : strsE (q ++ [s]) = strsE q ++ [[.str s]] := by simp [strsE]
theorem snoc_cases (p : List ByteArray) : p = [] ∨ ∃ q s, p = q ++ [s] := by
  rcases List.eq_nil_or_concat p with h | ⟨q, s, h⟩
  · exact .inl h
  · exact .inr ⟨q, s, by rw [h]; simp⟩
theorem remS_snoc (n : Nd) (q : List ByteArray) (s : ByteArray) : remS n (q ++ [s]) = (getS n q).bind (fun m => if 0 ≤ placeI m s then setS n q (delK m (placeI m s).toNat) else none) := by
  unfold remS
  simp
end Go.Proofs.YtfjaobfaepjfnaaDoor.Eng
-- EV: rows skip
namespace Go.Proofs.YtfjaobfaepjfnaaDoor.Eng
open Go Go.RowKit
attribute [local simp] big size_mk ASt.pay Option.map_map Function.comp_def awant aop acall ado aev ofVal ofVal0 ASt.put ASt.add ASt.turn ASt.kill abox aalloc astore aload aloadD astoreD idOf ASt.at cellsTo afieldAddr afield aindexAddr aindex alen abin aint acmp astr aun apick aextract anil aslice abound abuild afill abuildSlice asCells aps avCells over upd aappend asrc amax amin aconv mkSt slots rowsOf_cons rowsOf_nil usedOf_cons usedOf_nil ZK.av List.replicate ASt.back ASt.addL ASt.killL nodeA nodeT nodeTL_eq nodeL_eq strsE_get strsE_len intsE_get intsE_len strsE_at intsE_at nodeN namesRow nodeO kidsRow tab2 tab3 tab4 tab5 tab6 tab7 tab8 tab9 tab10 tab11 tab12 tab13 tab14 tab15 tab16 tab17 tab18 tab19 tab21 tab22 tab23 tab24 tab25 tab26 tab28 tab29 tab30 tab31 tab42 tab43 tab44 tab46 tab63 tab64 tab67 tab68 tab75 tab98 tab100 tab101 tab105 tab106 tab107 tab122 tab123 tab125 tab128 tab138 tab144 tab151 tab152 tab157 tab158 tab160 tab161 tab162
end Go.Proofs.YtfjaobfaepjfnaaDoor.Eng
-- EV: rows
namespace Go.Proofs.YtfjaobfaepjfnaaDoor.Eng
open Go Go.RowKit
attribute [local simp] big size_mk ASt.pay Option.map_map Function.comp_def awant aop acall ado aev ofVal ofVal0 ASt.put ASt.add ASt.turn ASt.kill abox aalloc astore aload aloadD astoreD idOf ASt.at cellsTo afieldAddr afield aindexAddr aindex alen abin aint acmp astr aun apick aextract anil aslice abound abuild afill abuildSlice asCells aps avCells over upd aappend asrc amax amin aconv mkSt slots rowsOf_cons rowsOf_nil usedOf_cons usedOf_nil ZK.av List.replicate ASt.back ASt.addL ASt.killL nodeA nodeT nodeTL_eq nodeL_eq strsE_get strsE_len intsE_get intsE_len strsE_at intsE_at nodeN namesRow nodeO kidsRow tab2 tab3 tab4 tab5 tab6 tab7 tab8 tab9 tab10 tab11 tab12 tab13 tab14 tab15 tab16 tab17 tab18 tab19 tab21 tab22 tab23 tab24 tab25 tab26 tab28 tab29 tab30 tab31 tab42 tab43 tab44 tab46 tab63 tab64 tab67 tab68 tab75 tab98 tab100 tab101 tab105 tab106 tab107 tab122 tab123 tab125 tab128 tab138 tab144 tab151 tab152 tab157 tab158 tab160 tab161 tab162
end Go.Proofs.YtfjaobfaepjfnaaDoor.Eng
-- EV: rows skip
namespace Go.Proofs.YtfjaobfaepjfnaaDoor.Eng
open Go Go.RowKit
attribute [local simp] big size_mk ASt.pay Option.map_map Function.comp_def awant aop acall ado aev ofVal ofVal0 ASt.put ASt.add ASt.turn ASt.kill abox aalloc astore aload aloadD astoreD idOf ASt.at cellsTo afieldAddr afield aindexAddr aindex alen abin aint acmp astr aun apick aextract anil aslice abound abuild afill abuildSlice asCells aps avCells over upd aappend asrc amax amin aconv mkSt slots rowsOf_cons rowsOf_nil usedOf_cons usedOf_nil ZK.av List.replicate ASt.back ASt.addL ASt.killL nodeA nodeT nodeTL_eq nodeL_eq strsE_get strsE_len intsE_get intsE_len strsE_at intsE_at nodeN namesRow nodeO kidsRow tab2 tab3 tab4 tab5 tab6 tab7 tab8 tab9 tab10 tab11 tab12 tab13 tab14 tab15 tab16 tab17 tab18 tab19 tab21 tab22 tab23 tab24 tab25 tab26 tab28 tab29 tab30 tab31 tab42 tab43 tab44 tab46 tab63 tab64 tab67 tab68 tab75 tab98 tab100 tab101 tab105 tab106 tab107 tab122 tab123 tab125 tab128 tab138 tab144 tab151 tab152 tab157 tab158 tab160 tab161 tab162
theorem AC.toR {P : Program} {f : FuncId} {args : List AV} {c : Nat} {Q : AV → Prop} (h : AC P f args c Q) : ACR P f args c Q (fun _ _ => False) :=
  ⟨h.1, fun w L S rb k vs h0 h1 h2 h3 => (h.2 w L S rb k vs h0 h1 h2 h3).mono fun _ _ ⟨v, r, S', k1, k2, k3, k4, k5, k6, k7⟩ => ⟨v, S', k1, k2, k3, k4, k5, .inl ⟨r, k6, k7⟩⟩⟩
end Go.Proofs.YtfjaobfaepjfnaaDoor.Eng
-- EV: rows skip
namespace Go.Proofs.YtfjaobfaepjfnaaDoor.Eng
open Go Go.RowKit
attribute [local simp] big size_mk ASt.pay Option.map_map Function.comp_def awant aop acall ado aev ofVal ofVal0 ASt.put ASt.add ASt.turn ASt.kill abox aalloc astore aload aloadD astoreD idOf ASt.at cellsTo afieldAddr afield aindexAddr aindex alen abin aint acmp astr aun apick aextract anil aslice abound abuild afill abuildSlice asCells aps avCells over upd aappend asrc amax amin aconv mkSt slots rowsOf_cons rowsOf_nil usedOf_cons usedOf_nil ZK.av List.replicate ASt.back ASt.addL ASt.killL nodeA nodeT nodeTL_eq nodeL_eq strsE_get strsE_len intsE_get intsE_len strsE_at intsE_at nodeN namesRow nodeO kidsRow tab2 tab3 tab4 tab5 tab6 tab7 tab8 tab9 tab10 tab11 tab12 tab13 tab14 tab15 tab16 tab17 tab18 tab19 tab21 tab22 tab23 tab24 tab25 tab26 tab28 tab29 tab30 tab31 tab42 tab43 tab44 tab46 tab63 tab64 tab67 tab68 tab75 tab98 tab100 tab101 tab105 tab106 tab107 tab122 tab123 tab125 tab128 tab138 tab144 tab151 tab152 tab157 tab158 tab160 tab161 tab162
end Go.Proofs.YtfjaobfaepjfnaaDoor.Eng
namespace Go.Proofs.YtfjaobfaepjfnaaDoor
open Go Go.RowKit
structure Shp where
  kind : Int
  names : List ByteArray
  needs : List Bool
  kids : List Shp
theorem Shp.ind' (P : Shp → Prop) (h : ∀ n : Shp, (∀ k ∈ n.kids, P k) → P n) : ∀ n, P n := by
  intro n
  refine Shp.rec (motive_1 := P) (motive_2 := fun l => ∀ k ∈ l, P k) ?_ ?_ ?_ n
  · intro kind names needs kids ih
    exact h ⟨kind, names, needs, kids⟩ ih
  · intro k hk; cases hk
  · intro k ks h1 h2 x hx
    rcases List.mem_cons.1 hx with rfl | hx
    · exact h1
    · exact h2 _ hx
def BoolsR (w : World) (S : Nat → Prop) (a : Option Addr) (c : Nat) (xs : List Bool) : Prop :=
  xs.length ≤ c ∧ xs.length ≤ big ∧ (xs = [] ∨ ∃ b o, a = some ⟨b, o, none⟩ ∧ S b ∧ ∀ i (h : i < xs.length), w.cell? ⟨b, o + i, none⟩ = some (.bool xs[i]))
mutual
def ShapeC (w : World) (S : Nat → Prop) : Shp → Option Addr → Nat → Option Addr → Nat → Option Addr → Nat → Prop
  | ⟨_, names, needs, kids⟩, na, nc, ba, bc, ka, kc => StrsR w S na nc names ∧ BoolsR w S ba bc needs ∧ kids.length ≤ kc ∧ kids.length ≤ big ∧ (kids = [] ∨ ∃ b o, ka = some ⟨b, o, none⟩ ∧ S b ∧ ShpsR w S b o kids)
def ShpsR (w : World) (S : Nat → Prop) (b : Nat) : Nat → List Shp → Prop
  | _, [] => True
  | o, k :: ks => (∃ na nc ba bc ka kc, w.cell? ⟨b, o, none⟩ = some (.int .i64 k.kind) ∧ w.cell? ⟨b, o + 1, none⟩ = some (.slice na k.names.length nc) ∧
      w.cell? ⟨b, o + 2, none⟩ = some (.slice ba k.needs.length bc) ∧ w.cell? ⟨b, o + 3, none⟩ = some (.slice ka k.kids.length kc) ∧ ShapeC w S k na nc ba bc ka kc) ∧ ShpsR w S b (o + 4) ks
end
def shapeV (n : Shp) (na : Option Addr) (nc : Nat) (ba : Option Addr) (bc : Nat) (ka : Option Addr) (kc : Nat) : Value :=
  .agg #[.int .i64 n.kind, .slice na n.names.length nc, .slice ba n.needs.length bc, .slice ka n.kids.length kc]
def ShapeR (w : World) (S : Nat → Prop) (n : Shp) (v : Value) : Prop := ∃ na nc ba bc ka kc, v = shapeV n na nc ba bc ka kc ∧ ShapeC w S n na nc ba bc ka kc
theorem BoolsR.ext {X S : Nat → Prop} {w w' : World} (h : Ext X w w') (hS : ∀ k, S k → ¬ X k) {a : Option Addr} {c : Nat} {xs : List Bool} (hs : BoolsR w S a c xs) : BoolsR w' S a c xs := by
  obtain ⟨h1, h2, h4⟩ := hs
  refine ⟨h1, h2, h4.imp id ?_⟩
  rintro ⟨b, o, rfl, hb, hc⟩
  exact ⟨b, o, rfl, hb, fun i hi => h.some (hc i hi) (hS b hb)⟩
theorem ShapeC.parts {w : World} {S : Nat → Prop} {n : Shp} {na : Option Addr} {nc : Nat} {ba : Option Addr} {bc : Nat} {ka : Option Addr} {kc : Nat} (h : ShapeC w S n na nc ba bc ka kc) :
    StrsR w S na nc n.names ∧ BoolsR w S ba bc n.needs ∧ n.kids.length ≤ kc ∧ n.kids.length ≤ big ∧ (n.kids = [] ∨ ∃ b o, ka = some ⟨b, o, none⟩ ∧ S b ∧ ShpsR w S b o n.kids) := by
  cases n; unfold ShapeC at h; exact h
mutual
theorem ShapeC.ext {X S : Nat → Prop} {w w' : World} (h : Ext X w w') (hS : ∀ k, S k → ¬ X k) : ∀ {n : Shp} {na : Option Addr} {nc : Nat} {ba : Option Addr} {bc : Nat} {ka : Option Addr} {kc : Nat}, ShapeC w S n na nc ba bc ka kc → ShapeC w' S n na nc ba bc ka kc
  | ⟨_, _, _, kids⟩, na, nc, ba, bc, ka, kc, hn => by
    unfold ShapeC at hn ⊢
    obtain ⟨h1, h2, h3, h4, h5⟩ := hn
    refine ⟨h1.ext h hS, h2.ext h hS, h3, h4, h5.imp id ?_⟩
    rintro ⟨b, o, e, hb, hk⟩
    exact ⟨b, o, e, hb, ShpsR.ext h hS (hS b hb) hk⟩
theorem ShpsR.ext {X S : Nat → Prop} {w w' : World} (h : Ext X w w') (hS : ∀ k, S k → ¬ X k) {b : Nat} (hb : ¬ X b) : ∀ {l : List Shp} {o : Nat}, ShpsR w S b o l → ShpsR w' S b o l
  | [], _, _ => by unfold ShpsR; trivial
  | k :: ks, o, hk => by
    unfold ShpsR at hk ⊢
    obtain ⟨⟨na, nc, ba, bc, ka, kc, c0, c1, c2, c3, hn⟩, hr⟩ := hk
    exact ⟨⟨na, nc, ba, bc, ka, kc, h.some c0 hb, h.some c1 hb, h.some c2 hb, h.some c3 hb, ShapeC.ext h hS hn⟩, ShpsR.ext h hS hb hr⟩
end
theorem ShpsR.get {w : World} {S : Nat → Prop} {b : Nat} : ∀ {l : List Shp} {o : Nat}, ShpsR w S b o l → ∀ i (h : i < l.length), ∃ na nc ba bc ka kc,
    w.cell? ⟨b, o + i * 4, none⟩ = some (.int .i64 l[i].kind) ∧ w.cell? ⟨b, o + i * 4 + 1, none⟩ = some (.slice na l[i].names.length nc) ∧
      w.cell? ⟨b, o + i * 4 + 2, none⟩ = some (.slice ba l[i].needs.length bc) ∧ w.cell? ⟨b, o + i * 4 + 3, none⟩ = some (.slice ka l[i].kids.length kc) ∧ ShapeC w S l[i] na nc ba bc ka kc
  | [], _, _, i, h => absurd h (by simp)
  | k :: ks, o, hk, 0, _ => by
    unfold ShpsR at hk
    simpa using hk.1
  | k :: ks, o, hk, i + 1, h => by
    unfold ShpsR at hk
    have := ShpsR.get hk.2 i (by simpa using h)
    simp only [List.getElem_cons_succ]
    have e : o + (i + 1) * 4 = o + 4 + i * 4 := by omega
    rw [e]
    exact this
theorem ShapeR.ext {X S : Nat → Prop} {w w' : World} (h : Ext X w w') (hS : ∀ k, S k → ¬ X k) {n : Shp} {v : Value} (hn : ShapeR w S n v) : ShapeR w' S n v := by
  obtain ⟨na, nc, ba, bc, ka, kc, hv, hc⟩ := hn
  exact ⟨na, nc, ba, bc, ka, kc, hv, hc.ext h hS⟩
theorem ShapeR.grow {S : Nat → Prop} {w w' : World} {n : Shp} {v : Value} (hn : ShapeR w S n v) (h : Grow w w') : ShapeR w' S n v := hn.ext h (fun _ _ h => h)
end Go.Proofs.YtfjaobfaepjfnaaDoor
namespace Go.Proofs.YtfjaobfaepjfnaaDoor
open Go.RowKit
def shapeL' (n : Shp) (na : Option Addr) (nc : Nat) (ba : Option Addr) (bc : Nat) (ka : Option Addr) (kc : Nat) : List Value :=
  [.int .i64 n.kind, .slice na n.names.length nc, .slice ba n.needs.length bc, .slice ka n.kids.length kc]
def shpHead (x : Shp) : Bool :=
  inR x.kind 0 4 && areNamesB x.names && !(decide (0 < x.names.length) && decide (x.kind ≠ 4)) && decide (x.needs.length = x.names.length) && decide (x.kids.length = x.names.length)
mutual
def shpB : Shp → Nat → Bool
  | ⟨kind, names, needs, kids⟩, d => decide (0 < d) && shpHead ⟨kind, names, needs, kids⟩ && shpL kids (d - 1)
def shpL : List Shp → Nat → Bool
  | [], _ => true
  | k :: ks, d => shpB k d && shpL ks d
end
theorem shpB_eq (x : Shp) (d : Nat) : shpB x d = (decide (0 < d) && shpHead x && shpL x.kids (d - 1)) := by cases x; simp [shpB]
theorem shpL_all (l : List Shp) (d : Nat) : shpL l d = l.all fun k => shpB k d := by
  induction l with
  | nil => simp [shpL]
  | cons a l ih => simp [shpL, ih]
end Go.Proofs.YtfjaobfaepjfnaaDoor
namespace Go.Proofs.YtfjaobfaepjfnaaDoor
open Go.RowKit
def IsShpOk (x : Shp) : Prop := ∀ (d : Nat) (v : Value) (w : World), d ≤ 5 → ShapeR w any x v →
    Calls Tryd.prog 101 #[v, .int .i64 ((6 : Int) - d)] w fun e w' => e = .returned (.bool (shpB x d)) ∧ Grow w w'
theorem isShape_zero (x : Shp) (v : Value) (w : World) (hn : ShapeR w any x v) :
    Calls Tryd.prog 101 #[v, .int .i64 6] w fun e w' => e = .returned (.bool (shpB x 0)) ∧ Grow w w' := by
  obtain ⟨na, nc, ba, bc, ka, kc, rfl, hc⟩ := hn
  have Hf : Hid (shpB x 0 = false) := Lib.hid (by rw [shpB_eq]; simp)
  clear hc
  unfold shapeV
  go_enter Tryd.func101, Tryd.ntmps101
  go_wp2_with fail
  go_ret
  exact ⟨by simp [Hf.out], (by repeat (first | with_reducible exact Ext.refl _ _ | with_reducible refine Ext.trans ?_ (by assumption) | with_reducible refine Ext.drew ?_ | with_reducible refine Ext.drewN ?_ _ | with_reducible refine Ext.alloc ?_ _ | with_reducible refine Ext.setNew ?_ (by simp; done) _ | with_reducible refine Ext.setNew ?_ (by simp; omega) _))⟩
theorem inR_cases' (c : Int) : c < 0 ∨ 4 < c ∨ (0 ≤ c ∧ c ≤ 4 ∧ inR c 0 4 = true) := by
  by_cases h1 : c < 0
  · exact .inl h1
  · by_cases h2 : 4 < c
    · exact .inr (.inl h2)
    · exact .inr (.inr ⟨by omega, by omega, by simp [inR]; omega⟩)
theorem isShape_head (x : Shp) (d : Nat) (hd : d ≤ 5) (h0 : 1 ≤ d) (hf : shpHead x = false) (v : Value) (w : World) (hn : ShapeR w any x v) :
    Calls Tryd.prog 101 #[v, .int .i64 ((6 : Int) - d)] w fun e w' => e = .returned (.bool (shpB x d)) ∧ Grow w w' := by
  obtain ⟨na, nc, ba, bc, ka, kc, rfl, hc⟩ := hn
  obtain ⟨hns, hnb, hk1, hk2, hk3⟩ := hc.parts
  have hl1 : x.names.length ≤ 9223372036854775807 := hns.2.1
  have hl2 : x.needs.length ≤ 9223372036854775807 := hnb.2.1
  have hl3 : x.kids.length ≤ 9223372036854775807 := hk2
  have Hf : Hid (shpB x d = false) := Lib.hid (by rw [shpB_eq, hf]; simp)
  have Hns := Lib.hid hns
  clear hc hns hnb hk1 hk2 hk3
  unfold shapeV
  unfold shpHead at hf
  rcases inR_cases' x.kind with h1 | h1 | ⟨h1, h1', hi⟩
  · clear hf
    go_enter Tryd.func101, Tryd.ntmps101
    go_wp2_with fail
    go_ret
    exact ⟨by simp [Hf.out], (by repeat (first | with_reducible exact Ext.refl _ _ | with_reducible refine Ext.trans ?_ (by assumption) | with_reducible refine Ext.drew ?_ | with_reducible refine Ext.drewN ?_ _ | with_reducible refine Ext.alloc ?_ _ | with_reducible refine Ext.setNew ?_ (by simp; done) _ | with_reducible refine Ext.setNew ?_ (by simp; omega) _))⟩
  · clear hf
    go_enter Tryd.func101, Tryd.ntmps101
    go_wp2_with fail
    go_ret
    exact ⟨by simp [Hf.out], (by repeat (first | with_reducible exact Ext.refl _ _ | with_reducible refine Ext.trans ?_ (by assumption) | with_reducible refine Ext.drew ?_ | with_reducible refine Ext.drewN ?_ _ | with_reducible refine Ext.alloc ?_ _ | with_reducible refine Ext.setNew ?_ (by simp; done) _ | with_reducible refine Ext.setNew ?_ (by simp; omega) _))⟩
  cases h2 : areNamesB x.names
  · clear hf hi
    go_enter Tryd.func101, Tryd.ntmps101
    go_wp2_with (go_at_call 130; refine (areNames_ok na nc x.names _ any (Hns.out.grow (by repeat (first | with_reducible exact Ext.refl _ _ | with_reducible refine Ext.trans ?_ (by assumption) | with_reducible refine Ext.drew ?_ | with_reducible refine Ext.drewN ?_ _ | with_reducible refine Ext.alloc ?_ _ | with_reducible refine Ext.setNew ?_ (by simp; done) _ | with_reducible refine Ext.setNew ?_ (by simp; omega) _)))).mono ?_; rintro e w2 ⟨rfl, hg2⟩; simp only [h2]; have hcc2 := bcell hg2)
    go_ret
    exact ⟨by simp [Hf.out], (by repeat (first | with_reducible exact Ext.refl _ _ | with_reducible refine Ext.trans ?_ (by assumption) | with_reducible refine Ext.drew ?_ | with_reducible refine Ext.drewN ?_ _ | with_reducible refine Ext.alloc ?_ _ | with_reducible refine Ext.setNew ?_ (by simp; done) _ | with_reducible refine Ext.setNew ?_ (by simp; omega) _))⟩
  by_cases h3 : 0 < x.names.length ∧ ¬ x.kind = 4
  · obtain ⟨h3, h4⟩ := h3
    have hb4 : (x.kind != 4) = true := by simpa using h4
    clear hf hi h4
    go_enter Tryd.func101, Tryd.ntmps101
    go_wp2_with (go_at_call 130; refine (areNames_ok na nc x.names _ any (Hns.out.grow (by repeat (first | with_reducible exact Ext.refl _ _ | with_reducible refine Ext.trans ?_ (by assumption) | with_reducible refine Ext.drew ?_ | with_reducible refine Ext.drewN ?_ _ | with_reducible refine Ext.alloc ?_ _ | with_reducible refine Ext.setNew ?_ (by simp; done) _ | with_reducible refine Ext.setNew ?_ (by simp; omega) _)))).mono ?_; rintro e w2 ⟨rfl, hg2⟩; simp only [h2]; have hcc2 := bcell hg2)
    go_ret
    exact ⟨by simp [Hf.out], (by repeat (first | with_reducible exact Ext.refl _ _ | with_reducible refine Ext.trans ?_ (by assumption) | with_reducible refine Ext.drew ?_ | with_reducible refine Ext.drewN ?_ _ | with_reducible refine Ext.alloc ?_ _ | with_reducible refine Ext.setNew ?_ (by simp; done) _ | with_reducible refine Ext.setNew ?_ (by simp; omega) _))⟩
  have Hi := Lib.hid hi
  clear hi
  by_cases h5 : x.needs.length = x.names.length
  rotate_left
  · have hb5 : ((x.needs.length : Int) != (x.names.length : Int)) = true := by rw [ibne]; simp; omega
    clear hf h5
    by_cases hz : x.names.length = 0
    · have hz' : ¬ (0 < (x.names.length : Int)) := by omega
      clear h3 hz
      go_enter Tryd.func101, Tryd.ntmps101
      go_wp2_with (go_at_call 130; refine (areNames_ok na nc x.names _ any (Hns.out.grow (by repeat (first | with_reducible exact Ext.refl _ _ | with_reducible refine Ext.trans ?_ (by assumption) | with_reducible refine Ext.drew ?_ | with_reducible refine Ext.drewN ?_ _ | with_reducible refine Ext.alloc ?_ _ | with_reducible refine Ext.setNew ?_ (by simp; done) _ | with_reducible refine Ext.setNew ?_ (by simp; omega) _)))).mono ?_; rintro e w2 ⟨rfl, hg2⟩; simp only [h2]; have hcc2 := bcell hg2)
      go_ret
      exact ⟨by simp [Hf.out], (by repeat (first | with_reducible exact Ext.refl _ _ | with_reducible refine Ext.trans ?_ (by assumption) | with_reducible refine Ext.drew ?_ | with_reducible refine Ext.drewN ?_ _ | with_reducible refine Ext.alloc ?_ _ | with_reducible refine Ext.setNew ?_ (by simp; done) _ | with_reducible refine Ext.setNew ?_ (by simp; omega) _))⟩
    · have hz' : 0 < (x.names.length : Int) := by omega
      have hb4 : (x.kind != 4) = false := by simp; omega
      clear h3 hz
      go_enter Tryd.func101, Tryd.ntmps101
      go_wp2_with (go_at_call 130; refine (areNames_ok na nc x.names _ any (Hns.out.grow (by repeat (first | with_reducible exact Ext.refl _ _ | with_reducible refine Ext.trans ?_ (by assumption) | with_reducible refine Ext.drew ?_ | with_reducible refine Ext.drewN ?_ _ | with_reducible refine Ext.alloc ?_ _ | with_reducible refine Ext.setNew ?_ (by simp; done) _ | with_reducible refine Ext.setNew ?_ (by simp; omega) _)))).mono ?_; rintro e w2 ⟨rfl, hg2⟩; simp only [h2]; have hcc2 := bcell hg2)
      go_ret
      exact ⟨by simp [Hf.out], (by repeat (first | with_reducible exact Ext.refl _ _ | with_reducible refine Ext.trans ?_ (by assumption) | with_reducible refine Ext.drew ?_ | with_reducible refine Ext.drewN ?_ _ | with_reducible refine Ext.alloc ?_ _ | with_reducible refine Ext.setNew ?_ (by simp; done) _ | with_reducible refine Ext.setNew ?_ (by simp; omega) _))⟩
  have h6 : ¬ x.kids.length = x.names.length := by
    intro h6
    rw [Hi.out, h2] at hf
    by_cases hz : x.names.length = 0
    · simp [hz, h5, h6] at hf
    · have : x.kind = 4 := by omega
      simp [this, h5, h6] at hf
  have hb5 : ((x.needs.length : Int) != (x.names.length : Int)) = false := by simp [h5]
  have hb6 : ((x.kids.length : Int) != (x.names.length : Int)) = true := by rw [ibne]; simp; omega
  clear hf h5 h6
  by_cases hz : x.names.length = 0
  · have hz' : ¬ (0 < (x.names.length : Int)) := by omega
    clear h3 hz
    go_enter Tryd.func101, Tryd.ntmps101
    go_wp2_with (go_at_call 130; refine (areNames_ok na nc x.names _ any (Hns.out.grow (by repeat (first | with_reducible exact Ext.refl _ _ | with_reducible refine Ext.trans ?_ (by assumption) | with_reducible refine Ext.drew ?_ | with_reducible refine Ext.drewN ?_ _ | with_reducible refine Ext.alloc ?_ _ | with_reducible refine Ext.setNew ?_ (by simp; done) _ | with_reducible refine Ext.setNew ?_ (by simp; omega) _)))).mono ?_; rintro e w2 ⟨rfl, hg2⟩; simp only [h2]; have hcc2 := bcell hg2)
    go_ret
    exact ⟨by simp [Hf.out], (by repeat (first | with_reducible exact Ext.refl _ _ | with_reducible refine Ext.trans ?_ (by assumption) | with_reducible refine Ext.drew ?_ | with_reducible refine Ext.drewN ?_ _ | with_reducible refine Ext.alloc ?_ _ | with_reducible refine Ext.setNew ?_ (by simp; done) _ | with_reducible refine Ext.setNew ?_ (by simp; omega) _))⟩
  · have hz' : 0 < (x.names.length : Int) := by omega
    have hb4 : (x.kind != 4) = false := by simp; omega
    clear h3 hz
    go_enter Tryd.func101, Tryd.ntmps101
    go_wp2_with (go_at_call 130; refine (areNames_ok na nc x.names _ any (Hns.out.grow (by repeat (first | with_reducible exact Ext.refl _ _ | with_reducible refine Ext.trans ?_ (by assumption) | with_reducible refine Ext.drew ?_ | with_reducible refine Ext.drewN ?_ _ | with_reducible refine Ext.alloc ?_ _ | with_reducible refine Ext.setNew ?_ (by simp; done) _ | with_reducible refine Ext.setNew ?_ (by simp; omega) _)))).mono ?_; rintro e w2 ⟨rfl, hg2⟩; simp only [h2]; have hcc2 := bcell hg2)
    go_ret
    exact ⟨by simp [Hf.out], (by repeat (first | with_reducible exact Ext.refl _ _ | with_reducible refine Ext.trans ?_ (by assumption) | with_reducible refine Ext.drew ?_ | with_reducible refine Ext.drewN ?_ _ | with_reducible refine Ext.alloc ?_ _ | with_reducible refine Ext.setNew ?_ (by simp; done) _ | with_reducible refine Ext.setNew ?_ (by simp; omega) _))⟩
theorem shpHead_parts {x : Shp} (h : shpHead x = true) : 0 ≤ x.kind ∧ x.kind ≤ 4 ∧ areNamesB x.names = true ∧ x.needs.length = x.names.length ∧ x.kids.length = x.names.length ∧ (x.names.length = 0 ∨ x.kind = 4) := by
  unfold shpHead inR at h
  simp only [Bool.and_eq_true, decide_eq_true_eq, Bool.not_eq_true', Bool.and_eq_false_iff, decide_eq_false_iff_not] at h
  obtain ⟨⟨⟨⟨⟨h1, h1'⟩, h2⟩, h3⟩, h4⟩, h5⟩ := h
  refine ⟨h1, h1', h2, h4, h5, ?_⟩
  rcases h3 with h3 | h3
  · left; omega
  · right; omega
theorem shpL_get {l : List Shp} {d : Nat} {k : Nat} (hk : k < l.length) (h : shpB l[k] d = false) : shpL l d = false := by
  rw [shpL_all, List.all_eq_false]
  exact ⟨l[k], List.getElem_mem hk, by simp [h]⟩
theorem isShape_loop (x : Shp) (ih : ∀ k ∈ x.kids, IsShpOk k) (d : Nat) (hd : d + 1 ≤ 5) (hf : shpHead x = true) (v : Value) (w : World) (hn : ShapeR w any x v) :
    Calls Tryd.prog 101 #[v, .int .i64 ((6 : Int) - ((d + 1 : Nat) : Int))] w fun e w' => e = .returned (.bool (shpB x (d + 1))) ∧ Grow w w' := by
  obtain ⟨na, nc, ba, bc, ka, kc, rfl, hc⟩ := hn
  obtain ⟨hns, hnb, hk1, hk2, hk3⟩ := hc.parts
  have hl1 : x.names.length ≤ 9223372036854775807 := hns.2.1
  have hl2 : x.needs.length ≤ 9223372036854775807 := hnb.2.1
  have hl3 : x.kids.length ≤ 9223372036854775807 := hk2
  have Hf : Hid (shpB x (d + 1) = shpL x.kids d) := Lib.hid (by rw [shpB_eq, hf]; simp)
  have Hns := Lib.hid hns
  have Hk3 := Lib.hid hk3
  have Ih := Lib.hid ih
  obtain ⟨p1, p2, h2, p4, p5, p6⟩ := shpHead_parts hf
  have hb5 : ((x.needs.length : Int) != (x.names.length : Int)) = false := by simp [p4]
  have hb6 : ((x.kids.length : Int) != (x.names.length : Int)) = false := by simp [p5]
  obtain ⟨lev, hlev⟩ : ∃ lev : Int, lev = (6 : Int) - ((d + 1 : Nat) : Int) := ⟨_, rfl⟩
  rw [← hlev]
  have q1 : 1 ≤ lev := by omega
  have q2 : lev ≤ 5 := by omega
  have Hlev := Lib.hid hlev
  have H2 := Lib.hid h2
  clear hc hns hnb hk1 hk2 hk3 hf ih p4 p5 h2 hlev
  unfold shapeV
  rcases p6 with p6 | p6
  · have hz : ¬ (0 < (x.names.length : Int)) := by omega
    clear p6
    go_enter Tryd.func101, Tryd.ntmps101
    go_wp2_with (go_at_call 130; refine (areNames_ok na nc x.names _ any (Hns.out.grow (by repeat (first | with_reducible exact Ext.refl _ _ | with_reducible refine Ext.trans ?_ (by assumption) | with_reducible refine Ext.drew ?_ | with_reducible refine Ext.drewN ?_ _ | with_reducible refine Ext.alloc ?_ _ | with_reducible refine Ext.setNew ?_ (by simp; done) _ | with_reducible refine Ext.setNew ?_ (by simp; omega) _)))).mono ?_; rintro e w2 ⟨rfl, hg2⟩; simp only [H2.out]; have hcc2 := bcell hg2)
    (have hg0 : Grow w w2 := (by repeat (first | with_reducible exact Ext.refl _ _ | with_reducible refine Ext.trans ?_ (by assumption) | with_reducible refine Ext.drew ?_ | with_reducible refine Ext.drewN ?_ _ | with_reducible refine Ext.alloc ?_ _ | with_reducible refine Ext.setNew ?_ (by simp; done) _ | with_reducible refine Ext.setNew ?_ (by simp; omega) _))
     clear hg2 hcc2
     go_loopw [4, 53] (fun t4 i wr => t4 = .bool false ∧ Grow w wr ∧ ∃ k : Nat, k ≤ x.kids.length ∧ i = .int .i64 k ∧ shpL x.kids d = shpL (x.kids.drop k) d) (fun _ i _ => x.kids.length - (intOf i).toNat)
     case atStart => exact ⟨rfl, hg0, 0, Nat.zero_le _, rfl, rfl⟩
     case round =>
       obtain ⟨rfl, hgr, k, hk, rfl, hs⟩ := hrel
       have Hs := Lib.hid hs
       clear hs
       by_cases hlt : k < x.kids.length
       · rcases Hk3.out with hks | ⟨bk, ok, rfl, _, hkr⟩
         · simp [hks] at hlt
         obtain ⟨na', nc', ba', bc', ka', kc', c0, c1, c2, c3, hkc⟩ := (hkr.ext hgr (fun _ _ h => h) (fun h => h)).get k hlt
         have Hkc : Hid (ShapeR wr any x.kids[k] (shapeV x.kids[k] na' nc' ba' bc' ka' kc')) := Lib.hid ⟨_, _, _, _, _, _, rfl, hkc⟩
         clear hkr hkc
         cases hsk : shpB x.kids[k] d
         · have Hsk := Lib.hid hsk
           have Hff := Lib.hid (shpL_get hlt hsk)
           clear hsk
           have e1 : Hid (lev + 1 = (6 : Int) - (d : Int)) := Lib.hid (by have := Hlev.out; omega)
           go_wp2_with (go_at_call 101; rw [e1.out]; refine (Ih.out _ (List.getElem_mem hlt) d _ _ (by omega) (Hkc.out.grow (by repeat (first | with_reducible exact Ext.refl _ _ | with_reducible refine Ext.trans ?_ (by assumption) | with_reducible refine Ext.drew ?_ | with_reducible refine Ext.drewN ?_ _ | with_reducible refine Ext.alloc ?_ _ | with_reducible refine Ext.setNew ?_ (by simp; done) _ | with_reducible refine Ext.setNew ?_ (by simp; omega) _)))).mono ?_; rintro e w3 ⟨rfl, hg3⟩; simp only [Hsk.out])
           go_ret
           exact ⟨by simp [Hf.out, Hff.out], (by repeat (first | with_reducible exact Ext.refl _ _ | with_reducible refine Ext.trans ?_ (by assumption) | with_reducible refine Ext.drew ?_ | with_reducible refine Ext.drewN ?_ _ | with_reducible refine Ext.alloc ?_ _ | with_reducible refine Ext.setNew ?_ (by simp; done) _ | with_reducible refine Ext.setNew ?_ (by simp; omega) _))⟩
         · have Hsk := Lib.hid hsk
           clear hsk
           have e1 : Hid (lev + 1 = (6 : Int) - (d : Int)) := Lib.hid (by have := Hlev.out; omega)
           go_wp2_with (go_at_call 101; rw [e1.out]; refine (Ih.out _ (List.getElem_mem hlt) d _ _ (by omega) (Hkc.out.grow (by repeat (first | with_reducible exact Ext.refl _ _ | with_reducible refine Ext.trans ?_ (by assumption) | with_reducible refine Ext.drew ?_ | with_reducible refine Ext.drewN ?_ _ | with_reducible refine Ext.alloc ?_ _ | with_reducible refine Ext.setNew ?_ (by simp; done) _ | with_reducible refine Ext.setNew ?_ (by simp; omega) _)))).mono ?_; rintro e w3 ⟨rfl, hg3⟩; simp only [Hsk.out])
           go_roundw
           case rel => exact ⟨rfl, (by repeat (first | with_reducible exact Ext.refl _ _ | with_reducible refine Ext.trans ?_ (by assumption) | with_reducible refine Ext.drew ?_ | with_reducible refine Ext.drewN ?_ _ | with_reducible refine Ext.alloc ?_ _ | with_reducible refine Ext.setNew ?_ (by simp; done) _ | with_reducible refine Ext.setNew ?_ (by simp; omega) _)), k + 1, by omega, by go_num, by rw [Hs.out, drop_cons _ _ hlt, shpL, Hsk.out]; rfl⟩
           case measure => simp [intOf]; omega
       · go_wp2
         go_ret
         exact ⟨by simp [Hf.out, Hs.out, List.drop_eq_nil_of_le (Nat.le_of_not_lt hlt), shpL], hgr⟩)
  · have hb4 : (x.kind != 4) = false := by simp [p6]
    clear p6
    by_cases hz : 0 < (x.names.length : Int)
    · go_enter Tryd.func101, Tryd.ntmps101
      go_wp2_with (go_at_call 130; refine (areNames_ok na nc x.names _ any (Hns.out.grow (by repeat (first | with_reducible exact Ext.refl _ _ | with_reducible refine Ext.trans ?_ (by assumption) | with_reducible refine Ext.drew ?_ | with_reducible refine Ext.drewN ?_ _ | with_reducible refine Ext.alloc ?_ _ | with_reducible refine Ext.setNew ?_ (by simp; done) _ | with_reducible refine Ext.setNew ?_ (by simp; omega) _)))).mono ?_; rintro e w2 ⟨rfl, hg2⟩; simp only [H2.out]; have hcc2 := bcell hg2)
      (have hg0 : Grow w w2 := (by repeat (first | with_reducible exact Ext.refl _ _ | with_reducible refine Ext.trans ?_ (by assumption) | with_reducible refine Ext.drew ?_ | with_reducible refine Ext.drewN ?_ _ | with_reducible refine Ext.alloc ?_ _ | with_reducible refine Ext.setNew ?_ (by simp; done) _ | with_reducible refine Ext.setNew ?_ (by simp; omega) _))
       clear hg2 hcc2
       go_loopw [4, 53] (fun t4 i wr => t4 = .bool false ∧ Grow w wr ∧ ∃ k : Nat, k ≤ x.kids.length ∧ i = .int .i64 k ∧ shpL x.kids d = shpL (x.kids.drop k) d) (fun _ i _ => x.kids.length - (intOf i).toNat)
       case atStart => exact ⟨rfl, hg0, 0, Nat.zero_le _, rfl, rfl⟩
       case round =>
         obtain ⟨rfl, hgr, k, hk, rfl, hs⟩ := hrel
         have Hs := Lib.hid hs
         clear hs
         by_cases hlt : k < x.kids.length
         · rcases Hk3.out with hks | ⟨bk, ok, rfl, _, hkr⟩
           · simp [hks] at hlt
           obtain ⟨na', nc', ba', bc', ka', kc', c0, c1, c2, c3, hkc⟩ := (hkr.ext hgr (fun _ _ h => h) (fun h => h)).get k hlt
           have Hkc : Hid (ShapeR wr any x.kids[k] (shapeV x.kids[k] na' nc' ba' bc' ka' kc')) := Lib.hid ⟨_, _, _, _, _, _, rfl, hkc⟩
           clear hkr hkc
           cases hsk : shpB x.kids[k] d
           · have Hsk := Lib.hid hsk
             have Hff := Lib.hid (shpL_get hlt hsk)
             clear hsk
             have e1 : Hid (lev + 1 = (6 : Int) - (d : Int)) := Lib.hid (by have := Hlev.out; omega)
             go_wp2_with (go_at_call 101; rw [e1.out]; refine (Ih.out _ (List.getElem_mem hlt) d _ _ (by omega) (Hkc.out.grow (by repeat (first | with_reducible exact Ext.refl _ _ | with_reducible refine Ext.trans ?_ (by assumption) | with_reducible refine Ext.drew ?_ | with_reducible refine Ext.drewN ?_ _ | with_reducible refine Ext.alloc ?_ _ | with_reducible refine Ext.setNew ?_ (by simp; done) _ | with_reducible refine Ext.setNew ?_ (by simp; omega) _)))).mono ?_; rintro e w3 ⟨rfl, hg3⟩; simp only [Hsk.out])
             go_ret
             exact ⟨by simp [Hf.out, Hff.out], (by repeat (first | with_reducible exact Ext.refl _ _ | with_reducible refine Ext.trans ?_ (by assumption) | with_reducible refine Ext.drew ?_ | with_reducible refine Ext.drewN ?_ _ | with_reducible refine Ext.alloc ?_ _ | with_reducible refine Ext.setNew ?_ (by simp; done) _ | with_reducible refine Ext.setNew ?_ (by simp; omega) _))⟩
           · have Hsk := Lib.hid hsk
             clear hsk
             have e1 : Hid (lev + 1 = (6 : Int) - (d : Int)) := Lib.hid (by have := Hlev.out; omega)
             go_wp2_with (go_at_call 101; rw [e1.out]; refine (Ih.out _ (List.getElem_mem hlt) d _ _ (by omega) (Hkc.out.grow (by repeat (first | with_reducible exact Ext.refl _ _ | with_reducible refine Ext.trans ?_ (by assumption) | with_reducible refine Ext.drew ?_ | with_reducible refine Ext.drewN ?_ _ | with_reducible refine Ext.alloc ?_ _ | with_reducible refine Ext.setNew ?_ (by simp; done) _ | with_reducible refine Ext.setNew ?_ (by simp; omega) _)))).mono ?_; rintro e w3 ⟨rfl, hg3⟩; simp only [Hsk.out])
             go_roundw
             case rel => exact ⟨rfl, (by repeat (first | with_reducible exact Ext.refl _ _ | with_reducible refine Ext.trans ?_ (by assumption) | with_reducible refine Ext.drew ?_ | with_reducible refine Ext.drewN ?_ _ | with_reducible refine Ext.alloc ?_ _ | with_reducible refine Ext.setNew ?_ (by simp; done) _ | with_reducible refine Ext.setNew ?_ (by simp; omega) _)), k + 1, by omega, by go_num, by rw [Hs.out, drop_cons _ _ hlt, shpL, Hsk.out]; rfl⟩
             case measure => simp [intOf]; omega
         · go_wp2
           go_ret
           exact ⟨by simp [Hf.out, Hs.out, List.drop_eq_nil_of_le (Nat.le_of_not_lt hlt), shpL], hgr⟩)
    · go_enter Tryd.func101, Tryd.ntmps101
      go_wp2_with (go_at_call 130; refine (areNames_ok na nc x.names _ any (Hns.out.grow (by repeat (first | with_reducible exact Ext.refl _ _ | with_reducible refine Ext.trans ?_ (by assumption) | with_reducible refine Ext.drew ?_ | with_reducible refine Ext.drewN ?_ _ | with_reducible refine Ext.alloc ?_ _ | with_reducible refine Ext.setNew ?_ (by simp; done) _ | with_reducible refine Ext.setNew ?_ (by simp; omega) _)))).mono ?_; rintro e w2 ⟨rfl, hg2⟩; simp only [H2.out]; have hcc2 := bcell hg2)
      (have hg0 : Grow w w2 := (by repeat (first | with_reducible exact Ext.refl _ _ | with_reducible refine Ext.trans ?_ (by assumption) | with_reducible refine Ext.drew ?_ | with_reducible refine Ext.drewN ?_ _ | with_reducible refine Ext.alloc ?_ _ | with_reducible refine Ext.setNew ?_ (by simp; done) _ | with_reducible refine Ext.setNew ?_ (by simp; omega) _))
       clear hg2 hcc2
       go_loopw [4, 53] (fun t4 i wr => t4 = .bool false ∧ Grow w wr ∧ ∃ k : Nat, k ≤ x.kids.length ∧ i = .int .i64 k ∧ shpL x.kids d = shpL (x.kids.drop k) d) (fun _ i _ => x.kids.length - (intOf i).toNat)
       case atStart => exact ⟨rfl, hg0, 0, Nat.zero_le _, rfl, rfl⟩
       case round =>
         obtain ⟨rfl, hgr, k, hk, rfl, hs⟩ := hrel
         have Hs := Lib.hid hs
         clear hs
         by_cases hlt : k < x.kids.length
         · rcases Hk3.out with hks | ⟨bk, ok, rfl, _, hkr⟩
           · simp [hks] at hlt
           obtain ⟨na', nc', ba', bc', ka', kc', c0, c1, c2, c3, hkc⟩ := (hkr.ext hgr (fun _ _ h => h) (fun h => h)).get k hlt
           have Hkc : Hid (ShapeR wr any x.kids[k] (shapeV x.kids[k] na' nc' ba' bc' ka' kc')) := Lib.hid ⟨_, _, _, _, _, _, rfl, hkc⟩
           clear hkr hkc
           cases hsk : shpB x.kids[k] d
           · have Hsk := Lib.hid hsk
             have Hff := Lib.hid (shpL_get hlt hsk)
             clear hsk
             have e1 : Hid (lev + 1 = (6 : Int) - (d : Int)) := Lib.hid (by have := Hlev.out; omega)
             go_wp2_with (go_at_call 101; rw [e1.out]; refine (Ih.out _ (List.getElem_mem hlt) d _ _ (by omega) (Hkc.out.grow (by repeat (first | with_reducible exact Ext.refl _ _ | with_reducible refine Ext.trans ?_ (by assumption) | with_reducible refine Ext.drew ?_ | with_reducible refine Ext.drewN ?_ _ | with_reducible refine Ext.alloc ?_ _ | with_reducible refine Ext.setNew ?_ (by simp; done) _ | with_reducible refine Ext.setNew ?_ (by simp; omega) _)))).mono ?_; rintro e w3 ⟨rfl, hg3⟩; simp only [Hsk.out])
             go_ret
             exact ⟨by simp [Hf.out, Hff.out], (by repeat (first | with_reducible exact Ext.refl _ _ | with_reducible refine Ext.trans ?_ (by assumption) | with_reducible refine Ext.drew ?_ | with_reducible refine Ext.drewN ?_ _ | with_reducible refine Ext.alloc ?_ _ | with_reducible refine Ext.setNew ?_ (by simp; done) _ | with_reducible refine Ext.setNew ?_ (by simp; omega) _))⟩
           · have Hsk := Lib.hid hsk
             clear hsk
             have e1 : Hid (lev + 1 = (6 : Int) - (d : Int)) := Lib.hid (by have := Hlev.out; omega)
             go_wp2_with (go_at_call 101; rw [e1.out]; refine (Ih.out _ (List.getElem_mem hlt) d _ _ (by omega) (Hkc.out.grow (by repeat (first | with_reducible exact Ext.refl _ _ | with_reducible refine Ext.trans ?_ (by assumption) | with_reducible refine Ext.drew ?_ | with_reducible refine Ext.drewN ?_ _ | with_reducible refine Ext.alloc ?_ _ | with_reducible refine Ext.setNew ?_ (by simp; done) _ | with_reducible refine Ext.setNew ?_ (by simp; omega) _)))).mono ?_; rintro e w3 ⟨rfl, hg3⟩; simp only [Hsk.out])
             go_roundw
             case rel => exact ⟨rfl, (by repeat (first | with_reducible exact Ext.refl _ _ | with_reducible refine Ext.trans ?_ (by assumption) | with_reducible refine Ext.drew ?_ | with_reducible refine Ext.drewN ?_ _ | with_reducible refine Ext.alloc ?_ _ | with_reducible refine Ext.setNew ?_ (by simp; done) _ | with_reducible refine Ext.setNew ?_ (by simp; omega) _)), k + 1, by omega, by go_num, by rw [Hs.out, drop_cons _ _ hlt, shpL, Hsk.out]; rfl⟩
             case measure => simp [intOf]; omega
         · go_wp2
           go_ret
           exact ⟨by simp [Hf.out, Hs.out, List.drop_eq_nil_of_le (Nat.le_of_not_lt hlt), shpL], hgr⟩)
theorem isShape_ok : ∀ x, IsShpOk x := by
  refine Shp.ind' IsShpOk ?_
  intro x ih d v w hd hn
  by_cases h0 : d = 0
  · subst h0
    exact isShape_zero x v w hn
  · cases hf : shpHead x
    · exact isShape_head x d hd (by omega) hf v w hn
    · obtain ⟨d, rfl⟩ : ∃ d', d = d' + 1 := ⟨d - 1, by omega⟩
      exact isShape_loop x ih d hd hf v w hn
end Go.Proofs.YtfjaobfaepjfnaaDoor
namespace Go.Proofs.YtfjaobfaepjfnaaDoor
open Go.RowKit
end Go.Proofs.YtfjaobfaepjfnaaDoor
namespace Go.Proofs.YtfjaobfaepjfnaaDoor
open Go.RowKit
def Good (n : Nd) : Prop := ∃ d, shapeB n d = true
def GoodS (x : Shp) : Prop := ∃ d, d ≤ 5 ∧ shpB x d = true
theorem Good.parts {n : Nd} (h : Good n) : partsB n = true := by
  obtain ⟨d, h⟩ := h
  rw [shapeB_eq] at h
  simp only [Bool.and_eq_true] at h
  exact h.1.2
theorem Good.kid {n k : Nd} (h : Good n) (hk : k ∈ n.kids) : Good k := by
  obtain ⟨d, h⟩ := h
  rw [shapeB_eq, shapeL_all] at h
  simp only [Bool.and_eq_true, List.all_eq_true] at h
  exact ⟨d - 1, h.2 k hk⟩
theorem Good.zero : Good Nd.zero := ⟨1, by simp [shapeB_eq, partsB, Nd.zero, shapeL]⟩
theorem Good.kids6 {n : Nd} (h : Good n) : n.kids.length ≤ 6 := partsB_kids h.parts
theorem Good.map {n : Nd} (h : Good n) (hk : n.kind = 4) : Asc n.names ∧ n.kids.length = n.names.length := by
  have hp := h.parts
  simp only [partsB, hk, Bool.and_eq_true] at hp
  simp [areNamesB] at hp
  exact ⟨namesB_asc hp.2.1.2, hp.2.2⟩
theorem Good.other {n : Nd} (h : Good n) (hk : n.kind ≠ 4) : n.names = [] := by
  have hp := h.parts
  simp only [partsB, hk, Bool.and_eq_true] at hp
  simp at hp
  exact hp.1.2
theorem Good.asc {n : Nd} (h : Good n) : Asc n.names := by
  by_cases hk : n.kind = 4
  · exact (h.map hk).1
  · rw [h.other hk]; intro i j hi; simp at hi
theorem Good.len {n : Nd} (h : Good n) : n.names.length ≤ n.kids.length := by
  by_cases hk : n.kind = 4
  · rw [(h.map hk).2]; exact Nat.le_refl _
  · rw [h.other hk]; exact Nat.zero_le _
theorem Good.kidOf {n : Nd} (h : Good n) (s : ByteArray) : Good (kidOf n s) := by
  cases hm : mem n.names s
  · rw [kidOf_no hm]; exact Good.zero
  · exact h.kid (kidOf_mem h.asc h.len hm)
theorem validB_good {n : Nd} (h : validB n = true) : Good n := by
  simp only [validB, Bool.and_eq_true] at h
  exact ⟨5, h.1⟩
theorem GoodS.head {x : Shp} (h : GoodS x) : shpHead x = true := by
  obtain ⟨d, _, h⟩ := h
  rw [shpB_eq] at h
  simp only [Bool.and_eq_true] at h
  exact h.1.2
theorem GoodS.kid {x k : Shp} (h : GoodS x) (hk : k ∈ x.kids) : GoodS k := by
  obtain ⟨d, hd, h⟩ := h
  rw [shpB_eq, shpL_all] at h
  simp only [Bool.and_eq_true, List.all_eq_true] at h
  exact ⟨d - 1, by omega, h.2 k hk⟩
mutual
def fitB : Shp → Nd → Bool
  | ⟨kind, names, needs, kids⟩, n => (decide (kind = 0) || decide (n.kind = kind)) && fitL names needs kids n
def fitL : List ByteArray → List Bool → List Shp → Nd → Bool
  | nm :: ns, nd :: bs, k :: ks, n => (if mem n.names nm then fitB k (kidOf n nm) else !nd) && fitL ns bs ks n
  | _, _, _, _ => true
end
theorem fitB_eq (x : Shp) (n : Nd) : fitB x n = ((decide (x.kind = 0) || decide (n.kind = x.kind)) && fitL x.names x.needs x.kids n) := by cases x; simp [fitB]
theorem placeFrom_map {n : Nd} {s : ByteArray} (hk : n.kind = 4) (ha : Asc n.names) (hl : n.kids.length = n.names.length) : ∀ (m i : Nat), m + i = n.kids.length → (∀ t (h : t < n.names.length), t < i → n.names[t] ≠ s) →
    placeFrom n s i m = if mem n.names s then (lbound n.names s : Int) else -1
  | 0, i, h, hno => by
    have : mem n.names s = false := mem_no (fun hm => by
      obtain ⟨t, ht, he⟩ := List.getElem_of_mem hm
      exact hno t ht (by omega) he)
    simp [placeFrom, this]
  | m + 1, i, h, hno => by
    have hi : i < n.names.length := by omega
    rw [placeFrom]
    by_cases e : n.names[i] = s
    · have hm : mem n.names s = true := mem_iff.2 (e ▸ List.getElem_mem hi)
      have hh : hit n s i = true := by simp [hit, hk, hi, e]
      have : lbound n.names s = i := lb_of (Nat.le_of_lt hi) (fun t ht hti => by rw [← e]; exact ha t i ht hi hti) (fun t ht hti => by
        rcases Nat.eq_or_lt_of_le hti with rfl | h'
        · rw [e]; exact lt_irr _
        · rw [← e]; exact bl_asymm _ _ (ha i t hi ht h'))
      simp [hh, hm, this]
    · have hh : hit n s i = false := by simp [hit, hk, hi, e]
      rw [hh]
      exact placeFrom_map hk ha hl m (i + 1) (by omega) (fun t ht hti => by
        rcases Nat.eq_or_lt_of_le (show t ≤ i by omega) with rfl | h'
        · exact e
        · exact hno t ht h')
theorem place_map {n : Nd} (h : Good n) (hk : n.kind = 4) (s : ByteArray) : placeOf n s = if mem n.names s then (lbound n.names s : Int) else -1 :=
  placeFrom_map hk (h.map hk).1 (h.map hk).2 _ 0 (by omega) (fun t _ h' => absurd h' (by omega))
end Go.Proofs.YtfjaobfaepjfnaaDoor
namespace Go.Proofs.YtfjaobfaepjfnaaDoor
open Go.RowKit
def sgnI (a b : Int) : Int := if a < b then -1 else if b < a then 1 else 0
def sgnT (a b : ByteArray) : Int := if lt a b then -1 else if lt b a then 1 else 0
end Go.Proofs.YtfjaobfaepjfnaaDoor
namespace Go.Proofs.YtfjaobfaepjfnaaDoor
open Go.RowKit
mutual
def cmpN : Nd → Nd → Int
  | ⟨kind, num, text, names, kids⟩, b =>
    if sgnI kind b.kind ≠ 0 then sgnI kind b.kind else if sgnI num b.num ≠ 0 then sgnI num b.num else if sgnT text b.text ≠ 0 then sgnT text b.text
    else cmpKs (decide (kind = 4)) names b.names kids b.kids
def cmpKs : Bool → List ByteArray → List ByteArray → List Nd → List Nd → Int
  | m, ns, ms, k :: ks, j :: js =>
    if m = true ∧ sgnT (ns.headD ⟨#[]⟩) (ms.headD ⟨#[]⟩) ≠ 0 then sgnT (ns.headD ⟨#[]⟩) (ms.headD ⟨#[]⟩) else if cmpN k j ≠ 0 then cmpN k j else cmpKs m ns.tail ms.tail ks js
  | _, _, _, [], js => sgnI 0 js.length
  | _, _, _, ks, [] => sgnI ks.length 0
end
end Go.Proofs.YtfjaobfaepjfnaaDoor
namespace Go.Proofs.YtfjaobfaepjfnaaDoor
open Go.RowKit
theorem Good.names {n : Nd} (h : Good n) (h4 : n.kind ≠ 4) : n.names = [] := by
  have hp := h.parts
  unfold partsB at hp
  simp only [Bool.and_eq_true, Bool.or_eq_true, decide_eq_true_eq] at hp
  rcases hp.1.2 with h | h
  · exact absurd h h4
  · exact List.length_eq_zero_iff.1 (by simpa using h)
end Go.Proofs.YtfjaobfaepjfnaaDoor
namespace Go.Proofs.YtfjaobfaepjfnaaDoor
open Go.RowKit
end Go.Proofs.YtfjaobfaepjfnaaDoor
-- EV: rows skip
namespace Go.Proofs.YtfjaobfaepjfnaaDoor.Eng
open Go Go.RowKit
attribute [local simp] big size_mk ASt.pay Option.map_map Function.comp_def awant aop acall ado aev ofVal ofVal0 ASt.put ASt.add ASt.turn ASt.kill abox aalloc astore aload aloadD astoreD idOf ASt.at cellsTo afieldAddr afield aindexAddr aindex alen abin aint acmp astr aun apick aextract anil aslice abound abuild afill abuildSlice asCells aps avCells over upd aappend asrc amax amin aconv mkSt slots rowsOf_cons rowsOf_nil usedOf_cons usedOf_nil ZK.av List.replicate ASt.back ASt.addL ASt.killL nodeA nodeT nodeTL_eq nodeL_eq strsE_get strsE_len intsE_get intsE_len strsE_at intsE_at nodeN namesRow nodeO kidsRow tab2 tab3 tab4 tab5 tab6 tab7 tab8 tab9 tab10 tab11 tab12 tab13 tab14 tab15 tab16 tab17 tab18 tab19 tab21 tab22 tab23 tab24 tab25 tab26 tab28 tab29 tab30 tab31 tab42 tab43 tab44 tab46 tab63 tab64 tab67 tab68 tab75 tab98 tab100 tab101 tab105 tab106 tab107 tab122 tab123 tab125 tab128 tab138 tab144 tab151 tab152 tab157 tab158 tab160 tab161 tab162
end Go.Proofs.YtfjaobfaepjfnaaDoor.Eng
namespace Go.Proofs.YtfjaobfaepjfnaaDoor
open Go Go.RowKit
section
variable {P : Program} {ops : Array Oper} {Vs : Nat → Option (Value → World → Prop)} {w : World} {Q : Act → World → Prop}
theorem drew_grow {w w' : World} (h : Grow w.drew w') : Grow w w' := ((Ext.refl nil w).drew).trans h
theorem wpStab_made' {o : Oper} {rest : List Oper} {k : Nat} {a : Act} {E : Env} (V : Value → World → Prop) (hw : Region.wanted o (yielded ops a.tmps) = true) (hV : Vs k = some V)
    (h : ∀ x : Later w, (∀ e ∈ o.after, Region.binds .any e = true → E e.on (later w x)) → stabAt Grow P o a (later w x) V)
    (h2 : ∀ v, (∃ x : Later w, V v (later w x)) → wpStab P ops Grow Vs (fun w' => Grow w.drew w') Q rest (k + 1) (a.put o.dst v) (E.upd k (V v))) :
    wpStab P ops Grow Vs (fun w' => Grow w.drew w') Q (o :: rest) k a E := by
  unfold wpStab
  rw [if_pos hw]
  unfold does
  rw [hV]
  exact ⟨fun w' hc => h ⟨w', drew_grow hc.1⟩ hc.2, fun v w' hc _ hv => h2 v ⟨⟨w', drew_grow hc⟩, hv⟩⟩
theorem wpStab_end' {k : Nat} {a : Act} {E : Env} (h : ∀ w', Grow w w' → (∀ j, E j w') → Q a w') : wpStab P ops Grow Vs (fun w' => Grow w.drew w') Q [] k a E :=
  fun w' hc hE => h w' (drew_grow hc) hE
theorem stabAt_call {o : Oper} {a : Act} {w : World} {V : Value → World → Prop} {f : FuncId} {args : Array Value} (h : (execOp a.eval o).run P w = .ok (.enter f args) w)
    (hc : Calls P f args w fun e w' => ∃ v, e = .returned v ∧ Grow w w' ∧ V v w') : stabAt Grow P o a w V := by
  unfold stabAt
  rw [h]
  exact ⟨rfl, hc⟩
end
end Go.Proofs.YtfjaobfaepjfnaaDoor
namespace Go.Proofs.YtfjaobfaepjfnaaDoor
open Go Go.RowKit
def easy (o : Oper) : Bool :=
  match o.op with
  | .move _ | .assign _ | .pick _ _ _ | .load _ _ | .fieldAddr _ _ _ | .indexAddr _ _ _ | .index _ _ _ | .field _ _ _ | .extract _ _ | .binOp _ _ _ _ _ | .unOp _ _ _ | .convert _ _ _ | .slice _ _ _ _ _ | .build _ _ => true
  | .call { callee := .builtin .len, args := _, argTypes := _ } => true
  | _ => false
theorem pureVal_run {P : Program} (s : Sem Value) (w w' : World) (f : FuncId) (args : Array Value) : (do pure (Next.value (← s)) : Sem Next).run P w ≠ .ok (.enter f args) w' := by
  intro h
  have : (do pure (Next.value (← s)) : Sem Next).run P w = (s.run P w).andThen fun a w' => .ok (.value a) w' := by
    simp [Result.andThen]
  rw [this] at h
  cases hs : s.run P w with
  | ok a w1 => rw [hs] at h; simp [Result.andThen] at h
  | halt x w1 => rw [hs] at h; simp [Result.andThen] at h
theorem noEnter {P : Program} {o : Oper} (he : easy o = true) (ρ : Operand → Value) (w w' : World) (f : FuncId) (args : Array Value) : (execOp ρ o).run P w ≠ .ok (.enter f args) w' := by
  obtain ⟨dst, op, type, pos, after, guard⟩ := o
  cases op <;> simp only [easy, Bool.false_eq_true] at he
  case move x => intro h; simp [execOp] at h
  case assign x => intro h; simp [execOp] at h
  case pick c a b =>
    intro h
    have : (execOp ρ ⟨dst, .pick c a b, type, pos, after, guard⟩).run P w = ((asBool (ρ c)).run P w).andThen fun q w' => .ok (.value (if q then ρ a else ρ b)) w' := by
      simp [execOp, Result.andThen]
    rw [this] at h
    cases hs : (asBool (ρ c)).run P w with
    | ok a w1 => rw [hs] at h; simp [Result.andThen] at h
    | halt x w1 => rw [hs] at h; simp [Result.andThen] at h
  case load t a => exact pureVal_run _ _ _ _ _
  case fieldAddr => exact pureVal_run _ _ _ _ _
  case indexAddr => exact pureVal_run _ _ _ _ _
  case index => exact pureVal_run _ _ _ _ _
  case field => exact pureVal_run _ _ _ _ _
  case extract => exact pureVal_run _ _ _ _ _
  case binOp => exact pureVal_run _ _ _ _ _
  case unOp => exact pureVal_run _ _ _ _ _
  case convert => exact pureVal_run _ _ _ _ _
  case slice => exact pureVal_run _ _ _ _ _
  case build => exact pureVal_run _ _ _ _ _
  case call c =>
    obtain ⟨callee, args', tys⟩ := c
    cases callee with
    | value x => simp at he
    | invoke r m => simp at he
    | builtin b =>
      cases b <;> simp at he
      intro h
      simp [execOp, resolve, invoke, builtin] at h
      cases hs : (Builtin.len_ tys type (Array.map ρ args')).run P w with
      | ok a w1 => rw [hs] at h; simp [Result.andThen] at h
      | halt x w1 => rw [hs] at h; simp [Result.andThen] at h
section
variable {P : Program} {ops : Array Oper} {Vs : Nat → Option (Value → World → Prop)} {w : World} {Q : Act → World → Prop}
theorem wpStab_quiet {o : Oper} {rest : List Oper} {k : Nat} {a : Act} {E : Env} (he : easy o = true) (hw : Region.wanted o (yielded ops a.tmps) = true) (hV : Vs k = none)
    (h : ∀ K : Act → Prop, (∀ a, wpStab P ops Grow Vs (fun w' => Grow w.drew w') Q rest (k + 1) a E → K a) → o.quiet P a (fun w' => ∃ x, w' = later w x) K) :
    wpStab P ops Grow Vs (fun w' => Grow w.drew w') Q (o :: rest) k a E := by
  unfold wpStab
  rw [if_pos hw]
  unfold does
  rw [hV]
  obtain ⟨v, h1, h2⟩ := h _ (fun _ h => h)
  refine ⟨v, fun w' hc => ?_, h2⟩
  have h3 := h1 w' ⟨⟨w', drew_grow hc.1⟩, rfl⟩
  unfold Oper.quietAt at h3
  unfold valAt
  have hne := noEnter (P := P) he a.eval w'
  generalize (execOp a.eval o).run P w' = r at *
  cases r with
  | ok n w2 =>
    cases n <;> simp only [Oper.quietUpon] at h3 <;> simp only [valUpon]
    case value u => exact ⟨h3.2, by rw [h3.1]; exact Ext.refl _ _⟩
    case skip => exact ⟨h3.2, by rw [h3.1]; exact Ext.refl _ _⟩
    case enter f args => exact absurd rfl (hne w2 f args)
  | halt x w2 => simp only [Oper.quietUpon] at h3
end
end Go.Proofs.YtfjaobfaepjfnaaDoor
namespace Go.Proofs.YtfjaobfaepjfnaaDoor
open Go.RowKit
mutual
def mis : Shp → Nd → Option (List ByteArray)
  | ⟨kind, names, needs, kids⟩, n => if kind = 0 then none else if kind ≠ n.kind then some [] else misL names needs kids n
def misL : List ByteArray → List Bool → List Shp → Nd → Option (List ByteArray)
  | nm :: ns, nd :: bs, k :: ks, n => if mem n.names nm then (match mis k (kidOf n nm) with | some p => some (nm :: p) | none => misL ns bs ks n) else if nd then some [nm] else misL ns bs ks n
  | _, _, _, _ => none
end
theorem mis_eq (x : Shp) (n : Nd) : mis x n = if x.kind = 0 then none else if x.kind ≠ n.kind then some [] else misL x.names x.needs x.kids n := by cases x; simp [mis]
theorem misL_step {ns : List ByteArray} {bs : List Bool} {ks : List Shp} (n : Nd) {k : Nat} (h1 : k < ns.length) (h2 : k < bs.length) (h3 : k < ks.length) :
    misL (ns.drop k) (bs.drop k) (ks.drop k) n = if mem n.names ns[k] then (match mis ks[k] (kidOf n ns[k]) with | some p => some (ns[k] :: p) | none => misL (ns.drop (k + 1)) (bs.drop (k + 1)) (ks.drop (k + 1)) n) else if bs[k] then some [ns[k]] else misL (ns.drop (k + 1)) (bs.drop (k + 1)) (ks.drop (k + 1)) n := by
  rw [drop_cons _ _ h1, drop_cons _ _ h2, drop_cons _ _ h3, misL]
theorem misL_end {ns : List ByteArray} {bs : List Bool} {ks : List Shp} (n : Nd) {k : Nat} (h1 : ¬ k < ns.length) : misL (ns.drop k) (bs.drop k) (ks.drop k) n = none := by
  rw [List.drop_eq_nil_of_le (by omega)]; simp [misL]
def MisR (w w' : World) (r : Option (List ByteArray)) (v : Value) : Prop :=
  ∃ a c fp, v = .tuple #[.slice a (r.getD []).length c, .bool r.isSome] ∧ StrsF w' a c (r.getD []) fp ∧ Free w.heap.size w' fp ∧ (r.getD [] = [] → a = none ∧ c = 0)
theorem MisR.grow {w w' w'' : World} {r : Option (List ByteArray)} {v : Value} (h : MisR w w' r v) (hg : Grow w' w'') : MisR w w'' r v := by
  obtain ⟨a, c, fp, hv, h1, h2, h3⟩ := h
  exact ⟨a, c, fp, hv, h1.keep (hg.keeps h2 (fun _ _ h => h)), h2.ext hg (fun _ _ h => h), h3⟩
theorem MisR.none (w w' : World) : MisR w w' .none (.tuple #[.slice .none 0 0, .bool false]) :=
  ⟨.none, 0, [], rfl, ⟨Nat.le_refl _, Nat.zero_le _, by simp, .inl ⟨rfl, rfl⟩⟩, Free.nil _ _, fun _ => ⟨rfl, rfl⟩⟩
theorem MisR.nil (w w' : World) : MisR w w' (some []) (.tuple #[.slice .none 0 0, .bool true]) :=
  ⟨.none, 0, [], rfl, ⟨Nat.le_refl _, Nat.zero_le _, by simp, .inl ⟨rfl, rfl⟩⟩, Free.nil _ _, fun _ => ⟨rfl, rfl⟩⟩
theorem strs_of_row {w : World} {B : Nat} {T : TypeId} {v : Value} {n : Nat} {xs : List ByteArray} (h : w.ownsRow B T 1 v n (xs.map Value.string)) (hx : ∀ x ∈ xs, x.size ≤ big) :
    ∃ a c fp, v = .slice a xs.length c ∧ StrsF w a c xs fp ∧ Free B w fp ∧ (xs = [] → fp = []) := by
  obtain ⟨h1, h2⟩ := h
  have hn : n = xs.length := by simp at h1; omega
  subst hn
  rcases h2 with ⟨rfl, h0⟩ | ⟨g, cap, cur, rfl, hb, hg, hle, hcap, hcs, htake⟩
  · have : xs = [] := List.length_eq_zero_iff.1 h0
    subst this
    exact ⟨none, 0, [], rfl, ⟨Nat.le_refl _, Nat.zero_le _, by simp, .inl ⟨rfl, rfl⟩⟩, Free.nil _ _, fun _ => rfl⟩
  · have hlen : xs.length ≤ big := by unfold maxLen at hcap; unfold big; omega
    by_cases he : xs = []
    · subst he
      exact ⟨_, _, [], rfl, ⟨Nat.zero_le _, Nat.zero_le _, by simp, .inl ⟨rfl, rfl⟩⟩, Free.nil _ _, fun _ => rfl⟩
    · refine ⟨_, _, [g], rfl, ⟨hle, hlen, hx, .inr ⟨g, 0, he, rfl, rfl, fun i hi => ?_⟩⟩, ⟨by simp, fun b hb' => ?_⟩, fun h => absurd h he⟩
      · unfold World.cell?
        simp only [hg, Nat.zero_add]
        have : cur.toList[i]? = some (Value.string xs[i]) := by
          have h3 : (cur.toList.take (xs.length * 1))[i]? = some (Value.string xs[i]) := by rw [htake]; simp [hi]
          rw [List.getElem?_take] at h3
          rw [if_pos (by omega)] at h3
          exact h3
        rw [Array.getElem?_toList] at this
        simpa [World.frozen?] using this
      · simp at hb'
        subst hb'
        refine ⟨hb, (Array.getElem?_eq_some_iff.1 hg).1, fun o => ?_⟩
        unfold World.frozen?
        simp [hg]
theorem MisR.one (W w : World) (x : ByteArray) (T : TypeId) (b : Nat) (hb : b = w.heap.size) (h : W.heap.size ≤ w.heap.size) (hx : x.size ≤ big) :
    MisR W (w.alloc (.cells #[.string x] T)) (some [x]) (.tuple #[.slice (some ⟨b, 0, Option.none⟩) 1 1, .bool true]) := by
  subst hb
  refine ⟨_, _, [w.heap.size], rfl, ⟨Nat.le_refl _, by simp [big], by simpa using hx, .inr ⟨_, 0, by simp, rfl, rfl, fun i hi => ?_⟩⟩, ⟨by simp, fun b hb => ?_⟩, fun h => by simp at h⟩
  · simp at hi
    subst hi
    rw [World.cell?_alloc_new]; rfl
  · simp at hb
    subst hb
    exact ⟨h, by simp, fun o => World.frozen?_alloc_new w _ T o⟩
theorem addr_add (b o j : Nat) : (⟨b, o, Option.none⟩ : Addr).add j = ⟨b, o + j, Option.none⟩ := by unfold Addr.add; split <;> simp_all
theorem grown_ext {w w1 w2 : World} {row : Option Nat} (h : Grow w w1) (g : w1.grownBy w2 row) (hr : ∀ k, row = some k → w.heap.size ≤ k) : Grow w w2 :=
  ⟨g.os.trans h.os, g.tape.trans h.tape, g.output.trans h.output, Nat.le_trans h.size g.size, fun k hk _ => by
    rw [g.block k (Nat.lt_of_lt_of_le hk h.size) (fun e => by have := hr k e.symm; omega)]
    exact h.block k hk (fun h => h)⟩
theorem row_new (w : World) (B : Nat) (T : TypeId) (xs : List Value) (b : Nat) (hb : b = w.heap.size) (h : B ≤ w.heap.size) (hm : xs.length ≤ 1000) : (w.alloc (.cells xs.toArray T)).ownsRow B T 1 (.slice (some ⟨b, 0, Option.none⟩) xs.length xs.length) xs.length xs := by
  subst hb
  exact ⟨by simp, .inr ⟨_, _, xs.toArray, rfl, h, heap_alloc_new w _, Nat.le_refl _, by unfold maxLen; omega, by simp, by simp⟩⟩
theorem MisR.row {w w' : World} {T : TypeId} {v : Value} {n : Nat} {x : ByteArray} {p : List ByteArray} (h : w'.ownsRow w.heap.size T 1 v n ((x :: p).map Value.string)) (hx : ∀ y ∈ x :: p, y.size ≤ big) :
    MisR w w' (some (x :: p)) (.tuple #[v, .bool true]) := by
  obtain ⟨a, c, fp, hv, h1, h2, _⟩ := strs_of_row h hx
  exact ⟨a, c, fp, by rw [hv]; rfl, h1, h2, fun h => by simp at h⟩
theorem MisR.base {w0 w w' : World} {r : Option (List ByteArray)} {v : Value} (h : MisR w w' r v) (hs : w0.heap.size ≤ w.heap.size) : MisR w0 w' r v := by
  obtain ⟨a, c, fp, hv, h1, h2, h3⟩ := h
  exact ⟨a, c, fp, hv, h1, h2.mono hs, h3⟩
theorem misL_len (n : Nd) (d : Nat) : ∀ (ks : List Shp), (∀ k ∈ ks, ∀ m p, mis k m = some p → p.length ≤ d) → ∀ ns bs p, misL ns bs ks n = some p → p.length ≤ d + 1
  | [], _, ns, bs, p, h => by cases ns <;> cases bs <;> simp [misL] at h
  | k :: ks, hk, [], bs, p, h => by simp [misL] at h
  | k :: ks, hk, nm :: ns, [], p, h => by simp [misL] at h
  | k :: ks, hk, nm :: ns, nd :: bs, p, h => by
    rw [misL] at h
    by_cases hm : mem n.names nm = true
    · rw [if_pos hm] at h
      cases hx : mis k (kidOf n nm) with
      | none => rw [hx] at h; exact misL_len n d ks (fun k' hk' => hk k' (by simp [hk'])) ns bs p h
      | some q =>
        rw [hx] at h
        simp at h
        subst h
        have := hk k (by simp) _ _ hx
        simp; omega
    · rw [if_neg hm] at h
      by_cases hn : nd = true
      · rw [if_pos hn] at h; simp at h; subst h; simp
      · rw [if_neg hn] at h
        exact misL_len n d ks (fun k' hk' => hk k' (by simp [hk'])) ns bs p h
theorem mis_len : ∀ (d : Nat) (x : Shp) (n : Nd) (p : List ByteArray), shpB x d = true → mis x n = some p → p.length ≤ d
  | 0, x, n, p, h, _ => by rw [shpB_eq] at h; simp at h
  | d + 1, x, n, p, h, hp => by
    rw [shpB_eq, shpL_all] at h
    simp only [Bool.and_eq_true, List.all_eq_true, Nat.add_sub_cancel] at h
    rw [mis_eq] at hp
    by_cases h0 : x.kind = 0
    · simp [h0] at hp
    · rw [if_neg h0] at hp
      by_cases h1 : x.kind ≠ n.kind
      · rw [if_pos h1] at hp; simp at hp; subst hp; simp
      · rw [if_neg h1] at hp
        exact misL_len n d x.kids (fun k hk m q hq => mis_len d k m q (h.2 k hk) hq) _ _ _ hp
theorem GoodS.len {x : Shp} (h : GoodS x) {n : Nd} {p : List ByteArray} (hp : mis x n = some p) : p.length ≤ 5 := by
  obtain ⟨d, hd, h⟩ := h
  exact Nat.le_trans (mis_len d x n p h hp) hd
def MisOk (x : Shp) : Prop := ∀ (n : Nd) (v u : Value) (w : World), GoodS x → Good n → ShapeR w any x v → NodeR w any n u →
    Calls Tryd.prog 64 #[v, u] w fun e w' => ∃ r, e = .returned r ∧ Grow w w' ∧ MisR w w' (mis x n) r
theorem misfit_of (x : Shp) (ih : ∀ k ∈ x.kids, MisOk k) : MisOk x := by
  intro n v u w hx hg hn hu
  obtain ⟨na, nc, ba, bc, ka, kc, rfl, hc⟩ := hn
  obtain ⟨hns, hnb, hk1, hk2, hk3⟩ := hc.parts
  have Hu := Lib.hid hu
  obtain ⟨na2, nc2, ka2, kc2, rfl, hc2⟩ := hu
  obtain ⟨p1, p2, p3, p4, p5, p6⟩ := shpHead_parts hx.head
  have hl1 : x.names.length ≤ 6 := by
    simp only [areNamesB, Bool.and_eq_true, decide_eq_true_eq] at p3
    exact p3.1
  have hl2 : n.kids.length ≤ 6 := hg.kids6
  have Hns := Lib.hid hns
  have Hnb := Lib.hid hnb
  have Hk3 := Lib.hid hk3
  have Ih := Lib.hid ih
  have Hg := Lib.hid hg
  have Hx := Lib.hid hx
  have P4 := Lib.hid p4
  have P5 := Lib.hid p5
  have Hf := Lib.hid (mis_eq x n)
  clear hc hns hnb hk1 hk2 hk3 ih hc2 hx hg p3 p4 p5 p6
  unfold shapeV
  unfold nodeV at *
  by_cases h0 : x.kind = 0
  · have b1 : (x.kind == 0) = true := by simpa using h0
    have Hff : Hid (mis x n = none) := Lib.hid (by rw [Hf.out, if_pos h0])
    clear h0
    go_enter Tryd.func64, Tryd.ntmps64
    go_wp2_with fail
    go_ret2
    exact ⟨_, rfl, (by repeat (first | with_reducible exact Ext.refl _ _ | with_reducible refine Ext.trans ?_ (by assumption) | with_reducible refine Ext.drew ?_ | with_reducible refine Ext.drewN ?_ _ | with_reducible refine Ext.alloc ?_ _ | with_reducible refine Ext.setNew ?_ (by simp; done) _ | with_reducible refine Ext.setNew ?_ (by simp; omega) _)), by rw [Hff.out]; exact MisR.none _ _⟩
  have b1 : (x.kind == 0) = false := by simpa using h0
  by_cases h1 : x.kind ≠ n.kind
  · have b2 : (x.kind != n.kind) = true := by simpa using h1
    have Hff : Hid (mis x n = some []) := Lib.hid (by rw [Hf.out, if_neg h0, if_pos h1])
    clear h0 h1
    go_enter Tryd.func64, Tryd.ntmps64
    go_wp2_with fail
    go_ret2
    exact ⟨_, rfl, (by repeat (first | with_reducible exact Ext.refl _ _ | with_reducible refine Ext.trans ?_ (by assumption) | with_reducible refine Ext.drew ?_ | with_reducible refine Ext.drewN ?_ _ | with_reducible refine Ext.alloc ?_ _ | with_reducible refine Ext.setNew ?_ (by simp; done) _ | with_reducible refine Ext.setNew ?_ (by simp; omega) _)), by rw [Hff.out]; exact MisR.nil _ _⟩
  have b2 : (x.kind != n.kind) = false := by simpa using h1
  have Hff : Hid (mis x n = misL x.names x.needs x.kids n) := Lib.hid (by rw [Hf.out, if_neg h0, if_neg h1])
  clear h0 h1
  go_enter Tryd.func64, Tryd.ntmps64
  go_wp2_with fail
  go_loopw [4, 5, 23] (fun t4 t5 i wr => t4 = .slice none 0 0 ∧ t5 = .bool false ∧ Grow w wr ∧ BoxN wr w.heap.size (shapeL' x na nc ba bc ka kc) ∧ BoxN wr (w.heap.size + 1) (nodeL n na2 nc2 ka2 kc2) ∧ ∃ k : Nat, k ≤ x.names.length ∧ i = .int .i64 k ∧ misL x.names x.needs x.kids n = misL (x.names.drop k) (x.needs.drop k) (x.kids.drop k) n) (fun _ _ i _ => x.names.length - (intOf i).toNat)
  case atStart => exact ⟨rfl, rfl, (by repeat (first | with_reducible exact Ext.refl _ _ | with_reducible refine Ext.trans ?_ (by assumption) | with_reducible refine Ext.drew ?_ | with_reducible refine Ext.drewN ?_ _ | with_reducible refine Ext.alloc ?_ _ | with_reducible refine Ext.setNew ?_ (by simp; done) _ | with_reducible refine Ext.setNew ?_ (by simp; omega) _)), (BoxN.new w (shapeL' x na nc ba bc ka kc) _).grow ((Ext.refl nil _).alloc _), BoxN.new1 w _ (nodeL n na2 nc2 ka2 kc2) _, 0, Nat.zero_le _, rfl, rfl⟩
  case round =>
    obtain ⟨rfl, rfl, hg0, B1, B2, k, hk, rfl, hs⟩ := hrel
    have Hs := Lib.hid hs
    clear hs
    have q2 := B1.cell 2 _ rfl
    have q3 := B1.cell 3 _ rfl
    have r0 := B2.cell 0 _ rfl
    have r1 := B2.cell 1 _ rfl
    have r2 := B2.cell 2 _ rfl
    have r3 := B2.cell 3 _ rfl
    have r4 := B2.cell 4 _ rfl
    have HB1 := Lib.hid B1
    have HB2 := Lib.hid B2
    clear B1 B2
    by_cases hlt : k < x.names.length
    · have hlb : k < x.needs.length := by have := P4.out; omega
      have hlk : k < x.kids.length := by have := P5.out; omega
      have hst := misL_step (ns := x.names) (bs := x.needs) (ks := x.kids) n hlt hlb hlk
      have HA := Lib.hid Hg.out.asc
      have HL := Hg.out.len
      rcases ((Hns.out).ext hg0 (fun _ _ h => h)).2.2.2 with hh | ⟨b1, o1, rfl, _, hc1⟩
      · rw [hh] at hlt; simp at hlt
      rcases ((Hnb.out).ext hg0 (fun _ _ h => h)).2.2 with hh | ⟨b2, o2, rfl, _, hc2⟩
      · rw [hh] at hlb; simp at hlb
      rcases Hk3.out with hh | ⟨b3, o3, rfl, _, hkr⟩
      · rw [hh] at hlk; simp at hlk
      have cn := hc1 k hlt
      have cb := hc2 k hlb
      have hsz := ((Hns.out).ext hg0 (fun _ _ h => h)).2.2.1 _ (List.getElem_mem hlt)
      obtain ⟨na', nc', ba', bc', ka', kc', d0, d1, d2, d3, hkc⟩ := (hkr.ext hg0 (fun _ _ h => h) (fun h => h)).get k hlk
      have Hkc : Hid (ShapeR wr any x.kids[k] (shapeV x.kids[k] na' nc' ba' bc' ka' kc')) := Lib.hid ⟨_, _, _, _, _, _, rfl, hkc⟩
      have Hsz := Lib.hid hsz
      cases hm : mem n.names x.names[k]
      · rw [hm] at hst
        have Hm := Lib.hid hm
        cases hb : x.needs[k]
        · rw [hb] at cb hst
          have Hst : Hid (misL (x.names.drop k) (x.needs.drop k) (x.kids.drop k) n = misL (x.names.drop (k + 1)) (x.needs.drop (k + 1)) (x.kids.drop (k + 1)) n) := Lib.hid (by rw [hst]; rfl)
          clear hst hm hb hkc hkr hc1 hc2 hsz
          go_wp2_with fail
          refine (nameIn_ok n x.names[k] _ _ HA.out HL (by omega) (Hu.out.grow hg0)).mono ?_
          rintro e w2 ⟨v', rfl, hg_w2, hr2⟩
          obtain ⟨na5, nc5, ka5, kc5, rfl, hc5⟩ := hr2
          clear hc5
          simp only [Hm.out]
          (replace q2 := hg_w2.some q2; replace q3 := hg_w2.some q3; replace r0 := hg_w2.some r0; replace r1 := hg_w2.some r1; replace r2 := hg_w2.some r2; replace r3 := hg_w2.some r3; replace r4 := hg_w2.some r4; replace cn := hg_w2.some cn; replace cb := hg_w2.some cb; replace d0 := hg_w2.some d0; replace d1 := hg_w2.some d1; replace d2 := hg_w2.some d2; replace d3 := hg_w2.some d3)
          have z0 : w.heap.size < w2.heap.size := lt_of_cell q2
          have z1 : w.heap.size + 1 < w2.heap.size := lt_of_cell r0
          have z2 : b2 < w2.heap.size := lt_of_cell cb
          have z3 : b3 < w2.heap.size := lt_of_cell d0
          unfold nodeV
          go_wp2_with fail
          go_roundw
          case rel => exact ⟨rfl, rfl, (by repeat (first | with_reducible exact Ext.refl _ _ | with_reducible refine Ext.trans ?_ (by assumption) | with_reducible refine Ext.drew ?_ | with_reducible refine Ext.drewN ?_ _ | with_reducible refine Ext.alloc ?_ _ | with_reducible refine Ext.setNew ?_ (by simp; done) _ | with_reducible refine Ext.setNew ?_ (by simp; omega) _)), HB1.out.grow (by repeat (first | with_reducible exact Ext.refl _ _ | with_reducible refine Ext.trans ?_ (by assumption) | with_reducible refine Ext.drew ?_ | with_reducible refine Ext.drewN ?_ _ | with_reducible refine Ext.alloc ?_ _ | with_reducible refine Ext.setNew ?_ (by simp; done) _ | with_reducible refine Ext.setNew ?_ (by simp; omega) _)), HB2.out.grow (by repeat (first | with_reducible exact Ext.refl _ _ | with_reducible refine Ext.trans ?_ (by assumption) | with_reducible refine Ext.drew ?_ | with_reducible refine Ext.drewN ?_ _ | with_reducible refine Ext.alloc ?_ _ | with_reducible refine Ext.setNew ?_ (by simp; done) _ | with_reducible refine Ext.setNew ?_ (by simp; omega) _)), k + 1, by omega, by go_num, by rw [Hs.out, Hst.out]⟩
          case measure => simp [intOf]; omega
        · rw [hb] at cb hst
          have Hst : Hid (misL (x.names.drop k) (x.needs.drop k) (x.kids.drop k) n = some [x.names[k]]) := Lib.hid (by rw [hst]; rfl)
          clear hst hm hb hkc hkr hc1 hc2 hsz
          go_wp2_with fail
          refine (nameIn_ok n x.names[k] _ _ HA.out HL (by omega) (Hu.out.grow hg0)).mono ?_
          rintro e w2 ⟨v', rfl, hg_w2, hr2⟩
          obtain ⟨na5, nc5, ka5, kc5, rfl, hc5⟩ := hr2
          clear hc5
          simp only [Hm.out]
          (replace q2 := hg_w2.some q2; replace q3 := hg_w2.some q3; replace r0 := hg_w2.some r0; replace r1 := hg_w2.some r1; replace r2 := hg_w2.some r2; replace r3 := hg_w2.some r3; replace r4 := hg_w2.some r4; replace cn := hg_w2.some cn; replace cb := hg_w2.some cb; replace d0 := hg_w2.some d0; replace d1 := hg_w2.some d1; replace d2 := hg_w2.some d2; replace d3 := hg_w2.some d3)
          have z0 : w.heap.size < w2.heap.size := lt_of_cell q2
          have z1 : w.heap.size + 1 < w2.heap.size := lt_of_cell r0
          have z2 : b2 < w2.heap.size := lt_of_cell cb
          have z3 : b3 < w2.heap.size := lt_of_cell d0
          unfold nodeV
          go_wp2_with fail
          go_ret2
          refine ⟨_, rfl, (by repeat (first | with_reducible exact Ext.refl _ _ | with_reducible refine Ext.trans ?_ (by assumption) | with_reducible refine Ext.drew ?_ | with_reducible refine Ext.drewN ?_ _ | with_reducible refine Ext.alloc ?_ _ | with_reducible refine Ext.setNew ?_ (by simp; done) _ | with_reducible refine Ext.setNew ?_ (by simp; omega) _)), ?_⟩
          rw [Hff.out, Hs.out, Hst.out]
          exact MisR.one _ _ _ _ _ (by simp) (by have := hg0.size; have := hg_w2.size; simp; omega) Hsz.out
      · rw [hm] at hst
        have Hm := Lib.hid hm
        have HG : Hid (Good (kidOf n x.names[k])) := Lib.hid (Hg.out.kidOf _)
        clear hm hkc hkr hc1 hc2 hsz
        go_wp2_with fail
        refine (nameIn_ok n x.names[k] _ _ HA.out HL (by omega) (Hu.out.grow hg0)).mono ?_
        rintro e w2 ⟨v', rfl, hg_w2, hr2⟩
        have Hr2 := Lib.hid hr2
        obtain ⟨na5, nc5, ka5, kc5, rfl, hc5⟩ := hr2
        clear hc5
        simp only [Hm.out]
        (replace q2 := hg_w2.some q2; replace q3 := hg_w2.some q3; replace r0 := hg_w2.some r0; replace r1 := hg_w2.some r1; replace r2 := hg_w2.some r2; replace r3 := hg_w2.some r3; replace r4 := hg_w2.some r4; replace cn := hg_w2.some cn; replace cb := hg_w2.some cb; replace d0 := hg_w2.some d0; replace d1 := hg_w2.some d1; replace d2 := hg_w2.some d2; replace d3 := hg_w2.some d3)
        have z0 : w.heap.size < w2.heap.size := lt_of_cell q2
        have z1 : w.heap.size + 1 < w2.heap.size := lt_of_cell r0
        have z2 : b2 < w2.heap.size := lt_of_cell cb
        have z3 : b3 < w2.heap.size := lt_of_cell d0
        generalize hmm : kidOf n x.names[k] = m at *
        have Hmm := Lib.hid hmm
        clear hmm
        have hgk : GoodS x.kids[k] := Hx.out.kid (List.getElem_mem hlk)
        have Hgk := Lib.hid hgk
        cases hmis : mis x.kids[k] m with
        | none =>
          rw [hmis] at hst
          have Hst : Hid (misL (x.names.drop k) (x.needs.drop k) (x.kids.drop k) n = misL (x.names.drop (k + 1)) (x.needs.drop (k + 1)) (x.kids.drop (k + 1)) n) := Lib.hid (by rw [hst]; rfl)
          have Hmis := Lib.hid hmis
          clear hst hmis hgk
          unfold nodeV
          go_wp2_with fail
          obtain ⟨w3, hw3, hg_w3, B3⟩ : ∃ w3, w2.alloc (.cells #[.int .i64 m.kind, .int .i64 m.num, .string m.text, .slice na5 m.names.length nc5, .slice ka5 m.kids.length kc5] 26) = w3 ∧ Grow w2 w3 ∧ BoxN w3 w2.heap.size (nodeL m na5 nc5 ka5 kc5) := ⟨_, rfl, (Ext.refl nil w2).alloc _, BoxN.new w2 (nodeL m na5 nc5 ka5 kc5) _⟩
          rw [hw3]
          clear hw3
          (replace q3 := hg_w3.some q3; replace d0 := hg_w3.some d0; replace d1 := hg_w3.some d1; replace d2 := hg_w3.some d2; replace d3 := hg_w3.some d3)
          have p0 := B3.cell 0 _ rfl
          have p1 := B3.cell 1 _ rfl
          have p2 := B3.cell 2 _ rfl
          have p3 := B3.cell 3 _ rfl
          have p4 := B3.cell 4 _ rfl
          clear B3 q2 r0 r1 r2 r3 r4 cn cb
          refine wp_region_stab Grow (fun i => if i = 6 then some (fun v w' => MisR w3 w' (mis x.kids[k] m) v) else none) (by kernel_rfl) (by kernel_rfl) ⟨Ext.refl nil, fun _ _ h1 h2 => h2.trans h1, ?_⟩ ?_
          · intro i V hV v w1 w2 hr hv
            by_cases h2 : i = 6
            · simp only [h2, if_true, Option.some.injEq] at hV; subst hV; exact hv.grow hr
            · simp [h2] at hV
          (refine wpStab_quiet (by kernel_rfl) (by kernel_rfl) (by simp) ?_; intro K hK; go_big_quiet_op; go_big_quiet_on)
          (refine wpStab_quiet (by kernel_rfl) (by kernel_rfl) (by simp) ?_; intro K hK; go_big_quiet_op; go_big_quiet_on)
          (refine wpStab_quiet (by kernel_rfl) (by kernel_rfl) (by simp) ?_; intro K hK; go_big_quiet_op; go_big_quiet_on)
          (refine wpStab_quiet (by kernel_rfl) (by kernel_rfl) (by simp) ?_; intro K hK; go_big_quiet_op; go_big_quiet_on)
          (refine wpStab_quiet (by kernel_rfl) (by kernel_rfl) (by simp) ?_; intro K hK; go_big_quiet_op; go_big_quiet_on)
          (refine wpStab_quiet (by kernel_rfl) (by kernel_rfl) (by simp) ?_; intro K hK; go_big_quiet_op; go_big_quiet_on)
          refine wpStab_made' (fun v w' => MisR w3 w' (mis x.kids[k] m) v) ?_ ?_ ?_ ?_
          · go_simp
          · simp
          · intro y _
            refine stabAt_call (f := 64) (args := #[shapeV x.kids[k] na' nc' ba' bc' ka' kc', nodeV m na5 nc5 ka5 kc5]) ?_ ?_
            · unfold shapeV nodeV; go_simp
            · refine (Ih.out _ (List.getElem_mem hlk) m _ _ _ Hgk.out HG.out (Hkc.out.grow ((hg_w2.trans hg_w3).trans (later_grow _ _))) (Hr2.out.grow (hg_w3.trans (later_grow _ _)))).mono ?_
              rintro e w' ⟨r, rfl, hg, hr⟩
              exact ⟨r, rfl, hg, hr.base (later_grow _ _).size⟩
          rintro v ⟨y, a, c, fp, rfl, _, _, _⟩
          simp only [Hmis.out]
          go_frame
          (refine wpStab_quiet (by kernel_rfl) (by kernel_rfl) (by simp) ?_; intro K hK; go_big_quiet_op; go_big_quiet_on)
          (refine wpStab_quiet (by kernel_rfl) (by kernel_rfl) (by simp) ?_; intro K hK; go_big_quiet_op; go_big_quiet_on)
          (refine wpStab_quiet (by kernel_rfl) (by kernel_rfl) (by simp) ?_; intro K hK; go_big_quiet_op; go_big_quiet_on)
          (refine wpStab_quiet (by kernel_rfl) (by kernel_rfl) (by simp) ?_; intro K hK; go_big_quiet_op; go_big_quiet_on)
          (refine wpStab_quiet (by kernel_rfl) (by kernel_rfl) (by simp) ?_; intro K hK; go_big_quiet_op; go_big_quiet_on)
          refine wpStab_end' ?_
          intro w4 hg_w4 hE
          clear hE
          have hgA : Grow w w4 := ((hg0.trans hg_w2).trans hg_w3).trans hg_w4
          go_wp2_with fail
          go_roundw
          case rel => exact ⟨rfl, rfl, hgA, HB1.out.grow ((hg_w2.trans hg_w3).trans hg_w4), HB2.out.grow ((hg_w2.trans hg_w3).trans hg_w4), k + 1, by omega, by go_num, by rw [Hs.out, Hst.out]⟩
          case measure => simp [intOf]; omega
        | some p =>
          rw [hmis] at hst
          have hp5 := hgk.len hmis
          have Hst : Hid (misL (x.names.drop k) (x.needs.drop k) (x.kids.drop k) n = some (x.names[k] :: p)) := Lib.hid (by rw [hst]; rfl)
          have Hmis := Lib.hid hmis
          clear hst hmis hgk
          unfold nodeV
          go_wp2_with fail
          obtain ⟨w3, hw3, hg_w3, B3⟩ : ∃ w3, w2.alloc (.cells #[.int .i64 m.kind, .int .i64 m.num, .string m.text, .slice na5 m.names.length nc5, .slice ka5 m.kids.length kc5] 26) = w3 ∧ Grow w2 w3 ∧ BoxN w3 w2.heap.size (nodeL m na5 nc5 ka5 kc5) := ⟨_, rfl, (Ext.refl nil w2).alloc _, BoxN.new w2 (nodeL m na5 nc5 ka5 kc5) _⟩
          rw [hw3]
          clear hw3
          (replace q3 := hg_w3.some q3; replace d0 := hg_w3.some d0; replace d1 := hg_w3.some d1; replace d2 := hg_w3.some d2; replace d3 := hg_w3.some d3)
          have p0 := B3.cell 0 _ rfl
          have p1 := B3.cell 1 _ rfl
          have p2 := B3.cell 2 _ rfl
          have p3 := B3.cell 3 _ rfl
          have p4 := B3.cell 4 _ rfl
          clear B3 q2 r0 r1 r2 r3 r4 cn cb
          refine wp_region_stab Grow (fun i => if i = 6 then some (fun v w' => MisR w3 w' (mis x.kids[k] m) v) else none) (by kernel_rfl) (by kernel_rfl) ⟨Ext.refl nil, fun _ _ h1 h2 => h2.trans h1, ?_⟩ ?_
          · intro i V hV v w1 w2 hr hv
            by_cases h2 : i = 6
            · simp only [h2, if_true, Option.some.injEq] at hV; subst hV; exact hv.grow hr
            · simp [h2] at hV
          (refine wpStab_quiet (by kernel_rfl) (by kernel_rfl) (by simp) ?_; intro K hK; go_big_quiet_op; go_big_quiet_on)
          (refine wpStab_quiet (by kernel_rfl) (by kernel_rfl) (by simp) ?_; intro K hK; go_big_quiet_op; go_big_quiet_on)
          (refine wpStab_quiet (by kernel_rfl) (by kernel_rfl) (by simp) ?_; intro K hK; go_big_quiet_op; go_big_quiet_on)
          (refine wpStab_quiet (by kernel_rfl) (by kernel_rfl) (by simp) ?_; intro K hK; go_big_quiet_op; go_big_quiet_on)
          (refine wpStab_quiet (by kernel_rfl) (by kernel_rfl) (by simp) ?_; intro K hK; go_big_quiet_op; go_big_quiet_on)
          (refine wpStab_quiet (by kernel_rfl) (by kernel_rfl) (by simp) ?_; intro K hK; go_big_quiet_op; go_big_quiet_on)
          refine wpStab_made' (fun v w' => MisR w3 w' (mis x.kids[k] m) v) ?_ ?_ ?_ ?_
          · go_simp
          · simp
          · intro y _
            refine stabAt_call (f := 64) (args := #[shapeV x.kids[k] na' nc' ba' bc' ka' kc', nodeV m na5 nc5 ka5 kc5]) ?_ ?_
            · unfold shapeV nodeV; go_simp
            · refine (Ih.out _ (List.getElem_mem hlk) m _ _ _ Hgk.out HG.out (Hkc.out.grow ((hg_w2.trans hg_w3).trans (later_grow _ _))) (Hr2.out.grow (hg_w3.trans (later_grow _ _)))).mono ?_
              rintro e w' ⟨r, rfl, hg, hr⟩
              exact ⟨r, rfl, hg, hr.base (later_grow _ _).size⟩
          rintro v ⟨y, a, c, fp, rfl, _, _, _⟩
          simp only [Hmis.out]
          go_frame
          (refine wpStab_quiet (by kernel_rfl) (by kernel_rfl) (by simp) ?_; intro K hK; go_big_quiet_op; go_big_quiet_on)
          (refine wpStab_quiet (by kernel_rfl) (by kernel_rfl) (by simp) ?_; intro K hK; go_big_quiet_op; go_big_quiet_on)
          (refine wpStab_quiet (by kernel_rfl) (by kernel_rfl) (by simp) ?_; intro K hK; go_big_quiet_op; go_big_quiet_on)
          (refine wpStab_quiet (by kernel_rfl) (by kernel_rfl) (by simp) ?_; intro K hK; go_big_quiet_op; go_big_quiet_on)
          (refine wpStab_quiet (by kernel_rfl) (by kernel_rfl) (by simp) ?_; intro K hK; go_big_quiet_op; go_big_quiet_on)
          refine wpStab_end' ?_
          intro w4 hg_w4 hE
          obtain ⟨a', c', fp, hv, h1, h2, h3⟩ := (hE 6).2 rfl
          clear hE
          simp only [Option.getD_some, Value.tuple.injEq] at hv
          obtain ⟨rfl, rfl⟩ : a = a' ∧ c = c' := by
            have := congrArg (fun l : Array Value => l[0]?) hv
            simpa using this
          have hgA : Grow w w4 := ((hg0.trans hg_w2).trans hg_w3).trans hg_w4
          clear hv
          simp only [Option.getD_some] at h1 h2 h3 ⊢
          have H1 := Lib.hid h1
          have H2 := Lib.hid h2
          clear h2
          obtain ⟨i0, hi, hz0, hz1, hz2⟩ := info_parts info_string
          by_cases hp : p = []
          · obtain ⟨rfl, rfl⟩ := h3 hp
            subst hp
            go_wp2_with (at_builtin; refine wpList_append_own_none rfl _ _ 23 rfl w.heap.size 9 i0 1 Tryd.underlying23 hi (.slice (some ⟨w4.heap.size, 0, Option.none⟩) 1 1) 1 [.string x.names[k]] rfl (row_new w4 w.heap.size _ [.string x.names[k]] _ rfl hgA.size (by simp)) rfl ?_)
            go_ret2
            refine ⟨_, rfl, hgA.alloc _, ?_⟩
            rw [Hff.out, Hs.out, Hst.out]
            exact MisR.row (x := x.names[k]) (p := []) (row_new w4 w.heap.size _ [.string x.names[k]] _ rfl hgA.size (by simp)) (by simpa using Hsz.out)
          · obtain ⟨hle, hlen, hbig, hcc⟩ := h1
            rcases hcc with ⟨hcc, _⟩ | ⟨pb, po, _, rfl, rfl, hcc⟩
            · exact absurd hcc hp
            clear h3 hp
            have hcc' : ∀ j u, (p.map Value.string)[j]? = some u → (w4.alloc (.cells #[.string x.names[k]] 9)).cell? ((⟨pb, po, Option.none⟩ : Addr).add j) = some u := by
              intro j u hu
              rw [List.getElem?_map] at hu
              rcases Nat.lt_or_ge j p.length with hj | hj
              · rw [List.getElem?_eq_getElem hj] at hu
                simp at hu
                subst hu
                rw [addr_add]
                exact Grow.some ((Ext.refl nil w4).alloc _) (hcc j hj)
              · rw [List.getElem?_eq_none hj] at hu; simp at hu
            have HC := Lib.hid hcc'
            clear hcc hcc'
            go_wp2_with (at_builtin; (refine wpList_append_own _ rfl _ _ 23 rfl w.heap.size 9 i0 (.string ⟨#[]⟩) 1 16 Tryd.underlying23 hi hz0 hz1 hz2 rfl (by decide) (.slice (some ⟨w4.heap.size, 0, Option.none⟩) 1 1) 1 [.string x.names[k]] rfl (row_new w4 w.heap.size _ [.string x.names[k]] _ rfl hgA.size (by simp)) ⟨pb, po, Option.none⟩ p.length c (p.map Value.string) rfl ?c1 HC.out ?c2 ?c3 ?c4 ?c5 ?_))
            case c1 => simp
            case c2 => simp [Value.oneCell']
            case c3 => unfold maxLen; omega
            case c4 => omega
            case c5 => have := hgA.size; simp; omega
            intro v' w5 hown5 hgrow5 _
            have hgF : Grow w w5 := grown_ext (hgA.alloc _) hgrow5 (by intro k hk; simp [Value.ownBlock] at hk; subst hk; exact hgA.size)
            go_wp2_with fail
            go_ret2
            refine ⟨_, rfl, hgF, ?_⟩
            rw [Hff.out, Hs.out, Hst.out]
            exact MisR.row (x := x.names[k]) (p := p) (by simpa using hown5) (by intro y hy; rcases List.mem_cons.1 hy with rfl | hy; exact Hsz.out; exact hbig y hy)
    · go_wp2_with fail
      go_ret2
      exact ⟨_, rfl, hg0, by rw [Hff.out, Hs.out, misL_end n hlt]; exact MisR.none _ _⟩
theorem misfit_ok : ∀ x, MisOk x := Shp.ind' MisOk misfit_of
end Go.Proofs.YtfjaobfaepjfnaaDoor
namespace Go.Proofs.YtfjaobfaepjfnaaDoor
open Go.RowKit
def fitsV (x : Shp) (n : Nd) : Bool := shpB x 5 && validB n && fitB x n
theorem GoodS.head' {x : Shp} {d : Nat} (h : shpB x d = true) : shpHead x = true := by
  rw [shpB_eq] at h
  simp only [Bool.and_eq_true] at h
  exact h.1.2
theorem misL_fit (n : Nd) : ∀ (ks : List Shp), (∀ k ∈ ks, ∀ m, (mis k m).isSome = !fitB k m) → ∀ (ns : List ByteArray) (bs : List Bool), (misL ns bs ks n).isSome = !fitL ns bs ks n
  | [], _, ns, bs => by cases ns <;> cases bs <;> simp [misL, fitL]
  | k :: ks, hk, [], bs => by simp [misL, fitL]
  | k :: ks, hk, nm :: ns, [] => by simp [misL, fitL]
  | k :: ks, hk, nm :: ns, nd :: bs => by
    have ih := misL_fit n ks (fun k' hk' => hk k' (by simp [hk'])) ns bs
    have h0 := hk k (by simp) (kidOf n nm)
    rw [misL, fitL]
    cases hm : mem n.names nm
    · cases nd
      · simpa using ih
      · simp
    · cases hx : mis k (kidOf n nm) with
      | none => rw [hx] at h0; simp at h0; simpa [h0] using ih
      | some p => rw [hx] at h0; simp at h0; simp [h0]
theorem mis_fit : ∀ (d : Nat) (x : Shp) (n : Nd), shpB x d = true → (mis x n).isSome = !fitB x n
  | 0, x, n, h => by rw [shpB_eq] at h; simp at h
  | d + 1, x, n, h => by
    have hh : shpHead x = true := GoodS.head' h
    rw [shpB_eq, shpL_all] at h
    simp only [Bool.and_eq_true, List.all_eq_true, Nat.add_sub_cancel] at h
    obtain ⟨p1, p2, p3, p4, p5, p6⟩ := shpHead_parts hh
    have hl := misL_fit n x.kids (fun k hk m => mis_fit d k m (h.2 k hk)) x.names x.needs
    rw [mis_eq, fitB_eq]
    by_cases h0 : x.kind = 0
    · have : x.names = [] := by
        rcases p6 with p6 | p6
        · exact List.length_eq_zero_iff.1 p6
        · omega
      rw [this]
      simp [h0, fitL]
    · rw [if_neg h0]
      by_cases h1 : x.kind ≠ n.kind
      · rw [if_pos h1]
        have : ¬ n.kind = x.kind := fun h => h1 h.symm
        simp [h0, this]
      · rw [if_neg h1]
        have : n.kind = x.kind := by omega
        simp [h0, this, hl]
theorem GoodS.mis {x : Shp} (h : GoodS x) (n : Nd) : (Go.Proofs.YtfjaobfaepjfnaaDoor.mis x n).isSome = !fitB x n := by
  obtain ⟨d, _, h⟩ := h
  exact mis_fit d x n h
theorem implValidShape_ok (x : Shp) (v : Value) (w : World) (hn : ShapeR w any x v) :
    Calls Tryd.prog 63 #[v] w fun e w' => e = .returned (.bool (shpB x 5)) ∧ Grow w w' := by
  have Hn := Lib.hid hn
  obtain ⟨na, nc, ba, bc, ka, kc, rfl, hc⟩ := hn
  clear hc
  unfold shapeV at *
  go_enter Tryd.func63, Tryd.ntmps63
  go_wp2_with fail
  refine (isShape_ok x 5 _ _ (by omega) (Hn.out.grow (by repeat (first | with_reducible exact Ext.refl _ _ | with_reducible refine Ext.trans ?_ (by assumption) | with_reducible refine Ext.drew ?_ | with_reducible refine Ext.drewN ?_ _ | with_reducible refine Ext.alloc ?_ _ | with_reducible refine Ext.setNew ?_ (by simp; done) _ | with_reducible refine Ext.setNew ?_ (by simp; omega) _)))).mono ?_
  rintro e w2 ⟨rfl, hg2⟩
  go_wp2_with fail
  go_ret
  exact ⟨by simp, (by repeat (first | with_reducible exact Ext.refl _ _ | with_reducible refine Ext.trans ?_ (by assumption) | with_reducible refine Ext.drew ?_ | with_reducible refine Ext.drewN ?_ _ | with_reducible refine Ext.alloc ?_ _ | with_reducible refine Ext.setNew ?_ (by simp; done) _ | with_reducible refine Ext.setNew ?_ (by simp; omega) _))⟩
theorem implFitsShape_ok (x : Shp) (n : Nd) (v u : Value) (w : World) (hx : ShapeR w any x v) (hn : NodeR w any n u) :
    Calls Tryd.prog 19 #[v, u] w fun e w' => e = .returned (.bool (fitsV x n)) ∧ Grow w w' := by
  have Hx := Lib.hid hx
  have Hn := Lib.hid hn
  obtain ⟨na, nc, ba, bc, ka, kc, rfl, hc⟩ := hx
  obtain ⟨na2, nc2, ka2, kc2, rfl, hc2⟩ := hn
  clear hc hc2
  unfold shapeV nodeV at *
  cases h1 : shpB x 5
  · have Hf : Hid (fitsV x n = false) := Lib.hid (by simp [fitsV, h1])
    have H1 := Lib.hid h1
    clear h1
    go_enter Tryd.func19, Tryd.ntmps19
    go_wp2_with fail
    refine (implValidShape_ok x _ _ (Hx.out.grow (by repeat (first | with_reducible exact Ext.refl _ _ | with_reducible refine Ext.trans ?_ (by assumption) | with_reducible refine Ext.drew ?_ | with_reducible refine Ext.drewN ?_ _ | with_reducible refine Ext.alloc ?_ _ | with_reducible refine Ext.setNew ?_ (by simp; done) _ | with_reducible refine Ext.setNew ?_ (by simp; omega) _)))).mono ?_
    rintro e w2 ⟨rfl, hg2⟩
    simp only [H1.out]
    go_wp2_with fail
    go_ret
    exact ⟨by simp [Hf.out], (by repeat (first | with_reducible exact Ext.refl _ _ | with_reducible refine Ext.trans ?_ (by assumption) | with_reducible refine Ext.drew ?_ | with_reducible refine Ext.drewN ?_ _ | with_reducible refine Ext.alloc ?_ _ | with_reducible refine Ext.setNew ?_ (by simp; done) _ | with_reducible refine Ext.setNew ?_ (by simp; omega) _))⟩
  cases h2 : validB n
  · have Hf : Hid (fitsV x n = false) := Lib.hid (by simp [fitsV, h2])
    have H1 := Lib.hid h1
    have H2 := Lib.hid h2
    clear h1 h2
    go_enter Tryd.func19, Tryd.ntmps19
    go_wp2_with fail
    refine (implValidShape_ok x _ _ (Hx.out.grow (by repeat (first | with_reducible exact Ext.refl _ _ | with_reducible refine Ext.trans ?_ (by assumption) | with_reducible refine Ext.drew ?_ | with_reducible refine Ext.drewN ?_ _ | with_reducible refine Ext.alloc ?_ _ | with_reducible refine Ext.setNew ?_ (by simp; done) _ | with_reducible refine Ext.setNew ?_ (by simp; omega) _)))).mono ?_
    rintro e w2 ⟨rfl, hg2⟩
    simp only [H1.out]
    have hcc2 := bcell hg2
    go_wp2_with fail
    refine (ValidNode_ok n _ _ (Hn.out.grow (by repeat (first | with_reducible exact Ext.refl _ _ | with_reducible refine Ext.trans ?_ (by assumption) | with_reducible refine Ext.drew ?_ | with_reducible refine Ext.drewN ?_ _ | with_reducible refine Ext.alloc ?_ _ | with_reducible refine Ext.setNew ?_ (by simp; done) _ | with_reducible refine Ext.setNew ?_ (by simp; omega) _)))).mono ?_
    rintro e w3 ⟨rfl, hg3⟩
    simp only [H2.out]
    go_wp2_with fail
    go_ret
    exact ⟨by simp [Hf.out], (by repeat (first | with_reducible exact Ext.refl _ _ | with_reducible refine Ext.trans ?_ (by assumption) | with_reducible refine Ext.drew ?_ | with_reducible refine Ext.drewN ?_ _ | with_reducible refine Ext.alloc ?_ _ | with_reducible refine Ext.setNew ?_ (by simp; done) _ | with_reducible refine Ext.setNew ?_ (by simp; omega) _))⟩
  have hgs : GoodS x := ⟨5, by omega, h1⟩
  have Hf : Hid (fitsV x n = !(mis x n).isSome) := Lib.hid (by rw [hgs.mis]; simp [fitsV, h1, h2])
  have Hgs := Lib.hid hgs
  have Hgn := Lib.hid (validB_good h2)
  have H1 := Lib.hid h1
  have H2 := Lib.hid h2
  clear h1 h2 hgs
  go_enter Tryd.func19, Tryd.ntmps19
  go_wp2_with fail
  refine (implValidShape_ok x _ _ (Hx.out.grow (by repeat (first | with_reducible exact Ext.refl _ _ | with_reducible refine Ext.trans ?_ (by assumption) | with_reducible refine Ext.drew ?_ | with_reducible refine Ext.drewN ?_ _ | with_reducible refine Ext.alloc ?_ _ | with_reducible refine Ext.setNew ?_ (by simp; done) _ | with_reducible refine Ext.setNew ?_ (by simp; omega) _)))).mono ?_
  rintro e w2 ⟨rfl, hg2⟩
  simp only [H1.out]
  have hcc2 := bcell hg2
  go_wp2_with fail
  refine (ValidNode_ok n _ _ (Hn.out.grow (by repeat (first | with_reducible exact Ext.refl _ _ | with_reducible refine Ext.trans ?_ (by assumption) | with_reducible refine Ext.drew ?_ | with_reducible refine Ext.drewN ?_ _ | with_reducible refine Ext.alloc ?_ _ | with_reducible refine Ext.setNew ?_ (by simp; done) _ | with_reducible refine Ext.setNew ?_ (by simp; omega) _)))).mono ?_
  rintro e w3 ⟨rfl, hg3⟩
  simp only [H2.out]
  have hcc3 := bcell (hg2.trans hg3)
  clear hcc2
  go_wp2_with fail
  refine (misfit_ok x n _ _ _ Hgs.out Hgn.out (Hx.out.grow (by repeat (first | with_reducible exact Ext.refl _ _ | with_reducible refine Ext.trans ?_ (by assumption) | with_reducible refine Ext.drew ?_ | with_reducible refine Ext.drewN ?_ _ | with_reducible refine Ext.alloc ?_ _ | with_reducible refine Ext.setNew ?_ (by simp; done) _ | with_reducible refine Ext.setNew ?_ (by simp; omega) _))) (Hn.out.grow (by repeat (first | with_reducible exact Ext.refl _ _ | with_reducible refine Ext.trans ?_ (by assumption) | with_reducible refine Ext.drew ?_ | with_reducible refine Ext.drewN ?_ _ | with_reducible refine Ext.alloc ?_ _ | with_reducible refine Ext.setNew ?_ (by simp; done) _ | with_reducible refine Ext.setNew ?_ (by simp; omega) _)))).mono ?_
  rintro e w4 ⟨r, rfl, hg4, a, c, fp, rfl, _, _, _⟩
  go_wp2_with fail
  go_ret
  exact ⟨by simp [Hf.out], (by repeat (first | with_reducible exact Ext.refl _ _ | with_reducible refine Ext.trans ?_ (by assumption) | with_reducible refine Ext.drew ?_ | with_reducible refine Ext.drewN ?_ _ | with_reducible refine Ext.alloc ?_ _ | with_reducible refine Ext.setNew ?_ (by simp; done) _ | with_reducible refine Ext.setNew ?_ (by simp; omega) _))⟩
end Go.Proofs.YtfjaobfaepjfnaaDoor
-- EV: rows skip
namespace Go.Proofs.YtfjaobfaepjfnaaDoor.Eng
open Go Go.RowKit
attribute [local simp] big size_mk ASt.pay Option.map_map Function.comp_def awant aop acall ado aev ofVal ofVal0 ASt.put ASt.add ASt.turn ASt.kill abox aalloc astore aload aloadD astoreD idOf ASt.at cellsTo afieldAddr afield aindexAddr aindex alen abin aint acmp astr aun apick aextract anil aslice abound abuild afill abuildSlice asCells aps avCells over upd aappend asrc amax amin aconv mkSt slots rowsOf_cons rowsOf_nil usedOf_cons usedOf_nil ZK.av List.replicate ASt.back ASt.addL ASt.killL nodeA nodeT nodeTL_eq nodeL_eq strsE_get strsE_len intsE_get intsE_len strsE_at intsE_at nodeN namesRow nodeO kidsRow tab2 tab3 tab4 tab5 tab6 tab7 tab8 tab9 tab10 tab11 tab12 tab13 tab14 tab15 tab16 tab17 tab18 tab19 tab21 tab22 tab23 tab24 tab25 tab26 tab28 tab29 tab30 tab31 tab42 tab43 tab44 tab46 tab63 tab64 tab67 tab68 tab75 tab98 tab100 tab101 tab105 tab106 tab107 tab122 tab123 tab125 tab128 tab138 tab144 tab151 tab152 tab157 tab158 tab160 tab161 tab162
def boolsE (xs : List Bool) : List (List AV) := xs.map fun b => [.bool b]
mutual
def shE : Go.Proofs.YtfjaobfaepjfnaaDoor.Shp → List AV
  | ⟨kind, names, needs, kids⟩ => [.int .i64 kind, .view .loose 1 (strsE names), .view .loose 1 (boolsE needs), .view .loose 4 (shsE kids)]
def shsE : List Go.Proofs.YtfjaobfaepjfnaaDoor.Shp → List (List AV)
  | [] => []
  | k :: ks => shE k :: shsE ks
end
def shA (x : Go.Proofs.YtfjaobfaepjfnaaDoor.Shp) : AV := .agg (shE x)
theorem shsE_map : ∀ (ks : List Go.Proofs.YtfjaobfaepjfnaaDoor.Shp), shsE ks = ks.map shE
  | [] => by unfold shsE; rfl
  | k :: ks => by unfold shsE; rw [shsE_map ks]; rfl
theorem shE_eq (n : Go.Proofs.YtfjaobfaepjfnaaDoor.Shp) : shE n = [.int .i64 n.kind, .view .loose 1 (strsE n.names), .view .loose 1 (boolsE n.needs), .view .loose 4 (n.kids.map shE)] := by
  cases n; unfold shE; rw [shsE_map]
theorem shE_len (n : Go.Proofs.YtfjaobfaepjfnaaDoor.Shp) : (shE n).length = 4 := by rw [shE_eq]; rfl
theorem boolsE_len (xs : List Bool) : (boolsE xs).length = xs.length := by unfold boolsE; rw [List.length_map]
theorem boolsE_get (xs : List Bool) (i : Nat) : (boolsE xs)[i]? = (xs[i]?).map fun s => [.bool s] := by unfold boolsE; rw [List.getElem?_map]
theorem boolsE_pur (xs : List Bool) : ∀ e ∈ boolsE xs, ∀ c ∈ e, Pur c := by
  intro e he c hc
  unfold boolsE at he
  rw [List.mem_map] at he
  obtain ⟨s, _, rfl⟩ := he
  simp at hc; subst hc; exact pur_bool
theorem boolsE_in {U : Nat → Bool} (xs : List Bool) : ∀ e ∈ boolsE xs, ∀ c ∈ e, AV.In U c := by
  intro e he c hc
  unfold boolsE at he
  rw [List.mem_map] at he
  obtain ⟨s, _, rfl⟩ := he
  simp at hc; subst hc; exact in_bool
theorem shE_pur : ∀ (n : Go.Proofs.YtfjaobfaepjfnaaDoor.Shp), ∀ c ∈ shE n, Pur c := Shp.ind' _ (fun n ih c hc => by
  rw [shE_eq] at hc
  simp only [List.mem_cons, List.not_mem_nil, or_false] at hc
  rcases hc with rfl | rfl | rfl | rfl
  · exact pur_int
  · exact pur_view (by decide) (strsE_pur _)
  · exact pur_view (by decide) (boolsE_pur _)
  · refine pur_view (by decide) (fun e he c hc => ?_)
    rw [List.mem_map] at he
    obtain ⟨k, hk, rfl⟩ := he
    exact ih k hk c hc)
theorem sh_pur (n : Go.Proofs.YtfjaobfaepjfnaaDoor.Shp) : Pur (shA n) := pur_agg (shE_pur n)
theorem sh_clo (n : Go.Proofs.YtfjaobfaepjfnaaDoor.Shp) : Clo (shA n) := (sh_pur n).clo
theorem shsE_pur (ks : List Go.Proofs.YtfjaobfaepjfnaaDoor.Shp) : ∀ e ∈ ks.map shE, ∀ c ∈ e, Pur c := fun e he c hc => by
  rw [List.mem_map] at he
  obtain ⟨k, hk, rfl⟩ := he
  exact shE_pur k c hc
theorem shE_in {U : Nat → Bool} : ∀ (n : Go.Proofs.YtfjaobfaepjfnaaDoor.Shp), ∀ c ∈ shE n, AV.In U c := Shp.ind' _ (fun n ih c hc => by
  rw [shE_eq] at hc
  simp only [List.mem_cons, List.not_mem_nil, or_false] at hc
  rcases hc with rfl | rfl | rfl | rfl
  · exact in_int
  · exact in_view.2 (strsE_in _)
  · exact in_view.2 (boolsE_in _)
  · refine in_view.2 (fun e he c hc => ?_)
    rw [List.mem_map] at he
    obtain ⟨k, hk, rfl⟩ := he
    exact ih k hk c hc)
theorem shsE_in {U : Nat → Bool} (ks : List Go.Proofs.YtfjaobfaepjfnaaDoor.Shp) : ∀ e ∈ ks.map shE, ∀ c ∈ e, AV.In U c := fun e he c hc => by
  rw [List.mem_map] at he
  obtain ⟨k, hk, rfl⟩ := he
  exact shE_in k c hc
section
variable {w : World} {ρ : Cx}
theorem bools_of_rep {t : VC} {xs : List Bool} {v : Value} (h : Rep w ρ (.view t 1 (boolsE xs)) v) : ∃ a c, v = .slice a xs.length c ∧ BoolsR w any a c xs := by
  obtain ⟨a, c, rfl, _, h3, h4, h5, h6⟩ := rep_view.1 h
  rw [boolsE_len] at *
  refine ⟨a, c, rfl, h3, h4, ?_⟩
  rcases h6 with h6 | ⟨b, o, ha, _, he⟩
  · unfold boolsE at h6
    exact .inl (List.map_eq_nil_iff.1 h6)
  · refine .inr ⟨b, o, ha, trivial, fun i hi => ?_⟩
    obtain ⟨u, q1, _, q3⟩ := (he.get h5 (i := i) (e := [.bool xs[i]]) (by rw [boolsE_get, List.getElem?_eq_getElem hi]; rfl)).get (i := 0) rfl
    rw [rep_bool.1 q3] at q1
    simpa using q1
theorem shps_of_rep {t : VC} {ks : List Go.Proofs.YtfjaobfaepjfnaaDoor.Shp} (ih : ∀ k ∈ ks, ∀ (ρ : Cx) na nc ba bc ka kc, Rep w ρ (.view .loose 1 (strsE k.names)) (.slice na k.names.length nc) → Rep w ρ (.view .loose 1 (boolsE k.needs)) (.slice ba k.needs.length bc) → Rep w ρ (.view .loose 4 (k.kids.map shE)) (.slice ka k.kids.length kc) → ShapeC w any k na nc ba bc ka kc)
    {a : Option Addr} {c : Nat} (h : Rep w ρ (.view t 4 (ks.map shE)) (.slice a ks.length c)) : ks.length ≤ c ∧ ks.length ≤ big ∧ (ks = [] ∨ ∃ b o, a = some ⟨b, o, none⟩ ∧ any b ∧ ShpsR w any b o ks) := by
  obtain ⟨a', c', h1, h2, h3, h4, h5, h6⟩ := rep_view.1 h
  clear h2
  simp only [List.length_map] at *
  cases h1
  refine ⟨h3, h4, ?_⟩
  rcases h6 with h6 | ⟨b, o, ha, _, he⟩
  · exact .inl (List.map_eq_nil_iff.1 h6)
  · refine .inr ⟨b, o, ha, trivial, ?_⟩
    clear h h3 h4 h5 ha
    induction ks generalizing o with
    | nil => unfold ShpsR; trivial
    | cons k ks ih2 =>
      unfold ShpsR
      rw [List.map_cons] at he
      unfold RepE at he
      obtain ⟨e1, e2⟩ := he
      rw [shE_len] at e2
      refine ⟨?_, ih2 (fun k hk => ih k (by simp [hk])) _ e2⟩
      rw [shE_eq] at e1
      obtain ⟨v0, p0, _, q0⟩ := e1.get (i := 0) rfl
      obtain ⟨v1, p1, _, q1⟩ := e1.get (i := 1) rfl
      obtain ⟨v2, p2, _, q2⟩ := e1.get (i := 2) rfl
      obtain ⟨v3, p3, _, q3⟩ := e1.get (i := 3) rfl
      rw [rep_int] at q0
      obtain ⟨na, nc, r1, _⟩ := rep_view.1 q1
      obtain ⟨ba, bc, r2, _⟩ := rep_view.1 q2
      obtain ⟨ka, kc, r3, _⟩ := rep_view.1 q3
      rw [strsE_len] at r1
      rw [boolsE_len] at r2
      rw [List.length_map] at r3
      subst q0 r1 r2 r3
      exact ⟨na, nc, ba, bc, ka, kc, p0, p1, p2, p3, ih k (by simp) ρ _ _ _ _ _ _ q1 q2 q3⟩
theorem shapeC_of_rep : ∀ (n : Go.Proofs.YtfjaobfaepjfnaaDoor.Shp) (ρ : Cx) na nc ba bc ka kc, Rep w ρ (.view .loose 1 (strsE n.names)) (.slice na n.names.length nc) → Rep w ρ (.view .loose 1 (boolsE n.needs)) (.slice ba n.needs.length bc) → Rep w ρ (.view .loose 4 (n.kids.map shE)) (.slice ka n.kids.length kc) → ShapeC w any n na nc ba bc ka kc :=
  Shp.ind' _ (fun n ih ρ na nc ba bc ka kc h1 h2 h3 => by
    obtain ⟨a, c, h1', h1''⟩ := strs_of_rep h1
    cases h1'
    obtain ⟨a, c, h2', h2''⟩ := bools_of_rep h2
    cases h2'
    have := shps_of_rep (w := w) (ρ := ρ) ih h3
    cases n
    unfold ShapeC
    exact ⟨h1'', h2'', this.1, this.2⟩)
theorem shape_of_rep {n : Go.Proofs.YtfjaobfaepjfnaaDoor.Shp} {v : Value} (h : Rep w ρ (shA n) v) : ShapeR w any n v := by
  unfold shA at h
  rw [shE_eq] at h
  obtain ⟨vs, rfl, _, h2⟩ := rep_agg.1 h
  obtain ⟨v0, p0, q0⟩ := h2.get (i := 0) rfl
  obtain ⟨v1, p1, q1⟩ := h2.get (i := 1) rfl
  obtain ⟨v2, p2, q2⟩ := h2.get (i := 2) rfl
  obtain ⟨v3, p3, q3⟩ := h2.get (i := 3) rfl
  rw [rep_int] at q0
  obtain ⟨na, nc, r1, _⟩ := rep_view.1 q1
  obtain ⟨ba, bc, r2, _⟩ := rep_view.1 q2
  obtain ⟨ka, kc, r3, _⟩ := rep_view.1 q3
  rw [strsE_len] at r1
  rw [boolsE_len] at r2
  rw [List.length_map] at r3
  subst q0 r1 r2 r3
  have hl := h2.length
  simp only [List.length_cons, List.length_nil] at hl
  refine ⟨na, nc, ba, bc, ka, kc, ?_, shapeC_of_rep n ρ _ _ _ _ _ _ q1 q2 q3⟩
  unfold shapeV
  congr 1
  apply Array.ext'
  apply List.ext_getElem?
  intro i
  rcases i with _ | _ | _ | _ | i
  · exact p0
  · exact p1
  · exact p2
  · exact p3
  · rw [List.getElem?_eq_none (by simp; omega), List.getElem?_eq_none (by simp)]
end
theorem ValidShape_AC (x : Go.Proofs.YtfjaobfaepjfnaaDoor.Shp) : AC Tryd.prog 63 [shA x] 0 (fun r => r = .bool (shpB x 5)) := by
  refine AC.ofGrow (enters_of Tryd.func63 (by kernel_rfl) (by kernel_rfl)) (fun w L S rb vs h => ?_)
  obtain ⟨v, rfl, h1⟩ := repL1_inv h
  refine (implValidShape_ok x v w (shape_of_rep h1)).mono ?_
  rintro e w' ⟨rfl, hg⟩
  exact ⟨_, _, rfl, hg, rep_bool.2 rfl, rfl⟩
theorem FitsShape_AC (x : Go.Proofs.YtfjaobfaepjfnaaDoor.Shp) (n : Nd) : AC Tryd.prog 19 [shA x, nodeA n] 0 (fun r => r = .bool (fitsV x n)) := by
  refine AC.ofGrow (enters_of Tryd.func19 (by kernel_rfl) (by kernel_rfl)) (fun w L S rb vs h => ?_)
  obtain ⟨v, u, rfl, h1, h2⟩ := repL2_inv h
  refine (implFitsShape_ok x n v u w (shape_of_rep h1) (nodeA_of_rep h2)).mono ?_
  rintro e w' ⟨rfl, hg⟩
  exact ⟨_, _, rfl, hg, rep_bool.2 rfl, rfl⟩
theorem misfit_AC (x : Go.Proofs.YtfjaobfaepjfnaaDoor.Shp) (n : Nd) (hx : GoodS x) (hn : Good n) : AC Tryd.prog 64 [shA x, nodeA n] 0 (fun r => r = .tup [.view .loose 1 (strsE ((mis x n).getD [])), .bool (mis x n).isSome]) := by
  refine AC.ofNew (enters_of Tryd.func64 (by kernel_rfl) (by kernel_rfl)) (fun w L S rb vs h => ?_)
  obtain ⟨v, u, rfl, h1, h2⟩ := repL2_inv h
  refine (misfit_ok x n v u w hx hn (shape_of_rep h1) (nodeA_of_rep h2)).mono ?_
  rintro e w' ⟨r, rfl, hg, ⟨a, c, fp, rfl, hF, hfr, _⟩⟩
  exact ⟨_, _, rfl, hg, tup2_rep (strs_to_rep (hF.toR (free_fresh hfr))) (rep_bool.2 rfl), rfl⟩
def fmV (x : Go.Proofs.YtfjaobfaepjfnaaDoor.Shp) (n : Nd) : Option (List ByteArray) := if shpB x 5 && validB n then mis x n else none
theorem fmV_fits {x : Go.Proofs.YtfjaobfaepjfnaaDoor.Shp} {n : Nd} (h1 : shpB x 5 = true) (h2 : validB n = true) : (fmV x n).isSome = !fitsV x n := by
  have hgs : GoodS x := ⟨5, by omega, h1⟩
  unfold fmV fitsV
  rw [h1, h2, Bool.and_true, if_pos rfl, hgs.mis]; simp
theorem FirstMisfit_AC (x : Go.Proofs.YtfjaobfaepjfnaaDoor.Shp) (n : Nd) : AC Tryd.prog 18 [shA x, nodeA n] 0 (fun r => r = .tup [.view .loose 1 (strsE ((fmV x n).getD [])), .bool (fmV x n).isSome]) := by
  refine AC.weak ?_
  have p1 := ValidShape_AC x
  have p2 := ValidNode_AC n .loose
  have hc := sh_clo x
  have hn := node_clo n
  unfold shA nodeA at *
  rw [nodeL_eq n] at *
  rw [shE_eq x] at *
  cases h1 : shpB x 5
  · rw [h1] at p1
    have e : fmV x n = none := by unfold fmV; rw [h1]; rfl
    refine AC.of tab_ok mixed_ok Tryd.func18 (by rfl) (by kernel_rfl) ?_; rintro ⟨P, T, hT, hm, w0, S0, rd0, k0⟩ hP hTT; dsimp only at hP hTT; subst hP hTT; unfold initSt; rw [Tryd.ntmps18]
    (repeat (first | with_reducible refine AW.seq ?_ | ((first | refine arun_kn 4 rfl (fun C hC => ?_) | refine arunD_kn 4 rfl (fun C hC => ?_)); (repeat ((conv => whnf); simp)); refine hC _ ?_; clear hC C; simp only [List.drop, Nat.reduceAdd]) | ((first | refine arun_kn 1 rfl (fun C hC => ?_) | refine arunD_kn 1 rfl (fun C hC => ?_)); (repeat ((conv => whnf); simp)); refine hC _ ?_; clear hC C; simp only [List.drop, Nat.reduceAdd]) | (refine arun_skip ?_ ?_; (focus (simp [awant]; done))) | (refine arun_c0 (p1) ?_; rintro _ rfl) | (refine arunD_skip ?_ ?_; (focus (simp [awant]; done))) | (refine AW.regionK [] (fun K hK => ?_)) | (refine AW.regionDK [] (pcs [] []) (by kernel_rfl) (by kernel_rfl) (fun K hK => ?_)) | (refine AW.condT ?_ ?_; (focus (simp [aev]; done))) | (refine AW.condF ?_ ?_; (focus (simp [aev]; done))) | with_reducible refine AW.block ?_ | ((first | ((first | refine arun_nil ?_ | refine arunD_nil ?_); refine hK _ ?_; clear hK K) | refine AW.skip ?_ | refine AW.exit ?_ | refine AW.ret ?_); simp only [thenA_exit, inBlockA_exit, if_true, if_false, Nat.reduceEqDiff, thenA_normal, inBlockA_normal, reduceIte, thenA_ret, inBlockA_ret, endQ_ret, endR_ret, endG_ret, endQ_normal, endR_normal, endG_normal])))
    exact ⟨.tup [.view .tight 0 [], .bool false], by simp [ares, aresL], tup2_pur (pur_view (by decide) (fun e he => by cases he)) pur_bool, .tup [.view .loose 1 [], .bool false], Wk.tup (.cons (Wk.nil (fun h => by cases h)) (.cons (Wk.refl _) .nil)), by rw [e]; rfl⟩
  rw [h1] at p1
  cases h2 : validB n
  · rw [h2] at p2
    have e : fmV x n = none := by unfold fmV; rw [h1, h2]; rfl
    refine AC.of tab_ok mixed_ok Tryd.func18 (by rfl) (by kernel_rfl) ?_; rintro ⟨P, T, hT, hm, w0, S0, rd0, k0⟩ hP hTT; dsimp only at hP hTT; subst hP hTT; unfold initSt; rw [Tryd.ntmps18]
    (repeat (first | with_reducible refine AW.seq ?_ | ((first | refine arun_kn 4 rfl (fun C hC => ?_) | refine arunD_kn 4 rfl (fun C hC => ?_)); (repeat ((conv => whnf); simp)); refine hC _ ?_; clear hC C; simp only [List.drop, Nat.reduceAdd]) | ((first | refine arun_kn 1 rfl (fun C hC => ?_) | refine arunD_kn 1 rfl (fun C hC => ?_)); (repeat ((conv => whnf); simp)); refine hC _ ?_; clear hC C; simp only [List.drop, Nat.reduceAdd]) | (refine arun_skip ?_ ?_; (focus (simp [awant]; done))) | (refine arun_c0 (p1) ?_; rintro _ rfl) | (refine arun_c0 (p2) ?_; rintro _ rfl) | (refine arunD_skip ?_ ?_; (focus (simp [awant]; done))) | (refine AW.regionK [] (fun K hK => ?_)) | (refine AW.regionDK [] (pcs [] []) (by kernel_rfl) (by kernel_rfl) (fun K hK => ?_)) | (refine AW.condT ?_ ?_; (focus (simp [aev]; done))) | (refine AW.condF ?_ ?_; (focus (simp [aev]; done))) | with_reducible refine AW.block ?_ | ((first | ((first | refine arun_nil ?_ | refine arunD_nil ?_); refine hK _ ?_; clear hK K) | refine AW.skip ?_ | refine AW.exit ?_ | refine AW.ret ?_); simp only [thenA_exit, inBlockA_exit, if_true, if_false, Nat.reduceEqDiff, thenA_normal, inBlockA_normal, reduceIte, thenA_ret, inBlockA_ret, endQ_ret, endR_ret, endG_ret, endQ_normal, endR_normal, endG_normal])))
    exact ⟨.tup [.view .tight 0 [], .bool false], by simp [ares, aresL], tup2_pur (pur_view (by decide) (fun e he => by cases he)) pur_bool, .tup [.view .loose 1 [], .bool false], Wk.tup (.cons (Wk.nil (fun h => by cases h)) (.cons (Wk.refl _) .nil)), by rw [e]; rfl⟩
  rw [h2] at p2
  have e : fmV x n = mis x n := by unfold fmV; rw [h1, h2]; rfl
  have p3 := misfit_AC x n ⟨5, by omega, h1⟩ (validB_good h2)
  unfold shA nodeA at p3
  rw [nodeL_eq n, shE_eq x] at p3
  refine AC.of tab_ok mixed_ok Tryd.func18 (by rfl) (by kernel_rfl) ?_; rintro ⟨P, T, hT, hm, w0, S0, rd0, k0⟩ hP hTT; dsimp only at hP hTT; subst hP hTT; unfold initSt; rw [Tryd.ntmps18]
  (repeat (first | with_reducible refine AW.seq ?_ | ((first | refine arun_kn 4 rfl (fun C hC => ?_) | refine arunD_kn 4 rfl (fun C hC => ?_)); (repeat ((conv => whnf); simp)); refine hC _ ?_; clear hC C; simp only [List.drop, Nat.reduceAdd]) | ((first | refine arun_kn 1 rfl (fun C hC => ?_) | refine arunD_kn 1 rfl (fun C hC => ?_)); (repeat ((conv => whnf); simp)); refine hC _ ?_; clear hC C; simp only [List.drop, Nat.reduceAdd]) | (refine arun_skip ?_ ?_; (focus (simp [awant]; done))) | (refine arun_c0 (p1) ?_; rintro _ rfl) | (refine arun_c0 (p2) ?_; rintro _ rfl) | (refine arun_c0 (p3) ?_; rintro _ rfl) | (refine arunD_skip ?_ ?_; (focus (simp [awant]; done))) | (refine AW.regionK [] (fun K hK => ?_)) | (refine AW.regionDK [] (pcs [] []) (by kernel_rfl) (by kernel_rfl) (fun K hK => ?_)) | (refine AW.condT ?_ ?_; (focus (simp [aev]; done))) | (refine AW.condF ?_ ?_; (focus (simp [aev]; done))) | with_reducible refine AW.block ?_ | ((first | ((first | refine arun_nil ?_ | refine arunD_nil ?_); refine hK _ ?_; clear hK K) | refine AW.skip ?_ | refine AW.exit ?_ | refine AW.ret ?_); simp only [thenA_exit, inBlockA_exit, if_true, if_false, Nat.reduceEqDiff, thenA_normal, inBlockA_normal, reduceIte, thenA_ret, inBlockA_ret, endQ_ret, endR_ret, endG_ret, endQ_normal, endR_normal, endG_normal])))
  exact ⟨.tup [.view .loose 1 (strsE ((mis x n).getD [])), .bool (mis x n).isSome], by simp [ares, aresL], tup2_pur (strs_pur _ (by decide)) pur_bool, _, Wk.refl _, by rw [e]⟩
end Go.Proofs.YtfjaobfaepjfnaaDoor.Eng
-- EV: rows skip
namespace Go.Proofs.YtfjaobfaepjfnaaDoor.Eng
open Go Go.RowKit
attribute [local simp] big size_mk ASt.pay Option.map_map Function.comp_def awant aop acall ado aev ofVal ofVal0 ASt.put ASt.add ASt.turn ASt.kill abox aalloc astore aload aloadD astoreD idOf ASt.at cellsTo afieldAddr afield aindexAddr aindex alen abin aint acmp astr aun apick aextract anil aslice abound abuild afill abuildSlice asCells aps avCells over upd aappend asrc amax amin aconv mkSt slots rowsOf_cons rowsOf_nil usedOf_cons usedOf_nil ZK.av List.replicate ASt.back ASt.addL ASt.killL nodeA nodeT nodeTL_eq nodeL_eq strsE_get strsE_len intsE_get intsE_len strsE_at intsE_at nodeN namesRow nodeO kidsRow tab2 tab3 tab4 tab5 tab6 tab7 tab8 tab9 tab10 tab11 tab12 tab13 tab14 tab15 tab16 tab17 tab18 tab19 tab21 tab22 tab23 tab24 tab25 tab26 tab28 tab29 tab30 tab31 tab42 tab43 tab44 tab46 tab63 tab64 tab67 tab68 tab75 tab98 tab100 tab101 tab105 tab106 tab107 tab122 tab123 tab125 tab128 tab138 tab144 tab151 tab152 tab157 tab158 tab160 tab161 tab162
def shRR (x : Go.Proofs.YtfjaobfaepjfnaaDoor.Shp) (a b c : Nat) : AV := .agg [.int .i64 x.kind, .own a x.names.length, .own b x.needs.length, .own c x.kids.length]
def boolsR (xs : List Bool) : Row := ⟨false, 4, 1, boolsE xs⟩
def shsR (ks : List Go.Proofs.YtfjaobfaepjfnaaDoor.Shp) : Row := ⟨false, 31, 4, ks.map shE⟩
def zeroS : List AV := [.int .i64 0, .view .tight 0 [], .view .tight 0 [], .view .tight 0 []]
theorem boolsE_app (xs ys : List Bool) : boolsE (xs ++ ys) = boolsE xs ++ boolsE ys := by unfold boolsE; rw [List.map_append]
mutual
def shO : Nd → Go.Proofs.YtfjaobfaepjfnaaDoor.Shp
  | ⟨kind, _, _, names, kids⟩ => ⟨kind, names, List.replicate names.length true, shOL names.length kids⟩
def shOL : Nat → List Nd → List Go.Proofs.YtfjaobfaepjfnaaDoor.Shp
  | _, [] => []
  | 0, _ :: _ => []
  | m + 1, k :: ks => shO k :: shOL m ks
end
theorem shOL_map : ∀ (ks : List Nd) (m : Nat), shOL m ks = (ks.take m).map shO
  | [], m => by unfold shOL; simp
  | k :: ks, 0 => by unfold shOL; simp
  | k :: ks, m + 1 => by unfold shOL; rw [shOL_map ks m]; simp
theorem shO_eq (n : Nd) : shO n = ⟨n.kind, n.names, List.replicate n.names.length true, (n.kids.take n.names.length).map shO⟩ := by
  cases n; unfold shO; rw [shOL_map]
theorem Shp.nml {n : Nd} (h : Shp n) : n.names.length ≤ n.kids.length := by
  by_cases h4 : n.kind = 4
  · have := (h.map h4).2; omega
  · obtain ⟨d, hd⟩ := h
    have : n.names = [] := Good.names ⟨d, hd⟩ h4
    rw [this]; simp
theorem shapeOf_step (n : Nd) (hs : Shp n) (ih : ∀ k ∈ n.kids, AC Tryd.prog 55 [nodeA k] 0 (fun r => r = shA (shO k))) : ACG Tryd.prog 55 [nodeA n] [] 0 (fun r l => r = shRR (shO n) 7 11 12 ∧ l = [(7, namesR n.names), (11, boolsR (List.replicate n.names.length true)), (12, shsR ((n.kids.take n.names.length).map shO))]) := by
  have hs1 := hs.sml.names
  have hs2 := hs.kids
  have hnl := hs.nml
  have b1 : n.names.length * 16 ≤ 140737488355328 := by omega
  have b2 : n.names.length ≤ 140737488355328 := by omega
  unfold nodeA
  rw [nodeL_eq]
  refine ACG.of tab_ok mixed_ok Tryd.func55 (by rfl) (by kernel_rfl) (by simp) ?_; rintro ⟨P, T, hT, hm, w0, S0, rd0, k0⟩ hP hTT; dsimp only at hP hTT; subst hP hTT; unfold initStG; rw [Tryd.ntmps55]
  (repeat (first | with_reducible refine AW.seq ?_ | ((first | refine arun_kn 4 rfl (fun C hC => ?_) | refine arunD_kn 4 rfl (fun C hC => ?_)); (repeat ((conv => whnf); simp)); refine hC _ ?_; clear hC C; simp only [List.drop, Nat.reduceAdd]) | ((first | refine arun_kn 1 rfl (fun C hC => ?_) | refine arunD_kn 1 rfl (fun C hC => ?_)); (repeat ((conv => whnf); simp)); refine hC _ ?_; clear hC C; simp only [List.drop, Nat.reduceAdd]) | (refine arun_skip ?_ ?_; (focus (simp [awant]; done))) | (refine arunD_skip ?_ ?_; (focus (simp [awant]; done))) | (refine AW.regionK [] (fun K hK => ?_)) | (refine AW.condT ?_ ?_; (focus (simp [aev]; done))) | (refine AW.condF ?_ ?_; (focus (simp [aev]; done))) | with_reducible refine AW.block ?_ | ((first | ((first | refine arun_nil ?_ | refine arunD_nil ?_); refine hK _ ?_; clear hK K) | refine AW.skip ?_ | refine AW.exit ?_ | refine AW.ret ?_); simp only [thenA_exit, inBlockA_exit, if_true, if_false, Nat.reduceEqDiff, thenA_normal, inBlockA_normal, reduceIte, thenA_ret, inBlockA_ret, endQ_ret, endR_ret, endG_ret, endQ_normal, endR_normal, endG_normal])))
  refine AW.regionDK [2007, 2011, 2012] (pcs [] []) (by kernel_rfl) (by kernel_rfl) (fun K hK => ?_)
  (repeat (first | with_reducible refine AW.seq ?_ | ((first | refine arun_kn 4 rfl (fun C hC => ?_) | refine arunD_kn 4 rfl (fun C hC => ?_)); (repeat ((conv => whnf); simp [strsE_len, b1, b2])); refine hC _ ?_; clear hC C; simp only [List.drop, Nat.reduceAdd]) | ((first | refine arun_kn 1 rfl (fun C hC => ?_) | refine arunD_kn 1 rfl (fun C hC => ?_)); (repeat ((conv => whnf); simp [strsE_len, b1, b2])); refine hC _ ?_; clear hC C; simp only [List.drop, Nat.reduceAdd]) | (refine arun_skip ?_ ?_; (focus (simp [awant, strsE_len, b1, b2]; done))) | (refine arunD_skip ?_ ?_; (focus (simp [awant, strsE_len, b1, b2]; done))) | (refine AW.regionK [] (fun K hK => ?_)) | (refine AW.regionDK [] (pcs [] []) (by kernel_rfl) (by kernel_rfl) (fun K hK => ?_)) | (refine AW.condT ?_ ?_; (focus (simp [aev, strsE_len, b1, b2]; done))) | (refine AW.condF ?_ ?_; (focus (simp [aev, strsE_len, b1, b2]; done))) | with_reducible refine AW.block ?_ | ((first | ((first | refine arun_nil ?_ | refine arunD_nil ?_); refine hK _ ?_; clear hK K) | refine AW.skip ?_ | refine AW.exit ?_ | refine AW.ret ?_); simp only [thenA_exit, inBlockA_exit, if_true, if_false, Nat.reduceEqDiff, thenA_normal, inBlockA_normal, reduceIte, thenA_ret, inBlockA_ret, endQ_ret, endR_ret, endG_ret, endQ_normal, endR_normal, endG_normal])))
  refine AW.loopS (fun (i : Nat) => mkSt (slots 0 38 [(1, .ptr true 5 1 1 0 0), (2, .ptr true 4 1 2 0 0), (3, .ptr true 4 1 3 0 0), (4, .int .i64 i)]) [(1, ⟨true, 26, 5, [[.int .i64 n.kind, .int .i64 n.num, .str n.text, .view .loose 1 (strsE n.names), .view .loose 5 (n.kids.map nodeL)]]⟩), (2, ⟨true, 31, 4, [zeroS]⟩), (3, ⟨true, 31, 4, [[.int .i64 n.kind, .own 7 n.names.length, .own 11 i, .own 12 i]]⟩), (7, namesR n.names), (11, boolsR (List.replicate i true)), (12, shsR ((n.kids.take i).map shO))] [1, 2, 3, 7, 11, 12] (rd0.map fun _ => 0)) (fun i => n.names.length - i) (fun i => i ≤ n.names.length) 0 ?_ (Nat.zero_le _) ?_
  · exact (less_of (by simp [lessL, mkSt, slots, namesR, boolsR, shsR, zeroS, boolsE, nodeN, namesRow, nodeO, kidsRow]) (by simp [upd, mkSt, rowsOf_cons, namesR, boolsR, shsR, zeroS, boolsE, nodeN, namesRow, nodeO, kidsRow]) (by simp [upd, mkSt, usedOf_cons, namesR, boolsR, shsR, zeroS, boolsE, nodeN, namesRow, nodeO, kidsRow]) (by first | exact rd_less (by omega) | simp [mkSt, namesR, boolsR, shsR, zeroS, boolsE, nodeN, namesRow, nodeO, kidsRow]) (by simp [slots, in_any, in_int, in_bool, in_str, in_ptr, in_own, in_agg, in_vnil, in_rdr, usedOf_cons, usedOf_nil, strs_in, ints_in, nodes_in, in_tup, namesR, boolsR, shsR, zeroS, boolsE, nodeN, namesRow, nodeO, kidsRow]) (by simp only [List.forall_mem_cons, List.not_mem_nil, false_implies, implies_true, and_true, true_and, namesR, boolsR, shsR, zeroS, boolsE, nodeN, namesRow, nodeO, kidsRow]; (repeat (first | with_reducible exact trivial | with_reducible refine And.intro ?_ ?_ | with_reducible exact in_int | with_reducible exact in_str | with_reducible exact in_bool | with_reducible exact strs_in _ | with_reducible exact nodes_in _ | with_reducible exact items_in _ | with_reducible exact in_vnil | with_reducible exact in_any | exact hin _ | with_reducible refine take_in ?_ | with_reducible exact strsE_in _ | with_reducible exact nodesE_in _ | with_reducible exact nodeL_in _ | with_reducible exact itemsE_in _ | with_reducible exact itemL_in _ | with_reducible refine app_in ?_ ?_ | with_reducible refine sing_in ?_ | (focus (simp [in_any, in_int, in_bool, in_str, in_ptr, in_own, in_agg, in_vnil, in_rdr, usedOf_cons, usedOf_nil, strs_in, ints_in, nodes_in, namesR, boolsR, shsR, zeroS, boolsE, nodeN, namesRow, nodeO, kidsRow]; done)))); done))
  intro i hi
  have hbl : (boolsE (List.replicate i true)).length = i := by rw [boolsE_len, List.length_replicate]
  have hsl : ((n.kids.take i).map shO).length = i := by rw [List.length_map, List.length_take]; omega
  have hsl' : (((n.kids.take i).map shO).map shE).length = i := by rw [List.length_map, hsl]
  by_cases hlt : i < n.names.length
  rotate_left
  · obtain rfl : i = n.names.length := by omega
    (repeat (first | with_reducible refine AW.seq ?_ | ((first | refine arun_kn 4 rfl (fun C hC => ?_) | refine arunD_kn 4 rfl (fun C hC => ?_)); (repeat ((conv => whnf); simp [strsE_len])); refine hC _ ?_; clear hC C; simp only [List.drop, Nat.reduceAdd]) | ((first | refine arun_kn 1 rfl (fun C hC => ?_) | refine arunD_kn 1 rfl (fun C hC => ?_)); (repeat ((conv => whnf); simp [strsE_len])); refine hC _ ?_; clear hC C; simp only [List.drop, Nat.reduceAdd]) | (refine arun_skip ?_ ?_; (focus (simp [awant, strsE_len]; done))) | (refine arunD_skip ?_ ?_; (focus (simp [awant, strsE_len]; done))) | (refine AW.regionK [] (fun K hK => ?_)) | (refine AW.regionDK [] (pcs [] []) (by kernel_rfl) (by kernel_rfl) (fun K hK => ?_)) | (refine AW.condT ?_ ?_; (focus (simp [aev, strsE_len]; done))) | (refine AW.condF ?_ ?_; (focus (simp [aev, strsE_len]; done))) | with_reducible refine AW.block ?_ | ((first | ((first | refine arun_nil ?_ | refine arunD_nil ?_); refine hK _ ?_; clear hK K) | refine AW.skip ?_ | refine AW.exit ?_ | refine AW.ret ?_); simp only [thenA_exit, inBlockA_exit, if_true, if_false, Nat.reduceEqDiff, thenA_normal, inBlockA_normal, reduceIte, thenA_ret, inBlockA_ret, endQ_ret, endR_ret, endG_ret, endQ_normal, endR_normal, endG_normal])))
    have e := shO_eq n
    refine ⟨shRR (shO n) 7 11 12, [(7, namesR n.names), (11, boolsR (List.replicate n.names.length true)), (12, shsR ((n.kids.take n.names.length).map shO))], ?_, by simp [mkSt, rowsOf_cons], ?_, ?_, ?_, rfl, rfl⟩
    · rw [e]
      simp only [shRR, List.length_replicate, hsl]
      simp [ares, aresL, upd, rowsOf_cons]
    · refine purR_agg ?_
      simp only [List.forall_mem_cons, List.not_mem_nil, false_implies, implies_true, and_true]
      exact ⟨pur_int.purR, purR_own, purR_own, purR_own⟩
    · simp only [List.forall_mem_cons, List.not_mem_nil, false_implies, implies_true, and_true]
      exact ⟨fun e he c hc => (strsE_pur _ e he c hc).purR, fun e he c hc => (boolsE_pur _ e he c hc).purR, fun e he c hc => (shsE_pur _ e he c hc).purR⟩
    · refine ⟨by simp [shRR, in_agg, in_int, in_own, rowsOf_cons], ?_⟩
      simp only [List.forall_mem_cons, List.not_mem_nil, false_implies, implies_true, and_true]
      exact ⟨fun e he c hc => strsE_in _ e he c hc, fun e he c hc => boolsE_in _ e he c hc, fun e he c hc => shsE_in _ e he c hc⟩
  have hki : i < n.kids.length := by omega
  have hki' : (i : Int) < (n.kids.length : Int) := by omega
  have hw : IntKind.i64.wrap ((i : Int) + 1) = (i : Int) + 1 := i64_nat (by omega) (by omega)
  have x1 : (n.kids.map nodeL)[i]? = some [.int .i64 n.kids[i].kind, .int .i64 n.kids[i].num, .str n.kids[i].text, .view .loose 1 (strsE n.kids[i].names), .view .loose 5 (n.kids[i].kids.map nodeL)] := by rw [List.getElem?_map, List.getElem?_eq_getElem hki, ← nodeL_eq]; rfl
  have p1 := ih n.kids[i] (List.getElem_mem hki)
  have c1 : (i + 1) * 1 ≤ 140737488355328 := by omega
  have c2 : i + 1 ≤ 140737488355328 := by omega
  have c3 : (i + 1) * 80 ≤ 140737488355328 := by omega
  have et : List.replicate (i + 1) true = List.replicate i true ++ [true] := List.replicate_succ'
  have ek : (n.kids.take (i + 1)).map shO = (n.kids.take i).map shO ++ [shO n.kids[i]] := by rw [take_snoc' _ _ hki, List.map_append]; rfl
  unfold nodeA shA at p1
  rw [nodeL_eq n.kids[i]] at p1
  have hb0 : boolsR (List.replicate i true) = ⟨false, 4, 1, boolsE (List.replicate i true)⟩ := rfl
  have hb1 : shsR ((n.kids.take i).map shO) = ⟨false, 31, 4, ((n.kids.take i).map shO).map shE⟩ := rfl
  rw [hb0, hb1]
  obtain ⟨Ks, hK⟩ : ∃ Ks, Ks = (n.kids.take i).map shO := ⟨_, rfl⟩
  rw [← hK] at hsl ⊢
  rw [← hK] at ek
  obtain ⟨Bs, hB⟩ : ∃ Bs, Bs = boolsE (List.replicate i true) := ⟨_, rfl⟩
  rw [← hB] at hbl ⊢
  (repeat (first | with_reducible refine AW.seq ?_ | ((first | refine arun_kn 4 rfl (fun C hC => ?_) | refine arunD_kn 4 rfl (fun C hC => ?_)); (repeat ((conv => whnf); simp [hlt, hki, hki', hw, x1, shE_len, strsE_len, hbl, hsl, c1, c2, c3])); refine hC _ ?_; clear hC C; simp only [List.drop, Nat.reduceAdd]) | ((first | refine arun_kn 1 rfl (fun C hC => ?_) | refine arunD_kn 1 rfl (fun C hC => ?_)); (repeat ((conv => whnf); simp [hlt, hki, hki', hw, x1, shE_len, strsE_len, hbl, hsl, c1, c2, c3])); refine hC _ ?_; clear hC C; simp only [List.drop, Nat.reduceAdd]) | (refine arun_skip ?_ ?_; (focus (simp [awant, hlt, hki, hki', hw, x1, shE_len, strsE_len, hbl, hsl, c1, c2, c3]; done))) | (refine arun_c0 (p1) ?_; rintro _ rfl) | (refine arunD_skip ?_ ?_; (focus (simp [awant, hlt, hki, hki', hw, x1, shE_len, strsE_len, hbl, hsl, c1, c2, c3]; done))) | (refine arunD_cE (0) (p1) (by exact ⟨_, rfl, in_agg.2 (shE_in _)⟩) ?_; rintro _ rfl; intro _) | (refine AW.regionK [] (fun K hK => ?_)) | (refine AW.regionDK [] (pcs [(7, 0, fun r => r = .agg (shE (shO n.kids[i])))] []) (by kernel_rfl) (by kernel_rfl) (fun K hK => ?_)) | (refine AW.condT ?_ ?_; (focus (simp [aev, hlt, hki, hki', hw, x1, shE_len, strsE_len, hbl, hsl, c1, c2, c3]; done))) | (refine AW.condF ?_ ?_; (focus (simp [aev, hlt, hki, hki', hw, x1, shE_len, strsE_len, hbl, hsl, c1, c2, c3]; done))) | with_reducible refine AW.block ?_ | ((first | ((first | refine arun_nil ?_ | refine arunD_nil ?_); refine hK _ ?_; clear hK K) | refine AW.skip ?_ | refine AW.exit ?_ | refine AW.ret ?_); simp only [thenA_exit, inBlockA_exit, if_true, if_false, Nat.reduceEqDiff, thenA_normal, inBlockA_normal, reduceIte, thenA_ret, inBlockA_ret, endQ_ret, endR_ret, endG_ret, endQ_normal, endR_normal, endG_normal])))
  refine ⟨i + 1, by omega, by omega, ?_⟩
  rw [et, ek]
  have e1 : boolsR (List.replicate i true ++ [true]) = ⟨false, 4, 1, boolsE (List.replicate i true) ++ [[.bool true]]⟩ := by unfold boolsR; rw [boolsE_app]; rfl
  have e2 : shsR (Ks ++ [shO n.kids[i]]) = ⟨false, 31, 4, Ks.map shE ++ [shE (shO n.kids[i])]⟩ := by unfold shsR; rw [List.map_append]; rfl
  have hin2 : ∀ U : Nat → Bool, ∀ e ∈ Bs ++ [[.bool true]], ∀ c ∈ e, AV.In U c := fun U => by
    rw [hB, show boolsE (List.replicate i true) ++ [[.bool true]] = boolsE (List.replicate i true ++ [true]) by rw [boolsE_app]; rfl]; exact boolsE_in _
  have hin : ∀ U : Nat → Bool, ∀ e ∈ Ks.map shE ++ [shE (shO n.kids[i])], ∀ c ∈ e, AV.In U c := fun U => by
    rw [show Ks.map shE ++ [shE (shO n.kids[i])] = (Ks ++ [shO n.kids[i]]).map shE by rw [List.map_append]; rfl]; exact shsE_in _
  rw [e1, e2, ← hB]
  exact (less_of (by simp [lessL, mkSt, slots, namesR, zeroS, nodeN, namesRow, nodeO, kidsRow]) (by simp [upd, mkSt, rowsOf_cons, namesR, zeroS, nodeN, namesRow, nodeO, kidsRow]) (by simp [upd, mkSt, usedOf_cons, namesR, zeroS, nodeN, namesRow, nodeO, kidsRow]) (by first | exact rd_less (by omega) | simp [mkSt, namesR, zeroS, nodeN, namesRow, nodeO, kidsRow]) (by simp [slots, in_any, in_int, in_bool, in_str, in_ptr, in_own, in_agg, in_vnil, in_rdr, usedOf_cons, usedOf_nil, strs_in, ints_in, nodes_in, in_tup, namesR, zeroS, nodeN, namesRow, nodeO, kidsRow]) (by simp only [List.forall_mem_cons, List.not_mem_nil, false_implies, implies_true, and_true, true_and, namesR, zeroS, nodeN, namesRow, nodeO, kidsRow]; (repeat (first | with_reducible exact trivial | with_reducible refine And.intro ?_ ?_ | with_reducible exact in_int | with_reducible exact in_str | with_reducible exact in_bool | with_reducible exact strs_in _ | with_reducible exact nodes_in _ | with_reducible exact items_in _ | with_reducible exact in_vnil | with_reducible exact in_any | exact hin _ | exact hin2 _ | with_reducible refine take_in ?_ | with_reducible exact strsE_in _ | with_reducible exact nodesE_in _ | with_reducible exact nodeL_in _ | with_reducible exact itemsE_in _ | with_reducible exact itemL_in _ | with_reducible refine app_in ?_ ?_ | with_reducible refine sing_in ?_ | (focus (simp [in_any, in_int, in_bool, in_str, in_ptr, in_own, in_agg, in_vnil, in_rdr, usedOf_cons, usedOf_nil, strs_in, ints_in, nodes_in, namesR, zeroS, nodeN, namesRow, nodeO, kidsRow]; done)))); done))
def shO3 (n : Nd) : List (Nat × Row) := [(7, namesR n.names), (11, boolsR (List.replicate n.names.length true)), (12, shsR ((n.kids.take n.names.length).map shO))]
theorem shapeOf_hd {l : List (Nat × Row)} {n : Nd} (h : l = shO3 n) : Hd l (shRR (shO n) 7 11 12) (shA (shO n)) := by
  subst h
  refine .base ?_
  unfold shRR shA
  rw [shE_eq]
  rw [shO_eq n]
  refine .agg (.cons (.pur pur_int) (.cons ?_ (.cons ?_ (.cons ?_ .nil))))
  · exact .own (R := namesR n.names) (t := .loose) rfl rfl (by simp [namesR, strsE]) (strsE_pur _)
  · exact .own (R := boolsR (List.replicate n.names.length true)) (t := .loose) rfl (by simp [shO3, rowsOf_cons]) (by simp [boolsR, boolsE]) (boolsE_pur _)
  · exact .own (R := shsR ((n.kids.take n.names.length).map shO)) (t := .loose) rfl (by simp [shO3, rowsOf_cons]) (by simp [shsR]) (shsE_pur _)
theorem shp_ind {p : Nd → Prop} (h : ∀ n, Shp n → (∀ k ∈ n.kids, p k) → p n) : ∀ n, Shp n → p n := Nd.ind' _ (fun n ih hs => h n hs (fun k hk => ih k hk (hs.kid hk)))
theorem shapeOf_AC : ∀ n, Shp n → AC Tryd.prog 55 [nodeA n] 0 (fun r => r = shA (shO n)) :=
  shp_ind fun n hs ih => AC.ofG (shapeOf_step n hs ih) (fun r l ⟨h1, h2⟩ => ⟨shA (shO n), by rw [h1]; exact shapeOf_hd h2, rfl⟩)
end Go.Proofs.YtfjaobfaepjfnaaDoor.Eng
-- EV: rows skip
namespace Go.Proofs.YtfjaobfaepjfnaaDoor.Eng
open Go Go.RowKit
attribute [local simp] big size_mk ASt.pay Option.map_map Function.comp_def awant aop acall ado aev ofVal ofVal0 ASt.put ASt.add ASt.turn ASt.kill abox aalloc astore aload aloadD astoreD idOf ASt.at cellsTo afieldAddr afield aindexAddr aindex alen abin aint acmp astr aun apick aextract anil aslice abound abuild afill abuildSlice asCells aps avCells over upd aappend asrc amax amin aconv mkSt slots rowsOf_cons rowsOf_nil usedOf_cons usedOf_nil ZK.av List.replicate ASt.back ASt.addL ASt.killL nodeA nodeT nodeTL_eq nodeL_eq strsE_get strsE_len intsE_get intsE_len strsE_at intsE_at nodeN namesRow nodeO kidsRow tab2 tab3 tab4 tab5 tab6 tab7 tab8 tab9 tab10 tab11 tab12 tab13 tab14 tab15 tab16 tab17 tab18 tab19 tab21 tab22 tab23 tab24 tab25 tab26 tab28 tab29 tab30 tab31 tab42 tab43 tab44 tab46 tab63 tab64 tab67 tab68 tab75 tab98 tab100 tab101 tab105 tab106 tab107 tab122 tab123 tab125 tab128 tab138 tab144 tab151 tab152 tab157 tab158 tab160 tab161 tab162
theorem shO_map {n : Nd} (hs : Shp n) (h4 : n.kind = 4) : shO n = ⟨n.kind, n.names, List.replicate n.kids.length true, n.kids.map shO⟩ := by
  have := (hs.map h4).2
  rw [shO_eq, ← this, List.take_length]
theorem shO_leaf {n : Nd} (hs : Shp n) (h4 : n.kind ≠ 4) : shO n = ⟨n.kind, [], [], []⟩ := by
  obtain ⟨d, hd⟩ := hs
  have : n.names = [] := Good.names ⟨d, hd⟩ h4
  rw [shO_eq, this]; rfl
theorem shE_sub {id m : Nat} {c : AV} (x : Go.Proofs.YtfjaobfaepjfnaaDoor.Shp) : AV.subL id m c (shE x) = shE x := by rw [shE_eq]; simp [AV.subL, AV.sub]
set_option maxRecDepth 100000
set_option maxHeartbeats 16000000
theorem shapeVal_step (n : Nd) (hs : Shp n) (ih : ∀ k ∈ n.kids, AC Tryd.prog 53 [nodeA k] 0 (fun r => r = shA (shO k))) : AC Tryd.prog 53 [nodeA n] 0 (fun r => r = shA (shO n)) := by
  have hs1 := hs.sml.names
  have hs2 := hs.kids
  refine AC.weak ?_
  unfold nodeA
  rw [nodeL_eq]
  refine AC.of tab_ok mixed_ok Tryd.func53 (by rfl) (by kernel_rfl) ?_; rintro ⟨P, T, hT, hm, w0, S0, rd0, k0⟩ hP hTT; dsimp only at hP hTT; subst hP hTT; unfold initSt; rw [Tryd.ntmps53]
  by_cases h4 : n.kind = 4
  rotate_left
  · have hb : (n.kind != 4) = true := by simpa using h4
    (repeat (first | with_reducible refine AW.seq ?_ | ((first | refine arun_kn 4 rfl (fun C hC => ?_) | refine arunD_kn 4 rfl (fun C hC => ?_)); (repeat ((conv => whnf); simp [hb])); refine hC _ ?_; clear hC C; simp only [List.drop, Nat.reduceAdd]) | ((first | refine arun_kn 1 rfl (fun C hC => ?_) | refine arunD_kn 1 rfl (fun C hC => ?_)); (repeat ((conv => whnf); simp [hb])); refine hC _ ?_; clear hC C; simp only [List.drop, Nat.reduceAdd]) | (refine arun_skip ?_ ?_; (focus (simp [awant, hb]; done))) | (refine arunD_skip ?_ ?_; (focus (simp [awant, hb]; done))) | (refine AW.regionK [] (fun K hK => ?_)) | (refine AW.regionDK [] (pcs [] []) (by kernel_rfl) (by kernel_rfl) (fun K hK => ?_)) | (refine AW.condT ?_ ?_; (focus (simp [aev, hb]; done))) | (refine AW.condF ?_ ?_; (focus (simp [aev, hb]; done))) | with_reducible refine AW.block ?_ | ((first | ((first | refine arun_nil ?_ | refine arunD_nil ?_); refine hK _ ?_; clear hK K) | refine AW.skip ?_ | refine AW.exit ?_ | refine AW.ret ?_); simp only [thenA_exit, inBlockA_exit, if_true, if_false, Nat.reduceEqDiff, thenA_normal, inBlockA_normal, reduceIte, thenA_ret, inBlockA_ret, endQ_ret, endR_ret, endG_ret, endQ_normal, endR_normal, endG_normal])))
    refine ⟨.agg [.int .i64 n.kind, .view .tight 0 [], .view .tight 0 [], .view .tight 0 []], by simp [ares, aresL, upd, rowsOf_cons], pur_agg (by
      simp only [List.forall_mem_cons, List.not_mem_nil, false_implies, implies_true, and_true]
      exact ⟨pur_int, pur_view (by simp) (fun e he => by cases he), pur_view (by simp) (fun e he => by cases he), pur_view (by simp) (fun e he => by cases he)⟩), _, ?_, rfl⟩
    rw [shO_leaf hs h4]
    unfold shA
    rw [shE_eq]
    exact .agg (.cons (Wk.refl _) (.cons (Wk.nil (fun h => by cases h)) (.cons (Wk.nil (fun h => by cases h)) (.cons (Wk.nil (fun h => by cases h)) .nil))))
  have hb : (n.kind != 4) = false := by simp [h4]
  have pc := copyTexts_AC .loose n.names (by omega)
  rw [shO_map hs h4]
  (repeat (first | with_reducible refine AW.seq ?_ | ((first | refine arun_kn 4 rfl (fun C hC => ?_) | refine arunD_kn 4 rfl (fun C hC => ?_)); (repeat ((conv => whnf); simp [hb])); refine hC _ ?_; clear hC C; simp only [List.drop, Nat.reduceAdd]) | ((first | refine arun_kn 1 rfl (fun C hC => ?_) | refine arunD_kn 1 rfl (fun C hC => ?_)); (repeat ((conv => whnf); simp [hb])); refine hC _ ?_; clear hC C; simp only [List.drop, Nat.reduceAdd]) | (refine arun_skip ?_ ?_; (focus (simp [awant, hb]; done))) | (refine arun_c0 (pc) ?_; rintro _ rfl) | (refine arunD_skip ?_ ?_; (focus (simp [awant, hb]; done))) | (refine AW.regionK [] (fun K hK => ?_)) | (refine AW.regionDK [] (pcs [] []) (by kernel_rfl) (by kernel_rfl) (fun K hK => ?_)) | (refine AW.condT ?_ ?_; (focus (simp [aev, hb]; done))) | (refine AW.condF ?_ ?_; (focus (simp [aev, hb]; done))) | with_reducible refine AW.block ?_ | ((first | ((first | refine arun_nil ?_ | refine arunD_nil ?_); refine hK _ ?_; clear hK K) | refine AW.skip ?_ | refine AW.exit ?_ | refine AW.ret ?_); simp only [thenA_exit, inBlockA_exit, if_true, if_false, Nat.reduceEqDiff, thenA_normal, inBlockA_normal, reduceIte, thenA_ret, inBlockA_ret, endQ_ret, endR_ret, endG_ret, endQ_normal, endR_normal, endG_normal])))
  refine AW.adoptB 3 2 11 4 1 ⟨_, tab4, rfl⟩ (by simp [upd]; rfl) rfl rfl (by simp [upd]) ?_
  simp only [ASt.adoptB]
  refine AW.adoptB 3 3 12 31 4 ⟨_, tab31, rfl⟩ (by simp [upd]; rfl) rfl rfl (by simp [upd]) ?_
  simp only [ASt.adoptB]
  refine AW.loopS (fun (i : Nat) => mkSt (slots 0 38 [(1, .ptr true 5 1 1 0 0), (2, .ptr true 4 1 2 0 0), (3, .ptr true 4 1 3 0 0), (18, .view .loose 5 (n.kids.map nodeL)), (19, .int .i64 n.kids.length), (20, .int .i64 i)]) [(1, ⟨true, 26, 5, [[.int .i64 n.kind, .int .i64 n.num, .str n.text, .view .loose 1 (strsE n.names), .view .loose 5 (n.kids.map nodeL)]]⟩), (2, ⟨true, 31, 4, [zeroS]⟩), (3, ⟨true, 31, 4, [[.int .i64 n.kind, .view .loose 1 (strsE n.names), .own 11 i, .own 12 i]]⟩), (11, boolsR (List.replicate i true)), (12, shsR ((n.kids.take i).map shO))] [1, 2, 3, 11, 12] (rd0.map fun _ => 0)) (fun i => n.kids.length - i) (fun i => i ≤ n.kids.length) 0 ?_ (Nat.zero_le _) ?_
  · exact (less_of (by simp [lessL, mkSt, slots, boolsR, shsR, zeroS, boolsE, nodeN, namesRow, nodeO, kidsRow]) (by simp [upd, mkSt, rowsOf_cons, boolsR, shsR, zeroS, boolsE, nodeN, namesRow, nodeO, kidsRow]) (by simp [upd, mkSt, usedOf_cons, boolsR, shsR, zeroS, boolsE, nodeN, namesRow, nodeO, kidsRow]) (by first | exact rd_less (by omega) | simp [mkSt, boolsR, shsR, zeroS, boolsE, nodeN, namesRow, nodeO, kidsRow]) (by simp [slots, in_any, in_int, in_bool, in_str, in_ptr, in_own, in_agg, in_vnil, in_rdr, usedOf_cons, usedOf_nil, strs_in, ints_in, nodes_in, in_tup, boolsR, shsR, zeroS, boolsE, nodeN, namesRow, nodeO, kidsRow]) (by simp only [List.forall_mem_cons, List.not_mem_nil, false_implies, implies_true, and_true, true_and, boolsR, shsR, zeroS, boolsE, nodeN, namesRow, nodeO, kidsRow]; (repeat (first | with_reducible exact trivial | with_reducible refine And.intro ?_ ?_ | with_reducible exact in_int | with_reducible exact in_str | with_reducible exact in_bool | with_reducible exact strs_in _ | with_reducible exact nodes_in _ | with_reducible exact items_in _ | with_reducible exact in_vnil | with_reducible exact in_any | exact hin _ | with_reducible refine take_in ?_ | with_reducible exact strsE_in _ | with_reducible exact nodesE_in _ | with_reducible exact nodeL_in _ | with_reducible exact itemsE_in _ | with_reducible exact itemL_in _ | with_reducible refine app_in ?_ ?_ | with_reducible refine sing_in ?_ | (focus (simp [in_any, in_int, in_bool, in_str, in_ptr, in_own, in_agg, in_vnil, in_rdr, usedOf_cons, usedOf_nil, strs_in, ints_in, nodes_in, boolsR, shsR, zeroS, boolsE, nodeN, namesRow, nodeO, kidsRow]; done)))); done))
  intro i hi
  have hbl : (boolsE (List.replicate i true)).length = i := by rw [boolsE_len, List.length_replicate]
  have hsl : ((n.kids.take i).map shO).length = i := by rw [List.length_map, List.length_take]; omega
  by_cases hlt : i < n.kids.length
  rotate_left
  · obtain rfl : i = n.kids.length := by omega
    rw [List.take_length] at hsl ⊢
    have hbe : (List.replicate n.kids.length true).length = n.kids.length := List.length_replicate
    have hbr : boolsR (List.replicate n.kids.length true) = ⟨false, 4, 1, boolsE (List.replicate n.kids.length true)⟩ := rfl
    rw [hbr]
    generalize List.replicate n.kids.length true = bs at *
    refine AW.hold 11 ?_
    refine AW.hold 12 ?_
    have hq : shA ⟨n.kind, n.names, bs, n.kids.map shO⟩ = .agg [.int .i64 n.kind, .view .loose 1 (strsE n.names), .view .loose 1 (boolsE bs), .view .loose 4 ((n.kids.map shO).map shE)] := by unfold shA; rw [shE_eq]
    have hpr := sh_pur ⟨n.kind, n.names, bs, n.kids.map shO⟩
    rw [hq] at hpr ⊢
    generalize n.kids.map shO = Ks at *
    have hsub : ∀ id m c, (Ks.map shE).map (AV.subL id m c) = Ks.map shE := fun id m c => by
      rw [List.map_map]; exact List.map_congr_left (fun k _ => shE_sub k)
    have hsub2 : ∀ id m c, (boolsE bs).map (AV.subL id m c) = boolsE bs := fun id m c => by
      unfold boolsE; rw [List.map_map]; exact List.map_congr_left (fun k _ => by simp [AV.subL, AV.sub])
    have hkl : (Ks.map shE).length = n.kids.length := by rw [List.length_map, hsl]
    have hsr : shsR Ks = ⟨false, 31, 4, Ks.map shE⟩ := rfl
    rw [hsr]
    generalize Ks.map shE = E1 at *
    generalize boolsE bs = E2 at *
    (repeat (first | with_reducible refine AW.seq ?_ | ((first | refine arun_kn 4 rfl (fun C hC => ?_) | refine arunD_kn 4 rfl (fun C hC => ?_)); (repeat ((conv => whnf); simp [hlt, hbl, hkl, hsub, hsub2, ASt.hold, zeroS, AV.subL, AV.sub, Row.sub, rowsOf_cons, upd])); refine hC _ ?_; clear hC C; simp only [List.drop, Nat.reduceAdd]) | ((first | refine arun_kn 1 rfl (fun C hC => ?_) | refine arunD_kn 1 rfl (fun C hC => ?_)); (repeat ((conv => whnf); simp [hlt, hbl, hkl, hsub, hsub2, ASt.hold, zeroS, AV.subL, AV.sub, Row.sub, rowsOf_cons, upd])); refine hC _ ?_; clear hC C; simp only [List.drop, Nat.reduceAdd]) | (refine arun_skip ?_ ?_; (focus (simp [awant, hlt, hbl, hkl, hsub, hsub2, ASt.hold, zeroS, AV.subL, AV.sub, Row.sub, rowsOf_cons, upd]; done))) | (refine arunD_skip ?_ ?_; (focus (simp [awant, hlt, hbl, hkl, hsub, hsub2, ASt.hold, zeroS, AV.subL, AV.sub, Row.sub, rowsOf_cons, upd]; done))) | (refine AW.regionK [] (fun K hK => ?_)) | (refine AW.regionDK [] (pcs [] []) (by kernel_rfl) (by kernel_rfl) (fun K hK => ?_)) | (refine AW.condT ?_ ?_; (focus (simp [aev, hlt, hbl, hkl, hsub, hsub2, ASt.hold, zeroS, AV.subL, AV.sub, Row.sub, rowsOf_cons, upd]; done))) | (refine AW.condF ?_ ?_; (focus (simp [aev, hlt, hbl, hkl, hsub, hsub2, ASt.hold, zeroS, AV.subL, AV.sub, Row.sub, rowsOf_cons, upd]; done))) | with_reducible refine AW.block ?_ | ((first | ((first | refine arun_nil ?_ | refine arunD_nil ?_); refine hK _ ?_; clear hK K) | refine AW.skip ?_ | refine AW.exit ?_ | refine AW.ret ?_); simp only [thenA_exit, inBlockA_exit, if_true, if_false, Nat.reduceEqDiff, thenA_normal, inBlockA_normal, reduceIte, thenA_ret, inBlockA_ret, endQ_ret, endR_ret, endG_ret, endQ_normal, endR_normal, endG_normal])))
    exact ⟨.agg [.int .i64 n.kind, .view .loose 1 (strsE n.names), .view .loose 1 E2, .view .loose 4 E1], by simp [ares, aresL, upd, rowsOf_cons], hpr, _, Wk.refl _, rfl⟩
  have hw : IntKind.i64.wrap ((i : Int) + 1) = (i : Int) + 1 := i64_nat (by omega) (by omega)
  have x1 : (n.kids.map nodeL)[i]? = some [.int .i64 n.kids[i].kind, .int .i64 n.kids[i].num, .str n.kids[i].text, .view .loose 1 (strsE n.kids[i].names), .view .loose 5 (n.kids[i].kids.map nodeL)] := by rw [List.getElem?_map, List.getElem?_eq_getElem hlt, ← nodeL_eq]; rfl
  have p1 := ih n.kids[i] (List.getElem_mem hlt)
  have c1 : (i + 1) * 1 ≤ 140737488355328 := by omega
  have c2 : i + 1 ≤ 140737488355328 := by omega
  have c3 : (i + 1) * 80 ≤ 140737488355328 := by omega
  have et : List.replicate (i + 1) true = List.replicate i true ++ [true] := List.replicate_succ'
  have ek : (n.kids.take (i + 1)).map shO = (n.kids.take i).map shO ++ [shO n.kids[i]] := by rw [take_snoc' _ _ hlt, List.map_append]; rfl
  unfold nodeA shA at p1
  rw [nodeL_eq n.kids[i]] at p1
  have hb0 : boolsR (List.replicate i true) = ⟨false, 4, 1, boolsE (List.replicate i true)⟩ := rfl
  have hb1 : shsR ((n.kids.take i).map shO) = ⟨false, 31, 4, ((n.kids.take i).map shO).map shE⟩ := rfl
  rw [hb0, hb1]
  obtain ⟨Ks, hK⟩ : ∃ Ks, Ks = (n.kids.take i).map shO := ⟨_, rfl⟩
  rw [← hK] at hsl ⊢
  rw [← hK] at ek
  obtain ⟨Bs, hB⟩ : ∃ Bs, Bs = boolsE (List.replicate i true) := ⟨_, rfl⟩
  rw [← hB] at hbl ⊢
  (repeat (first | with_reducible refine AW.seq ?_ | ((first | refine arun_kn 4 rfl (fun C hC => ?_) | refine arunD_kn 4 rfl (fun C hC => ?_)); (repeat ((conv => whnf); simp [hlt, hw, x1, shE_len, strsE_len, hbl, hsl, c1, c2, c3])); refine hC _ ?_; clear hC C; simp only [List.drop, Nat.reduceAdd]) | ((first | refine arun_kn 1 rfl (fun C hC => ?_) | refine arunD_kn 1 rfl (fun C hC => ?_)); (repeat ((conv => whnf); simp [hlt, hw, x1, shE_len, strsE_len, hbl, hsl, c1, c2, c3])); refine hC _ ?_; clear hC C; simp only [List.drop, Nat.reduceAdd]) | (refine arun_skip ?_ ?_; (focus (simp [awant, hlt, hw, x1, shE_len, strsE_len, hbl, hsl, c1, c2, c3]; done))) | (refine arun_c0 (p1) ?_; rintro _ rfl) | (refine arunD_skip ?_ ?_; (focus (simp [awant, hlt, hw, x1, shE_len, strsE_len, hbl, hsl, c1, c2, c3]; done))) | (refine arunD_cE (0) (p1) (by exact ⟨_, rfl, in_agg.2 (shE_in _)⟩) ?_; rintro _ rfl; intro _) | (refine AW.regionK [] (fun K hK => ?_)) | (refine AW.regionDK [] (pcs [(3, 0, fun r => r = .agg (shE (shO n.kids[i])))] []) (by kernel_rfl) (by kernel_rfl) (fun K hK => ?_)) | (refine AW.condT ?_ ?_; (focus (simp [aev, hlt, hw, x1, shE_len, strsE_len, hbl, hsl, c1, c2, c3]; done))) | (refine AW.condF ?_ ?_; (focus (simp [aev, hlt, hw, x1, shE_len, strsE_len, hbl, hsl, c1, c2, c3]; done))) | with_reducible refine AW.block ?_ | ((first | ((first | refine arun_nil ?_ | refine arunD_nil ?_); refine hK _ ?_; clear hK K) | refine AW.skip ?_ | refine AW.exit ?_ | refine AW.ret ?_); simp only [thenA_exit, inBlockA_exit, if_true, if_false, Nat.reduceEqDiff, thenA_normal, inBlockA_normal, reduceIte, thenA_ret, inBlockA_ret, endQ_ret, endR_ret, endG_ret, endQ_normal, endR_normal, endG_normal])))
  refine ⟨i + 1, by omega, by omega, ?_⟩
  rw [et, ek]
  have e1 : boolsR (List.replicate i true ++ [true]) = ⟨false, 4, 1, boolsE (List.replicate i true) ++ [[.bool true]]⟩ := by unfold boolsR; rw [boolsE_app]; rfl
  have e2 : shsR (Ks ++ [shO n.kids[i]]) = ⟨false, 31, 4, Ks.map shE ++ [shE (shO n.kids[i])]⟩ := by unfold shsR; rw [List.map_append]; rfl
  have hin2 : ∀ U : Nat → Bool, ∀ e ∈ Bs ++ [[.bool true]], ∀ c ∈ e, AV.In U c := fun U => by
    rw [hB, show boolsE (List.replicate i true) ++ [[.bool true]] = boolsE (List.replicate i true ++ [true]) by rw [boolsE_app]; rfl]; exact boolsE_in _
  have hin : ∀ U : Nat → Bool, ∀ e ∈ Ks.map shE ++ [shE (shO n.kids[i])], ∀ c ∈ e, AV.In U c := fun U => by
    rw [show Ks.map shE ++ [shE (shO n.kids[i])] = (Ks ++ [shO n.kids[i]]).map shE by rw [List.map_append]; rfl]; exact shsE_in _
  rw [e1, e2, ← hB]
  exact (less_of (by simp [lessL, mkSt, slots, zeroS, nodeN, namesRow, nodeO, kidsRow]) (by simp [upd, mkSt, rowsOf_cons, zeroS, nodeN, namesRow, nodeO, kidsRow]) (by simp [upd, mkSt, usedOf_cons, zeroS, nodeN, namesRow, nodeO, kidsRow]) (by first | exact rd_less (by omega) | simp [mkSt, zeroS, nodeN, namesRow, nodeO, kidsRow]) (by simp [slots, in_any, in_int, in_bool, in_str, in_ptr, in_own, in_agg, in_vnil, in_rdr, usedOf_cons, usedOf_nil, strs_in, ints_in, nodes_in, in_tup, zeroS, nodeN, namesRow, nodeO, kidsRow]) (by simp only [List.forall_mem_cons, List.not_mem_nil, false_implies, implies_true, and_true, true_and, zeroS, nodeN, namesRow, nodeO, kidsRow]; (repeat (first | with_reducible exact trivial | with_reducible refine And.intro ?_ ?_ | with_reducible exact in_int | with_reducible exact in_str | with_reducible exact in_bool | with_reducible exact strs_in _ | with_reducible exact nodes_in _ | with_reducible exact items_in _ | with_reducible exact in_vnil | with_reducible exact in_any | exact hin _ | exact hin2 _ | with_reducible refine take_in ?_ | with_reducible exact strsE_in _ | with_reducible exact nodesE_in _ | with_reducible exact nodeL_in _ | with_reducible exact itemsE_in _ | with_reducible exact itemL_in _ | with_reducible refine app_in ?_ ?_ | with_reducible refine sing_in ?_ | (focus (simp [in_any, in_int, in_bool, in_str, in_ptr, in_own, in_agg, in_vnil, in_rdr, usedOf_cons, usedOf_nil, strs_in, ints_in, nodes_in, zeroS, nodeN, namesRow, nodeO, kidsRow]; done)))); done))
theorem shapeVal_AC : ∀ n, Shp n → AC Tryd.prog 53 [nodeA n] 0 (fun r => r = shA (shO n)) :=
  shp_ind fun n hs ih => shapeVal_step n hs ih
end Go.Proofs.YtfjaobfaepjfnaaDoor.Eng
