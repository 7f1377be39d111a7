/-
  Texts of this claim, joined.
-/
import Derived.BigQuiet
import Derived.Laws.AppendOwn
import Derived.Laws.AppendOwnNone
import Derived.Laws.OwnMore
import Derived.Test.YtmmaanbppheabaaDoorDfE

set_option linter.unusedSimpArgs false
set_option linter.unusedVariables false
set_option linter.unnecessarySimpa false
set_option maxRecDepth 100000
set_option maxHeartbeats 16000000
namespace Go.Proofs.YtmmaanbppheabaaDoor.Eng
open Go Go.RowKit
def sumN (f : Nat → Nat) : Nat → Nat
  | 0 => 0
  | k + 1 => sumN f k + f k
theorem sumN_succ (f : Nat → Nat) (k : Nat) : sumN f (k + 1) = sumN f k + f k := rfl
theorem sumN_mono (f : Nat → Nat) {i k : Nat} (h : i ≤ k) : sumN f i ≤ sumN f k := by
  induction k with
  | zero => rw [Nat.le_zero.1 h]; exact Nat.le_refl _
  | succ k ih =>
    rcases Nat.lt_or_ge i (k + 1) with q | q
    · have := ih (by omega)
      show sumN f i ≤ sumN f k + f k
      omega
    · rw [show i = k + 1 by omega]; exact Nat.le_refl _
theorem sumN_le (f : Nat → Nat) (B : Nat) : ∀ k, (∀ i, i < k → f i ≤ B) → sumN f k ≤ k * B
  | 0, _ => by simp [sumN]
  | k + 1, h => by
    have h1 := sumN_le f B k (fun i hi => h i (by omega))
    have h2 := h k (by omega)
    show sumN f k + f k ≤ (k + 1) * B
    rw [Nat.succ_mul]; omega
theorem sumN_step (f : Nat → Nat) {i k : Nat} (h : i < k) : sumN f i + f i ≤ sumN f k := sumN_mono f (i := i + 1) (k := k) h
def kidAt (n : Nd) (i : Nat) : Nd := n.kids.getD i Nd.zero
def nmAt (n : Nd) (i : Nat) : ByteArray := n.names.getD i ⟨#[]⟩
theorem kidAt_eq {n : Nd} {i : Nat} (h : i < n.kids.length) : kidAt n i = n.kids[i] := by
  unfold kidAt
  rw [List.getD_eq_getElem?_getD, List.getElem?_eq_getElem h, Option.getD_some]
theorem nmAt_eq {n : Nd} {i : Nat} (h : i < n.names.length) : nmAt n i = n.names[i] := by
  unfold nmAt
  rw [List.getD_eq_getElem?_getD, List.getElem?_eq_getElem h, Option.getD_some]
def difA (D : Nd → Nd → Nat) (a b : Nd) (i : Nat) : Nat := if mem b.names (nmAt a i) then D (kidAt a i) (kidAt b (lbound b.names (nmAt a i))) else 1
def difB (a b : Nd) (k : Nat) : Nat := if mem a.names (nmAt b k) then 0 else 1
def difD : Nat → Nd → Nd → Nat
  | 0, _, _ => 0
  | d + 1, a, b => if (cmpN a b == 0) = true then 0
    else if a.kind = 4 ∧ b.kind = 4 then sumN (difA (difD d) a b) a.kids.length + sumN (difB a b) b.kids.length
    else if a.kind = 3 ∧ b.kind = 3 then sumN (fun i => difD d (kidAt a i) (kidAt b i)) (min a.kids.length b.kids.length) + (a.kids.length - min a.kids.length b.kids.length) + (b.kids.length - min a.kids.length b.kids.length)
    else 1
theorem kids_lt (n : Nd) : n.kids.length < n.count := by
  have : ∀ l : List Nd, l.length ≤ countL l := fun l => by
    induction l with
    | nil => exact Nat.zero_le _
    | cons k l ih =>
      have : countL (k :: l) = k.count + countL l := by simp [countL]
      have := Nd.count_eq k
      simp only [List.length_cons]
      omega
  have := this n.kids
  rw [Nd.count_eq]; omega
theorem count_kid {n k : Nd} (h : k ∈ n.kids) : k.count ≤ n.count := by
  have : ∀ l : List Nd, k ∈ l → k.count ≤ countL l := fun l hl => by
    induction l with
    | nil => cases hl
    | cons x l ih =>
      have : countL (x :: l) = x.count + countL l := by simp [countL]
      rcases List.mem_cons.1 hl with rfl | hl
      · omega
      · have := ih hl; omega
  have := this n.kids h
  rw [Nd.count_eq n]; omega
theorem difD_le : ∀ (d : Nat) (a b : Nd), a.count ≤ 40 → b.count ≤ 40 → difD d a b ≤ 80 ^ d
  | 0, _, _, _, _ => Nat.zero_le _
  | d + 1, a, b, ha, hb => by
    have h1 : 1 ≤ 80 ^ d := Nat.one_le_pow _ _ (by omega)
    have ka := kids_lt a
    have kb := kids_lt b
    have hk : ∀ n : Nd, n.count ≤ 40 → ∀ i, (kidAt n i).count ≤ 40 := fun n hn i => by
      rcases Nat.lt_or_ge i n.kids.length with q | q
      · rw [kidAt_eq q]
        have := count_kid (List.getElem_mem q)
        omega
      · unfold kidAt
        rw [List.getD_eq_getElem?_getD, List.getElem?_eq_none q, Option.getD_none]
        decide
    have hp : 80 ^ (d + 1) = 80 * 80 ^ d := by rw [Nat.pow_succ]; omega
    have ih := fun i j => difD_le d (kidAt a i) (kidAt b j) (hk a ha i) (hk b hb j)
    generalize 80 ^ d = E at *
    have m1 : a.kids.length * E ≤ 39 * E := Nat.mul_le_mul_right _ (by omega)
    have m2 : b.kids.length * E ≤ 39 * E := Nat.mul_le_mul_right _ (by omega)
    have m3 : min a.kids.length b.kids.length * E ≤ 39 * E := Nat.mul_le_mul_right _ (by omega)
    have m4 : 39 * 1 ≤ 39 * E := Nat.mul_le_mul_left _ h1
    unfold difD
    split
    · omega
    split
    · have q1 := sumN_le (difA (difD d) a b) E a.kids.length (fun i _ => by unfold difA; split; exact ih _ _; exact h1)
      have q2 := sumN_le (difB a b) E b.kids.length (fun i _ => by unfold difB; split <;> omega)
      omega
    split
    · have q1 := sumN_le (fun i => difD d (kidAt a i) (kidAt b i)) E (min a.kids.length b.kids.length) (fun i _ => ih _ _)
      omega
    · omega
end Go.Proofs.YtmmaanbppheabaaDoor.Eng
namespace Go.Proofs.YtmmaanbppheabaaDoor.Eng
open Go Go.RowKit
attribute [local simp] big size_mk ASt.pay Option.map_map Function.comp_def awant aop acall ado aev ofVal ofVal0 ASt.put ASt.add ASt.turn ASt.kill abox aalloc astore aload aloadD astoreD idOf ASt.at cellsTo afieldAddr afield aindexAddr aindex alen abin aint acmp astr aun apick aextract anil aslice abound abuild afill abuildSlice asCells aps avCells over upd aappend asrc amax amin aconv mkSt slots rowsOf_cons rowsOf_nil usedOf_cons usedOf_nil ZK.av List.replicate ASt.back ASt.addL ASt.killL nodeA nodeT nodeTL_eq nodeL_eq strsE_get strsE_len intsE_get intsE_len strsE_at intsE_at tab2 tab3 tab4 tab5 tab6 tab7 tab8 tab9 tab10 tab11 tab12 tab13 tab14 tab15 tab16 tab17 tab18 tab19 tab21 tab22 tab23 tab24 tab25 tab26 tab27 tab31 tab32 tab33 tab35 tab36 tab41 tab58 tab67 tab69 tab70 tab81 tab82 tab85 tab86 tab92 tab93 tab95 tab105 tab111 tab117 tab124 tab125 tab130 tab131 tab133 tab134 tab135
theorem bsearch_AC (xs : List ByteArray) (s : ByteArray) (t : VC) (ha : Asc xs) (hl : xs.length ≤ 1000) : AC Tryd.prog 81 [.view t 1 (strsE xs), .str s] 0 (fun r => r = .tup [.int .i64 (lbound xs s : Nat), .bool (mem xs s)]) := by
  refine AC.ofGrow (enters_of Tryd.func81 (by kernel_rfl) (by kernel_rfl)) (fun w L S rb vs h => ?_)
  obtain ⟨v, u, rfl, h1, h2⟩ := repL2_inv h
  obtain ⟨a, c, rfl, h3⟩ := strs_of_rep h1
  rw [rep_str] at h2
  obtain ⟨rfl, _⟩ := h2
  refine (bsearch_ok a c xs s w h3 ha (by omega)).mono ?_
  rintro e w' ⟨rfl, hg⟩
  exact ⟨_, .tup [.int .i64 (lbound xs s : Nat), .bool (mem xs s)], rfl, hg, rep_tup.2 ⟨[_, _], rfl, repL2 (rep_int.2 rfl) (rep_bool.2 rfl)⟩, rfl⟩
theorem zero_wk : Wk (node0 0 0 ⟨#[]⟩) (nodeA Nd.zero) := by
  unfold node0 nodeA
  rw [nodeL_eq]
  exact Wk.agg (.cons (Wk.refl _) (.cons (Wk.refl _) (.cons (Wk.refl _) (.cons (Wk.nil (fun h => by cases h)) (.cons (Wk.nil (fun h => by cases h)) .nil)))))
end Go.Proofs.YtmmaanbppheabaaDoor.Eng
-- EV: skip
namespace Go.Proofs.YtmmaanbppheabaaDoor.Eng
open Go Go.RowKit
attribute [local simp] big size_mk ASt.pay Option.map_map Function.comp_def awant aop acall ado aev ofVal ofVal0 ASt.put ASt.add ASt.turn ASt.kill abox aalloc astore aload aloadD astoreD idOf ASt.at cellsTo afieldAddr afield aindexAddr aindex alen abin aint acmp astr aun apick aextract anil aslice abound abuild afill abuildSlice asCells aps avCells over upd aappend asrc amax amin aconv mkSt slots rowsOf_cons rowsOf_nil usedOf_cons usedOf_nil ZK.av List.replicate ASt.back ASt.addL ASt.killL nodeA nodeT nodeTL_eq nodeL_eq strsE_get strsE_len intsE_get intsE_len strsE_at intsE_at tab2 tab3 tab4 tab5 tab6 tab7 tab8 tab9 tab10 tab11 tab12 tab13 tab14 tab15 tab16 tab17 tab18 tab19 tab21 tab22 tab23 tab24 tab25 tab26 tab27 tab31 tab32 tab33 tab35 tab36 tab41 tab58 tab67 tab69 tab70 tab81 tab82 tab85 tab86 tab92 tab93 tab95 tab105 tab111 tab117 tab124 tab125 tab130 tab131 tab133 tab134 tab135
theorem compareValid_AC (a b : Nd) (ha : Good a) (hb : Good b) : AC Tryd.prog 31 [nodeA a, nodeA b] 0 (fun r => r = .int .i64 (cmpN a b)) := by
  refine AC.ofGrow (enters_of Tryd.func31 (by kernel_rfl) (by kernel_rfl)) (fun w L S rb vs h => ?_)
  obtain ⟨v, u, rfl, h1, h2⟩ := repL2_inv h
  refine (compareValid_ok a b v u w ha hb (nodeA_of_rep h1) (nodeA_of_rep h2)).mono ?_
  rintro e w' ⟨rfl, hg⟩
  exact ⟨_, _, rfl, hg, rep_int.2 rfl, rfl⟩
theorem specCompare_AC (a b : Nd) (ha : Good a) (hb : Good b) : AC Tryd.prog 54 [nodeA a, nodeA b] 0 (fun r => r = .int .i64 (cmpN a b)) := by
  refine AC.ofGrow (enters_of Tryd.func54 (by kernel_rfl) (by kernel_rfl)) (fun w L S rb vs h => ?_)
  obtain ⟨v, u, rfl, h1, h2⟩ := repL2_inv h
  refine (compare_ok a b v u w ha hb (nodeA_of_rep h1) (nodeA_of_rep h2)).mono ?_
  rintro e w' ⟨rfl, hg⟩
  exact ⟨_, _, rfl, hg, rep_int.2 rfl, rfl⟩
theorem sameNode_AC (a b : Nd) (ha : Good a) (hb : Good b) : AC Tryd.prog 72 [nodeA a, nodeA b] 0 (fun r => r = .bool (cmpN a b == 0)) := by
  have p1 := compareValid_AC a b ha hb
  unfold nodeA at p1 ⊢
  rw [nodeL_eq a, nodeL_eq b] at p1 ⊢
  generalize cmpN a b = z at *
  refine AC.of tab_ok mixed_ok Tryd.func72 (by rfl) (by kernel_rfl) ?_; rintro ⟨P, T, hT, hm, w0, S0, rd0, k0⟩ hP hTT; dsimp only at hP hTT; subst hP hTT; unfold initSt; rw [Tryd.ntmps72]
  (repeat (first | with_reducible refine AW.seq ?_ | ((first | refine arun_kn 4 rfl (fun C hC => ?_) | refine arunD_kn 4 rfl (fun C hC => ?_)); (repeat ((conv => whnf); simp)); refine hC _ ?_; clear hC C; simp only [List.drop, Nat.reduceAdd]) | ((first | refine arun_kn 1 rfl (fun C hC => ?_) | refine arunD_kn 1 rfl (fun C hC => ?_)); (repeat ((conv => whnf); simp)); refine hC _ ?_; clear hC C; simp only [List.drop, Nat.reduceAdd]) | (refine arun_skip ?_ ?_; (focus (simp [awant]; done))) | (refine arun_c0 (p1) ?_; rintro _ rfl) | (refine arunD_skip ?_ ?_; (focus (simp [awant]; done))) | (refine AW.regionK [] (fun K hK => ?_)) | (refine AW.regionDK [] (pcs [] []) (by kernel_rfl) (by kernel_rfl) (fun K hK => ?_)) | (refine AW.condT ?_ ?_; (focus (simp [aev]; done))) | (refine AW.condF ?_ ?_; (focus (simp [aev]; done))) | with_reducible refine AW.block ?_ | ((first | ((first | refine arun_nil ?_ | refine arunD_nil ?_); refine hK _ ?_; clear hK K) | refine AW.skip ?_ | refine AW.exit ?_ | refine AW.ret ?_); simp only [thenA_exit, inBlockA_exit, if_true, if_false, Nat.reduceEqDiff, thenA_normal, inBlockA_normal, reduceIte, thenA_ret, inBlockA_ret, endQ_ret, endR_ret, endG_ret, endQ_normal, endR_normal, endG_normal])))
  exact ⟨.bool (z == 0), by simp [ares, aresL, upd], pur_bool, rfl⟩
theorem specSame_AC (a b : Nd) (ha : Good a) (hb : Good b) : AC Tryd.prog 53 [nodeA a, nodeA b] 0 (fun r => r = .bool (cmpN a b == 0)) := by
  have p1 := specCompare_AC a b ha hb
  unfold nodeA at p1 ⊢
  rw [nodeL_eq a, nodeL_eq b] at p1 ⊢
  generalize cmpN a b = z at *
  refine AC.of tab_ok mixed_ok Tryd.func53 (by rfl) (by kernel_rfl) ?_; rintro ⟨P, T, hT, hm, w0, S0, rd0, k0⟩ hP hTT; dsimp only at hP hTT; subst hP hTT; unfold initSt; rw [Tryd.ntmps53]
  (repeat (first | with_reducible refine AW.seq ?_ | ((first | refine arun_kn 4 rfl (fun C hC => ?_) | refine arunD_kn 4 rfl (fun C hC => ?_)); (repeat ((conv => whnf); simp)); refine hC _ ?_; clear hC C; simp only [List.drop, Nat.reduceAdd]) | ((first | refine arun_kn 1 rfl (fun C hC => ?_) | refine arunD_kn 1 rfl (fun C hC => ?_)); (repeat ((conv => whnf); simp)); refine hC _ ?_; clear hC C; simp only [List.drop, Nat.reduceAdd]) | (refine arun_skip ?_ ?_; (focus (simp [awant]; done))) | (refine arun_c0 (p1) ?_; rintro _ rfl) | (refine arunD_skip ?_ ?_; (focus (simp [awant]; done))) | (refine AW.regionK [] (fun K hK => ?_)) | (refine AW.regionDK [] (pcs [] []) (by kernel_rfl) (by kernel_rfl) (fun K hK => ?_)) | (refine AW.condT ?_ ?_; (focus (simp [aev]; done))) | (refine AW.condF ?_ ?_; (focus (simp [aev]; done))) | with_reducible refine AW.block ?_ | ((first | ((first | refine arun_nil ?_ | refine arunD_nil ?_); refine hK _ ?_; clear hK K) | refine AW.skip ?_ | refine AW.exit ?_ | refine AW.ret ?_); simp only [thenA_exit, inBlockA_exit, if_true, if_false, Nat.reduceEqDiff, thenA_normal, inBlockA_normal, reduceIte, thenA_ret, inBlockA_ret, endQ_ret, endR_ret, endG_ret, endQ_normal, endR_normal, endG_normal])))
  exact ⟨.bool (z == 0), by simp [ares, aresL, upd], pur_bool, rfl⟩
end Go.Proofs.YtmmaanbppheabaaDoor.Eng
namespace Go.Proofs.YtmmaanbppheabaaDoor
open Go Go.RowKit
end Go.Proofs.YtmmaanbppheabaaDoor
namespace Go.Proofs.YtmmaanbppheabaaDoor
open Go Go.RowKit
structure Rep (α : Type) where
  n : Nat
  R : World → (Nat → Prop) → α → List Value → Prop
  F : World → α → List Value → List Nat → Prop
  rlen : ∀ {w S x cs}, R w S x cs → cs.length = n
  flen : ∀ {w x cs fp}, F w x cs fp → cs.length = n
  ext : ∀ {X S : Nat → Prop} {w w' x cs}, Ext X w w' → (∀ k, S k → ¬ X k) → R w S x cs → R w' S x cs
  mono : ∀ {S T : Nat → Prop} {w x cs}, (∀ k, S k → T k) → R w S x cs → R w T x cs
  lt : ∀ {S : Nat → Prop} {w x cs}, R w S x cs → R w (fun k => S k ∧ k < w.heap.size) x cs
  keep : ∀ {w w' x cs fp}, F w x cs fp → (∀ b ∈ fp, ∀ o, w'.cell? ⟨b, o, none⟩ = w.cell? ⟨b, o, none⟩) → F w' x cs fp
  toR : ∀ {S : Nat → Prop} {w x cs fp}, F w x cs fp → (∀ b ∈ fp, S b) → R w S x cs
theorem Rep.grow {α : Type} (E : Rep α) {S : Nat → Prop} {w w' : World} {x : α} {cs : List Value} (h : E.R w S x cs) (hg : Grow w w') : E.R w' S x cs := E.ext hg (fun _ _ h => h) h
section slices
variable {α : Type} (E : Rep α)
variable {E}
end slices
end Go.Proofs.YtmmaanbppheabaaDoor
namespace Go.Proofs.YtmmaanbppheabaaDoor
open Go.RowKit
end Go.Proofs.YtmmaanbppheabaaDoor
namespace Go.Proofs.YtmmaanbppheabaaDoor
open Go.RowKit
def inl (fp : List Nat) (k : Nat) : Prop := k ∈ fp
theorem Free.sub {B : Nat} {w w' : World} {fp fx : List Nat} (h : Free B w fp) (he : Ext (inl fx) w w') (hx : ∀ b ∈ fx, ∀ o, w'.frozen? ⟨b, o, none⟩ = false) : Free B w' fp := by
  refine ⟨h.1, fun b hb => ⟨(h.2 b hb).1, Nat.lt_of_lt_of_le (h.2 b hb).2.1 he.size, fun o => ?_⟩⟩
  by_cases hbx : b ∈ fx
  · exact hx b hbx o
  · rw [he.frozen (p := ⟨b, o, none⟩) (h.2 b hb).2.1 hbx]; exact (h.2 b hb).2.2 o
def RowAt (w : World) (b o n : Nat) : Prop := b < w.heap.size ∧ (∀ j, j < n → ∃ u, w.cell? ⟨b, o + j, none⟩ = some u) ∧ ∀ j, w.frozen? ⟨b, j, none⟩ = false
theorem RowAt.ext {X : Nat → Prop} {w w' : World} {b o n : Nat} (h : Ext X w w') (hx : ¬ X b) (hr : RowAt w b o n) : RowAt w' b o n := by
  obtain ⟨h1, h2, h3⟩ := hr
  refine ⟨Nat.lt_of_lt_of_le h1 h.size, fun j hj => ?_, fun j => ?_⟩
  · rw [h.cell (p := ⟨b, o + j, none⟩) h1 hx]; exact h2 j hj
  · rw [h.frozen (p := ⟨b, j, none⟩) h1 hx]; exact h3 j
theorem RowAt.setCell {w : World} {b o n : Nat} (hr : RowAt w b o n) (p : Addr) (v : Value) : RowAt (w.setCell p v) b o n := by
  obtain ⟨h1, h2, h3⟩ := hr
  refine ⟨by rw [size_setCell]; exact h1, fun j hj => cell?_setCell_some (h2 j hj).choose_spec, fun j => ?_⟩
  rw [World.frozen?_setCell]; exact h3 j
end Go.Proofs.YtmmaanbppheabaaDoor
namespace Go.Proofs.YtmmaanbppheabaaDoor
open Go.RowKit
theorem KidsF.append {w : World} {b : Nat} : ∀ {l m : List Nd} {o : Nat} {f g : List Nat}, KidsF w b o l f → KidsF w b (o + l.length * 5) m g → KidsF w b o (l ++ m) (f ++ g)
  | [], m, o, f, g, h1, h2 => by
    unfold KidsF at h1; subst h1; simpa using h2
  | x :: l, m, o, f, g, h1, h2 => by
    unfold KidsF at h1
    obtain ⟨f1, f2, rfl, hx, hr⟩ := h1
    rw [List.cons_append]; unfold KidsF
    refine ⟨f1, f2 ++ g, by simp, hx, KidsF.append hr ?_⟩
    rw [show o + 5 + l.length * 5 = o + (x :: l).length * 5 by simp; omega]
    exact h2
theorem KidsF.split {w : World} {b : Nat} : ∀ {l m : List Nd} {o : Nat} {fp : List Nat}, KidsF w b o (l ++ m) fp → ∃ f g, fp = f ++ g ∧ KidsF w b o l f ∧ KidsF w b (o + l.length * 5) m g
  | [], m, o, fp, h => ⟨[], fp, rfl, by unfold KidsF; rfl, by simpa using h⟩
  | x :: l, m, o, fp, h => by
    rw [List.cons_append] at h; unfold KidsF at h
    obtain ⟨f1, f2, rfl, hx, hr⟩ := h
    obtain ⟨f, g, rfl, h1, h2⟩ := KidsF.split hr
    rw [show o + 5 + l.length * 5 = o + (x :: l).length * 5 by simp; omega] at h2
    exact ⟨f1 ++ f, g, by simp, by unfold KidsF; exact ⟨f1, f, rfl, hx, h1⟩, h2⟩
end Go.Proofs.YtmmaanbppheabaaDoor
namespace Go.Proofs.YtmmaanbppheabaaDoor
open Go.RowKit
end Go.Proofs.YtmmaanbppheabaaDoor
namespace Go.Proofs.YtmmaanbppheabaaDoor
open Go Go.RowKit
section
variable {P : Program} {ops : Array Oper} {Vs : Nat → Option (Value → World → Prop)} {w : World} {Q : Act → World → Prop}
theorem drew_grow {w w' : World} (h : Grow w.drew w') : Grow w w' := ((Ext.refl nil w).drew).trans h
theorem wpStab_made {o : Oper} {rest : List Oper} {k : Nat} {a : Act} {E : Env} (V : Value → World → Prop) (hw : Region.wanted o (yielded ops a.tmps) = true) (hV : Vs k = some V)
    (h : ∀ x : Later w, (∀ e ∈ o.after, Region.binds .any e = true → E e.on (later w x)) → stabAt Grow P o a (later w x) V)
    (h2 : ∀ v, wpStab P ops Grow Vs (fun w' => Grow w.drew w') Q rest (k + 1) (a.put o.dst v) (E.upd k (V v))) :
    wpStab P ops Grow Vs (fun w' => Grow w.drew w') Q (o :: rest) k a E := by
  unfold wpStab
  rw [if_pos hw]
  unfold does
  rw [hV]
  exact ⟨fun w' hc => h ⟨w', drew_grow hc.1⟩ hc.2, fun v w' _ _ _ => h2 v⟩
theorem wpStab_end' {k : Nat} {a : Act} {E : Env} (h : ∀ w', Grow w w' → (∀ j, E j w') → Q a w') : wpStab P ops Grow Vs (fun w' => Grow w.drew w') Q [] k a E :=
  fun w' hc hE => h w' (drew_grow hc) hE
theorem wpStab_const {o : Oper} {rest : List Oper} {k : Nat} {a : Act} {E : Env} (c : Value) (hw : Region.wanted o (yielded ops a.tmps) = true) (hV : Vs k = some (fun v _ => v = c))
    (h : ∀ x : Later w, (∀ e ∈ o.after, Region.binds .any e = true → E e.on (later w x)) → stabAt Grow P o a (later w x) (fun v _ => v = c))
    (h2 : wpStab P ops Grow Vs (fun w' => Grow w.drew w') Q rest (k + 1) (a.put o.dst c) (E.upd k (fun _ => True))) :
    wpStab P ops Grow Vs (fun w' => Grow w.drew w') Q (o :: rest) k a E := by
  unfold wpStab
  rw [if_pos hw]
  unfold does
  rw [hV]
  refine ⟨fun w' hc => h ⟨w', drew_grow hc.1⟩ hc.2, fun v w' _ _ hv => ?_⟩
  subst hv
  have : (fun (u : Value) (_ : World) => u = v) v = (fun _ => True) := by funext _; simp
  rw [this]
  exact h2
theorem wpStab_end {k : Nat} {a : Act} {E : Env} (h : ∀ w', Grow w w' → Q a w') : wpStab P ops Grow Vs (fun w' => Grow w.drew w') Q [] k a E :=
  fun w' hc _ => h w' (drew_grow hc)
theorem stabAt_call {o : Oper} {a : Act} {w : World} {V : Value → World → Prop} {f : FuncId} {args : Array Value} (h : (execOp a.eval o).run P w = .ok (.enter f args) w)
    (hc : Calls P f args w fun e w' => ∃ v, e = .returned v ∧ Grow w w' ∧ V v w') : stabAt Grow P o a w V := by
  unfold stabAt
  rw [h]
  exact ⟨rfl, hc⟩
end
end Go.Proofs.YtmmaanbppheabaaDoor
namespace Go.Proofs.YtmmaanbppheabaaDoor
open Go Go.RowKit
def easy (o : Oper) : Bool :=
  match o.op with
  | .move _ | .assign _ | .pick _ _ _ | .load _ _ | .fieldAddr _ _ _ | .indexAddr _ _ _ | .index _ _ _ | .field _ _ _ | .extract _ _ | .binOp _ _ _ _ _ | .unOp _ _ _ | .convert _ _ _ | .slice _ _ _ _ _ | .build _ _ => true
  | .call { callee := .builtin .len, args := _, argTypes := _ } => true
  | _ => false
theorem pureVal_run {P : Program} (s : Sem Value) (w w' : World) (f : FuncId) (args : Array Value) : (do pure (Next.value (← s)) : Sem Next).run P w ≠ .ok (.enter f args) w' := by
  intro h
  have : (do pure (Next.value (← s)) : Sem Next).run P w = (s.run P w).andThen fun a w' => .ok (.value a) w' := by
    simp [Result.andThen]
  rw [this] at h
  cases hs : s.run P w with
  | ok a w1 => rw [hs] at h; simp [Result.andThen] at h
  | halt x w1 => rw [hs] at h; simp [Result.andThen] at h
theorem noEnter {P : Program} {o : Oper} (he : easy o = true) (ρ : Operand → Value) (w w' : World) (f : FuncId) (args : Array Value) : (execOp ρ o).run P w ≠ .ok (.enter f args) w' := by
  obtain ⟨dst, op, type, pos, after, guard⟩ := o
  cases op <;> simp only [easy, Bool.false_eq_true] at he
  case move x => intro h; simp [execOp] at h
  case assign x => intro h; simp [execOp] at h
  case pick c a b =>
    intro h
    have : (execOp ρ ⟨dst, .pick c a b, type, pos, after, guard⟩).run P w = ((asBool (ρ c)).run P w).andThen fun q w' => .ok (.value (if q then ρ a else ρ b)) w' := by
      simp [execOp, Result.andThen]
    rw [this] at h
    cases hs : (asBool (ρ c)).run P w with
    | ok a w1 => rw [hs] at h; simp [Result.andThen] at h
    | halt x w1 => rw [hs] at h; simp [Result.andThen] at h
  case load t a => exact pureVal_run _ _ _ _ _
  case fieldAddr => exact pureVal_run _ _ _ _ _
  case indexAddr => exact pureVal_run _ _ _ _ _
  case index => exact pureVal_run _ _ _ _ _
  case field => exact pureVal_run _ _ _ _ _
  case extract => exact pureVal_run _ _ _ _ _
  case binOp => exact pureVal_run _ _ _ _ _
  case unOp => exact pureVal_run _ _ _ _ _
  case convert => exact pureVal_run _ _ _ _ _
  case slice => exact pureVal_run _ _ _ _ _
  case build => exact pureVal_run _ _ _ _ _
  case call c =>
    obtain ⟨callee, args', tys⟩ := c
    cases callee with
    | value x => simp at he
    | invoke r m => simp at he
    | builtin b =>
      cases b <;> simp at he
      intro h
      simp [execOp, resolve, invoke, builtin] at h
      cases hs : (Builtin.len_ tys type (Array.map ρ args')).run P w with
      | ok a w1 => rw [hs] at h; simp [Result.andThen] at h
      | halt x w1 => rw [hs] at h; simp [Result.andThen] at h
section
variable {P : Program} {ops : Array Oper} {Vs : Nat → Option (Value → World → Prop)} {w : World} {Q : Act → World → Prop}
theorem wpStab_quiet {o : Oper} {rest : List Oper} {k : Nat} {a : Act} {E : Env} (he : easy o = true) (hw : Region.wanted o (yielded ops a.tmps) = true) (hV : Vs k = none)
    (h : ∀ K : Act → Prop, (∀ a, wpStab P ops Grow Vs (fun w' => Grow w.drew w') Q rest (k + 1) a E → K a) → o.quiet P a (fun w' => ∃ x, w' = later w x) K) :
    wpStab P ops Grow Vs (fun w' => Grow w.drew w') Q (o :: rest) k a E := by
  unfold wpStab
  rw [if_pos hw]
  unfold does
  rw [hV]
  obtain ⟨v, h1, h2⟩ := h _ (fun _ h => h)
  refine ⟨v, fun w' hc => ?_, h2⟩
  have h3 := h1 w' ⟨⟨w', drew_grow hc.1⟩, rfl⟩
  unfold Oper.quietAt at h3
  unfold valAt
  have hne := noEnter (P := P) he a.eval w'
  generalize (execOp a.eval o).run P w' = r at *
  cases r with
  | ok n w2 =>
    cases n <;> simp only [Oper.quietUpon] at h3 <;> simp only [valUpon]
    case value u => exact ⟨h3.2, by rw [h3.1]; exact Ext.refl _ _⟩
    case skip => exact ⟨h3.2, by rw [h3.1]; exact Ext.refl _ _⟩
    case enter f args => exact absurd rfl (hne w2 f args)
  | halt x w2 => simp only [Oper.quietUpon] at h3
end
end Go.Proofs.YtmmaanbppheabaaDoor
namespace Go.Proofs.YtmmaanbppheabaaDoor
open Go.RowKit
theorem addr_add (b o j : Nat) : (⟨b, o, Option.none⟩ : Addr).add j = ⟨b, o + j, Option.none⟩ := by unfold Addr.add; split <;> simp_all
end Go.Proofs.YtmmaanbppheabaaDoor
namespace Go.Proofs.YtmmaanbppheabaaDoor
open Go Go.RowKit
def NCells (w : World) (S : Nat → Prop) : List Nd → List Value → Prop
  | [], cs => cs = []
  | n :: l, cs => ∃ na nc ka kc cs', cs = nodeL n na nc ka kc ++ cs' ∧ NodeC w S n na nc ka kc ∧ NCells w S l cs'
theorem NCells.len {w : World} {S : Nat → Prop} : ∀ {l : List Nd} {cs : List Value}, NCells w S l cs → cs.length = l.length * 5
  | [], cs, h => by cases h; rfl
  | n :: l, cs, h => by
    obtain ⟨na, nc, ka, kc, cs', rfl, _, h⟩ := h
    rw [List.length_append, NCells.len h]; simp [nodeL, Nat.succ_mul]; omega
theorem NCells.append {w : World} {S : Nat → Prop} : ∀ {l m : List Nd} {cs ds : List Value}, NCells w S l cs → NCells w S m ds → NCells w S (l ++ m) (cs ++ ds)
  | [], m, cs, ds, h, k => by cases h; exact k
  | n :: l, m, cs, ds, h, k => by
    obtain ⟨na, nc, ka, kc, cs', rfl, hn, h⟩ := h
    exact ⟨na, nc, ka, kc, cs' ++ ds, by simp, hn, NCells.append h k⟩
theorem NCells.ext {X S : Nat → Prop} {w w' : World} (he : Ext X w w') (hS : ∀ k, S k → ¬ X k) : ∀ {l : List Nd} {cs : List Value}, NCells w S l cs → NCells w' S l cs
  | [], cs, h => h
  | n :: l, cs, h => by
    obtain ⟨na, nc, ka, kc, cs', rfl, hn, h⟩ := h
    exact ⟨na, nc, ka, kc, cs', rfl, hn.ext he hS, NCells.ext he hS h⟩
theorem NCells.mono {S T : Nat → Prop} {w : World} (hS : ∀ k, S k → T k) : ∀ {l : List Nd} {cs : List Value}, NCells w S l cs → NCells w T l cs
  | [], cs, h => h
  | n :: l, cs, h => by
    obtain ⟨na, nc, ka, kc, cs', rfl, hn, h⟩ := h
    exact ⟨na, nc, ka, kc, cs', rfl, hn.mono hS, NCells.mono hS h⟩
theorem NCells.one {w : World} {S : Nat → Prop} {n : Nd} {na : Option Addr} {nc : Nat} {ka : Option Addr} {kc : Nat} (h : NodeC w S n na nc ka kc) : NCells w S [n] (nodeL n na nc ka kc) :=
  ⟨na, nc, ka, kc, [], by simp, h, rfl⟩
theorem NCells.kids {w : World} {S : Nat → Prop} {b : Nat} : ∀ {l : List Nd} {cs : List Value} {o : Nat}, NCells w S l cs → (∀ i v, cs[i]? = some v → w.cell? ⟨b, o + i, none⟩ = some v) → KidsR w S b o l
  | [], _, _, _, _ => by unfold KidsR; trivial
  | n :: l, cs, o, h, hc => by
    obtain ⟨na, nc, ka, kc, cs', rfl, hn, h⟩ := h
    unfold KidsR
    refine ⟨⟨na, nc, ka, kc, hc 0 _ rfl, hc 1 _ rfl, hc 2 _ rfl, hc 3 _ rfl, hc 4 _ rfl, hn⟩, NCells.kids h (fun i v hi => ?_)⟩
    have := hc (5 + i) v (by rw [List.getElem?_append_right (by simp [nodeL])]; simpa [nodeL] using hi)
    rw [show o + (5 + i) = o + 5 + i by omega] at this
    exact this
theorem KidsR.cells {w : World} {S : Nat → Prop} {b : Nat} : ∀ {l : List Nd} {o : Nat}, KidsR w S b o l → ∃ cs, NCells w S l cs ∧ ∀ i v, cs[i]? = some v → w.cell? ⟨b, o + i, none⟩ = some v
  | [], _, _ => ⟨[], rfl, fun i v h => by simp at h⟩
  | n :: l, o, h => by
    unfold KidsR at h
    obtain ⟨⟨na, nc, ka, kc, c0, c1, c2, c3, c4, hn⟩, hr⟩ := h
    obtain ⟨cs, h1, h2⟩ := hr.cells
    refine ⟨nodeL n na nc ka kc ++ cs, ⟨na, nc, ka, kc, cs, rfl, hn, h1⟩, fun i v hi => ?_⟩
    match i, hi with
    | 0, hi => simp [nodeL] at hi; subst hi; exact c0
    | 1, hi => simp [nodeL] at hi; subst hi; exact c1
    | 2, hi => simp [nodeL] at hi; subst hi; exact c2
    | 3, hi => simp [nodeL] at hi; subst hi; exact c3
    | 4, hi => simp [nodeL] at hi; subst hi; exact c4
    | i + 5, hi =>
      have := h2 i v (by simpa [nodeL] using hi)
      rw [show o + (i + 5) = o + 5 + i by omega]
      exact this
end Go.Proofs.YtmmaanbppheabaaDoor
namespace Go.Proofs.YtmmaanbppheabaaDoor
open Go Go.RowKit
def Src (w : World) (y : Option Addr) (m : Nat) (news : List Value) : Prop := (m = 0 ∧ news = []) ∨ ∃ ad, y = some ad ∧ ∀ j u, news[j]? = some u → w.cell? (ad.add j) = some u
theorem Src.grow {w w' : World} {y : Option Addr} {m : Nat} {news : List Value} (h : Src w y m news) (hg : Grow w w') : Src w' y m news :=
  h.imp id (fun ⟨ad, hy, hc⟩ => ⟨ad, hy, fun j u hj => hg.some (hc j u hj)⟩)
def offRow (B : Nat) (v : Value) (k : Nat) : Prop := B ≤ k ∧ v.ownBlock ≠ some k
theorem grownBy_ext {w w' : World} {v : Value} (h : w.grownBy w' v.ownBlock) : Ext (fun k => v.ownBlock = some k) w w' :=
  ⟨h.os, h.tape, h.output, h.size, fun k hk hx => h.block k hk (fun e => hx e.symm)⟩
theorem NCells.grown {w w' : World} {B : Nat} {v v' : Value} {l : List Nd} {cs : List Value} (hlt : NCells w (fun k => offRow B v k ∧ k < w.heap.size) l cs) (hg : w.grownBy w' v.ownBlock) (hv : v'.ownBlock = v.ownBlock ∨ v'.ownBlock = some w.heap.size) :
    NCells w' (offRow B v') l cs := by
  have h1 := hlt.ext (grownBy_ext hg) (fun k hk hx => hk.1.2 hx)
  refine h1.mono (fun k hk => ⟨hk.1.1, fun e => ?_⟩)
  rcases hv with hv | hv
  · rw [hv] at e; exact hk.1.2 e
  · rw [hv] at e; cases e; exact Nat.lt_irrefl _ hk.2
theorem StrsR.lt {S : Nat → Prop} {w : World} {a : Option Addr} {c : Nat} {xs : List ByteArray} (h : StrsR w S a c xs) : StrsR w (fun k => S k ∧ k < w.heap.size) a c xs := by
  obtain ⟨h1, h2, h3, h4⟩ := h
  refine ⟨h1, h2, h3, ?_⟩
  rcases Nat.eq_zero_or_pos xs.length with hl | hl
  · exact .inl (List.length_eq_zero_iff.1 hl)
  rcases h4 with h4 | ⟨b, o, rfl, hb, hc⟩
  · exact .inl h4
  · exact .inr ⟨b, o, rfl, ⟨hb, lt_of_cell (hc 0 hl)⟩, hc⟩
mutual
theorem NodeC.lt {S : Nat → Prop} {w : World} : ∀ {n : Nd} {na : Option Addr} {nc : Nat} {ka : Option Addr} {kc : Nat}, NodeC w S n na nc ka kc → NodeC w (fun k => S k ∧ k < w.heap.size) n na nc ka kc
  | ⟨_, _, _, _, kids⟩, na, nc, ka, kc, h => by
    unfold NodeC at h ⊢
    obtain ⟨h1, h2, h3, h4, h5⟩ := h
    refine ⟨h1, h2.lt, h3, h4, ?_⟩
    rcases h5 with h5 | ⟨b, o, rfl, hb, hk⟩
    · exact .inl h5
    · cases kids with
      | nil => exact .inl rfl
      | cons k ks =>
        refine .inr ⟨b, o, rfl, ⟨hb, ?_⟩, KidsR.lt hk⟩
        unfold KidsR at hk
        obtain ⟨⟨_, _, _, _, c0, _⟩, _⟩ := hk
        exact lt_of_cell c0
theorem KidsR.lt {S : Nat → Prop} {w : World} {b : Nat} : ∀ {l : List Nd} {o : Nat}, KidsR w S b o l → KidsR w (fun k => S k ∧ k < w.heap.size) b o l
  | [], _, _ => by unfold KidsR; trivial
  | k :: ks, o, h => by
    unfold KidsR at h ⊢
    obtain ⟨⟨na, nc, ka, kc, c0, c1, c2, c3, c4, hn⟩, hr⟩ := h
    exact ⟨⟨na, nc, ka, kc, c0, c1, c2, c3, c4, hn.lt⟩, KidsR.lt hr⟩
end
theorem NCells.lt {S : Nat → Prop} {w : World} : ∀ {l : List Nd} {cs : List Value}, NCells w S l cs → NCells w (fun k => S k ∧ k < w.heap.size) l cs
  | [], cs, h => h
  | n :: l, cs, h => by
    obtain ⟨na, nc, ka, kc, cs', rfl, hn, h⟩ := h
    exact ⟨na, nc, ka, kc, cs', rfl, hn.lt, NCells.lt h⟩
theorem BoxN.grown {w w' : World} {b : Nat} {cs : List Value} {v : Value} (h : BoxN w b cs) (hg : w.grownBy w' v.ownBlock) (hb : ∀ k, v.ownBlock = some k → b < k) : BoxN w' b cs :=
  h.ext (grownBy_ext hg) (fun e => by have := hb _ e; omega)
end Go.Proofs.YtmmaanbppheabaaDoor
namespace Go.Proofs.YtmmaanbppheabaaDoor
open Go Go.RowKit
def nodeRep : Rep Nd where
  n := 5
  R := fun w S x cs => ∃ na nc ka kc, cs = nodeL x na nc ka kc ∧ NodeC w S x na nc ka kc
  F := fun w x cs fp => ∃ na nc ka kc, cs = nodeL x na nc ka kc ∧ NodeF w x na nc ka kc fp
  rlen := by rintro w S x cs ⟨na, nc, ka, kc, rfl, _⟩; rfl
  flen := by rintro w x cs fp ⟨na, nc, ka, kc, rfl, _⟩; rfl
  ext := by rintro X S w w' x cs h hS ⟨na, nc, ka, kc, rfl, hn⟩; exact ⟨na, nc, ka, kc, rfl, hn.ext h hS⟩
  mono := by rintro S T w x cs h ⟨na, nc, ka, kc, rfl, hn⟩; exact ⟨na, nc, ka, kc, rfl, hn.mono h⟩
  lt := by rintro S w x cs ⟨na, nc, ka, kc, rfl, hn⟩; exact ⟨na, nc, ka, kc, rfl, hn.lt⟩
  keep := by rintro w w' x cs fp ⟨na, nc, ka, kc, rfl, hn⟩ h; exact ⟨na, nc, ka, kc, rfl, hn.keep h⟩
  toR := by rintro S w x cs fp ⟨na, nc, ka, kc, rfl, hn⟩ h; exact ⟨na, nc, ka, kc, rfl, hn.toC h⟩
end Go.Proofs.YtmmaanbppheabaaDoor
namespace Go.Proofs.YtmmaanbppheabaaDoor
open Go Go.RowKit
section rows
variable {α : Type} {E : Rep α}
end rows
end Go.Proofs.YtmmaanbppheabaaDoor
namespace Go.Proofs.YtmmaanbppheabaaDoor
open Go.RowKit
end Go.Proofs.YtmmaanbppheabaaDoor
namespace Go.Proofs.YtmmaanbppheabaaDoor
open Go.RowKit
abbrev Ent := Nd × ByteArray
end Go.Proofs.YtmmaanbppheabaaDoor
namespace Go.Proofs.YtmmaanbppheabaaDoor
open Go.RowKit
end Go.Proofs.YtmmaanbppheabaaDoor
namespace Go.Proofs.YtmmaanbppheabaaDoor
open Go.RowKit
end Go.Proofs.YtmmaanbppheabaaDoor
namespace Go.Proofs.YtmmaanbppheabaaDoor
open Go.RowKit
def frB (lo hi : Nd) (e : Ent) : Bool := decide (cmpN lo e.1 ≤ 0) && decide (cmpN e.1 hi ≤ 0)
end Go.Proofs.YtmmaanbppheabaaDoor
namespace Go.Proofs.YtmmaanbppheabaaDoor
open Go.RowKit
def Seg (A Z : Nat) (w : World) (fp : List Nat) : Prop := Free A w fp ∧ ∀ y ∈ fp, y < Z
theorem Seg.of {A : Nat} {w : World} {fp : List Nat} (h : Free A w fp) : Seg A w.heap.size w fp := ⟨h, fun y hy => (h.2 y hy).2.1⟩
theorem Seg.grow {A Z : Nat} {w w' : World} {fp : List Nat} (h : Seg A Z w fp) (hg : Grow w w') : Seg A Z w' fp := ⟨h.1.ext hg (fun _ _ h => h), h.2⟩
theorem Seg.off {A Z A' Z' : Nat} {w w0 : World} {fp fx : List Nat} (h : Seg A Z w fp) (hx : Seg A' Z' w0 fx) (hd : Z ≤ A' ∨ Z' ≤ A) : ∀ y ∈ fp, ¬ inl fx y := fun y hy h2 => by
  have h3 := h.2 y hy
  have h4 := (h.1.2 y hy).1
  have h5 := hx.2 y h2
  have h6 := (hx.1.2 y h2).1
  omega
theorem Seg.ext {A Z A' Z' : Nat} {w w' w0 : World} {fp fx : List Nat} (h : Seg A Z w fp) (hx : Seg A' Z' w0 fx) (hd : Z ≤ A' ∨ Z' ≤ A) (he : Ext (inl fx) w w') : Seg A Z w' fp := ⟨h.1.ext he (h.off hx hd), h.2⟩
theorem Seg.keeps {A Z A' Z' : Nat} {w w' w0 : World} {fp fx : List Nat} (h : Seg A Z w fp) (hx : Seg A' Z' w0 fx) (hd : Z ≤ A' ∨ Z' ≤ A) (he : Ext (inl fx) w w') : ∀ b ∈ fp, ∀ o, w'.cell? ⟨b, o, none⟩ = w.cell? ⟨b, o, none⟩ := he.keeps h.1 (h.off hx hd)
theorem Seg.inner {A Z : Nat} {w0 w w' : World} {fp : List Nat} (h : Seg A Z w fp) (hg : Grow w0 w) (he : Ext (inl fp) w w') (hA : w0.heap.size ≤ A) : Grow w0 w' :=
  hg.inner he (fun i hi => Nat.le_trans hA (h.1.2 i hi).1)
theorem Seg.box {A Z b : Nat} {w0 w w' : World} {fp : List Nat} {cs : List Value} (h : Seg A Z w0 fp) (hB : BoxN w b cs) (he : Ext (inl fp) w w') (hd : b < A ∨ Z ≤ b) : BoxN w' b cs :=
  hB.ext he (fun hi => by have h3 := h.2 b hi; have h4 := (h.1.2 b hi).1; omega)
theorem Seg.below {A Z : Nat} {w0 w w' : World} {fp : List Nat} {a : Option Addr} {c Y : Nat} {xs : List ByteArray} (h : Seg A Z w0 fp) (hs : StrsR w (fun k => k < Y) a c xs) (he : Ext (inl fp) w w') (hd : Y ≤ A) : StrsR w' (fun k => k < Y) a c xs :=
  hs.ext he (fun k hk hi => by have h4 := (h.1.2 k hi).1; omega)
theorem StrsR.under {S : Nat → Prop} {w : World} {a : Option Addr} {c : Nat} {xs : List ByteArray} (h : StrsR w S a c xs) : StrsR w (fun k => k < w.heap.size) a c xs := h.lt.mono (fun _ h => h.2)
end Go.Proofs.YtmmaanbppheabaaDoor
namespace Go.Proofs.YtmmaanbppheabaaDoor
open Go.RowKit
def packA (cs : List Value) : Value := .agg cs.toArray
def RV {α : Type} (E : Rep α) (pk : List Value → Value) (w : World) (S : Nat → Prop) (x : α) (v : Value) : Prop := ∃ cs, v = pk cs ∧ E.R w S x cs
def FV {α : Type} (E : Rep α) (pk : List Value → Value) (w : World) (x : α) (v : Value) (fp : List Nat) : Prop := ∃ cs, v = pk cs ∧ E.F w x cs fp
section
variable {α : Type} {E : Rep α} {pk : List Value → Value}
theorem RV.ext {X S : Nat → Prop} {w w' : World} {x : α} {v : Value} (h : RV E pk w S x v) (he : Ext X w w') (hS : ∀ k, S k → ¬ X k) : RV E pk w' S x v := by
  obtain ⟨cs, hv, hc⟩ := h; exact ⟨cs, hv, E.ext he hS hc⟩
theorem RV.grow {S : Nat → Prop} {w w' : World} {x : α} {v : Value} (h : RV E pk w S x v) (hg : Grow w w') : RV E pk w' S x v := h.ext hg (fun _ _ h => h)
theorem RV.mono {S T : Nat → Prop} {w : World} {x : α} {v : Value} (h : RV E pk w S x v) (hS : ∀ k, S k → T k) : RV E pk w T x v := by
  obtain ⟨cs, hv, hc⟩ := h; exact ⟨cs, hv, E.mono hS hc⟩
theorem RV.any {S : Nat → Prop} {w : World} {x : α} {v : Value} (h : RV E pk w S x v) : RV E pk w any x v := h.mono (fun _ _ => trivial)
theorem RV.under {S : Nat → Prop} {w : World} {x : α} {v : Value} (h : RV E pk w S x v) : RV E pk w (fun k => k < w.heap.size) x v := by
  obtain ⟨cs, hv, hc⟩ := h; exact ⟨cs, hv, E.mono (fun _ h => h.2) (E.lt hc)⟩
theorem FV.keep {w w' : World} {x : α} {v : Value} {fp : List Nat} (h : FV E pk w x v fp) (hk : ∀ b ∈ fp, ∀ o, w'.cell? ⟨b, o, none⟩ = w.cell? ⟨b, o, none⟩) : FV E pk w' x v fp := by
  obtain ⟨cs, hv, hc⟩ := h; exact ⟨cs, hv, E.keep hc hk⟩
theorem FV.rv {w : World} {x : α} {v : Value} {fp : List Nat} (h : FV E pk w x v fp) : RV E pk w Go.Proofs.YtmmaanbppheabaaDoor.any x v := by
  obtain ⟨cs, hv, hc⟩ := h; exact ⟨cs, hv, E.toR hc (fun _ _ => trivial)⟩
theorem FV.grow {w w' : World} {x : α} {v : Value} {fp : List Nat} {A Z : Nat} (h : FV E pk w x v fp) (hs : Seg A Z w fp) (hg : Grow w w') : FV E pk w' x v fp := h.keep (hg.keeps hs.1 (fun _ _ h => h))
theorem Seg.rv {A Z Y : Nat} {w0 w w' : World} {fp : List Nat} {x : α} {v : Value} (h : Seg A Z w0 fp) (hs : RV E pk w (fun k => k < Y) x v) (he : Ext (inl fp) w w') (hd : Y ≤ A) : RV E pk w' (fun k => k < Y) x v :=
  hs.ext he (fun k hk hi => by have h4 := (h.1.2 k hi).1; omega)
end
theorem node_open {w : World} {S : Nat → Prop} {x : Nd} {v : Value} (h : RV nodeRep packA w S x v) : NodeR w S x v := by
  obtain ⟨cs, rfl, na, nc, ka, kc, rfl, hs⟩ := h; exact ⟨na, nc, ka, kc, rfl, hs⟩
theorem uSzN (x : Nd) (v : Value) (left : Int) (w : World) (h0 : 0 ≤ left) (h1 : left ≤ 1048576) (h : RV nodeRep packA w any x v) :
    Calls Tryd.prog 6 #[v, .int .i64 left] w fun e w' => e = .returned (.int .i64 (szR (costN x) left)) ∧ Grow w w' := szNode_ok x v left w h0 h1 (node_open h)
theorem uToN (x : Nd) (v : Value) (w : World) (hc : costN x ≤ 1048576) (h : RV nodeRep packA w any x v) :
    Calls Tryd.prog 9 #[v] w fun e w' => ∃ v' fp, e = .returned v' ∧ Grow w w' ∧ FV nodeRep packA w' x v' fp ∧ Free w.heap.size w' fp :=
  (toNode_ok x v w hc (node_open h)).mono fun e w' ⟨v', fp, he, hg, ⟨na, nc, ka, kc, hv, hF⟩, hfr⟩ => ⟨v', fp, he, hg, ⟨_, hv, na, nc, ka, kc, rfl, hF⟩, hfr⟩
theorem uEqN (x : Nd) (v u : Value) (w : World) (h : RV nodeRep packA w any x v) (h' : RV nodeRep packA w any x u) :
    Calls Tryd.prog 12 #[v, u] w fun e w' => e = .returned (.bool true) ∧ Grow w w' :=
  (eqNode_ok x x v u w (node_open h) (node_open h')).mono fun e w' ⟨he, hg⟩ => ⟨by rw [he, eqN_refl], hg⟩
end Go.Proofs.YtmmaanbppheabaaDoor
namespace Go.Proofs.YtmmaanbppheabaaDoor
open Go.RowKit
end Go.Proofs.YtmmaanbppheabaaDoor
namespace Go.Proofs.YtmmaanbppheabaaDoor
open Go.RowKit
end Go.Proofs.YtmmaanbppheabaaDoor
namespace Go.Proofs.YtmmaanbppheabaaDoor
open Go.RowKit
end Go.Proofs.YtmmaanbppheabaaDoor
namespace Go.Proofs.YtmmaanbppheabaaDoor.Eng
open Go Go.RowKit
section
variable {P : Program} {f : FuncId} {args : List AV} {c : Nat} {Q R : AV → Prop}
theorem AC.arg {bs : List AV} (h : AC P f args c Q) (hw : WkL bs args) : AC P f bs c Q :=
  ⟨h.1, fun w L S rb k vs h0 h1 h2 h3 => h.2 w L S rb k vs h0 h1 h2 (hw.rep h3)⟩
end
section
variable {P : Program} {T : Tab} {k0 : Nat} {md : List Nat} {Av : Nat → Prop} {ops : Array Oper} {K : ASt → Prop} {o : Oper} {l : List Oper} {s : ASt}
end
section
variable {P : Program} {T : Tab} {hT : Tab.Ok P T} {hm : P.follows .mixedOrders = true} {w0 : W0} {S0 : Nat → Prop} {rd0 : Option Nat} {k0 : Nat} {Q : Exit → ASt → Prop} {s : ASt} {code : Code}
end
section
variable {P : Program} {w0 : W0} {S0 : Nat → Prop} {rd0 : Option Nat} {k0 : Nat} {w : World} {a : Act} {s : ASt} {ρ : Cx}
end
section
variable {P : Program} {T : Tab} {hT : Tab.Ok P T} {hm : P.follows .mixedOrders = true} {w0 : W0} {S0 : Nat → Prop} {rd0 : Option Nat} {k0 : Nat} {Q : Exit → ASt → Prop} {s : ASt} {code : Code}
end
section
variable {P : Program} {T : Tab} {k0 : Nat} {md : List Nat} {Av : Nat → Prop} {ops : Array Oper} {K : ASt → Prop} {o : Oper} {l : List Oper} {s : ASt}
end
end Go.Proofs.YtmmaanbppheabaaDoor.Eng
namespace Go.Proofs.YtmmaanbppheabaaDoor.Eng
open Go Go.RowKit
section
variable {w : World} {ρ : Cx}
end
end Go.Proofs.YtmmaanbppheabaaDoor.Eng
-- EV: fresh
namespace Go.Proofs.YtmmaanbppheabaaDoor.Eng
open Go Go.RowKit
attribute [local simp] big size_mk ASt.pay Option.map_map Function.comp_def awant aop acall ado aev ofVal ofVal0 ASt.put ASt.add ASt.turn ASt.kill abox aalloc astore aload aloadD astoreD idOf ASt.at cellsTo afieldAddr afield aindexAddr aindex alen abin aint acmp astr aun apick aextract anil aslice abound abuild afill abuildSlice asCells aps avCells over upd aappend asrc amax amin aconv mkSt slots rowsOf_cons rowsOf_nil usedOf_cons usedOf_nil ZK.av List.replicate ASt.back ASt.addL ASt.killL nodeA nodeT nodeTL_eq nodeL_eq strsE_get strsE_len intsE_get intsE_len strsE_at intsE_at tab2 tab3 tab4 tab5 tab6 tab7 tab8 tab9 tab10 tab11 tab12 tab13 tab14 tab15 tab16 tab17 tab18 tab19 tab21 tab22 tab23 tab24 tab25 tab26 tab27 tab31 tab32 tab33 tab35 tab36 tab41 tab58 tab67 tab69 tab70 tab81 tab82 tab85 tab86 tab92 tab93 tab95 tab105 tab111 tab117 tab124 tab125 tab130 tab131 tab133 tab134 tab135
end Go.Proofs.YtmmaanbppheabaaDoor.Eng
-- EV: fresh
namespace Go.Proofs.YtmmaanbppheabaaDoor
open Go.RowKit
theorem openV_node {w : World} {S : Nat → Prop} {x : Nd} {v : Value} (h : RV nodeRep packA w S x v) : ∃ na nc ka kc, v = nodeV x na nc ka kc := by
  obtain ⟨na, nc, ka, kc, hv, _⟩ := node_open h
  exact ⟨na, nc, ka, kc, hv⟩
namespace Eng
theorem arg_node {w : World} {n : Nd} {v : Value} (h : RV nodeRep packA w Go.Proofs.YtmmaanbppheabaaDoor.any n v) : Rep w (pureC nil (fun k => k < w.heap.size) none) (nodeA n) v := rep_of_node (node_open h.under)
theorem args1 {w : World} {ρ : Cx} {a : AV} {v : Value} (h : Rep w ρ a v) : RepL w ρ [a] [v] := by unfold RepL; exact ⟨_, _, rfl, h, by unfold RepL; rfl⟩
theorem args2 {w : World} {ρ : Cx} {a b : AV} {v u : Value} (h : Rep w ρ a v) (k : Rep w ρ b u) : RepL w ρ [a, b] [v, u] := by unfold RepL; exact ⟨_, _, rfl, h, args1 k⟩
end Eng
end Go.Proofs.YtmmaanbppheabaaDoor
namespace Go.Proofs.YtmmaanbppheabaaDoor.Eng
open Go Go.RowKit
attribute [local simp] big size_mk ASt.pay Option.map_map Function.comp_def awant aop acall ado aev ofVal ofVal0 ASt.put ASt.add ASt.turn ASt.kill abox aalloc astore aload aloadD astoreD idOf ASt.at cellsTo afieldAddr afield aindexAddr aindex alen abin aint acmp astr aun apick aextract anil aslice abound abuild afill abuildSlice asCells aps avCells over upd aappend asrc amax amin aconv mkSt slots rowsOf_cons rowsOf_nil usedOf_cons usedOf_nil ZK.av List.replicate ASt.back ASt.addL ASt.killL nodeA nodeT nodeTL_eq nodeL_eq strsE_get strsE_len intsE_get intsE_len strsE_at intsE_at tab2 tab3 tab4 tab5 tab6 tab7 tab8 tab9 tab10 tab11 tab12 tab13 tab14 tab15 tab16 tab17 tab18 tab19 tab21 tab22 tab23 tab24 tab25 tab26 tab27 tab31 tab32 tab33 tab35 tab36 tab41 tab58 tab67 tab69 tab70 tab81 tab82 tab85 tab86 tab92 tab93 tab95 tab105 tab111 tab117 tab124 tab125 tab130 tab131 tab133 tab134 tab135
set_option maxRecDepth 100000
set_option maxHeartbeats 8000000
end Go.Proofs.YtmmaanbppheabaaDoor.Eng
namespace Go.Proofs.YtmmaanbppheabaaDoor
open Go.RowKit
end Go.Proofs.YtmmaanbppheabaaDoor
namespace Go.Proofs.YtmmaanbppheabaaDoor
open Go.RowKit
theorem Good.names {n : Nd} (h : Good n) (h4 : n.kind ≠ 4) : n.names = [] := by
  have hp := h.parts
  unfold partsB at hp
  simp only [Bool.and_eq_true, Bool.or_eq_true, decide_eq_true_eq] at hp
  rcases hp.1.2 with h | h
  · exact absurd h h4
  · exact List.length_eq_zero_iff.1 (by simpa using h)
end Go.Proofs.YtmmaanbppheabaaDoor
namespace Go.Proofs.YtmmaanbppheabaaDoor
open Go.RowKit
abbrev Opr := Int × List ByteArray × List ByteArray × Nd
end Go.Proofs.YtmmaanbppheabaaDoor
namespace Go.Proofs.YtmmaanbppheabaaDoor
open Go.RowKit
def wd : Nat → ByteArray
  | 1 => ⟨#[97, 100, 100]⟩
  | 2 => ⟨#[114, 101, 109, 111, 118, 101]⟩
  | 3 => ⟨#[114, 101, 112, 108, 97, 99, 101]⟩
  | 4 => ⟨#[109, 111, 118, 101]⟩
  | 5 => ⟨#[99, 111, 112, 121]⟩
  | 6 => ⟨#[116, 101, 115, 116]⟩
  | _ => ⟨#[]⟩
end Go.Proofs.YtmmaanbppheabaaDoor
-- EV: skip
namespace Go.Proofs.YtmmaanbppheabaaDoor.Eng
open Go Go.RowKit
attribute [local simp] big size_mk ASt.pay Option.map_map Function.comp_def awant aop acall ado aev ofVal ofVal0 ASt.put ASt.add ASt.turn ASt.kill abox aalloc astore aload aloadD astoreD idOf ASt.at cellsTo afieldAddr afield aindexAddr aindex alen abin aint acmp astr aun apick aextract anil aslice abound abuild afill abuildSlice asCells aps avCells over upd aappend asrc amax amin aconv mkSt slots rowsOf_cons rowsOf_nil usedOf_cons usedOf_nil ZK.av List.replicate ASt.back ASt.addL ASt.killL nodeA nodeT nodeTL_eq nodeL_eq strsE_get strsE_len intsE_get intsE_len strsE_at intsE_at tab2 tab3 tab4 tab5 tab6 tab7 tab8 tab9 tab10 tab11 tab12 tab13 tab14 tab15 tab16 tab17 tab18 tab19 tab21 tab22 tab23 tab24 tab25 tab26 tab27 tab31 tab32 tab33 tab35 tab36 tab41 tab58 tab67 tab69 tab70 tab81 tab82 tab85 tab86 tab92 tab93 tab95 tab105 tab111 tab117 tab124 tab125 tab130 tab131 tab133 tab134 tab135
set_option maxRecDepth 100000
set_option maxHeartbeats 8000000
end Go.Proofs.YtmmaanbppheabaaDoor.Eng
-- EV: skip
namespace Go.Proofs.YtmmaanbppheabaaDoor.Eng
open Go Go.RowKit
attribute [local simp] big size_mk ASt.pay Option.map_map Function.comp_def awant aop acall ado aev ofVal ofVal0 ASt.put ASt.add ASt.turn ASt.kill abox aalloc astore aload aloadD astoreD idOf ASt.at cellsTo afieldAddr afield aindexAddr aindex alen abin aint acmp astr aun apick aextract anil aslice abound abuild afill abuildSlice asCells aps avCells over upd aappend asrc amax amin aconv mkSt slots rowsOf_cons rowsOf_nil usedOf_cons usedOf_nil ZK.av List.replicate ASt.back ASt.addL ASt.killL nodeA nodeT nodeTL_eq nodeL_eq strsE_get strsE_len intsE_get intsE_len strsE_at intsE_at tab2 tab3 tab4 tab5 tab6 tab7 tab8 tab9 tab10 tab11 tab12 tab13 tab14 tab15 tab16 tab17 tab18 tab19 tab21 tab22 tab23 tab24 tab25 tab26 tab27 tab31 tab32 tab33 tab35 tab36 tab41 tab58 tab67 tab69 tab70 tab81 tab82 tab85 tab86 tab92 tab93 tab95 tab105 tab111 tab117 tab124 tab125 tab130 tab131 tab133 tab134 tab135
def opE (o : Opr) : List AV := [.int .i64 o.1, .view .loose 1 (strsE o.2.1), .view .loose 1 (strsE o.2.2.1), .int .i64 o.2.2.2.kind, .int .i64 o.2.2.2.num, .str o.2.2.2.text, .view .loose 1 (strsE o.2.2.2.names), .view .loose 5 (o.2.2.2.kids.map nodeL)]
def opsE (l : List Opr) : List (List AV) := l.map opE
theorem opsE_len (l : List Opr) : (opsE l).length = l.length := List.length_map _
theorem opE_cell (o : Opr) : ∀ c ∈ opE o, Pur c ∧ NoId c ∧ ∀ (id m : Nat) (x : AV), AV.sub id m x c = c := by
  unfold opE
  simp only [List.forall_mem_cons, List.not_mem_nil, false_implies, implies_true, and_true]
  exact ⟨⟨pur_int, in_int, fun _ _ _ => by simp [AV.sub]⟩, ⟨strs_pur _ (by decide), strs_in _, fun _ _ _ => by simp [AV.sub, strsE_sub]⟩, ⟨strs_pur _ (by decide), strs_in _, fun _ _ _ => by simp [AV.sub, strsE_sub]⟩, ⟨pur_int, in_int, fun _ _ _ => by simp [AV.sub]⟩, ⟨pur_int, in_int, fun _ _ _ => by simp [AV.sub]⟩, ⟨pur_str, in_str, fun _ _ _ => by simp [AV.sub]⟩, ⟨strs_pur _ (by decide), strs_in _, fun _ _ _ => by simp [AV.sub, strsE_sub]⟩, nodes_pur _ (by decide), in_view.2 (nodesE_in _), fun _ _ _ => by simp only [AV.sub, nodesE_sub]⟩
theorem opsE_cell (l : List Opr) : ∀ e ∈ opsE l, ∀ c ∈ e, Pur c ∧ NoId c ∧ ∀ (id m : Nat) (x : AV), AV.sub id m x c = c := fun e he => by
  obtain ⟨o, _, rfl⟩ := List.mem_map.1 he
  exact opE_cell o
theorem subL_self {id m : Nat} {c : AV} {e : List AV} (h : ∀ x ∈ e, ∀ (id m : Nat) (y : AV), AV.sub id m y x = x) : AV.subL id m c e = e := by
  induction e with
  | nil => unfold AV.subL; rfl
  | cons x xs ih => rw [subL_cons, h x List.mem_cons_self, ih (fun y hy => h y (List.mem_cons_of_mem _ hy))]
theorem opsE_sub {id m : Nat} {c : AV} (l : List Opr) : (opsE l).map (AV.subL id m c) = opsE l :=
  (List.map_congr_left (fun e he => subL_self (fun x hx => (opsE_cell l e he x hx).2.2))).trans (List.map_id _)
theorem opsE_in (l : List Opr) {U : Nat → Bool} : ∀ e ∈ opsE l, ∀ c ∈ e, AV.In U c := fun e he c hc => (opsE_cell l e he c hc).2.1.mono (fun _ h => by cases h)
theorem ops_pur (l : List Opr) {t : VC} (h : t ≠ .lent) : Pur (.view t 8 (opsE l)) := pur_view h (fun e he c hc => (opsE_cell l e he c hc).1)
theorem ops_clo (l : List Opr) : Clo (.view .loose 8 (opsE l)) := (ops_pur l (by decide)).clo
theorem ops_in {U : Nat → Bool} (l : List Opr) : AV.In U (.view .loose 8 (opsE l)) := in_view.2 (opsE_in l)
theorem opsE_snoc (l : List Opr) (o : Opr) : opsE l ++ [opE o] = opsE (l ++ [o]) := by simp [opsE]
theorem opsE_app (l m : List Opr) : opsE l ++ opsE m = opsE (l ++ m) := by simp [opsE]
def undO (st : ByteArray) (o : Opr) : Opr := (o.1, st :: o.2.1, [], o.2.2.2)
def undE (st : ByteArray) (o : Opr) : List AV := [.int .i64 o.1, .view .loose 1 (strsE (st :: o.2.1)), .view .tight 1 [], .int .i64 o.2.2.2.kind, .int .i64 o.2.2.2.num, .str o.2.2.2.text, .view .loose 1 (strsE o.2.2.2.names), .view .loose 5 (o.2.2.2.kids.map nodeL)]
theorem und_wk (st : ByteArray) : ∀ l : List Opr, WkE (l.map (undE st)) (opsE (l.map (undO st)))
  | [] => .nil
  | o :: l => by
    refine .cons ?_ (und_wk st l)
    unfold undE undO opE
    exact .cons (Wk.refl _) (.cons (Wk.refl _) (.cons (Wk.loose (by decide)) (.cons (Wk.refl _) (.cons (Wk.refl _) (.cons (Wk.refl _) (.cons (Wk.refl _) (.cons (Wk.refl _) .nil)))))))
theorem und_cell (st : ByteArray) (l : List Opr) : ∀ e ∈ l.map (undE st), ∀ c ∈ e, Pur c ∧ NoId c ∧ ∀ (id m : Nat) (x : AV), AV.sub id m x c = c := fun e he => by
  obtain ⟨o, _, rfl⟩ := List.mem_map.1 he
  have h0 : Pur (.view .tight 1 []) := pur_view (by decide) (fun e he => by cases he)
  unfold undE
  simp only [List.forall_mem_cons, List.not_mem_nil, false_implies, implies_true, and_true]
  exact ⟨⟨pur_int, in_int, fun _ _ _ => by simp [AV.sub]⟩, ⟨strs_pur _ (by decide), strs_in _, fun _ _ _ => by simp [AV.sub, strsE_sub]⟩, ⟨h0, in_view.2 (fun e he => by cases he), fun _ _ _ => by simp [AV.sub]⟩, ⟨pur_int, in_int, fun _ _ _ => by simp [AV.sub]⟩, ⟨pur_int, in_int, fun _ _ _ => by simp [AV.sub]⟩, ⟨pur_str, in_str, fun _ _ _ => by simp [AV.sub]⟩, ⟨strs_pur _ (by decide), strs_in _, fun _ _ _ => by simp [AV.sub, strsE_sub]⟩, nodes_pur _ (by decide), in_view.2 (nodesE_in _), fun _ _ _ => by simp only [AV.sub, nodesE_sub]⟩
theorem und_sub {st : ByteArray} {id m : Nat} {c : AV} (l : List Opr) : (l.map (undE st)).map (AV.subL id m c) = l.map (undE st) :=
  (List.map_congr_left (fun e he => subL_self (fun x hx => (und_cell st l e he x hx).2.2))).trans (List.map_id _)
set_option maxRecDepth 100000
set_option maxHeartbeats 8000000
theorem op_AC (t : VC) (ht : t ≠ .lent) (kd : Int) (p : List ByteArray) (v : Nd) (hv : Sml v) : AC Tryd.prog 71 [.int .i64 kd, .view t 1 (strsE p), nodeA v] 0 (fun r => r = .agg (opE (kd, p, [], v))) := by
  refine AC.weak ?_
  have pc := copyNode_AC v hv .loose
  rw [nodeT_loose] at pc
  have hcv := node_clo v
  unfold nodeA at pc hcv ⊢
  rw [nodeL_eq v] at pc hcv ⊢
  refine AC.of tab_ok mixed_ok Tryd.func71 (by rfl) (by kernel_rfl) ?_; rintro ⟨P, T, hT, hm, w0, S0, rd0, k0⟩ hP hTT; dsimp only at hP hTT; subst hP hTT; unfold initSt; rw [Tryd.ntmps71]
  (repeat (first | with_reducible refine AW.seq ?_ | ((first | refine arun_kn 4 rfl (fun C hC => ?_) | refine arunD_kn 4 rfl (fun C hC => ?_)); (repeat ((conv => whnf); simp)); refine hC _ ?_; clear hC C; simp only [List.drop, Nat.reduceAdd]) | ((first | refine arun_kn 1 rfl (fun C hC => ?_) | refine arunD_kn 1 rfl (fun C hC => ?_)); (repeat ((conv => whnf); simp)); refine hC _ ?_; clear hC C; simp only [List.drop, Nat.reduceAdd]) | (refine arun_skip ?_ ?_; (focus (simp [awant]; done))) | (refine arun_c0 (pc) ?_; rintro _ rfl) | (refine arunD_skip ?_ ?_; (focus (simp [awant]; done))) | (refine AW.regionK [] (fun K hK => ?_)) | (refine AW.regionDK [] (pcs [] []) (by kernel_rfl) (by kernel_rfl) (fun K hK => ?_)) | (refine AW.condT ?_ ?_; (focus (simp [aev]; done))) | (refine AW.condF ?_ ?_; (focus (simp [aev]; done))) | with_reducible refine AW.block ?_ | ((first | ((first | refine arun_nil ?_ | refine arunD_nil ?_); refine hK _ ?_; clear hK K) | refine AW.skip ?_ | refine AW.exit ?_ | refine AW.ret ?_); simp only [thenA_exit, inBlockA_exit, if_true, if_false, Nat.reduceEqDiff, thenA_normal, inBlockA_normal, reduceIte, thenA_ret, inBlockA_ret, endQ_ret, endR_ret, endG_ret, endQ_normal, endR_normal, endG_normal])))
  refine ⟨.agg [.int .i64 kd, .view t 1 (strsE p), .view .tight 1 [], .int .i64 v.kind, .int .i64 v.num, .str v.text, .view .loose 1 (strsE v.names), .view .loose 5 (v.kids.map nodeL)], by simp [ares, aresL, upd, rowsOf_cons], pur_agg ?_, _, ?_, rfl⟩
  · have h0 : Pur (.view .tight 1 []) := pur_view (by decide) (fun e he => by cases he)
    simp only [List.forall_mem_cons, List.not_mem_nil, false_implies, implies_true, and_true]
    exact ⟨pur_int, strs_pur _ ht, h0, pur_int, pur_int, pur_str, strs_pur _ (by decide), nodes_pur _ (by decide)⟩
  · unfold opE
    exact .agg (.cons (Wk.refl _) (.cons (Wk.loose ht) (.cons (Wk.loose (by decide)) (.cons (Wk.refl _) (.cons (Wk.refl _) (.cons (Wk.refl _) (.cons (Wk.refl _) (.cons (Wk.refl _) .nil))))))))
theorem under_AC (st : ByteArray) (l : List Opr) (hl : l.length ≤ 10000000000) (hp : ∀ o ∈ l, o.2.1.length ≤ 900) : AC Tryd.prog 90 [.str st, .view .loose 8 (opsE l)] 0 (fun r => r = .view .loose 8 (opsE (l.map (undO st)))) := by
  refine AC.weak ?_
  have hcl := opsE_len l
  have hvi : ∀ U : Nat → Bool, AV.In U (.view .loose 8 (opsE l)) := fun U => ops_in l
  refine AC.of tab_ok mixed_ok Tryd.func90 (by rfl) (by kernel_rfl) ?_; rintro ⟨P, T, hT, hm, w0, S0, rd0, k0⟩ hP hTT; dsimp only at hP hTT; subst hP hTT; unfold initSt; rw [Tryd.ntmps90]
  (repeat (first | with_reducible refine AW.seq ?_ | ((first | refine arun_kn 4 rfl (fun C hC => ?_) | refine arunD_kn 4 rfl (fun C hC => ?_)); (repeat ((conv => whnf); simp [hcl])); refine hC _ ?_; clear hC C; simp only [List.drop, Nat.reduceAdd]) | ((first | refine arun_kn 1 rfl (fun C hC => ?_) | refine arunD_kn 1 rfl (fun C hC => ?_)); (repeat ((conv => whnf); simp [hcl])); refine hC _ ?_; clear hC C; simp only [List.drop, Nat.reduceAdd]) | (refine arun_skip ?_ ?_; (focus (simp [awant, hcl]; done))) | (refine arunD_skip ?_ ?_; (focus (simp [awant, hcl]; done))) | (refine AW.regionK [] (fun K hK => ?_)) | (refine AW.regionDK [] (pcs [] []) (by kernel_rfl) (by kernel_rfl) (fun K hK => ?_)) | (refine AW.condT ?_ ?_; (focus (simp [aev, hcl]; done))) | (refine AW.condF ?_ ?_; (focus (simp [aev, hcl]; done))) | with_reducible refine AW.block ?_ | ((first | ((first | refine arun_nil ?_ | refine arunD_nil ?_); refine hK _ ?_; clear hK K) | refine AW.skip ?_ | refine AW.exit ?_ | refine AW.ret ?_); simp only [thenA_exit, inBlockA_exit, if_true, if_false, Nat.reduceEqDiff, thenA_normal, inBlockA_normal, reduceIte, thenA_ret, inBlockA_ret, endQ_ret, endR_ret, endG_ret, endQ_normal, endR_normal, endG_normal])))
  refine AW.adopt 5 50 93 8 ⟨_, tab93, rfl⟩ rfl (by simp [upd]) ?_
  simp only [ASt.adopt, ASt.add]
  refine AW.loopS (fun (x : Nat × List (List AV)) => mkSt (slots 0 40 [(0, .str st), (1, .view .loose 8 (opsE l)), (5, .own 50 x.1), (6, .int .i64 x.1)]) [(50, ⟨false, 93, 8, x.2⟩)] [50] (rd0.map fun _ => 0)) (fun x => l.length - x.1) (fun x => x.1 ≤ l.length ∧ x.2 = (l.take x.1).map (undE st)) (0, []) ?_ ⟨Nat.zero_le _, rfl⟩ ?_
  · dsimp only
    exact (less_of (by simp [lessL, mkSt, slots, hvi]) (by simp [upd, mkSt, rowsOf_cons, hvi]) (by simp [upd, mkSt, usedOf_cons, hvi]) (by first | exact rd_less (by omega) | simp [mkSt, hvi]) (by simp [slots, in_any, in_int, in_bool, in_str, in_ptr, in_own, in_agg, in_vnil, in_rdr, usedOf_cons, usedOf_nil, strs_in, ints_in, nodes_in, in_tup, hvi]) (by simp only [List.forall_mem_cons, List.not_mem_nil, false_implies, implies_true, and_true, true_and, hvi]; (repeat (first | with_reducible exact trivial | with_reducible refine And.intro ?_ ?_ | with_reducible exact in_int | with_reducible exact in_str | with_reducible exact in_bool | with_reducible exact strs_in _ | with_reducible exact nodes_in _ | with_reducible exact items_in _ | with_reducible exact in_vnil | with_reducible exact in_any | exact hin _ | with_reducible refine take_in ?_ | with_reducible exact strsE_in _ | with_reducible exact nodesE_in _ | with_reducible exact nodeL_in _ | with_reducible exact itemsE_in _ | with_reducible exact itemL_in _ | with_reducible refine app_in ?_ ?_ | with_reducible refine sing_in ?_ | (focus (simp [in_any, in_int, in_bool, in_str, in_ptr, in_own, in_agg, in_vnil, in_rdr, usedOf_cons, usedOf_nil, strs_in, ints_in, nodes_in, hvi]; done)))); done))
  rintro ⟨i, E⟩ ⟨hi, hE⟩
  dsimp only at hi hE ⊢
  have hml : E.length = i := by rw [hE, List.length_map, List.length_take]; omega
  have hsub : ∀ (id m : Nat) (c : AV), E.map (AV.subL id m c) = E := fun id m c => by rw [hE]; exact und_sub _
  have hin : ∀ U : Nat → Bool, ∀ e ∈ E, ∀ c ∈ e, AV.In U c := fun U e he c hc => by
    rw [hE] at he
    exact (und_cell st _ e he c hc).2.1.mono (fun _ h => by cases h)
  by_cases hlt : i < l.length
  · have hw : IntKind.i64.wrap ((i : Int) + 1) = (i : Int) + 1 := i64_nat (by omega) (by omega)
    have hgl : (opsE l)[i]? = some (opE l[i]) := by unfold opsE; rw [List.getElem?_map, List.getElem?_eq_getElem hlt]; rfl
    have hpi := hp l[i] (List.getElem_mem hlt)
    have hlt' : i < (opsE l).length := by rw [hcl]; exact hlt
    have hge : (opsE l)[i] = opE l[i] := by simp [opsE]
    have c1' : (1 + l[i].2.1.length) * 16 ≤ 140737488355328 := by omega
    have c2' : 1 + l[i].2.1.length ≤ 140737488355328 := by omega
    have c1 : (l[i].2.1.length + 1) * 16 ≤ 140737488355328 := by omega
    have c2 : l[i].2.1.length + 1 ≤ 140737488355328 := by omega
    have d1 : (i + 1) * 136 ≤ 140737488355328 := by omega
    have d2 : i + 1 ≤ 140737488355328 := by omega
    have htk : E ++ [[AV.int .i64 l[i].1, .view .loose 1 ([.str st] :: strsE l[i].2.1), .view .tight 1 [], .int .i64 l[i].2.2.2.kind, .int .i64 l[i].2.2.2.num, .str l[i].2.2.2.text, .view .loose 1 (strsE l[i].2.2.2.names), .view .loose 5 (l[i].2.2.2.kids.map nodeL)]] = (l.take (i + 1)).map (undE st) := by rw [take_snoc' _ _ hlt, List.map_append, ← hE]; rfl
    have hin2 : ∀ U : Nat → Bool, ∀ c ∈ undE st l[i], AV.In U c := fun U c hc => (und_cell st [l[i]] (undE st l[i]) (by simp) c hc).2.1.mono (fun _ h => by cases h)
    unfold undE at hin2
    (repeat (first | with_reducible refine AW.seq ?_ | ((first | refine arun_knb 4 rfl (fun C hC => ?_) | refine arunD_kn 4 rfl (fun C hC => ?_)); (repeat ((conv => whnf); simp [hlt, hcl])); refine hC _ ?_; clear hC C; simp only [List.drop, Nat.reduceAdd]) | ((first | refine arun_knb 1 rfl (fun C hC => ?_) | refine arunD_kn 1 rfl (fun C hC => ?_)); (repeat ((conv => whnf); simp [hlt, hcl])); refine hC _ ?_; clear hC C; simp only [List.drop, Nat.reduceAdd]) | (refine arun_skip ?_ ?_; (focus (simp [awant, hlt, hcl]; done))) | (refine arunD_skip ?_ ?_; (focus (simp [awant, hlt, hcl]; done))) | (refine AW.regionK [] (fun K hK => ?_)) | (refine AW.regionDK [] (pcs [] []) (by kernel_rfl) (by kernel_rfl) (fun K hK => ?_)) | (refine AW.condT ?_ ?_; (focus (simp [aev, hlt, hcl]; done))) | (refine AW.condF ?_ ?_; (focus (simp [aev, hlt, hcl]; done))) | with_reducible refine AW.block ?_ | ((first | ((first | refine arun_nil ?_ | refine arunD_nil ?_); refine hK _ ?_; clear hK K) | refine AW.skip ?_ | refine AW.exit ?_ | refine AW.ret ?_); simp only [thenA_exit, inBlockA_exit, if_true, if_false, Nat.reduceEqDiff, thenA_normal, inBlockA_normal, reduceIte, thenA_ret, inBlockA_ret, endQ_ret, endR_ret, endG_ret, endQ_normal, endR_normal, endG_normal])))
    refine arun_ownSlice 16 rfl (by simp [awant]) tab22 (by simp; exact ⟨rfl, rfl⟩) (by simp [upd]) ?_
    (repeat (first | with_reducible refine AW.seq ?_ | ((first | refine arun_kn 4 rfl (fun C hC => ?_) | refine arunD_kn 4 rfl (fun C hC => ?_)); (repeat ((conv => whnf); simp [hlt, hlt', hcl, hge, hgl, opE, c1, c2, c1', c2'])); refine hC _ ?_; clear hC C; simp only [List.drop, Nat.reduceAdd]) | ((first | refine arun_kn 1 rfl (fun C hC => ?_) | refine arunD_kn 1 rfl (fun C hC => ?_)); (repeat ((conv => whnf); simp [hlt, hlt', hcl, hge, hgl, opE, c1, c2, c1', c2'])); refine hC _ ?_; clear hC C; simp only [List.drop, Nat.reduceAdd]) | (refine arun_skip ?_ ?_; (focus (simp [awant, hlt, hlt', hcl, hge, hgl, opE, c1, c2, c1', c2']; done))) | (refine arunD_skip ?_ ?_; (focus (simp [awant, hlt, hlt', hcl, hge, hgl, opE, c1, c2, c1', c2']; done))) | (refine AW.regionK [] (fun K hK => ?_)) | (refine AW.condT ?_ ?_; (focus (simp [aev, hlt, hlt', hcl, hge, hgl, opE, c1, c2, c1', c2']; done))) | (refine AW.condF ?_ ?_; (focus (simp [aev, hlt, hlt', hcl, hge, hgl, opE, c1, c2, c1', c2']; done))) | with_reducible refine AW.block ?_ | ((first | ((first | refine arun_nil ?_ | refine arunD_nil ?_); refine hK _ ?_; clear hK K) | refine AW.skip ?_ | refine AW.exit ?_ | refine AW.ret ?_); simp only [thenA_exit, inBlockA_exit, if_true, if_false, Nat.reduceEqDiff, thenA_normal, inBlockA_normal, reduceIte, thenA_ret, inBlockA_ret, endQ_ret, endR_ret, endG_ret, endQ_normal, endR_normal, endG_normal])))
    refine AW.hold 16 ?_
    simp only [ASt.hold]
    (repeat (first | with_reducible refine AW.seq ?_ | ((first | refine arun_kn 4 rfl (fun C hC => ?_) | refine arunD_kn 4 rfl (fun C hC => ?_)); (repeat ((conv => whnf); simp [hlt, hlt', hcl, hge, hgl, opE, AV.subL, AV.sub, Row.sub, upd, hsub, strsE_sub, opsE_sub, d1, d2, hml, hw])); refine hC _ ?_; clear hC C; simp only [List.drop, Nat.reduceAdd]) | ((first | refine arun_kn 1 rfl (fun C hC => ?_) | refine arunD_kn 1 rfl (fun C hC => ?_)); (repeat ((conv => whnf); simp [hlt, hlt', hcl, hge, hgl, opE, AV.subL, AV.sub, Row.sub, upd, hsub, strsE_sub, opsE_sub, d1, d2, hml, hw])); refine hC _ ?_; clear hC C; simp only [List.drop, Nat.reduceAdd]) | (refine arun_skip ?_ ?_; (focus (simp [awant, hlt, hlt', hcl, hge, hgl, opE, AV.subL, AV.sub, Row.sub, upd, hsub, strsE_sub, opsE_sub, d1, d2, hml, hw]; done))) | (refine arunD_skip ?_ ?_; (focus (simp [awant, hlt, hlt', hcl, hge, hgl, opE, AV.subL, AV.sub, Row.sub, upd, hsub, strsE_sub, opsE_sub, d1, d2, hml, hw]; done))) | (refine AW.regionK [] (fun K hK => ?_)) | (refine AW.regionDK [] (pcs [] []) (by kernel_rfl) (by kernel_rfl) (fun K hK => ?_)) | (refine AW.condT ?_ ?_; (focus (simp [aev, hlt, hlt', hcl, hge, hgl, opE, AV.subL, AV.sub, Row.sub, upd, hsub, strsE_sub, opsE_sub, d1, d2, hml, hw]; done))) | (refine AW.condF ?_ ?_; (focus (simp [aev, hlt, hlt', hcl, hge, hgl, opE, AV.subL, AV.sub, Row.sub, upd, hsub, strsE_sub, opsE_sub, d1, d2, hml, hw]; done))) | with_reducible refine AW.block ?_ | ((first | ((first | refine arun_nil ?_ | refine arunD_nil ?_); refine hK _ ?_; clear hK K) | refine AW.skip ?_ | refine AW.exit ?_ | refine AW.ret ?_); simp only [thenA_exit, inBlockA_exit, if_true, if_false, Nat.reduceEqDiff, thenA_normal, inBlockA_normal, reduceIte, thenA_ret, inBlockA_ret, endQ_ret, endR_ret, endG_ret, endQ_normal, endR_normal, endG_normal])))
    refine ⟨(i + 1, (l.take (i + 1)).map (undE st)), by dsimp only; omega, ⟨by dsimp only; omega, rfl⟩, ?_⟩
    dsimp only
    rw [← htk]
    have hst : strsE (st :: l[i].2.1) = [.str st] :: strsE l[i].2.1 := rfl
    rw [hst] at hin2
    generalize E = E0 at hin ⊢
    have hin3 : ∀ U : Nat → Bool, ∀ e ∈ E0 ++ [[AV.int .i64 l[i].1, .view .loose 1 ([.str st] :: strsE l[i].2.1), .view .tight 1 [], .int .i64 l[i].2.2.2.kind, .int .i64 l[i].2.2.2.num, .str l[i].2.2.2.text, .view .loose 1 (strsE l[i].2.2.2.names), .view .loose 5 (l[i].2.2.2.kids.map nodeL)]], ∀ c ∈ e, AV.In U c := fun U e he c hc => by
      rcases List.mem_append.1 he with he | he
      · exact hin U e he c hc
      · rw [List.mem_singleton.1 he] at hc; exact hin2 U c hc
    clear hin hin2
    generalize E0 ++ _ = E at hin3 ⊢
    have hin := hin3
    exact (less_of (by simp [lessL, mkSt, slots, hvi]) (by simp [upd, mkSt, rowsOf_cons, hvi]) (by simp [upd, mkSt, usedOf_cons, hvi]) (by first | exact rd_less (by omega) | simp [mkSt, hvi]) (by simp [slots, in_any, in_int, in_bool, in_str, in_ptr, in_own, in_agg, in_vnil, in_rdr, usedOf_cons, usedOf_nil, strs_in, ints_in, nodes_in, in_tup, hvi]) (by simp only [List.forall_mem_cons, List.not_mem_nil, false_implies, implies_true, and_true, true_and, hvi]; (repeat (first | with_reducible exact trivial | with_reducible refine And.intro ?_ ?_ | with_reducible exact in_int | with_reducible exact in_str | with_reducible exact in_bool | with_reducible exact strs_in _ | with_reducible exact nodes_in _ | with_reducible exact items_in _ | with_reducible exact in_vnil | with_reducible exact in_any | exact hin _ | with_reducible refine take_in ?_ | with_reducible exact strsE_in _ | with_reducible exact nodesE_in _ | with_reducible exact nodeL_in _ | with_reducible exact itemsE_in _ | with_reducible exact itemL_in _ | with_reducible refine app_in ?_ ?_ | with_reducible refine sing_in ?_ | (focus (simp [in_any, in_int, in_bool, in_str, in_ptr, in_own, in_agg, in_vnil, in_rdr, usedOf_cons, usedOf_nil, strs_in, ints_in, nodes_in, hvi]; done)))); done))
  · obtain rfl : i = l.length := by omega
    rw [List.take_length] at hE
    (repeat (first | with_reducible refine AW.seq ?_ | ((first | refine arun_kn 4 rfl (fun C hC => ?_) | refine arunD_kn 4 rfl (fun C hC => ?_)); (repeat ((conv => whnf); simp)); refine hC _ ?_; clear hC C; simp only [List.drop, Nat.reduceAdd]) | ((first | refine arun_kn 1 rfl (fun C hC => ?_) | refine arunD_kn 1 rfl (fun C hC => ?_)); (repeat ((conv => whnf); simp)); refine hC _ ?_; clear hC C; simp only [List.drop, Nat.reduceAdd]) | (refine arun_skip ?_ ?_; (focus (simp [awant]; done))) | (refine arunD_skip ?_ ?_; (focus (simp [awant]; done))) | (refine AW.condT ?_ ?_; (focus (simp [aev]; done))) | (refine AW.condF ?_ ?_; (focus (simp [aev]; done))) | with_reducible refine AW.block ?_ | ((first | ((first | refine arun_nil ?_ | refine arunD_nil ?_); refine hK _ ?_; clear hK K) | refine AW.skip ?_ | refine AW.exit ?_ | refine AW.ret ?_); simp only [thenA_exit, inBlockA_exit, if_true, if_false, Nat.reduceEqDiff, thenA_normal, inBlockA_normal, reduceIte, thenA_ret, inBlockA_ret, endQ_ret, endR_ret, endG_ret, endQ_normal, endR_normal, endG_normal])))
    refine AW.regionK [] (fun K hK => ?_)
    (repeat (first | with_reducible refine AW.seq ?_ | ((first | refine arun_kn 4 rfl (fun C hC => ?_) | refine arunD_kn 4 rfl (fun C hC => ?_)); (repeat ((conv => whnf); simp [hcl])); refine hC _ ?_; clear hC C; simp only [List.drop, Nat.reduceAdd]) | ((first | refine arun_kn 1 rfl (fun C hC => ?_) | refine arunD_kn 1 rfl (fun C hC => ?_)); (repeat ((conv => whnf); simp [hcl])); refine hC _ ?_; clear hC C; simp only [List.drop, Nat.reduceAdd]) | (refine arun_skip ?_ ?_; (focus (simp [awant, hcl]; done))) | (refine arunD_skip ?_ ?_; (focus (simp [awant, hcl]; done))) | (refine AW.condT ?_ ?_; (focus (simp [aev, hcl]; done))) | (refine AW.condF ?_ ?_; (focus (simp [aev, hcl]; done))) | with_reducible refine AW.block ?_ | ((first | ((first | refine arun_nil ?_ | refine arunD_nil ?_); refine hK _ ?_; clear hK K) | refine AW.skip ?_ | refine AW.exit ?_ | refine AW.ret ?_); simp only [thenA_exit, inBlockA_exit, if_true, if_false, Nat.reduceEqDiff, thenA_normal, inBlockA_normal, reduceIte, thenA_ret, inBlockA_ret, endQ_ret, endR_ret, endG_ret, endQ_normal, endR_normal, endG_normal])))
    refine AW.hold 50 ?_
    simp only [ASt.hold]
    (repeat (first | with_reducible refine AW.seq ?_ | ((first | refine arun_kn 4 rfl (fun C hC => ?_) | refine arunD_kn 4 rfl (fun C hC => ?_)); (repeat ((conv => whnf); simp [hml, hsub, AV.subL, AV.sub, Row.sub, upd, opsE_sub])); refine hC _ ?_; clear hC C; simp only [List.drop, Nat.reduceAdd]) | ((first | refine arun_kn 1 rfl (fun C hC => ?_) | refine arunD_kn 1 rfl (fun C hC => ?_)); (repeat ((conv => whnf); simp [hml, hsub, AV.subL, AV.sub, Row.sub, upd, opsE_sub])); refine hC _ ?_; clear hC C; simp only [List.drop, Nat.reduceAdd]) | (refine arun_skip ?_ ?_; (focus (simp [awant, hml, hsub, AV.subL, AV.sub, Row.sub, upd, opsE_sub]; done))) | (refine arunD_skip ?_ ?_; (focus (simp [awant, hml, hsub, AV.subL, AV.sub, Row.sub, upd, opsE_sub]; done))) | (refine AW.regionK [] (fun K hK => ?_)) | (refine AW.regionDK [] (pcs [] []) (by kernel_rfl) (by kernel_rfl) (fun K hK => ?_)) | (refine AW.condT ?_ ?_; (focus (simp [aev, hml, hsub, AV.subL, AV.sub, Row.sub, upd, opsE_sub]; done))) | (refine AW.condF ?_ ?_; (focus (simp [aev, hml, hsub, AV.subL, AV.sub, Row.sub, upd, opsE_sub]; done))) | with_reducible refine AW.block ?_ | ((first | ((first | refine arun_nil ?_ | refine arunD_nil ?_); refine hK _ ?_; clear hK K) | refine AW.skip ?_ | refine AW.exit ?_ | refine AW.ret ?_); simp only [thenA_exit, inBlockA_exit, if_true, if_false, Nat.reduceEqDiff, thenA_normal, inBlockA_normal, reduceIte, thenA_ret, inBlockA_ret, endQ_ret, endR_ret, endG_ret, endQ_normal, endR_normal, endG_normal])))
    refine ⟨.view .loose 8 E, by simp [ares, aresL], pur_view (by decide) (fun e he c hc => (und_cell st l e (by rw [← hE]; exact he) c hc).1), _, Wk.view (by decide) (by rw [hE]; exact und_wk st l), rfl⟩
end Go.Proofs.YtmmaanbppheabaaDoor.Eng
-- EV: skip
namespace Go.Proofs.YtmmaanbppheabaaDoor.Eng
open Go Go.RowKit
attribute [local simp] big size_mk ASt.pay Option.map_map Function.comp_def awant aop acall ado aev ofVal ofVal0 ASt.put ASt.add ASt.turn ASt.kill abox aalloc astore aload aloadD astoreD idOf ASt.at cellsTo afieldAddr afield aindexAddr aindex alen abin aint acmp astr aun apick aextract anil aslice abound abuild afill abuildSlice asCells aps avCells over upd aappend asrc amax amin aconv mkSt slots rowsOf_cons rowsOf_nil usedOf_cons usedOf_nil ZK.av List.replicate ASt.back ASt.addL ASt.killL nodeA nodeT nodeTL_eq nodeL_eq strsE_get strsE_len intsE_get intsE_len strsE_at intsE_at tab2 tab3 tab4 tab5 tab6 tab7 tab8 tab9 tab10 tab11 tab12 tab13 tab14 tab15 tab16 tab17 tab18 tab19 tab21 tab22 tab23 tab24 tab25 tab26 tab27 tab31 tab32 tab33 tab35 tab36 tab41 tab58 tab67 tab69 tab70 tab81 tab82 tab85 tab86 tab92 tab93 tab95 tab105 tab111 tab117 tab124 tab125 tab130 tab131 tab133 tab134 tab135
theorem zero_sml : Sml Nd.zero := sml_leaf 0 0 ⟨#[]⟩
end Go.Proofs.YtmmaanbppheabaaDoor.Eng
-- EV: skip
namespace Go.Proofs.YtmmaanbppheabaaDoor.Eng
open Go Go.RowKit
attribute [local simp] big size_mk ASt.pay Option.map_map Function.comp_def awant aop acall ado aev ofVal ofVal0 ASt.put ASt.add ASt.turn ASt.kill abox aalloc astore aload aloadD astoreD idOf ASt.at cellsTo afieldAddr afield aindexAddr aindex alen abin aint acmp astr aun apick aextract anil aslice abound abuild afill abuildSlice asCells aps avCells over upd aappend asrc amax amin aconv mkSt slots rowsOf_cons rowsOf_nil usedOf_cons usedOf_nil ZK.av List.replicate ASt.back ASt.addL ASt.killL nodeA nodeT nodeTL_eq nodeL_eq strsE_get strsE_len intsE_get intsE_len strsE_at intsE_at tab2 tab3 tab4 tab5 tab6 tab7 tab8 tab9 tab10 tab11 tab12 tab13 tab14 tab15 tab16 tab17 tab18 tab19 tab21 tab22 tab23 tab24 tab25 tab26 tab27 tab31 tab32 tab33 tab35 tab36 tab41 tab58 tab67 tab69 tab70 tab81 tab82 tab85 tab86 tab92 tab93 tab95 tab105 tab111 tab117 tab124 tab125 tab130 tab131 tab133 tab134 tab135
def rOps (D d : Nat) (r : AV) : Prop := ∃ l : List Opr, l.length = D ∧ (∀ o ∈ l, o.2.1.length ≤ d) ∧ r = .view .loose 8 (opsE l)
theorem rOps_ex (D d : Nat) : ∃ r, rOps D d r ∧ NoId r := ⟨_, ⟨List.replicate D (0, [], [], Nd.zero), by simp, fun o ho => by rw [List.eq_of_mem_replicate ho]; simp, rfl⟩, ops_in _⟩
def DifC (d : Nat) (a b : Nd) : Prop := AC Tryd.prog 47 [nodeA a, nodeA b] 0 (rOps (difD d a b) d)
theorem opE_len (o : Opr) : (opE o).length = 8 := rfl
theorem opE_in {U : Nat → Bool} (o : Opr) : AV.In U (.agg (opE o)) := in_agg.2 (fun c hc => (opE_cell o c hc).2.1.mono (fun _ h => by cases h))
theorem node0_clo : Clo (.agg [.int .i64 0, .int .i64 0, .str ⟨#[]⟩, .view .tight 0 [], .view .tight 0 []]) := (pur_agg (by
  have h0 : Pur (.view .tight 0 []) := pur_view (by decide) (fun e he => by cases he)
  simp only [List.forall_mem_cons, List.not_mem_nil, false_implies, implies_true, and_true]
  exact ⟨pur_int, pur_int, pur_str, h0, h0⟩)).clo
theorem one_clo (st : ByteArray) : Clo (.view .tight 1 [[.str st]]) := (strs_pur [st] (t := .tight) (by decide)).clo
theorem opz_AC (kd : Int) (st : ByteArray) : AC Tryd.prog 71 [.int .i64 kd, .view .tight 1 [[.str st]], .agg [.int .i64 0, .int .i64 0, .str ⟨#[]⟩, .view .tight 0 [], .view .tight 0 []]] 0 (fun r => r = .agg (opE (kd, [st], [], Nd.zero))) :=
  (op_AC .tight (by decide) kd [st] Nd.zero zero_sml).arg (.cons (Wk.refl _) (.cons (Wk.refl _) (.cons zero_wk .nil)))
theorem und_path {st : ByteArray} {l : List Opr} {d : Nat} (h : ∀ o ∈ l, o.2.1.length ≤ d) : ∀ o ∈ l.map (undO st), o.2.1.length ≤ d + 1 := fun o ho => by
  obtain ⟨x, hx, rfl⟩ := List.mem_map.1 ho
  have := h x hx
  show (st :: x.2.1).length ≤ d + 1
  rw [List.length_cons]; omega
theorem path_app {l m : List Opr} {d : Nat} (h : ∀ o ∈ l, o.2.1.length ≤ d) (k : ∀ o ∈ m, o.2.1.length ≤ d) : ∀ o ∈ l ++ m, o.2.1.length ≤ d := fun o ho => (List.mem_append.1 ho).elim (h o) (k o)
theorem path_one {kd : Int} {st : ByteArray} {v : Nd} {d : Nat} : ∀ o ∈ [((kd, [st], [], v) : Opr)], o.2.1.length ≤ d + 1 := fun o ho => by rw [List.mem_singleton.1 ho]; simp
set_option maxRecDepth 100000
set_option maxHeartbeats 16000000
theorem diffMaps_AC (d : Nat) (a b : Nd) (hd : d ≤ 800) (ha : Shp a) (hb : Shp b) (ka : a.count ≤ 40) (kb : b.count ≤ 40) (h4a : a.kind = 4) (h4b : b.kind = 4) (ih : ∀ x ∈ a.kids, ∀ y ∈ b.kids, DifC d x y)
    (hle : sumN (difA (difD d) a b) a.kids.length + sumN (difB a b) b.kids.length ≤ 10000000000) :
    AC Tryd.prog 69 [nodeA a, nodeA b] 0 (rOps (sumN (difA (difD d) a b) a.kids.length + sumN (difB a b) b.kids.length) (d + 1)) := by
  have asca := ha.asc h4a
  have lena := (ha.map h4a).2
  have ascb := hb.asc h4b
  have lenb := (hb.map h4b).2
  have kla := kids_lt a
  have klb := kids_lt b
  have hpa := fun st => place_ok .loose a st ha.plc
  have hpb := fun st => place_ok .loose b st hb.plc
  simp only [place_map ha h4a, place_map hb h4b, nodeT_loose] at hpa hpb
  have hsm : ∀ y ∈ b.kids, Sml y := fun y hy => (hb.kid hy).sml
  have hca := node_clo a
  have hcb := node_clo b
  have hz := node0_clo
  clear h4a h4b
  unfold nodeA at hpa hpb hca hcb ⊢
  rw [nodeL_eq a] at hpa hca ⊢
  rw [nodeL_eq b] at hpb hcb ⊢
  refine AC.of tab_ok mixed_ok Tryd.func69 (by rfl) (by kernel_rfl) ?_; rintro ⟨P, T, hT, hm, w0, S0, rd0, k0⟩ hP hTT; dsimp only at hP hTT; subst hP hTT; unfold initSt; rw [Tryd.ntmps69]
  (repeat (first | with_reducible refine AW.seq ?_ | ((first | refine arun_kn 4 rfl (fun C hC => ?_) | refine arunD_kn 4 rfl (fun C hC => ?_)); (repeat ((conv => whnf); simp)); refine hC _ ?_; clear hC C; simp only [List.drop, Nat.reduceAdd]) | ((first | refine arun_kn 1 rfl (fun C hC => ?_) | refine arunD_kn 1 rfl (fun C hC => ?_)); (repeat ((conv => whnf); simp)); refine hC _ ?_; clear hC C; simp only [List.drop, Nat.reduceAdd]) | (refine arun_skip ?_ ?_; (focus (simp [awant]; done))) | (refine arunD_skip ?_ ?_; (focus (simp [awant]; done))) | (refine AW.regionK [] (fun K hK => ?_)) | (refine AW.regionDK [] (pcs [] []) (by kernel_rfl) (by kernel_rfl) (fun K hK => ?_)) | (refine AW.condT ?_ ?_; (focus (simp [aev]; done))) | (refine AW.condF ?_ ?_; (focus (simp [aev]; done))) | with_reducible refine AW.block ?_ | ((first | ((first | refine arun_nil ?_ | refine arunD_nil ?_); refine hK _ ?_; clear hK K) | refine AW.skip ?_ | refine AW.exit ?_ | refine AW.ret ?_); simp only [thenA_exit, inBlockA_exit, if_true, if_false, Nat.reduceEqDiff, thenA_normal, inBlockA_normal, reduceIte, thenA_ret, inBlockA_ret, endQ_ret, endR_ret, endG_ret, endQ_normal, endR_normal, endG_normal])))
  refine AW.adopt 5 50 93 8 ⟨_, tab93, rfl⟩ rfl (by simp [upd]) ?_
  simp only [ASt.adopt, ASt.add]
  refine AW.loopS (fun (x : Nat × List Opr) => mkSt (slots 0 87 [(2, .ptr true 5 1 2 0 0), (3, .ptr true 5 1 3 0 0), (5, .own 50 x.2.length), (6, .int .i64 x.1)]) [(2, ⟨true, 33, 5, [nodeL a]⟩), (3, ⟨true, 33, 5, [nodeL b]⟩), (50, ⟨false, 93, 8, opsE x.2⟩)] [2, 3, 50] (rd0.map fun _ => 0)) (fun x => a.kids.length - x.1) (fun x => x.1 ≤ a.kids.length ∧ (∀ o ∈ x.2, o.2.1.length ≤ d + 1) ∧ x.2.length = sumN (difA (difD d) a b) x.1) (0, []) ?_ ⟨Nat.zero_le _, (fun o ho => by cases ho), rfl⟩ ?_
  · dsimp only
    rw [nodeL_eq a, nodeL_eq b]
    exact (less_of (by simp [lessL, mkSt, slots, opsE]) (by simp [upd, mkSt, rowsOf_cons, opsE]) (by simp [upd, mkSt, usedOf_cons, opsE]) (by first | exact rd_less (by omega) | simp [mkSt, opsE]) (by simp [slots, in_any, in_int, in_bool, in_str, in_ptr, in_own, in_agg, in_vnil, in_rdr, usedOf_cons, usedOf_nil, strs_in, ints_in, nodes_in, in_tup, opsE]) (by simp only [List.forall_mem_cons, List.not_mem_nil, false_implies, implies_true, and_true, true_and, opsE]; (repeat (first | with_reducible exact trivial | with_reducible refine And.intro ?_ ?_ | with_reducible exact in_int | with_reducible exact in_str | with_reducible exact in_bool | with_reducible exact strs_in _ | with_reducible exact nodes_in _ | with_reducible exact items_in _ | with_reducible exact in_vnil | with_reducible exact in_any | exact hin _ | with_reducible refine take_in ?_ | with_reducible exact strsE_in _ | with_reducible exact nodesE_in _ | with_reducible exact nodeL_in _ | with_reducible exact itemsE_in _ | with_reducible exact itemL_in _ | with_reducible refine app_in ?_ ?_ | with_reducible refine sing_in ?_ | (focus (simp [in_any, in_int, in_bool, in_str, in_ptr, in_own, in_agg, in_vnil, in_rdr, usedOf_cons, usedOf_nil, strs_in, ints_in, nodes_in, opsE]; done)))); done))
  rintro ⟨i, L⟩ ⟨hi, hL, hLl⟩
  dsimp only at hi hL hLl ⊢
  rw [nodeL_eq a, nodeL_eq b]
  have eLl := opsE_len L
  by_cases hlt : i < a.kids.length
  · have hn1 : i < a.names.length := by omega
    have hw : IntKind.i64.wrap ((i : Int) + 1) = (i : Int) + 1 := i64_nat (by omega) (by omega)
    have hst := sumN_step (difA (difD d) a b) hlt
    have pb := hpb a.names[i]
    have hcx := node_clo a.kids[i]
    unfold nodeA at hcx
    rw [nodeL_eq] at hcx
    cases hm2 : mem b.names a.names[i] with
    | true =>
      have hj0 : lbound b.names a.names[i] < b.names.length := by
        obtain ⟨q, hq, he⟩ := List.getElem_of_mem (mem_iff.1 hm2)
        rw [← he, lb_at ascb hq]; exact hq
      rw [hm2, if_pos rfl] at pb
      have hfi : difA (difD d) a b i = difD d (kidAt a i) (kidAt b (lbound b.names a.names[i])) := by unfold difA; rw [nmAt_eq hn1, hm2, if_pos rfl]
      generalize lbound b.names a.names[i] = j at *
      have hk2 : j < b.kids.length := by omega
      rw [kidAt_eq hlt, kidAt_eq hk2] at hfi
      have hcy := node_clo b.kids[j]
      have hih := ih a.kids[i] (List.getElem_mem hlt) b.kids[j] (List.getElem_mem hk2)
      unfold DifC at hih
      rw [← hfi] at hih
      unfold nodeA at hih hcy
      rw [nodeL_eq a.kids[i], nodeL_eq b.kids[j]] at hih
      rw [nodeL_eq] at hcy
      have hj1 : ¬ (j : Int) < 0 := by omega
      (repeat (first | with_reducible refine AW.seq ?_ | ((first | refine arun_kn 4 rfl (fun C hC => ?_) | refine arunD_kn 4 rfl (fun C hC => ?_)); (repeat ((conv => whnf); simp [hlt, hn1, strsE_len])); refine hC _ ?_; clear hC C; simp only [List.drop, Nat.reduceAdd]) | ((first | refine arun_kn 1 rfl (fun C hC => ?_) | refine arunD_kn 1 rfl (fun C hC => ?_)); (repeat ((conv => whnf); simp [hlt, hn1, strsE_len])); refine hC _ ?_; clear hC C; simp only [List.drop, Nat.reduceAdd]) | (refine arun_skip ?_ ?_; (focus (simp [awant, hlt, hn1, strsE_len]; done))) | (refine arunD_skip ?_ ?_; (focus (simp [awant, hlt, hn1, strsE_len]; done))) | (refine AW.regionK [] (fun K hK => ?_)) | (refine AW.condT ?_ ?_; (focus (simp [aev, hlt, hn1, strsE_len]; done))) | (refine AW.condF ?_ ?_; (focus (simp [aev, hlt, hn1, strsE_len]; done))) | with_reducible refine AW.block ?_ | ((first | ((first | refine arun_nil ?_ | refine arunD_nil ?_); refine hK _ ?_; clear hK K) | refine AW.skip ?_ | refine AW.exit ?_ | refine AW.ret ?_); simp only [thenA_exit, inBlockA_exit, if_true, if_false, Nat.reduceEqDiff, thenA_normal, inBlockA_normal, reduceIte, thenA_ret, inBlockA_ret, endQ_ret, endR_ret, endG_ret, endQ_normal, endR_normal, endG_normal])))
      refine AW.regionDK [] (pcs [(6, 0, fun r => r = .int .i64 (j : Int))] []) (by kernel_rfl) (by kernel_rfl) (fun K hK => ?_)
      (repeat (first | with_reducible refine AW.seq ?_ | ((first | refine arun_kn 4 rfl (fun C hC => ?_) | refine arunD_kn 4 rfl (fun C hC => ?_)); (repeat ((conv => whnf); simp [hlt, hn1, hj1, strsE_len])); refine hC _ ?_; clear hC C; simp only [List.drop, Nat.reduceAdd]) | ((first | refine arun_kn 1 rfl (fun C hC => ?_) | refine arunD_kn 1 rfl (fun C hC => ?_)); (repeat ((conv => whnf); simp [hlt, hn1, hj1, strsE_len])); refine hC _ ?_; clear hC C; simp only [List.drop, Nat.reduceAdd]) | (refine arun_skip ?_ ?_; (focus (simp [awant, hlt, hn1, hj1, strsE_len]; done))) | (refine arun_c0 (pb) ?_; rintro _ rfl) | (refine arunD_skip ?_ ?_; (focus (simp [awant, hlt, hn1, hj1, strsE_len]; done))) | (refine arunD_cE (0) (pb) (by exact ⟨_, rfl, in_int⟩) ?_; rintro _ rfl; intro _) | (refine AW.regionK [] (fun K hK => ?_)) | (refine AW.condT ?_ ?_; (focus (simp [aev, hlt, hn1, hj1, strsE_len]; done))) | (refine AW.condF ?_ ?_; (focus (simp [aev, hlt, hn1, hj1, strsE_len]; done))) | with_reducible refine AW.block ?_ | ((first | ((first | refine arun_nil ?_ | refine arunD_nil ?_); refine hK _ ?_; clear hK K) | refine AW.skip ?_ | refine AW.exit ?_ | refine AW.ret ?_); simp only [thenA_exit, inBlockA_exit, if_true, if_false, Nat.reduceEqDiff, thenA_normal, inBlockA_normal, reduceIte, thenA_ret, inBlockA_ret, endQ_ret, endR_ret, endG_ret, endQ_normal, endR_normal, endG_normal])))
      generalize hD : difA (difD d) a b i = D at *
      refine AW.regionDK [] (pcs [(16, 0, rOps D d), (17, 0, rOps D (d + 1))] []) (by kernel_rfl) (by kernel_rfl) (fun K hK => ?_)
      (repeat (first | with_reducible refine AW.seq ?_ | ((first | refine arun_kn 4 rfl (fun C hC => ?_) | refine arunD_kn 4 rfl (fun C hC => ?_)); (repeat ((conv => whnf); simp [hlt, hn1, hk2, strsE_len])); refine hC _ ?_; clear hC C; simp only [List.drop, Nat.reduceAdd]) | ((first | refine arun_kn 1 rfl (fun C hC => ?_) | refine arunD_kn 1 rfl (fun C hC => ?_)); (repeat ((conv => whnf); simp [hlt, hn1, hk2, strsE_len])); refine hC _ ?_; clear hC C; simp only [List.drop, Nat.reduceAdd]) | (refine arun_skip ?_ ?_; (focus (simp [awant, hlt, hn1, hk2, strsE_len]; done))) | (refine arun_c0 (hih) ?_; (rintro _ ⟨l, hl, hlp, rfl⟩)) | (refine arunD_skip ?_ ?_; (focus (simp [awant, hlt, hn1, hk2, strsE_len]; done))) | (refine arunD_cE (0) (hih) (by exact rOps_ex _ _) ?_; (rintro _ ⟨l, hl, hlp, rfl⟩); intro _) | (refine AW.regionK [] (fun K hK => ?_)) | (refine AW.regionDK [] (pcs [] []) (by kernel_rfl) (by kernel_rfl) (fun K hK => ?_)) | (refine AW.condT ?_ ?_; (focus (simp [aev, hlt, hn1, hk2, strsE_len]; done))) | (refine AW.condF ?_ ?_; (focus (simp [aev, hlt, hn1, hk2, strsE_len]; done))) | with_reducible refine AW.block ?_ | ((first | ((first | refine arun_nil ?_ | refine arunD_nil ?_); refine hK _ ?_; clear hK K) | refine AW.skip ?_ | refine AW.exit ?_ | refine AW.ret ?_); simp only [thenA_exit, inBlockA_exit, if_true, if_false, Nat.reduceEqDiff, thenA_normal, inBlockA_normal, reduceIte, thenA_ret, inBlockA_ret, endQ_ret, endR_ret, endG_ret, endQ_normal, endR_normal, endG_normal])))
      have b1 : (L.length + l.length) * 136 ≤ 140737488355328 := by omega
      have b2 : L.length + l.length ≤ 140737488355328 := by omega
      have eu : (opsE (l.map (undO a.names[i]))).length = l.length := by rw [opsE_len, List.length_map]
      have hcu := ops_clo l
      have pu := (under_AC a.names[i] l (by omega) (fun o ho => by have := hlp o ho; omega)).mono (R := rOps D (d + 1)) (fun r h => ⟨l.map (undO a.names[i]), by rw [List.length_map]; exact hl, und_path hlp, h⟩)
      clear hih
      (repeat (first | with_reducible refine AW.seq ?_ | ((first | refine arun_kn 4 rfl (fun C hC => ?_) | refine arunD_kn 4 rfl (fun C hC => ?_)); (repeat ((conv => whnf); simp [hlt, hn1, hk2, strsE_len, eLl, b1, b2])); refine hC _ ?_; clear hC C; simp only [List.drop, Nat.reduceAdd]) | ((first | refine arun_kn 1 rfl (fun C hC => ?_) | refine arunD_kn 1 rfl (fun C hC => ?_)); (repeat ((conv => whnf); simp [hlt, hn1, hk2, strsE_len, eLl, b1, b2])); refine hC _ ?_; clear hC C; simp only [List.drop, Nat.reduceAdd]) | (refine arun_skip ?_ ?_; (focus (simp [awant, hlt, hn1, hk2, strsE_len, eLl, b1, b2]; done))) | (refine arun_c0 (pu) ?_; (rintro _ ⟨m, hm3, hmp, rfl⟩)) | (refine arunD_skip ?_ ?_; (focus (simp [awant, hlt, hn1, hk2, strsE_len, eLl, b1, b2]; done))) | (refine arunD_cE (0) (pu) (by exact rOps_ex _ _) ?_; (rintro _ ⟨m, hm3, hmp, rfl⟩); intro _) | (refine AW.regionK [] (fun K hK => ?_)) | (refine AW.regionDK [] (pcs [] []) (by kernel_rfl) (by kernel_rfl) (fun K hK => ?_)) | (refine AW.condT ?_ ?_; (focus (simp [aev, hlt, hn1, hk2, strsE_len, eLl, b1, b2]; done))) | (refine AW.condF ?_ ?_; (focus (simp [aev, hlt, hn1, hk2, strsE_len, eLl, b1, b2]; done))) | with_reducible refine AW.block ?_ | ((first | ((first | refine arun_nil ?_ | refine arunD_nil ?_); refine hK _ ?_; clear hK K) | refine AW.skip ?_ | refine AW.exit ?_ | refine AW.ret ?_); simp only [thenA_exit, inBlockA_exit, if_true, if_false, Nat.reduceEqDiff, thenA_normal, inBlockA_normal, reduceIte, thenA_ret, inBlockA_ret, endQ_ret, endR_ret, endG_ret, endQ_normal, endR_normal, endG_normal])))
      have eLm := opsE_len m
      have b3 : (L.length + m.length) * 136 ≤ 140737488355328 := by omega
      have b4 : L.length + m.length ≤ 140737488355328 := by omega
      (repeat (first | with_reducible refine AW.seq ?_ | ((first | refine arun_kn 4 rfl (fun C hC => ?_) | refine arunD_kn 4 rfl (fun C hC => ?_)); (repeat ((conv => whnf); simp [hlt, hn1, hk2, strsE_len, eLl, eLm, b3, b4, hw])); refine hC _ ?_; clear hC C; simp only [List.drop, Nat.reduceAdd]) | ((first | refine arun_kn 1 rfl (fun C hC => ?_) | refine arunD_kn 1 rfl (fun C hC => ?_)); (repeat ((conv => whnf); simp [hlt, hn1, hk2, strsE_len, eLl, eLm, b3, b4, hw])); refine hC _ ?_; clear hC C; simp only [List.drop, Nat.reduceAdd]) | (refine arun_skip ?_ ?_; (focus (simp [awant, hlt, hn1, hk2, strsE_len, eLl, eLm, b3, b4, hw]; done))) | (refine arunD_skip ?_ ?_; (focus (simp [awant, hlt, hn1, hk2, strsE_len, eLl, eLm, b3, b4, hw]; done))) | (refine AW.regionK [] (fun K hK => ?_)) | (refine AW.regionDK [] (pcs [] []) (by kernel_rfl) (by kernel_rfl) (fun K hK => ?_)) | (refine AW.condT ?_ ?_; (focus (simp [aev, hlt, hn1, hk2, strsE_len, eLl, eLm, b3, b4, hw]; done))) | (refine AW.condF ?_ ?_; (focus (simp [aev, hlt, hn1, hk2, strsE_len, eLl, eLm, b3, b4, hw]; done))) | with_reducible refine AW.block ?_ | ((first | ((first | refine arun_nil ?_ | refine arunD_nil ?_); refine hK _ ?_; clear hK K) | refine AW.skip ?_ | refine AW.exit ?_ | refine AW.ret ?_); simp only [thenA_exit, inBlockA_exit, if_true, if_false, Nat.reduceEqDiff, thenA_normal, inBlockA_normal, reduceIte, thenA_ret, inBlockA_ret, endQ_ret, endR_ret, endG_ret, endQ_normal, endR_normal, endG_normal])))
      refine ⟨(i + 1, L ++ m), by dsimp only; omega, ⟨by dsimp only; omega, path_app hL hmp, by dsimp only; rw [List.length_append, sumN_succ, hLl, hD, hm3]⟩, ?_⟩
      dsimp only
      rw [← opsE_app]
      have hin : ∀ U : Nat → Bool, ∀ e ∈ opsE L ++ opsE m, ∀ c ∈ e, AV.In U c := fun U => by rw [opsE_app]; exact opsE_in _
      exact (less_of (by simp [lessL, mkSt, slots, List.length_append]) (by simp [upd, mkSt, rowsOf_cons, List.length_append]) (by simp [upd, mkSt, usedOf_cons, List.length_append]) (by first | exact rd_less (by omega) | simp [mkSt, List.length_append]) (by simp [slots, in_any, in_int, in_bool, in_str, in_ptr, in_own, in_agg, in_vnil, in_rdr, usedOf_cons, usedOf_nil, strs_in, ints_in, nodes_in, in_tup, List.length_append]) (by simp only [List.forall_mem_cons, List.not_mem_nil, false_implies, implies_true, and_true, true_and, List.length_append]; (repeat (first | with_reducible exact trivial | with_reducible refine And.intro ?_ ?_ | with_reducible exact in_int | with_reducible exact in_str | with_reducible exact in_bool | with_reducible exact strs_in _ | with_reducible exact nodes_in _ | with_reducible exact items_in _ | with_reducible exact in_vnil | with_reducible exact in_any | exact hin _ | with_reducible refine take_in ?_ | with_reducible exact strsE_in _ | with_reducible exact nodesE_in _ | with_reducible exact nodeL_in _ | with_reducible exact itemsE_in _ | with_reducible exact itemL_in _ | with_reducible refine app_in ?_ ?_ | with_reducible refine sing_in ?_ | (focus (simp [in_any, in_int, in_bool, in_str, in_ptr, in_own, in_agg, in_vnil, in_rdr, usedOf_cons, usedOf_nil, strs_in, ints_in, nodes_in, List.length_append]; done)))); done))
    | false =>
      rw [hm2] at pb
      have pb' : AC Tryd.prog 67 [.agg [.int .i64 b.kind, .int .i64 b.num, .str b.text, .view .loose 1 (strsE b.names), .view .loose 5 (b.kids.map nodeL)], .str a.names[i]] 0 (fun r => r = .int .i64 (-1)) := pb
      have hfi : difA (difD d) a b i = 1 := by unfold difA; rw [nmAt_eq hn1, hm2]; rfl
      have po := opz_AC 2 a.names[i]
      have ho := one_clo a.names[i]
      have b3 : (L.length + 1) * 136 ≤ 140737488355328 := by omega
      have b4 : L.length + 1 ≤ 140737488355328 := by omega
      have ol := opE_len (2, [a.names[i]], [], Nd.zero)
      (repeat (first | with_reducible refine AW.seq ?_ | ((first | refine arun_kn 4 rfl (fun C hC => ?_) | refine arunD_kn 4 rfl (fun C hC => ?_)); (repeat ((conv => whnf); simp [hlt, hn1, strsE_len])); refine hC _ ?_; clear hC C; simp only [List.drop, Nat.reduceAdd]) | ((first | refine arun_kn 1 rfl (fun C hC => ?_) | refine arunD_kn 1 rfl (fun C hC => ?_)); (repeat ((conv => whnf); simp [hlt, hn1, strsE_len])); refine hC _ ?_; clear hC C; simp only [List.drop, Nat.reduceAdd]) | (refine arun_skip ?_ ?_; (focus (simp [awant, hlt, hn1, strsE_len]; done))) | (refine arunD_skip ?_ ?_; (focus (simp [awant, hlt, hn1, strsE_len]; done))) | (refine AW.regionK [] (fun K hK => ?_)) | (refine AW.condT ?_ ?_; (focus (simp [aev, hlt, hn1, strsE_len]; done))) | (refine AW.condF ?_ ?_; (focus (simp [aev, hlt, hn1, strsE_len]; done))) | with_reducible refine AW.block ?_ | ((first | ((first | refine arun_nil ?_ | refine arunD_nil ?_); refine hK _ ?_; clear hK K) | refine AW.skip ?_ | refine AW.exit ?_ | refine AW.ret ?_); simp only [thenA_exit, inBlockA_exit, if_true, if_false, Nat.reduceEqDiff, thenA_normal, inBlockA_normal, reduceIte, thenA_ret, inBlockA_ret, endQ_ret, endR_ret, endG_ret, endQ_normal, endR_normal, endG_normal])))
      refine AW.regionDK [] (pcs [(6, 0, fun r => r = .int .i64 (-1))] []) (by kernel_rfl) (by kernel_rfl) (fun K hK => ?_)
      (repeat (first | with_reducible refine AW.seq ?_ | ((first | refine arun_kn 4 rfl (fun C hC => ?_) | refine arunD_kn 4 rfl (fun C hC => ?_)); (repeat ((conv => whnf); simp [hlt, hn1, strsE_len, eLl, b3, b4, hw, ol])); refine hC _ ?_; clear hC C; simp only [List.drop, Nat.reduceAdd]) | ((first | refine arun_kn 1 rfl (fun C hC => ?_) | refine arunD_kn 1 rfl (fun C hC => ?_)); (repeat ((conv => whnf); simp [hlt, hn1, strsE_len, eLl, b3, b4, hw, ol])); refine hC _ ?_; clear hC C; simp only [List.drop, Nat.reduceAdd]) | (refine arun_skip ?_ ?_; (focus (simp [awant, hlt, hn1, strsE_len, eLl, b3, b4, hw, ol]; done))) | (refine arun_c0 (pb') ?_; rintro _ rfl) | (refine arun_c0 (po) ?_; rintro _ rfl) | (refine arunD_skip ?_ ?_; (focus (simp [awant, hlt, hn1, strsE_len, eLl, b3, b4, hw, ol]; done))) | (refine arunD_cE (0) (pb') (by exact ⟨_, rfl, in_int⟩) ?_; rintro _ rfl; intro _) | (refine AW.regionK [] (fun K hK => ?_)) | (refine AW.condT ?_ ?_; (focus (simp [aev, hlt, hn1, strsE_len, eLl, b3, b4, hw, ol]; done))) | (refine AW.condF ?_ ?_; (focus (simp [aev, hlt, hn1, strsE_len, eLl, b3, b4, hw, ol]; done))) | with_reducible refine AW.block ?_ | ((first | ((first | refine arun_nil ?_ | refine arunD_nil ?_); refine hK _ ?_; clear hK K) | refine AW.skip ?_ | refine AW.exit ?_ | refine AW.ret ?_); simp only [thenA_exit, inBlockA_exit, if_true, if_false, Nat.reduceEqDiff, thenA_normal, inBlockA_normal, reduceIte, thenA_ret, inBlockA_ret, endQ_ret, endR_ret, endG_ret, endQ_normal, endR_normal, endG_normal])))
      refine ⟨(i + 1, L ++ [(2, [a.names[i]], [], Nd.zero)]), by dsimp only; omega, ⟨by dsimp only; omega, path_app hL path_one, by dsimp only; rw [List.length_append, sumN_succ, hLl, hfi]; rfl⟩, ?_⟩
      dsimp only
      rw [← opsE_snoc]
      have hin : ∀ U : Nat → Bool, ∀ e ∈ opsE L ++ [opE (2, [a.names[i]], [], Nd.zero)], ∀ c ∈ e, AV.In U c := fun U => by rw [opsE_snoc]; exact opsE_in _
      exact (less_of (by simp [lessL, mkSt, slots, List.length_append]) (by simp [upd, mkSt, rowsOf_cons, List.length_append]) (by simp [upd, mkSt, usedOf_cons, List.length_append]) (by first | exact rd_less (by omega) | simp [mkSt, List.length_append]) (by simp [slots, in_any, in_int, in_bool, in_str, in_ptr, in_own, in_agg, in_vnil, in_rdr, usedOf_cons, usedOf_nil, strs_in, ints_in, nodes_in, in_tup, List.length_append]) (by simp only [List.forall_mem_cons, List.not_mem_nil, false_implies, implies_true, and_true, true_and, List.length_append]; (repeat (first | with_reducible exact trivial | with_reducible refine And.intro ?_ ?_ | with_reducible exact in_int | with_reducible exact in_str | with_reducible exact in_bool | with_reducible exact strs_in _ | with_reducible exact nodes_in _ | with_reducible exact items_in _ | with_reducible exact in_vnil | with_reducible exact in_any | exact hin _ | with_reducible refine take_in ?_ | with_reducible exact strsE_in _ | with_reducible exact nodesE_in _ | with_reducible exact nodeL_in _ | with_reducible exact itemsE_in _ | with_reducible exact itemL_in _ | with_reducible refine app_in ?_ ?_ | with_reducible refine sing_in ?_ | (focus (simp [in_any, in_int, in_bool, in_str, in_ptr, in_own, in_agg, in_vnil, in_rdr, usedOf_cons, usedOf_nil, strs_in, ints_in, nodes_in, List.length_append]; done)))); done))
  · obtain rfl : i = a.kids.length := by omega
    generalize sumN (difA (difD d) a b) a.kids.length = N1 at *
    (repeat (first | with_reducible refine AW.seq ?_ | ((first | refine arun_kn 4 rfl (fun C hC => ?_) | refine arunD_kn 4 rfl (fun C hC => ?_)); (repeat ((conv => whnf); simp)); refine hC _ ?_; clear hC C; simp only [List.drop, Nat.reduceAdd]) | ((first | refine arun_kn 1 rfl (fun C hC => ?_) | refine arunD_kn 1 rfl (fun C hC => ?_)); (repeat ((conv => whnf); simp)); refine hC _ ?_; clear hC C; simp only [List.drop, Nat.reduceAdd]) | (refine arun_skip ?_ ?_; (focus (simp [awant]; done))) | (refine arunD_skip ?_ ?_; (focus (simp [awant]; done))) | (refine AW.regionK [] (fun K hK => ?_)) | (refine AW.regionDK [] (pcs [] []) (by kernel_rfl) (by kernel_rfl) (fun K hK => ?_)) | (refine AW.condT ?_ ?_; (focus (simp [aev]; done))) | (refine AW.condF ?_ ?_; (focus (simp [aev]; done))) | with_reducible refine AW.block ?_ | ((first | ((first | refine arun_nil ?_ | refine arunD_nil ?_); refine hK _ ?_; clear hK K) | refine AW.skip ?_ | refine AW.exit ?_ | refine AW.ret ?_); simp only [thenA_exit, inBlockA_exit, if_true, if_false, Nat.reduceEqDiff, thenA_normal, inBlockA_normal, reduceIte, thenA_ret, inBlockA_ret, endQ_ret, endR_ret, endG_ret, endQ_normal, endR_normal, endG_normal])))
    refine AW.loopS (fun (x : Nat × List Opr) => mkSt (slots 0 87 [(2, .ptr true 5 1 2 0 0), (3, .ptr true 5 1 3 0 0), (5, .own 50 x.2.length), (8, .int .i64 x.1)]) [(2, ⟨true, 33, 5, [nodeL a]⟩), (3, ⟨true, 33, 5, [nodeL b]⟩), (50, ⟨false, 93, 8, opsE x.2⟩)] [2, 3, 50] (rd0.map fun _ => 0)) (fun x => b.kids.length - x.1) (fun x => x.1 ≤ b.kids.length ∧ (∀ o ∈ x.2, o.2.1.length ≤ d + 1) ∧ x.2.length = N1 + sumN (difB a b) x.1) (0, L) ?_ ⟨Nat.zero_le _, hL, hLl⟩ ?_
    · dsimp only
      rw [nodeL_eq a, nodeL_eq b]
      have hin := fun U => opsE_in (U := U) L
      exact less_a
    clear hL hLl hi eLl
    rintro ⟨i, L⟩ ⟨hi, hL, hLl⟩
    dsimp only at hi hL hLl ⊢
    rw [nodeL_eq a, nodeL_eq b]
    have eLl := opsE_len L
    by_cases hlt : i < b.kids.length
    · have hn1 : i < b.names.length := by omega
      have hw : IntKind.i64.wrap ((i : Int) + 1) = (i : Int) + 1 := i64_nat (by omega) (by omega)
      have hst := sumN_step (difB a b) hlt
      have pa := hpa b.names[i]
      cases hm2 : mem a.names b.names[i] with
      | true =>
        rw [hm2, if_pos rfl] at pa
        have hfi : difB a b i = 0 := by unfold difB; rw [nmAt_eq hn1, hm2]; rfl
        generalize lbound a.names b.names[i] = j at *
        have hj1 : ¬ (j : Int) < 0 := by omega
        have hin := fun U => opsE_in (U := U) L
        (repeat (first | with_reducible refine AW.seq ?_ | ((first | refine arun_kn 4 rfl (fun C hC => ?_) | refine arunD_kn 4 rfl (fun C hC => ?_)); (repeat ((conv => whnf); simp [hlt, hn1, strsE_len])); refine hC _ ?_; clear hC C; simp only [List.drop, Nat.reduceAdd]) | ((first | refine arun_kn 1 rfl (fun C hC => ?_) | refine arunD_kn 1 rfl (fun C hC => ?_)); (repeat ((conv => whnf); simp [hlt, hn1, strsE_len])); refine hC _ ?_; clear hC C; simp only [List.drop, Nat.reduceAdd]) | (refine arun_skip ?_ ?_; (focus (simp [awant, hlt, hn1, strsE_len]; done))) | (refine arunD_skip ?_ ?_; (focus (simp [awant, hlt, hn1, strsE_len]; done))) | (refine AW.regionK [] (fun K hK => ?_)) | (refine AW.condT ?_ ?_; (focus (simp [aev, hlt, hn1, strsE_len]; done))) | (refine AW.condF ?_ ?_; (focus (simp [aev, hlt, hn1, strsE_len]; done))) | with_reducible refine AW.block ?_ | ((first | ((first | refine arun_nil ?_ | refine arunD_nil ?_); refine hK _ ?_; clear hK K) | refine AW.skip ?_ | refine AW.exit ?_ | refine AW.ret ?_); simp only [thenA_exit, inBlockA_exit, if_true, if_false, Nat.reduceEqDiff, thenA_normal, inBlockA_normal, reduceIte, thenA_ret, inBlockA_ret, endQ_ret, endR_ret, endG_ret, endQ_normal, endR_normal, endG_normal])))
        refine AW.regionDK [] (pcs [(6, 0, fun r => r = .int .i64 (j : Int))] []) (by kernel_rfl) (by kernel_rfl) (fun K hK => ?_)
        (repeat (first | with_reducible refine AW.seq ?_ | ((first | refine arun_kn 4 rfl (fun C hC => ?_) | refine arunD_kn 4 rfl (fun C hC => ?_)); (repeat ((conv => whnf); simp [hlt, hn1, hj1, hw, strsE_len])); refine hC _ ?_; clear hC C; simp only [List.drop, Nat.reduceAdd]) | ((first | refine arun_kn 1 rfl (fun C hC => ?_) | refine arunD_kn 1 rfl (fun C hC => ?_)); (repeat ((conv => whnf); simp [hlt, hn1, hj1, hw, strsE_len])); refine hC _ ?_; clear hC C; simp only [List.drop, Nat.reduceAdd]) | (refine arun_skip ?_ ?_; (focus (simp [awant, hlt, hn1, hj1, hw, strsE_len]; done))) | (refine arun_c0 (pa) ?_; rintro _ rfl) | (refine arunD_skip ?_ ?_; (focus (simp [awant, hlt, hn1, hj1, hw, strsE_len]; done))) | (refine arunD_cE (0) (pa) (by exact ⟨_, rfl, in_int⟩) ?_; rintro _ rfl; intro _) | (refine AW.regionK [] (fun K hK => ?_)) | (refine AW.condT ?_ ?_; (focus (simp [aev, hlt, hn1, hj1, hw, strsE_len]; done))) | (refine AW.condF ?_ ?_; (focus (simp [aev, hlt, hn1, hj1, hw, strsE_len]; done))) | with_reducible refine AW.block ?_ | ((first | ((first | refine arun_nil ?_ | refine arunD_nil ?_); refine hK _ ?_; clear hK K) | refine AW.skip ?_ | refine AW.exit ?_ | refine AW.ret ?_); simp only [thenA_exit, inBlockA_exit, if_true, if_false, Nat.reduceEqDiff, thenA_normal, inBlockA_normal, reduceIte, thenA_ret, inBlockA_ret, endQ_ret, endR_ret, endG_ret, endQ_normal, endR_normal, endG_normal])))
        refine ⟨(i + 1, L), by dsimp only; omega, ⟨by dsimp only; omega, hL, by dsimp only; rw [hLl, sumN_succ, hfi]; rfl⟩, ?_⟩
        dsimp only
        exact less_a
      | false =>
        rw [hm2] at pa
        have pa' : AC Tryd.prog 67 [.agg [.int .i64 a.kind, .int .i64 a.num, .str a.text, .view .loose 1 (strsE a.names), .view .loose 5 (a.kids.map nodeL)], .str b.names[i]] 0 (fun r => r = .int .i64 (-1)) := pa
        have hfi : difB a b i = 1 := by unfold difB; rw [nmAt_eq hn1, hm2]; rfl
        have po := op_AC .tight (by decide) 1 [b.names[i]] b.kids[i] (hsm _ (List.getElem_mem hlt))
        have es1 : strsE [b.names[i]] = [[AV.str b.names[i]]] := rfl
        rw [es1] at po
        have hcy := node_clo b.kids[i]
        unfold nodeA at po hcy
        rw [nodeL_eq b.kids[i]] at po hcy
        have ho := one_clo b.names[i]
        have b3 : (L.length + 1) * 136 ≤ 140737488355328 := by omega
        have b4 : L.length + 1 ≤ 140737488355328 := by omega
        have ol := opE_len (1, [b.names[i]], [], b.kids[i])
        (repeat (first | with_reducible refine AW.seq ?_ | ((first | refine arun_kn 4 rfl (fun C hC => ?_) | refine arunD_kn 4 rfl (fun C hC => ?_)); (repeat ((conv => whnf); simp [hlt, hn1, strsE_len])); refine hC _ ?_; clear hC C; simp only [List.drop, Nat.reduceAdd]) | ((first | refine arun_kn 1 rfl (fun C hC => ?_) | refine arunD_kn 1 rfl (fun C hC => ?_)); (repeat ((conv => whnf); simp [hlt, hn1, strsE_len])); refine hC _ ?_; clear hC C; simp only [List.drop, Nat.reduceAdd]) | (refine arun_skip ?_ ?_; (focus (simp [awant, hlt, hn1, strsE_len]; done))) | (refine arunD_skip ?_ ?_; (focus (simp [awant, hlt, hn1, strsE_len]; done))) | (refine AW.regionK [] (fun K hK => ?_)) | (refine AW.condT ?_ ?_; (focus (simp [aev, hlt, hn1, strsE_len]; done))) | (refine AW.condF ?_ ?_; (focus (simp [aev, hlt, hn1, strsE_len]; done))) | with_reducible refine AW.block ?_ | ((first | ((first | refine arun_nil ?_ | refine arunD_nil ?_); refine hK _ ?_; clear hK K) | refine AW.skip ?_ | refine AW.exit ?_ | refine AW.ret ?_); simp only [thenA_exit, inBlockA_exit, if_true, if_false, Nat.reduceEqDiff, thenA_normal, inBlockA_normal, reduceIte, thenA_ret, inBlockA_ret, endQ_ret, endR_ret, endG_ret, endQ_normal, endR_normal, endG_normal])))
        refine AW.regionDK [] (pcs [(6, 0, fun r => r = .int .i64 (-1))] []) (by kernel_rfl) (by kernel_rfl) (fun K hK => ?_)
        (repeat (first | with_reducible refine AW.seq ?_ | ((first | refine arun_kn 4 rfl (fun C hC => ?_) | refine arunD_kn 4 rfl (fun C hC => ?_)); (repeat ((conv => whnf); simp [hlt, hn1, strsE_len])); refine hC _ ?_; clear hC C; simp only [List.drop, Nat.reduceAdd]) | ((first | refine arun_kn 1 rfl (fun C hC => ?_) | refine arunD_kn 1 rfl (fun C hC => ?_)); (repeat ((conv => whnf); simp [hlt, hn1, strsE_len])); refine hC _ ?_; clear hC C; simp only [List.drop, Nat.reduceAdd]) | (refine arun_skip ?_ ?_; (focus (simp [awant, hlt, hn1, strsE_len]; done))) | (refine arun_c0 (pa') ?_; rintro _ rfl) | (refine arunD_skip ?_ ?_; (focus (simp [awant, hlt, hn1, strsE_len]; done))) | (refine arunD_cE (0) (pa') (by exact ⟨_, rfl, in_int⟩) ?_; rintro _ rfl; intro _) | (refine AW.regionK [] (fun K hK => ?_)) | (refine AW.condT ?_ ?_; (focus (simp [aev, hlt, hn1, strsE_len]; done))) | (refine AW.condF ?_ ?_; (focus (simp [aev, hlt, hn1, strsE_len]; done))) | with_reducible refine AW.block ?_ | ((first | ((first | refine arun_nil ?_ | refine arunD_nil ?_); refine hK _ ?_; clear hK K) | refine AW.skip ?_ | refine AW.exit ?_ | refine AW.ret ?_); simp only [thenA_exit, inBlockA_exit, if_true, if_false, Nat.reduceEqDiff, thenA_normal, inBlockA_normal, reduceIte, thenA_ret, inBlockA_ret, endQ_ret, endR_ret, endG_ret, endQ_normal, endR_normal, endG_normal])))
        refine AW.regionDK [] (pcs [(12, 0, fun r => r = .agg (opE (1, [b.names[i]], [], b.kids[i])))] []) (by kernel_rfl) (by kernel_rfl) (fun K hK => ?_)
        (repeat (first | with_reducible refine AW.seq ?_ | ((first | refine arun_kn 4 rfl (fun C hC => ?_) | refine arunD_kn 4 rfl (fun C hC => ?_)); (repeat ((conv => whnf); simp [hlt, hn1, strsE_len, eLl, b3, b4, hw, ol])); refine hC _ ?_; clear hC C; simp only [List.drop, Nat.reduceAdd]) | ((first | refine arun_kn 1 rfl (fun C hC => ?_) | refine arunD_kn 1 rfl (fun C hC => ?_)); (repeat ((conv => whnf); simp [hlt, hn1, strsE_len, eLl, b3, b4, hw, ol])); refine hC _ ?_; clear hC C; simp only [List.drop, Nat.reduceAdd]) | (refine arun_skip ?_ ?_; (focus (simp [awant, hlt, hn1, strsE_len, eLl, b3, b4, hw, ol]; done))) | (refine arun_c0 (po) ?_; rintro _ rfl) | (refine arunD_skip ?_ ?_; (focus (simp [awant, hlt, hn1, strsE_len, eLl, b3, b4, hw, ol]; done))) | (refine arunD_cE (0) (po) (by exact ⟨_, rfl, opE_in _⟩) ?_; rintro _ rfl; intro _) | (refine AW.regionK [] (fun K hK => ?_)) | (refine AW.condT ?_ ?_; (focus (simp [aev, hlt, hn1, strsE_len, eLl, b3, b4, hw, ol]; done))) | (refine AW.condF ?_ ?_; (focus (simp [aev, hlt, hn1, strsE_len, eLl, b3, b4, hw, ol]; done))) | with_reducible refine AW.block ?_ | ((first | ((first | refine arun_nil ?_ | refine arunD_nil ?_); refine hK _ ?_; clear hK K) | refine AW.skip ?_ | refine AW.exit ?_ | refine AW.ret ?_); simp only [thenA_exit, inBlockA_exit, if_true, if_false, Nat.reduceEqDiff, thenA_normal, inBlockA_normal, reduceIte, thenA_ret, inBlockA_ret, endQ_ret, endR_ret, endG_ret, endQ_normal, endR_normal, endG_normal])))
        refine ⟨(i + 1, L ++ [(1, [b.names[i]], [], b.kids[i])]), by dsimp only; omega, ⟨by dsimp only; omega, path_app hL path_one, by dsimp only; rw [List.length_append, sumN_succ, hLl, hfi]; rfl⟩, ?_⟩
        dsimp only
        rw [← opsE_snoc]
        have hin : ∀ U : Nat → Bool, ∀ e ∈ opsE L ++ [opE (1, [b.names[i]], [], b.kids[i])], ∀ c ∈ e, AV.In U c := fun U => by rw [opsE_snoc]; exact opsE_in _
        exact (less_of (by simp [lessL, mkSt, slots, List.length_append]) (by simp [upd, mkSt, rowsOf_cons, List.length_append]) (by simp [upd, mkSt, usedOf_cons, List.length_append]) (by first | exact rd_less (by omega) | simp [mkSt, List.length_append]) (by simp [slots, in_any, in_int, in_bool, in_str, in_ptr, in_own, in_agg, in_vnil, in_rdr, usedOf_cons, usedOf_nil, strs_in, ints_in, nodes_in, in_tup, List.length_append]) (by simp only [List.forall_mem_cons, List.not_mem_nil, false_implies, implies_true, and_true, true_and, List.length_append]; (repeat (first | with_reducible exact trivial | with_reducible refine And.intro ?_ ?_ | with_reducible exact in_int | with_reducible exact in_str | with_reducible exact in_bool | with_reducible exact strs_in _ | with_reducible exact nodes_in _ | with_reducible exact items_in _ | with_reducible exact in_vnil | with_reducible exact in_any | exact hin _ | with_reducible refine take_in ?_ | with_reducible exact strsE_in _ | with_reducible exact nodesE_in _ | with_reducible exact nodeL_in _ | with_reducible exact itemsE_in _ | with_reducible exact itemL_in _ | with_reducible refine app_in ?_ ?_ | with_reducible refine sing_in ?_ | (focus (simp [in_any, in_int, in_bool, in_str, in_ptr, in_own, in_agg, in_vnil, in_rdr, usedOf_cons, usedOf_nil, strs_in, ints_in, nodes_in, List.length_append]; done)))); done))
    · obtain rfl : i = b.kids.length := by omega
      have hsub := fun id m c => opsE_sub (id := id) (m := m) (c := c) L
      (repeat (first | with_reducible refine AW.seq ?_ | ((first | refine arun_kn 4 rfl (fun C hC => ?_) | refine arunD_kn 4 rfl (fun C hC => ?_)); (repeat ((conv => whnf); simp)); refine hC _ ?_; clear hC C; simp only [List.drop, Nat.reduceAdd]) | ((first | refine arun_kn 1 rfl (fun C hC => ?_) | refine arunD_kn 1 rfl (fun C hC => ?_)); (repeat ((conv => whnf); simp)); refine hC _ ?_; clear hC C; simp only [List.drop, Nat.reduceAdd]) | (refine arun_skip ?_ ?_; (focus (simp [awant]; done))) | (refine arunD_skip ?_ ?_; (focus (simp [awant]; done))) | (refine AW.condT ?_ ?_; (focus (simp [aev]; done))) | (refine AW.condF ?_ ?_; (focus (simp [aev]; done))) | with_reducible refine AW.block ?_ | ((first | ((first | refine arun_nil ?_ | refine arunD_nil ?_); refine hK _ ?_; clear hK K) | refine AW.skip ?_ | refine AW.exit ?_ | refine AW.ret ?_); simp only [thenA_exit, inBlockA_exit, if_true, if_false, Nat.reduceEqDiff, thenA_normal, inBlockA_normal, reduceIte, thenA_ret, inBlockA_ret, endQ_ret, endR_ret, endG_ret, endQ_normal, endR_normal, endG_normal])))
      refine AW.regionK [] (fun K hK => ?_)
      (repeat (first | with_reducible refine AW.seq ?_ | ((first | refine arun_kn 4 rfl (fun C hC => ?_) | refine arunD_kn 4 rfl (fun C hC => ?_)); (repeat ((conv => whnf); simp)); refine hC _ ?_; clear hC C; simp only [List.drop, Nat.reduceAdd]) | ((first | refine arun_kn 1 rfl (fun C hC => ?_) | refine arunD_kn 1 rfl (fun C hC => ?_)); (repeat ((conv => whnf); simp)); refine hC _ ?_; clear hC C; simp only [List.drop, Nat.reduceAdd]) | (refine arun_skip ?_ ?_; (focus (simp [awant]; done))) | (refine arunD_skip ?_ ?_; (focus (simp [awant]; done))) | (refine AW.condT ?_ ?_; (focus (simp [aev]; done))) | (refine AW.condF ?_ ?_; (focus (simp [aev]; done))) | with_reducible refine AW.block ?_ | ((first | ((first | refine arun_nil ?_ | refine arunD_nil ?_); refine hK _ ?_; clear hK K) | refine AW.skip ?_ | refine AW.exit ?_ | refine AW.ret ?_); simp only [thenA_exit, inBlockA_exit, if_true, if_false, Nat.reduceEqDiff, thenA_normal, inBlockA_normal, reduceIte, thenA_ret, inBlockA_ret, endQ_ret, endR_ret, endG_ret, endQ_normal, endR_normal, endG_normal])))
      refine AW.hold 50 ?_
      simp only [ASt.hold]
      (repeat (first | with_reducible refine AW.seq ?_ | ((first | refine arun_kn 4 rfl (fun C hC => ?_) | refine arunD_kn 4 rfl (fun C hC => ?_)); (repeat ((conv => whnf); simp [eLl, hsub, AV.subL, AV.sub, Row.sub, upd])); refine hC _ ?_; clear hC C; simp only [List.drop, Nat.reduceAdd]) | ((first | refine arun_kn 1 rfl (fun C hC => ?_) | refine arunD_kn 1 rfl (fun C hC => ?_)); (repeat ((conv => whnf); simp [eLl, hsub, AV.subL, AV.sub, Row.sub, upd])); refine hC _ ?_; clear hC C; simp only [List.drop, Nat.reduceAdd]) | (refine arun_skip ?_ ?_; (focus (simp [awant, eLl, hsub, AV.subL, AV.sub, Row.sub, upd]; done))) | (refine arunD_skip ?_ ?_; (focus (simp [awant, eLl, hsub, AV.subL, AV.sub, Row.sub, upd]; done))) | (refine AW.regionK [] (fun K hK => ?_)) | (refine AW.regionDK [] (pcs [] []) (by kernel_rfl) (by kernel_rfl) (fun K hK => ?_)) | (refine AW.condT ?_ ?_; (focus (simp [aev, eLl, hsub, AV.subL, AV.sub, Row.sub, upd]; done))) | (refine AW.condF ?_ ?_; (focus (simp [aev, eLl, hsub, AV.subL, AV.sub, Row.sub, upd]; done))) | with_reducible refine AW.block ?_ | ((first | ((first | refine arun_nil ?_ | refine arunD_nil ?_); refine hK _ ?_; clear hK K) | refine AW.skip ?_ | refine AW.exit ?_ | refine AW.ret ?_); simp only [thenA_exit, inBlockA_exit, if_true, if_false, Nat.reduceEqDiff, thenA_normal, inBlockA_normal, reduceIte, thenA_ret, inBlockA_ret, endQ_ret, endR_ret, endG_ret, endQ_normal, endR_normal, endG_normal])))
      exact ⟨.view .loose 8 (opsE L), by simp [ares, aresL, eLl], ops_pur L (by decide), L, hLl, hL, rfl⟩
end Go.Proofs.YtmmaanbppheabaaDoor.Eng
-- EV: skip
namespace Go.Proofs.YtmmaanbppheabaaDoor.Eng
open Go Go.RowKit
attribute [local simp] big size_mk ASt.pay Option.map_map Function.comp_def awant aop acall ado aev ofVal ofVal0 ASt.put ASt.add ASt.turn ASt.kill abox aalloc astore aload aloadD astoreD idOf ASt.at cellsTo afieldAddr afield aindexAddr aindex alen abin aint acmp astr aun apick aextract anil aslice abound abuild afill abuildSlice asCells aps avCells over upd aappend asrc amax amin aconv mkSt slots rowsOf_cons rowsOf_nil usedOf_cons usedOf_nil ZK.av List.replicate ASt.back ASt.addL ASt.killL nodeA nodeT nodeTL_eq nodeL_eq strsE_get strsE_len intsE_get intsE_len strsE_at intsE_at tab2 tab3 tab4 tab5 tab6 tab7 tab8 tab9 tab10 tab11 tab12 tab13 tab14 tab15 tab16 tab17 tab18 tab19 tab21 tab22 tab23 tab24 tab25 tab26 tab27 tab31 tab32 tab33 tab35 tab36 tab41 tab58 tab67 tab69 tab70 tab81 tab82 tab85 tab86 tab92 tab93 tab95 tab105 tab111 tab117 tab124 tab125 tab130 tab131 tab133 tab134 tab135
set_option maxRecDepth 100000
set_option maxHeartbeats 16000000
theorem diffLists_AC (d : Nat) (a b : Nd) (hd : d ≤ 800) (ha : Shp a) (hb : Shp b) (ih : ∀ x ∈ a.kids, ∀ y ∈ b.kids, DifC d x y)
    (hle : sumN (fun i => difD d (kidAt a i) (kidAt b i)) (min a.kids.length b.kids.length) + (a.kids.length - min a.kids.length b.kids.length) + (b.kids.length - min a.kids.length b.kids.length) ≤ 10000000000) :
    AC Tryd.prog 70 [nodeA a, nodeA b] 0 (rOps (sumN (fun i => difD d (kidAt a i) (kidAt b i)) (min a.kids.length b.kids.length) + (a.kids.length - min a.kids.length b.kids.length) + (b.kids.length - min a.kids.length b.kids.length)) (d + 1)) := by
  have la6 := ha.kids
  have lb6 := hb.kids
  have hsm : ∀ y ∈ b.kids, Sml y := fun y hy => (hb.kid hy).sml
  have hz := node0_clo
  obtain ⟨M, hM⟩ : ∃ M, M = min a.kids.length b.kids.length := ⟨_, rfl⟩
  have hmi : min (a.kids.length : Int) (b.kids.length : Int) = (M : Int) := by omega
  have hmi2 : (if b.kids.length < a.kids.length then (b.kids.length : Int) else (a.kids.length : Int)) = (M : Int) := by split <;> omega
  have hMa : M ≤ a.kids.length := by omega
  have hMb : M ≤ b.kids.length := by omega
  rw [← hM] at hle ⊢
  clear hM
  unfold nodeA
  rw [nodeL_eq a, nodeL_eq b]
  refine AC.of tab_ok mixed_ok Tryd.func70 (by rfl) (by kernel_rfl) ?_; rintro ⟨P, T, hT, hm, w0, S0, rd0, k0⟩ hP hTT; dsimp only at hP hTT; subst hP hTT; unfold initSt; rw [Tryd.ntmps70]
  (repeat (first | with_reducible refine AW.seq ?_ | ((first | refine arun_kn 4 rfl (fun C hC => ?_) | refine arunD_kn 4 rfl (fun C hC => ?_)); (repeat ((conv => whnf); simp [hmi, hmi2])); refine hC _ ?_; clear hC C; simp only [List.drop, Nat.reduceAdd]) | ((first | refine arun_kn 1 rfl (fun C hC => ?_) | refine arunD_kn 1 rfl (fun C hC => ?_)); (repeat ((conv => whnf); simp [hmi, hmi2])); refine hC _ ?_; clear hC C; simp only [List.drop, Nat.reduceAdd]) | (refine arun_skip ?_ ?_; (focus (simp [awant, hmi, hmi2]; done))) | (refine arunD_skip ?_ ?_; (focus (simp [awant, hmi, hmi2]; done))) | (refine AW.regionK [] (fun K hK => ?_)) | (refine AW.regionDK [] (pcs [] []) (by kernel_rfl) (by kernel_rfl) (fun K hK => ?_)) | (refine AW.condT ?_ ?_; (focus (simp [aev, hmi, hmi2]; done))) | (refine AW.condF ?_ ?_; (focus (simp [aev, hmi, hmi2]; done))) | with_reducible refine AW.block ?_ | ((first | ((first | refine arun_nil ?_ | refine arunD_nil ?_); refine hK _ ?_; clear hK K) | refine AW.skip ?_ | refine AW.exit ?_ | refine AW.ret ?_); simp only [thenA_exit, inBlockA_exit, if_true, if_false, Nat.reduceEqDiff, thenA_normal, inBlockA_normal, reduceIte, thenA_ret, inBlockA_ret, endQ_ret, endR_ret, endG_ret, endQ_normal, endR_normal, endG_normal])))
  refine AW.adopt 5 50 93 8 ⟨_, tab93, rfl⟩ rfl (by simp [upd]) ?_
  simp only [ASt.adopt, ASt.add]
  refine AW.loopS (fun (x : Nat × List Opr) => mkSt (slots 0 77 [(2, .ptr true 5 1 2 0 0), (3, .ptr true 5 1 3 0 0), (5, .own 50 x.2.length), (6, .int .i64 M), (7, .int .i64 x.1)]) [(2, ⟨true, 33, 5, [nodeL a]⟩), (3, ⟨true, 33, 5, [nodeL b]⟩), (50, ⟨false, 93, 8, opsE x.2⟩)] [2, 3, 50] (rd0.map fun _ => 0)) (fun x => M - x.1) (fun x => x.1 ≤ M ∧ (∀ o ∈ x.2, o.2.1.length ≤ d + 1) ∧ x.2.length = sumN (fun i => difD d (kidAt a i) (kidAt b i)) x.1) (0, []) ?_ ⟨Nat.zero_le _, (fun o ho => by cases ho), rfl⟩ ?_
  · dsimp only
    rw [nodeL_eq a, nodeL_eq b]
    exact (less_of (by simp [lessL, mkSt, slots, opsE]) (by simp [upd, mkSt, rowsOf_cons, opsE]) (by simp [upd, mkSt, usedOf_cons, opsE]) (by first | exact rd_less (by omega) | simp [mkSt, opsE]) (by simp [slots, in_any, in_int, in_bool, in_str, in_ptr, in_own, in_agg, in_vnil, in_rdr, usedOf_cons, usedOf_nil, strs_in, ints_in, nodes_in, in_tup, opsE]) (by simp only [List.forall_mem_cons, List.not_mem_nil, false_implies, implies_true, and_true, true_and, opsE]; (repeat (first | with_reducible exact trivial | with_reducible refine And.intro ?_ ?_ | with_reducible exact in_int | with_reducible exact in_str | with_reducible exact in_bool | with_reducible exact strs_in _ | with_reducible exact nodes_in _ | with_reducible exact items_in _ | with_reducible exact in_vnil | with_reducible exact in_any | exact hin _ | with_reducible refine take_in ?_ | with_reducible exact strsE_in _ | with_reducible exact nodesE_in _ | with_reducible exact nodeL_in _ | with_reducible exact itemsE_in _ | with_reducible exact itemL_in _ | with_reducible refine app_in ?_ ?_ | with_reducible refine sing_in ?_ | (focus (simp [in_any, in_int, in_bool, in_str, in_ptr, in_own, in_agg, in_vnil, in_rdr, usedOf_cons, usedOf_nil, strs_in, ints_in, nodes_in, opsE]; done)))); done))
  rintro ⟨i, L⟩ ⟨hi, hL, hLl⟩
  dsimp only at hi hL hLl ⊢
  rw [nodeL_eq a, nodeL_eq b]
  have eLl := opsE_len L
  by_cases hlt : i < M
  · have hk1 : i < a.kids.length := by omega
    have hk2 : i < b.kids.length := by omega
    have hw : IntKind.i64.wrap ((i : Int) + 1) = (i : Int) + 1 := i64_nat (by omega) (by omega)
    have hst := sumN_step (fun i => difD d (kidAt a i) (kidAt b i)) hlt
    replace hst : sumN (fun i => difD d (kidAt a i) (kidAt b i)) i + difD d (kidAt a i) (kidAt b i) ≤ sumN (fun i => difD d (kidAt a i) (kidAt b i)) M := hst
    have hfi : difD d (kidAt a i) (kidAt b i) = difD d a.kids[i] b.kids[i] := by rw [kidAt_eq hk1, kidAt_eq hk2]
    have p1 := decimal_AC i (by omega)
    have hcx := node_clo a.kids[i]
    have hcy := node_clo b.kids[i]
    have hih := ih a.kids[i] (List.getElem_mem hk1) b.kids[i] (List.getElem_mem hk2)
    unfold DifC at hih
    unfold nodeA at hih hcx hcy
    rw [nodeL_eq a.kids[i], nodeL_eq b.kids[i]] at hih
    rw [nodeL_eq] at hcx hcy
    generalize txt (dig1 i) = st at *
    generalize hD : difD d a.kids[i] b.kids[i] = D at *
    (repeat (first | with_reducible refine AW.seq ?_ | ((first | refine arun_kn 4 rfl (fun C hC => ?_) | refine arunD_kn 4 rfl (fun C hC => ?_)); (repeat ((conv => whnf); simp [hlt])); refine hC _ ?_; clear hC C; simp only [List.drop, Nat.reduceAdd]) | ((first | refine arun_kn 1 rfl (fun C hC => ?_) | refine arunD_kn 1 rfl (fun C hC => ?_)); (repeat ((conv => whnf); simp [hlt])); refine hC _ ?_; clear hC C; simp only [List.drop, Nat.reduceAdd]) | (refine arun_skip ?_ ?_; (focus (simp [awant, hlt]; done))) | (refine arunD_skip ?_ ?_; (focus (simp [awant, hlt]; done))) | (refine AW.regionK [] (fun K hK => ?_)) | (refine AW.condT ?_ ?_; (focus (simp [aev, hlt]; done))) | (refine AW.condF ?_ ?_; (focus (simp [aev, hlt]; done))) | with_reducible refine AW.block ?_ | ((first | ((first | refine arun_nil ?_ | refine arunD_nil ?_); refine hK _ ?_; clear hK K) | refine AW.skip ?_ | refine AW.exit ?_ | refine AW.ret ?_); simp only [thenA_exit, inBlockA_exit, if_true, if_false, Nat.reduceEqDiff, thenA_normal, inBlockA_normal, reduceIte, thenA_ret, inBlockA_ret, endQ_ret, endR_ret, endG_ret, endQ_normal, endR_normal, endG_normal])))
    refine AW.regionDK [] (pcs [(2, 0, fun r => r = .str st), (13, 0, rOps D d), (14, 0, rOps D (d + 1))] []) (by kernel_rfl) (by kernel_rfl) (fun K hK => ?_)
    (repeat (first | with_reducible refine AW.seq ?_ | ((first | refine arun_kn 4 rfl (fun C hC => ?_) | refine arunD_kn 4 rfl (fun C hC => ?_)); (repeat ((conv => whnf); simp [hlt, hk1, hk2])); refine hC _ ?_; clear hC C; simp only [List.drop, Nat.reduceAdd]) | ((first | refine arun_kn 1 rfl (fun C hC => ?_) | refine arunD_kn 1 rfl (fun C hC => ?_)); (repeat ((conv => whnf); simp [hlt, hk1, hk2])); refine hC _ ?_; clear hC C; simp only [List.drop, Nat.reduceAdd]) | (refine arun_skip ?_ ?_; (focus (simp [awant, hlt, hk1, hk2]; done))) | (refine arun_c0 (p1) ?_; rintro _ rfl) | (refine arun_c0 (hih) ?_; (rintro _ ⟨l, hl, hlp, rfl⟩)) | (refine arunD_skip ?_ ?_; (focus (simp [awant, hlt, hk1, hk2]; done))) | (refine arunD_cE (0) (p1) (by exact ⟨_, rfl, in_str⟩) ?_; rintro _ rfl; intro _) | (refine arunD_cE (0) (hih) (by exact rOps_ex _ _) ?_; (rintro _ ⟨l, hl, hlp, rfl⟩); intro _) | (refine AW.regionK [] (fun K hK => ?_)) | (refine AW.regionDK [] (pcs [] []) (by kernel_rfl) (by kernel_rfl) (fun K hK => ?_)) | (refine AW.condT ?_ ?_; (focus (simp [aev, hlt, hk1, hk2]; done))) | (refine AW.condF ?_ ?_; (focus (simp [aev, hlt, hk1, hk2]; done))) | with_reducible refine AW.block ?_ | ((first | ((first | refine arun_nil ?_ | refine arunD_nil ?_); refine hK _ ?_; clear hK K) | refine AW.skip ?_ | refine AW.exit ?_ | refine AW.ret ?_); simp only [thenA_exit, inBlockA_exit, if_true, if_false, Nat.reduceEqDiff, thenA_normal, inBlockA_normal, reduceIte, thenA_ret, inBlockA_ret, endQ_ret, endR_ret, endG_ret, endQ_normal, endR_normal, endG_normal])))
    have eu : (opsE (l.map (undO st))).length = l.length := by rw [opsE_len, List.length_map]
    have hcu := ops_clo l
    have pu := (under_AC st l (by omega) (fun o ho => by have := hlp o ho; omega)).mono (R := rOps D (d + 1)) (fun r h => ⟨l.map (undO st), by rw [List.length_map]; exact hl, und_path hlp, h⟩)
    clear hih
    (repeat (first | with_reducible refine AW.seq ?_ | ((first | refine arun_kn 4 rfl (fun C hC => ?_) | refine arunD_kn 4 rfl (fun C hC => ?_)); (repeat ((conv => whnf); simp [hlt, hk1, hk2, eLl])); refine hC _ ?_; clear hC C; simp only [List.drop, Nat.reduceAdd]) | ((first | refine arun_kn 1 rfl (fun C hC => ?_) | refine arunD_kn 1 rfl (fun C hC => ?_)); (repeat ((conv => whnf); simp [hlt, hk1, hk2, eLl])); refine hC _ ?_; clear hC C; simp only [List.drop, Nat.reduceAdd]) | (refine arun_skip ?_ ?_; (focus (simp [awant, hlt, hk1, hk2, eLl]; done))) | (refine arun_c0 (pu) ?_; (rintro _ ⟨m, hm3, hmp, rfl⟩)) | (refine arunD_skip ?_ ?_; (focus (simp [awant, hlt, hk1, hk2, eLl]; done))) | (refine arunD_cE (0) (pu) (by exact rOps_ex _ _) ?_; (rintro _ ⟨m, hm3, hmp, rfl⟩); intro _) | (refine AW.regionK [] (fun K hK => ?_)) | (refine AW.regionDK [] (pcs [] []) (by kernel_rfl) (by kernel_rfl) (fun K hK => ?_)) | (refine AW.condT ?_ ?_; (focus (simp [aev, hlt, hk1, hk2, eLl]; done))) | (refine AW.condF ?_ ?_; (focus (simp [aev, hlt, hk1, hk2, eLl]; done))) | with_reducible refine AW.block ?_ | ((first | ((first | refine arun_nil ?_ | refine arunD_nil ?_); refine hK _ ?_; clear hK K) | refine AW.skip ?_ | refine AW.exit ?_ | refine AW.ret ?_); simp only [thenA_exit, inBlockA_exit, if_true, if_false, Nat.reduceEqDiff, thenA_normal, inBlockA_normal, reduceIte, thenA_ret, inBlockA_ret, endQ_ret, endR_ret, endG_ret, endQ_normal, endR_normal, endG_normal])))
    have eLm := opsE_len m
    have b3 : (L.length + m.length) * 136 ≤ 140737488355328 := by omega
    have b4 : L.length + m.length ≤ 140737488355328 := by omega
    (repeat (first | with_reducible refine AW.seq ?_ | ((first | refine arun_kn 4 rfl (fun C hC => ?_) | refine arunD_kn 4 rfl (fun C hC => ?_)); (repeat ((conv => whnf); simp [hlt, hk1, hk2, eLl, eLm, b3, b4, hw])); refine hC _ ?_; clear hC C; simp only [List.drop, Nat.reduceAdd]) | ((first | refine arun_kn 1 rfl (fun C hC => ?_) | refine arunD_kn 1 rfl (fun C hC => ?_)); (repeat ((conv => whnf); simp [hlt, hk1, hk2, eLl, eLm, b3, b4, hw])); refine hC _ ?_; clear hC C; simp only [List.drop, Nat.reduceAdd]) | (refine arun_skip ?_ ?_; (focus (simp [awant, hlt, hk1, hk2, eLl, eLm, b3, b4, hw]; done))) | (refine arunD_skip ?_ ?_; (focus (simp [awant, hlt, hk1, hk2, eLl, eLm, b3, b4, hw]; done))) | (refine AW.regionK [] (fun K hK => ?_)) | (refine AW.regionDK [] (pcs [] []) (by kernel_rfl) (by kernel_rfl) (fun K hK => ?_)) | (refine AW.condT ?_ ?_; (focus (simp [aev, hlt, hk1, hk2, eLl, eLm, b3, b4, hw]; done))) | (refine AW.condF ?_ ?_; (focus (simp [aev, hlt, hk1, hk2, eLl, eLm, b3, b4, hw]; done))) | with_reducible refine AW.block ?_ | ((first | ((first | refine arun_nil ?_ | refine arunD_nil ?_); refine hK _ ?_; clear hK K) | refine AW.skip ?_ | refine AW.exit ?_ | refine AW.ret ?_); simp only [thenA_exit, inBlockA_exit, if_true, if_false, Nat.reduceEqDiff, thenA_normal, inBlockA_normal, reduceIte, thenA_ret, inBlockA_ret, endQ_ret, endR_ret, endG_ret, endQ_normal, endR_normal, endG_normal])))
    refine ⟨(i + 1, L ++ m), by dsimp only; omega, ⟨by dsimp only; omega, path_app hL hmp, by dsimp only; rw [List.length_append, sumN_succ, hLl, hm3]; omega⟩, ?_⟩
    dsimp only
    rw [← opsE_app]
    have hin : ∀ U : Nat → Bool, ∀ e ∈ opsE L ++ opsE m, ∀ c ∈ e, AV.In U c := fun U => by rw [opsE_app]; exact opsE_in _
    exact (less_of (by simp [lessL, mkSt, slots, List.length_append]) (by simp [upd, mkSt, rowsOf_cons, List.length_append]) (by simp [upd, mkSt, usedOf_cons, List.length_append]) (by first | exact rd_less (by omega) | simp [mkSt, List.length_append]) (by simp [slots, in_any, in_int, in_bool, in_str, in_ptr, in_own, in_agg, in_vnil, in_rdr, usedOf_cons, usedOf_nil, strs_in, ints_in, nodes_in, in_tup, List.length_append]) (by simp only [List.forall_mem_cons, List.not_mem_nil, false_implies, implies_true, and_true, true_and, List.length_append]; (repeat (first | with_reducible exact trivial | with_reducible refine And.intro ?_ ?_ | with_reducible exact in_int | with_reducible exact in_str | with_reducible exact in_bool | with_reducible exact strs_in _ | with_reducible exact nodes_in _ | with_reducible exact items_in _ | with_reducible exact in_vnil | with_reducible exact in_any | exact hin _ | with_reducible refine take_in ?_ | with_reducible exact strsE_in _ | with_reducible exact nodesE_in _ | with_reducible exact nodeL_in _ | with_reducible exact itemsE_in _ | with_reducible exact itemL_in _ | with_reducible refine app_in ?_ ?_ | with_reducible refine sing_in ?_ | (focus (simp [in_any, in_int, in_bool, in_str, in_ptr, in_own, in_agg, in_vnil, in_rdr, usedOf_cons, usedOf_nil, strs_in, ints_in, nodes_in, List.length_append]; done)))); done))
  obtain rfl : i = M := by omega
  generalize sumN (fun i => difD d (kidAt a i) (kidAt b i)) i = N1 at *
  have hwa : IntKind.i64.wrap ((a.kids.length : Int) - 1) = (a.kids.length : Int) - 1 := i64_nat (by omega) (by omega)
  (repeat (first | with_reducible refine AW.seq ?_ | ((first | refine arun_kn 4 rfl (fun C hC => ?_) | refine arunD_kn 4 rfl (fun C hC => ?_)); (repeat ((conv => whnf); simp [hwa])); refine hC _ ?_; clear hC C; simp only [List.drop, Nat.reduceAdd]) | ((first | refine arun_kn 1 rfl (fun C hC => ?_) | refine arunD_kn 1 rfl (fun C hC => ?_)); (repeat ((conv => whnf); simp [hwa])); refine hC _ ?_; clear hC C; simp only [List.drop, Nat.reduceAdd]) | (refine arun_skip ?_ ?_; (focus (simp [awant, hwa]; done))) | (refine arunD_skip ?_ ?_; (focus (simp [awant, hwa]; done))) | (refine AW.regionK [] (fun K hK => ?_)) | (refine AW.regionDK [] (pcs [] []) (by kernel_rfl) (by kernel_rfl) (fun K hK => ?_)) | (refine AW.condT ?_ ?_; (focus (simp [aev, hwa]; done))) | (refine AW.condF ?_ ?_; (focus (simp [aev, hwa]; done))) | with_reducible refine AW.block ?_ | ((first | ((first | refine arun_nil ?_ | refine arunD_nil ?_); refine hK _ ?_; clear hK K) | refine AW.skip ?_ | refine AW.exit ?_ | refine AW.ret ?_); simp only [thenA_exit, inBlockA_exit, if_true, if_false, Nat.reduceEqDiff, thenA_normal, inBlockA_normal, reduceIte, thenA_ret, inBlockA_ret, endQ_ret, endR_ret, endG_ret, endQ_normal, endR_normal, endG_normal])))
  refine AW.loopS (fun (x : Nat × List Opr) => mkSt (slots 0 77 [(2, .ptr true 5 1 2 0 0), (3, .ptr true 5 1 3 0 0), (5, .own 50 x.2.length), (6, .int .i64 i), (8, .int .i64 ((x.1 : Int) - 1))]) [(2, ⟨true, 33, 5, [nodeL a]⟩), (3, ⟨true, 33, 5, [nodeL b]⟩), (50, ⟨false, 93, 8, opsE x.2⟩)] [2, 3, 50] (rd0.map fun _ => 0)) (fun x => x.1) (fun x => i ≤ x.1 ∧ x.1 ≤ a.kids.length ∧ (∀ o ∈ x.2, o.2.1.length ≤ d + 1) ∧ x.2.length + x.1 = N1 + a.kids.length) (a.kids.length, L) ?_ ⟨hMa, Nat.le_refl _, hL, by dsimp only; omega⟩ ?_
  · dsimp only
    have hin := fun U => opsE_in (U := U) L
    rw [nodeL_eq a, nodeL_eq b]
    exact less_a
  clear hL hLl eLl
  rintro ⟨c, L⟩ ⟨hc, hc2, hL, hLl⟩
  dsimp only at hc hc2 hL hLl ⊢
  rw [nodeL_eq a, nodeL_eq b]
  have eLl := opsE_len L
  by_cases hlt : i < c
  · obtain ⟨k, rfl⟩ : ∃ k, c = k + 1 := ⟨c - 1, by omega⟩
    have e1 : (((k + 1 : Nat) : Int)) - 1 = (k : Int) := by omega
    have hge : (i : Int) ≤ (k : Int) := by omega
    have hge' : i ≤ k := by omega
    have hw : IntKind.i64.wrap ((k : Int) - 1) = (k : Int) - 1 := i64_nat (by omega) (by omega)
    have p1 := decimal_AC k (by omega)
    generalize txt (dig1 k) = st at *
    have po := opz_AC 2 st
    have ho := one_clo st
    have b3 : (L.length + 1) * 136 ≤ 140737488355328 := by omega
    have b4 : L.length + 1 ≤ 140737488355328 := by omega
    have ol := opE_len (2, [st], [], Nd.zero)
    rw [e1]
    (repeat (first | with_reducible refine AW.seq ?_ | ((first | refine arun_kn 4 rfl (fun C hC => ?_) | refine arunD_kn 4 rfl (fun C hC => ?_)); (repeat ((conv => whnf); simp [hge, hge', eLl, b3, b4, hw, ol])); refine hC _ ?_; clear hC C; simp only [List.drop, Nat.reduceAdd]) | ((first | refine arun_kn 1 rfl (fun C hC => ?_) | refine arunD_kn 1 rfl (fun C hC => ?_)); (repeat ((conv => whnf); simp [hge, hge', eLl, b3, b4, hw, ol])); refine hC _ ?_; clear hC C; simp only [List.drop, Nat.reduceAdd]) | (refine arun_skip ?_ ?_; (focus (simp [awant, hge, hge', eLl, b3, b4, hw, ol]; done))) | (refine arun_c0 (p1) ?_; rintro _ rfl) | (refine arun_c0 (po) ?_; rintro _ rfl) | (refine arunD_skip ?_ ?_; (focus (simp [awant, hge, hge', eLl, b3, b4, hw, ol]; done))) | (refine AW.regionK [] (fun K hK => ?_)) | (refine AW.regionDK [] (pcs [] []) (by kernel_rfl) (by kernel_rfl) (fun K hK => ?_)) | (refine AW.condT ?_ ?_; (focus (simp [aev, hge, hge', eLl, b3, b4, hw, ol]; done))) | (refine AW.condF ?_ ?_; (focus (simp [aev, hge, hge', eLl, b3, b4, hw, ol]; done))) | with_reducible refine AW.block ?_ | ((first | ((first | refine arun_nil ?_ | refine arunD_nil ?_); refine hK _ ?_; clear hK K) | refine AW.skip ?_ | refine AW.exit ?_ | refine AW.ret ?_); simp only [thenA_exit, inBlockA_exit, if_true, if_false, Nat.reduceEqDiff, thenA_normal, inBlockA_normal, reduceIte, thenA_ret, inBlockA_ret, endQ_ret, endR_ret, endG_ret, endQ_normal, endR_normal, endG_normal])))
    refine ⟨(k, L ++ [(2, [st], [], Nd.zero)]), by dsimp only; omega, ⟨by dsimp only; omega, by dsimp only; omega, path_app hL path_one, by dsimp only; rw [List.length_append, List.length_singleton]; omega⟩, ?_⟩
    dsimp only
    rw [← opsE_snoc]
    have hin : ∀ U : Nat → Bool, ∀ e ∈ opsE L ++ [opE (2, [st], [], Nd.zero)], ∀ c ∈ e, AV.In U c := fun U => by rw [opsE_snoc]; exact opsE_in _
    exact (less_of (by simp [lessL, mkSt, slots, List.length_append]) (by simp [upd, mkSt, rowsOf_cons, List.length_append]) (by simp [upd, mkSt, usedOf_cons, List.length_append]) (by first | exact rd_less (by omega) | simp [mkSt, List.length_append]) (by simp [slots, in_any, in_int, in_bool, in_str, in_ptr, in_own, in_agg, in_vnil, in_rdr, usedOf_cons, usedOf_nil, strs_in, ints_in, nodes_in, in_tup, List.length_append]) (by simp only [List.forall_mem_cons, List.not_mem_nil, false_implies, implies_true, and_true, true_and, List.length_append]; (repeat (first | with_reducible exact trivial | with_reducible refine And.intro ?_ ?_ | with_reducible exact in_int | with_reducible exact in_str | with_reducible exact in_bool | with_reducible exact strs_in _ | with_reducible exact nodes_in _ | with_reducible exact items_in _ | with_reducible exact in_vnil | with_reducible exact in_any | exact hin _ | with_reducible refine take_in ?_ | with_reducible exact strsE_in _ | with_reducible exact nodesE_in _ | with_reducible exact nodeL_in _ | with_reducible exact itemsE_in _ | with_reducible exact itemL_in _ | with_reducible refine app_in ?_ ?_ | with_reducible refine sing_in ?_ | (focus (simp [in_any, in_int, in_bool, in_str, in_ptr, in_own, in_agg, in_vnil, in_rdr, usedOf_cons, usedOf_nil, strs_in, ints_in, nodes_in, List.length_append]; done)))); done))
  obtain rfl : i = c := by omega
  have hng : ¬ (i : Int) ≤ (i : Int) - 1 := by omega
  (repeat (first | with_reducible refine AW.seq ?_ | ((first | refine arun_kn 4 rfl (fun C hC => ?_) | refine arunD_kn 4 rfl (fun C hC => ?_)); (repeat ((conv => whnf); simp [hng])); refine hC _ ?_; clear hC C; simp only [List.drop, Nat.reduceAdd]) | ((first | refine arun_kn 1 rfl (fun C hC => ?_) | refine arunD_kn 1 rfl (fun C hC => ?_)); (repeat ((conv => whnf); simp [hng])); refine hC _ ?_; clear hC C; simp only [List.drop, Nat.reduceAdd]) | (refine arun_skip ?_ ?_; (focus (simp [awant, hng]; done))) | (refine arunD_skip ?_ ?_; (focus (simp [awant, hng]; done))) | (refine AW.regionK [] (fun K hK => ?_)) | (refine AW.regionDK [] (pcs [] []) (by kernel_rfl) (by kernel_rfl) (fun K hK => ?_)) | (refine AW.condT ?_ ?_; (focus (simp [aev, hng]; done))) | (refine AW.condF ?_ ?_; (focus (simp [aev, hng]; done))) | with_reducible refine AW.block ?_ | ((first | ((first | refine arun_nil ?_ | refine arunD_nil ?_); refine hK _ ?_; clear hK K) | refine AW.skip ?_ | refine AW.exit ?_ | refine AW.ret ?_); simp only [thenA_exit, inBlockA_exit, if_true, if_false, Nat.reduceEqDiff, thenA_normal, inBlockA_normal, reduceIte, thenA_ret, inBlockA_ret, endQ_ret, endR_ret, endG_ret, endQ_normal, endR_normal, endG_normal])))
  refine AW.loopS (fun (x : Nat × List Opr) => mkSt (slots 0 77 [(2, .ptr true 5 1 2 0 0), (3, .ptr true 5 1 3 0 0), (5, .own 50 x.2.length), (6, .int .i64 i), (9, .int .i64 x.1)]) [(2, ⟨true, 33, 5, [nodeL a]⟩), (3, ⟨true, 33, 5, [nodeL b]⟩), (50, ⟨false, 93, 8, opsE x.2⟩)] [2, 3, 50] (rd0.map fun _ => 0)) (fun x => b.kids.length - x.1) (fun x => i ≤ x.1 ∧ x.1 ≤ b.kids.length ∧ (∀ o ∈ x.2, o.2.1.length ≤ d + 1) ∧ x.2.length + i = N1 + (a.kids.length - i) + x.1) (i, L) ?_ ⟨Nat.le_refl _, hMb, hL, by dsimp only; omega⟩ ?_
  · dsimp only
    have hin := fun U => opsE_in (U := U) L
    rw [nodeL_eq a, nodeL_eq b]
    exact less_a
  clear hL hLl eLl
  rintro ⟨k, L⟩ ⟨hc3, hc4, hL, hLl⟩
  dsimp only at hc3 hc4 hL hLl ⊢
  rw [nodeL_eq a, nodeL_eq b]
  have eLl := opsE_len L
  by_cases hlt : k < b.kids.length
  · have hw : IntKind.i64.wrap ((k : Int) + 1) = (k : Int) + 1 := i64_nat (by omega) (by omega)
    have p1 := decimal_AC k (by omega)
    generalize txt (dig1 k) = st at *
    have po := op_AC .tight (by decide) 1 [st] b.kids[k] (hsm _ (List.getElem_mem hlt))
    have es1 : strsE [st] = [[AV.str st]] := rfl
    rw [es1] at po
    have hcy := node_clo b.kids[k]
    unfold nodeA at po hcy
    rw [nodeL_eq b.kids[k]] at po hcy
    have ho := one_clo st
    have b3 : (L.length + 1) * 136 ≤ 140737488355328 := by omega
    have b4 : L.length + 1 ≤ 140737488355328 := by omega
    have ol := opE_len (1, [st], [], b.kids[k])
    (repeat (first | with_reducible refine AW.seq ?_ | ((first | refine arun_kn 4 rfl (fun C hC => ?_) | refine arunD_kn 4 rfl (fun C hC => ?_)); (repeat ((conv => whnf); simp [hlt])); refine hC _ ?_; clear hC C; simp only [List.drop, Nat.reduceAdd]) | ((first | refine arun_kn 1 rfl (fun C hC => ?_) | refine arunD_kn 1 rfl (fun C hC => ?_)); (repeat ((conv => whnf); simp [hlt])); refine hC _ ?_; clear hC C; simp only [List.drop, Nat.reduceAdd]) | (refine arun_skip ?_ ?_; (focus (simp [awant, hlt]; done))) | (refine arunD_skip ?_ ?_; (focus (simp [awant, hlt]; done))) | (refine AW.regionK [] (fun K hK => ?_)) | (refine AW.condT ?_ ?_; (focus (simp [aev, hlt]; done))) | (refine AW.condF ?_ ?_; (focus (simp [aev, hlt]; done))) | with_reducible refine AW.block ?_ | ((first | ((first | refine arun_nil ?_ | refine arunD_nil ?_); refine hK _ ?_; clear hK K) | refine AW.skip ?_ | refine AW.exit ?_ | refine AW.ret ?_); simp only [thenA_exit, inBlockA_exit, if_true, if_false, Nat.reduceEqDiff, thenA_normal, inBlockA_normal, reduceIte, thenA_ret, inBlockA_ret, endQ_ret, endR_ret, endG_ret, endQ_normal, endR_normal, endG_normal])))
    refine AW.regionDK [] (pcs [(2, 0, fun r => r = .str st), (9, 0, fun r => r = .agg (opE (1, [st], [], b.kids[k])))] []) (by kernel_rfl) (by kernel_rfl) (fun K hK => ?_)
    (repeat (first | with_reducible refine AW.seq ?_ | ((first | refine arun_kn 4 rfl (fun C hC => ?_) | refine arunD_kn 4 rfl (fun C hC => ?_)); (repeat ((conv => whnf); simp [hlt, eLl, b3, b4, hw, ol])); refine hC _ ?_; clear hC C; simp only [List.drop, Nat.reduceAdd]) | ((first | refine arun_kn 1 rfl (fun C hC => ?_) | refine arunD_kn 1 rfl (fun C hC => ?_)); (repeat ((conv => whnf); simp [hlt, eLl, b3, b4, hw, ol])); refine hC _ ?_; clear hC C; simp only [List.drop, Nat.reduceAdd]) | (refine arun_skip ?_ ?_; (focus (simp [awant, hlt, eLl, b3, b4, hw, ol]; done))) | (refine arun_c0 (p1) ?_; rintro _ rfl) | (refine arun_c0 (po) ?_; rintro _ rfl) | (refine arunD_skip ?_ ?_; (focus (simp [awant, hlt, eLl, b3, b4, hw, ol]; done))) | (refine arunD_cE (0) (p1) (by exact ⟨_, rfl, in_str⟩) ?_; rintro _ rfl; intro _) | (refine arunD_cE (0) (po) (by exact ⟨_, rfl, opE_in _⟩) ?_; rintro _ rfl; intro _) | (refine AW.regionK [] (fun K hK => ?_)) | (refine AW.regionDK [] (pcs [] []) (by kernel_rfl) (by kernel_rfl) (fun K hK => ?_)) | (refine AW.condT ?_ ?_; (focus (simp [aev, hlt, eLl, b3, b4, hw, ol]; done))) | (refine AW.condF ?_ ?_; (focus (simp [aev, hlt, eLl, b3, b4, hw, ol]; done))) | with_reducible refine AW.block ?_ | ((first | ((first | refine arun_nil ?_ | refine arunD_nil ?_); refine hK _ ?_; clear hK K) | refine AW.skip ?_ | refine AW.exit ?_ | refine AW.ret ?_); simp only [thenA_exit, inBlockA_exit, if_true, if_false, Nat.reduceEqDiff, thenA_normal, inBlockA_normal, reduceIte, thenA_ret, inBlockA_ret, endQ_ret, endR_ret, endG_ret, endQ_normal, endR_normal, endG_normal])))
    refine ⟨(k + 1, L ++ [(1, [st], [], b.kids[k])]), by dsimp only; omega, ⟨by dsimp only; omega, by dsimp only; omega, path_app hL path_one, by dsimp only; rw [List.length_append, List.length_singleton]; omega⟩, ?_⟩
    dsimp only
    rw [← opsE_snoc]
    have hin : ∀ U : Nat → Bool, ∀ e ∈ opsE L ++ [opE (1, [st], [], b.kids[k])], ∀ c ∈ e, AV.In U c := fun U => by rw [opsE_snoc]; exact opsE_in _
    exact (less_of (by simp [lessL, mkSt, slots, List.length_append]) (by simp [upd, mkSt, rowsOf_cons, List.length_append]) (by simp [upd, mkSt, usedOf_cons, List.length_append]) (by first | exact rd_less (by omega) | simp [mkSt, List.length_append]) (by simp [slots, in_any, in_int, in_bool, in_str, in_ptr, in_own, in_agg, in_vnil, in_rdr, usedOf_cons, usedOf_nil, strs_in, ints_in, nodes_in, in_tup, List.length_append]) (by simp only [List.forall_mem_cons, List.not_mem_nil, false_implies, implies_true, and_true, true_and, List.length_append]; (repeat (first | with_reducible exact trivial | with_reducible refine And.intro ?_ ?_ | with_reducible exact in_int | with_reducible exact in_str | with_reducible exact in_bool | with_reducible exact strs_in _ | with_reducible exact nodes_in _ | with_reducible exact items_in _ | with_reducible exact in_vnil | with_reducible exact in_any | exact hin _ | with_reducible refine take_in ?_ | with_reducible exact strsE_in _ | with_reducible exact nodesE_in _ | with_reducible exact nodeL_in _ | with_reducible exact itemsE_in _ | with_reducible exact itemL_in _ | with_reducible refine app_in ?_ ?_ | with_reducible refine sing_in ?_ | (focus (simp [in_any, in_int, in_bool, in_str, in_ptr, in_own, in_agg, in_vnil, in_rdr, usedOf_cons, usedOf_nil, strs_in, ints_in, nodes_in, List.length_append]; done)))); done))
  · obtain rfl : k = b.kids.length := by omega
    have hsub := fun id m c => opsE_sub (id := id) (m := m) (c := c) L
    (repeat (first | with_reducible refine AW.seq ?_ | ((first | refine arun_kn 4 rfl (fun C hC => ?_) | refine arunD_kn 4 rfl (fun C hC => ?_)); (repeat ((conv => whnf); simp)); refine hC _ ?_; clear hC C; simp only [List.drop, Nat.reduceAdd]) | ((first | refine arun_kn 1 rfl (fun C hC => ?_) | refine arunD_kn 1 rfl (fun C hC => ?_)); (repeat ((conv => whnf); simp)); refine hC _ ?_; clear hC C; simp only [List.drop, Nat.reduceAdd]) | (refine arun_skip ?_ ?_; (focus (simp [awant]; done))) | (refine arunD_skip ?_ ?_; (focus (simp [awant]; done))) | (refine AW.condT ?_ ?_; (focus (simp [aev]; done))) | (refine AW.condF ?_ ?_; (focus (simp [aev]; done))) | with_reducible refine AW.block ?_ | ((first | ((first | refine arun_nil ?_ | refine arunD_nil ?_); refine hK _ ?_; clear hK K) | refine AW.skip ?_ | refine AW.exit ?_ | refine AW.ret ?_); simp only [thenA_exit, inBlockA_exit, if_true, if_false, Nat.reduceEqDiff, thenA_normal, inBlockA_normal, reduceIte, thenA_ret, inBlockA_ret, endQ_ret, endR_ret, endG_ret, endQ_normal, endR_normal, endG_normal])))
    refine AW.regionK [] (fun K hK => ?_)
    (repeat (first | with_reducible refine AW.seq ?_ | ((first | refine arun_kn 4 rfl (fun C hC => ?_) | refine arunD_kn 4 rfl (fun C hC => ?_)); (repeat ((conv => whnf); simp)); refine hC _ ?_; clear hC C; simp only [List.drop, Nat.reduceAdd]) | ((first | refine arun_kn 1 rfl (fun C hC => ?_) | refine arunD_kn 1 rfl (fun C hC => ?_)); (repeat ((conv => whnf); simp)); refine hC _ ?_; clear hC C; simp only [List.drop, Nat.reduceAdd]) | (refine arun_skip ?_ ?_; (focus (simp [awant]; done))) | (refine arunD_skip ?_ ?_; (focus (simp [awant]; done))) | (refine AW.condT ?_ ?_; (focus (simp [aev]; done))) | (refine AW.condF ?_ ?_; (focus (simp [aev]; done))) | with_reducible refine AW.block ?_ | ((first | ((first | refine arun_nil ?_ | refine arunD_nil ?_); refine hK _ ?_; clear hK K) | refine AW.skip ?_ | refine AW.exit ?_ | refine AW.ret ?_); simp only [thenA_exit, inBlockA_exit, if_true, if_false, Nat.reduceEqDiff, thenA_normal, inBlockA_normal, reduceIte, thenA_ret, inBlockA_ret, endQ_ret, endR_ret, endG_ret, endQ_normal, endR_normal, endG_normal])))
    refine AW.hold 50 ?_
    simp only [ASt.hold]
    (repeat (first | with_reducible refine AW.seq ?_ | ((first | refine arun_kn 4 rfl (fun C hC => ?_) | refine arunD_kn 4 rfl (fun C hC => ?_)); (repeat ((conv => whnf); simp [eLl, hsub, AV.subL, AV.sub, Row.sub, upd])); refine hC _ ?_; clear hC C; simp only [List.drop, Nat.reduceAdd]) | ((first | refine arun_kn 1 rfl (fun C hC => ?_) | refine arunD_kn 1 rfl (fun C hC => ?_)); (repeat ((conv => whnf); simp [eLl, hsub, AV.subL, AV.sub, Row.sub, upd])); refine hC _ ?_; clear hC C; simp only [List.drop, Nat.reduceAdd]) | (refine arun_skip ?_ ?_; (focus (simp [awant, eLl, hsub, AV.subL, AV.sub, Row.sub, upd]; done))) | (refine arunD_skip ?_ ?_; (focus (simp [awant, eLl, hsub, AV.subL, AV.sub, Row.sub, upd]; done))) | (refine AW.regionK [] (fun K hK => ?_)) | (refine AW.regionDK [] (pcs [] []) (by kernel_rfl) (by kernel_rfl) (fun K hK => ?_)) | (refine AW.condT ?_ ?_; (focus (simp [aev, eLl, hsub, AV.subL, AV.sub, Row.sub, upd]; done))) | (refine AW.condF ?_ ?_; (focus (simp [aev, eLl, hsub, AV.subL, AV.sub, Row.sub, upd]; done))) | with_reducible refine AW.block ?_ | ((first | ((first | refine arun_nil ?_ | refine arunD_nil ?_); refine hK _ ?_; clear hK K) | refine AW.skip ?_ | refine AW.exit ?_ | refine AW.ret ?_); simp only [thenA_exit, inBlockA_exit, if_true, if_false, Nat.reduceEqDiff, thenA_normal, inBlockA_normal, reduceIte, thenA_ret, inBlockA_ret, endQ_ret, endR_ret, endG_ret, endQ_normal, endR_normal, endG_normal])))
    exact ⟨.view .loose 8 (opsE L), by simp [ares, aresL, eLl], ops_pur L (by decide), L, by omega, hL, rfl⟩
theorem diff_step (d : Nat) (a b : Nd) (hd : d ≤ 10) (ha : shapeB a (d + 1) = true) (hb : shapeB b (d + 1) = true) (ka : a.count ≤ 40) (kb : b.count ≤ 40) (hle : difD (d + 1) a b ≤ 10000000000) (ih : ∀ x y, shapeB x d = true → shapeB y d = true → x.count ≤ 40 → y.count ≤ 40 → DifC d x y) : DifC (d + 1) a b := by
  unfold DifC
  refine AC.weak ?_
  have sa : Shp a := ⟨_, ha⟩
  have sb : Shp b := ⟨_, hb⟩
  have kid : ∀ n : Nd, shapeB n (d + 1) = true → ∀ x ∈ n.kids, shapeB x d = true := fun n hn x hx => by
    rw [shapeB_eq] at hn
    simp only [Bool.and_eq_true] at hn
    have h := hn.2
    rw [shapeL_all, List.all_eq_true] at h
    exact h x hx
  have ihk : ∀ x ∈ a.kids, ∀ y ∈ b.kids, DifC d x y := fun x hx y hy => ih x y (kid a ha x hx) (kid b hb y hy) (by have := count_kid hx; omega) (by have := count_kid hy; omega)
  have pS := specSame_AC a b ⟨_, ha⟩ ⟨_, hb⟩
  have hca := node_clo a
  have hcb := node_clo b
  have hM := fun h4a h4b => diffMaps_AC d a b (by omega) sa sb ka kb h4a h4b ihk
  have hL := diffLists_AC d a b (by omega) sa sb ihk
  have hP := op_AC .tight (by decide) 3 [] b sb.sml
  clear ihk kid ih ha hb
  unfold difD at hle ⊢
  unfold nodeA at *
  rw [nodeL_eq a, nodeL_eq b] at pS
  rw [nodeL_eq a] at hca
  rw [nodeL_eq b] at hcb hP
  rw [nodeL_eq a, nodeL_eq b] at hL
  rw [nodeL_eq a, nodeL_eq b]
  have hpe : ∀ o ∈ ([] : List Opr), o.2.1.length ≤ d + 1 := fun o ho => by cases ho
  cases hc : cmpN a b == 0
  rotate_left
  · rw [hc] at pS
    rw [if_pos rfl]
    refine AC.of tab_ok mixed_ok Tryd.func47 (by rfl) (by kernel_rfl) ?_; rintro ⟨P, T, hT, hm, w0, S0, rd0, k0⟩ hP hTT; dsimp only at hP hTT; subst hP hTT; unfold initSt; rw [Tryd.ntmps47]
    (repeat (first | with_reducible refine AW.seq ?_ | ((first | refine arun_kn 4 rfl (fun C hC => ?_) | refine arunD_kn 4 rfl (fun C hC => ?_)); (repeat ((conv => whnf); simp)); refine hC _ ?_; clear hC C; simp only [List.drop, Nat.reduceAdd]) | ((first | refine arun_kn 1 rfl (fun C hC => ?_) | refine arunD_kn 1 rfl (fun C hC => ?_)); (repeat ((conv => whnf); simp)); refine hC _ ?_; clear hC C; simp only [List.drop, Nat.reduceAdd]) | (refine arun_skip ?_ ?_; (focus (simp [awant]; done))) | (refine arun_c0 (pS) ?_; rintro _ rfl) | (refine arunD_skip ?_ ?_; (focus (simp [awant]; done))) | (refine AW.regionK [] (fun K hK => ?_)) | (refine AW.regionDK [] (pcs [] []) (by kernel_rfl) (by kernel_rfl) (fun K hK => ?_)) | (refine AW.condT ?_ ?_; (focus (simp [aev]; done))) | (refine AW.condF ?_ ?_; (focus (simp [aev]; done))) | with_reducible refine AW.block ?_ | ((first | ((first | refine arun_nil ?_ | refine arunD_nil ?_); refine hK _ ?_; clear hK K) | refine AW.skip ?_ | refine AW.exit ?_ | refine AW.ret ?_); simp only [thenA_exit, inBlockA_exit, if_true, if_false, Nat.reduceEqDiff, thenA_normal, inBlockA_normal, reduceIte, thenA_ret, inBlockA_ret, endQ_ret, endR_ret, endG_ret, endQ_normal, endR_normal, endG_normal])))
    exact ⟨.view .tight 8 [], by simp [ares, aresL], pur_view (by decide) (fun e he => by cases he), _, Wk.loose (by decide), [], rfl, hpe, rfl⟩
  rw [hc] at pS hle
  rw [if_neg (by simp)] at hle ⊢
  by_cases hmk : a.kind = 4 ∧ b.kind = 4
  · rw [if_pos hmk] at hle ⊢
    have hMM := hM hmk.1 hmk.2 hle
    rw [nodeL_eq a, nodeL_eq b] at hMM
    have f1 : (a.kind == 4) = true := by simpa using hmk.1
    have f2 : (b.kind == 4) = true := by simpa using hmk.2
    clear hM hL hP
    refine AC.of tab_ok mixed_ok Tryd.func47 (by rfl) (by kernel_rfl) ?_; rintro ⟨P, T, hT, hm, w0, S0, rd0, k0⟩ hP hTT; dsimp only at hP hTT; subst hP hTT; unfold initSt; rw [Tryd.ntmps47]
    (repeat (first | with_reducible refine AW.seq ?_ | ((first | refine arun_kn 4 rfl (fun C hC => ?_) | refine arunD_kn 4 rfl (fun C hC => ?_)); (repeat ((conv => whnf); simp [f1, f2])); refine hC _ ?_; clear hC C; simp only [List.drop, Nat.reduceAdd]) | ((first | refine arun_kn 1 rfl (fun C hC => ?_) | refine arunD_kn 1 rfl (fun C hC => ?_)); (repeat ((conv => whnf); simp [f1, f2])); refine hC _ ?_; clear hC C; simp only [List.drop, Nat.reduceAdd]) | (refine arun_skip ?_ ?_; (focus (simp [awant, f1, f2]; done))) | (refine arun_c0 (pS) ?_; rintro _ rfl) | (refine arun_c0 (hMM) ?_; (rintro _ ⟨l, hl, hlp, rfl⟩)) | (refine arunD_skip ?_ ?_; (focus (simp [awant, f1, f2]; done))) | (refine AW.regionK [] (fun K hK => ?_)) | (refine AW.regionDK [] (pcs [] []) (by kernel_rfl) (by kernel_rfl) (fun K hK => ?_)) | (refine AW.condT ?_ ?_; (focus (simp [aev, f1, f2]; done))) | (refine AW.condF ?_ ?_; (focus (simp [aev, f1, f2]; done))) | with_reducible refine AW.block ?_ | ((first | ((first | refine arun_nil ?_ | refine arunD_nil ?_); refine hK _ ?_; clear hK K) | refine AW.skip ?_ | refine AW.exit ?_ | refine AW.ret ?_); simp only [thenA_exit, inBlockA_exit, if_true, if_false, Nat.reduceEqDiff, thenA_normal, inBlockA_normal, reduceIte, thenA_ret, inBlockA_ret, endQ_ret, endR_ret, endG_ret, endQ_normal, endR_normal, endG_normal])))
    exact ⟨.view .loose 8 (opsE l), by simp [ares, aresL], ops_pur l (by decide), _, Wk.refl _, l, hl, hlp, rfl⟩
  rw [if_neg hmk] at hle ⊢
  by_cases hl : a.kind = 3 ∧ b.kind = 3
  · rw [if_pos hl] at hle ⊢
    have hLL := hL hle
    have f1 : (a.kind == 4) = false := by rw [hl.1]; rfl
    have f2 : (a.kind == 3) = true := by simpa using hl.1
    have f3 : (b.kind == 3) = true := by simpa using hl.2
    clear hM hL hP
    refine AC.of tab_ok mixed_ok Tryd.func47 (by rfl) (by kernel_rfl) ?_; rintro ⟨P, T, hT, hm, w0, S0, rd0, k0⟩ hP hTT; dsimp only at hP hTT; subst hP hTT; unfold initSt; rw [Tryd.ntmps47]
    (repeat (first | with_reducible refine AW.seq ?_ | ((first | refine arun_kn 4 rfl (fun C hC => ?_) | refine arunD_kn 4 rfl (fun C hC => ?_)); (repeat ((conv => whnf); simp [f1, f2, f3])); refine hC _ ?_; clear hC C; simp only [List.drop, Nat.reduceAdd]) | ((first | refine arun_kn 1 rfl (fun C hC => ?_) | refine arunD_kn 1 rfl (fun C hC => ?_)); (repeat ((conv => whnf); simp [f1, f2, f3])); refine hC _ ?_; clear hC C; simp only [List.drop, Nat.reduceAdd]) | (refine arun_skip ?_ ?_; (focus (simp [awant, f1, f2, f3]; done))) | (refine arun_c0 (pS) ?_; rintro _ rfl) | (refine arun_c0 (hLL) ?_; (rintro _ ⟨l, hl, hlp, rfl⟩)) | (refine arunD_skip ?_ ?_; (focus (simp [awant, f1, f2, f3]; done))) | (refine AW.regionK [] (fun K hK => ?_)) | (refine AW.regionDK [] (pcs [] []) (by kernel_rfl) (by kernel_rfl) (fun K hK => ?_)) | (refine AW.condT ?_ ?_; (focus (simp [aev, f1, f2, f3]; done))) | (refine AW.condF ?_ ?_; (focus (simp [aev, f1, f2, f3]; done))) | with_reducible refine AW.block ?_ | ((first | ((first | refine arun_nil ?_ | refine arunD_nil ?_); refine hK _ ?_; clear hK K) | refine AW.skip ?_ | refine AW.exit ?_ | refine AW.ret ?_); simp only [thenA_exit, inBlockA_exit, if_true, if_false, Nat.reduceEqDiff, thenA_normal, inBlockA_normal, reduceIte, thenA_ret, inBlockA_ret, endQ_ret, endR_ret, endG_ret, endQ_normal, endR_normal, endG_normal])))
    exact ⟨.view .loose 8 (opsE l), by simp [ares, aresL], ops_pur l (by decide), _, Wk.refl _, l, hl, hlp, rfl⟩
  rw [if_neg hl] at hle ⊢
  have h0 : strsE [] = [] := rfl
  rw [h0] at hP
  have ol := opE_len (3, [], [], b)
  have ht : Clo (.view .tight 1 []) := (pur_view (by decide) (fun e he => by cases he)).clo
  have hp1 : ∀ o ∈ [((3, [], [], b) : Opr)], o.2.1.length ≤ d + 1 := fun o ho => by rw [List.mem_singleton.1 ho]; simp
  have hend : Pur (.view .tight 8 [opE (3, [], [], b)]) := ops_pur [(3, [], [], b)] (by decide)
  clear hM hL
  refine AC.of tab_ok mixed_ok Tryd.func47 (by rfl) (by kernel_rfl) ?_; rintro ⟨P, T, hT, hm, w0, S0, rd0, k0⟩ hP hTT; dsimp only at hP hTT; subst hP hTT; unfold initSt; rw [Tryd.ntmps47]
  cases f1 : a.kind == 4
  · cases f3 : a.kind == 3
    · (repeat (first | with_reducible refine AW.seq ?_ | ((first | refine arun_kn 4 rfl (fun C hC => ?_) | refine arunD_kn 4 rfl (fun C hC => ?_)); (repeat ((conv => whnf); simp [f1, f3, ol])); refine hC _ ?_; clear hC C; simp only [List.drop, Nat.reduceAdd]) | ((first | refine arun_kn 1 rfl (fun C hC => ?_) | refine arunD_kn 1 rfl (fun C hC => ?_)); (repeat ((conv => whnf); simp [f1, f3, ol])); refine hC _ ?_; clear hC C; simp only [List.drop, Nat.reduceAdd]) | (refine arun_skip ?_ ?_; (focus (simp [awant, f1, f3, ol]; done))) | (refine arun_c0 (pS) ?_; rintro _ rfl) | (refine arun_c0 (hP) ?_; rintro _ rfl) | (refine arunD_skip ?_ ?_; (focus (simp [awant, f1, f3, ol]; done))) | (refine AW.regionK [] (fun K hK => ?_)) | (refine AW.regionDK [] (pcs [] []) (by kernel_rfl) (by kernel_rfl) (fun K hK => ?_)) | (refine AW.condT ?_ ?_; (focus (simp [aev, f1, f3, ol]; done))) | (refine AW.condF ?_ ?_; (focus (simp [aev, f1, f3, ol]; done))) | with_reducible refine AW.block ?_ | ((first | ((first | refine arun_nil ?_ | refine arunD_nil ?_); refine hK _ ?_; clear hK K) | refine AW.skip ?_ | refine AW.exit ?_ | refine AW.ret ?_); simp only [thenA_exit, inBlockA_exit, if_true, if_false, Nat.reduceEqDiff, thenA_normal, inBlockA_normal, reduceIte, thenA_ret, inBlockA_ret, endQ_ret, endR_ret, endG_ret, endQ_normal, endR_normal, endG_normal])))
      exact ⟨.view .tight 8 [opE (3, [], [], b)], by simp [ares, aresL], hend, _, Wk.loose (by decide), [(3, [], [], b)], rfl, hp1, rfl⟩
    · have f4 : (b.kind == 3) = false := by
        rw [beq_iff_eq] at f3
        simpa using fun h => hl ⟨f3, h⟩
      (repeat (first | with_reducible refine AW.seq ?_ | ((first | refine arun_kn 4 rfl (fun C hC => ?_) | refine arunD_kn 4 rfl (fun C hC => ?_)); (repeat ((conv => whnf); simp [f1, f3, f4, ol])); refine hC _ ?_; clear hC C; simp only [List.drop, Nat.reduceAdd]) | ((first | refine arun_kn 1 rfl (fun C hC => ?_) | refine arunD_kn 1 rfl (fun C hC => ?_)); (repeat ((conv => whnf); simp [f1, f3, f4, ol])); refine hC _ ?_; clear hC C; simp only [List.drop, Nat.reduceAdd]) | (refine arun_skip ?_ ?_; (focus (simp [awant, f1, f3, f4, ol]; done))) | (refine arun_c0 (pS) ?_; rintro _ rfl) | (refine arun_c0 (hP) ?_; rintro _ rfl) | (refine arunD_skip ?_ ?_; (focus (simp [awant, f1, f3, f4, ol]; done))) | (refine AW.regionK [] (fun K hK => ?_)) | (refine AW.regionDK [] (pcs [] []) (by kernel_rfl) (by kernel_rfl) (fun K hK => ?_)) | (refine AW.condT ?_ ?_; (focus (simp [aev, f1, f3, f4, ol]; done))) | (refine AW.condF ?_ ?_; (focus (simp [aev, f1, f3, f4, ol]; done))) | with_reducible refine AW.block ?_ | ((first | ((first | refine arun_nil ?_ | refine arunD_nil ?_); refine hK _ ?_; clear hK K) | refine AW.skip ?_ | refine AW.exit ?_ | refine AW.ret ?_); simp only [thenA_exit, inBlockA_exit, if_true, if_false, Nat.reduceEqDiff, thenA_normal, inBlockA_normal, reduceIte, thenA_ret, inBlockA_ret, endQ_ret, endR_ret, endG_ret, endQ_normal, endR_normal, endG_normal])))
      exact ⟨.view .tight 8 [opE (3, [], [], b)], by simp [ares, aresL], hend, _, Wk.loose (by decide), [(3, [], [], b)], rfl, hp1, rfl⟩
  · have f2 : (b.kind == 4) = false := by
      rw [beq_iff_eq] at f1
      simpa using fun h => hmk ⟨f1, h⟩
    have f3 : (a.kind == 3) = false := by
      rw [beq_iff_eq] at f1
      rw [f1]; rfl
    (repeat (first | with_reducible refine AW.seq ?_ | ((first | refine arun_kn 4 rfl (fun C hC => ?_) | refine arunD_kn 4 rfl (fun C hC => ?_)); (repeat ((conv => whnf); simp [f1, f2, f3, ol])); refine hC _ ?_; clear hC C; simp only [List.drop, Nat.reduceAdd]) | ((first | refine arun_kn 1 rfl (fun C hC => ?_) | refine arunD_kn 1 rfl (fun C hC => ?_)); (repeat ((conv => whnf); simp [f1, f2, f3, ol])); refine hC _ ?_; clear hC C; simp only [List.drop, Nat.reduceAdd]) | (refine arun_skip ?_ ?_; (focus (simp [awant, f1, f2, f3, ol]; done))) | (refine arun_c0 (pS) ?_; rintro _ rfl) | (refine arun_c0 (hP) ?_; rintro _ rfl) | (refine arunD_skip ?_ ?_; (focus (simp [awant, f1, f2, f3, ol]; done))) | (refine AW.regionK [] (fun K hK => ?_)) | (refine AW.regionDK [] (pcs [] []) (by kernel_rfl) (by kernel_rfl) (fun K hK => ?_)) | (refine AW.condT ?_ ?_; (focus (simp [aev, f1, f2, f3, ol]; done))) | (refine AW.condF ?_ ?_; (focus (simp [aev, f1, f2, f3, ol]; done))) | with_reducible refine AW.block ?_ | ((first | ((first | refine arun_nil ?_ | refine arunD_nil ?_); refine hK _ ?_; clear hK K) | refine AW.skip ?_ | refine AW.exit ?_ | refine AW.ret ?_); simp only [thenA_exit, inBlockA_exit, if_true, if_false, Nat.reduceEqDiff, thenA_normal, inBlockA_normal, reduceIte, thenA_ret, inBlockA_ret, endQ_ret, endR_ret, endG_ret, endQ_normal, endR_normal, endG_normal])))
    exact ⟨.view .tight 8 [opE (3, [], [], b)], by simp [ares, aresL], hend, _, Wk.loose (by decide), [(3, [], [], b)], rfl, hp1, rfl⟩
end Go.Proofs.YtmmaanbppheabaaDoor.Eng
-- EV: skip
namespace Go.Proofs.YtmmaanbppheabaaDoor.Eng
open Go Go.RowKit
attribute [local simp] big size_mk ASt.pay Option.map_map Function.comp_def awant aop acall ado aev ofVal ofVal0 ASt.put ASt.add ASt.turn ASt.kill abox aalloc astore aload aloadD astoreD idOf ASt.at cellsTo afieldAddr afield aindexAddr aindex alen abin aint acmp astr aun apick aextract anil aslice abound abuild afill abuildSlice asCells aps avCells over upd aappend asrc amax amin aconv mkSt slots rowsOf_cons rowsOf_nil usedOf_cons usedOf_nil ZK.av List.replicate ASt.back ASt.addL ASt.killL nodeA nodeT nodeTL_eq nodeL_eq strsE_get strsE_len intsE_get intsE_len strsE_at intsE_at tab2 tab3 tab4 tab5 tab6 tab7 tab8 tab9 tab10 tab11 tab12 tab13 tab14 tab15 tab16 tab17 tab18 tab19 tab21 tab22 tab23 tab24 tab25 tab26 tab27 tab31 tab32 tab33 tab35 tab36 tab41 tab58 tab67 tab69 tab70 tab81 tab82 tab85 tab86 tab92 tab93 tab95 tab105 tab111 tab117 tab124 tab125 tab130 tab131 tab133 tab134 tab135
def OpsP (es : List (List AV)) : Prop := ∀ e ∈ es, ∀ c ∈ e, Pur c ∧ NoId c ∧ ∀ (id m : Nat) (x : AV), AV.sub id m x c = c
def boxD (A m : Nat) : Row := ⟨true, 70, 1, [[.own A m]]⟩
def opsR (es : List (List AV)) : Row := ⟨false, 93, 8, es⟩
def rowsDf (es : List (List AV)) : List (Nat × Row) := [(1000, boxD 1001 es.length), (1001, opsR es)]
def PostDf (es : List (List AV)) (k : Nat) (r : AV) (l : List (Nat × Row)) : Prop := ∃ es' A, OpsP es' ∧ es'.length = es.length + k ∧ A ≠ 1000 ∧ r = .tup [] ∧ l = [(1000, boxD A es'.length), (A, opsR es')]
def nuD (idx A : Nat) (k : Nat) : Nat := if k = 1000 then idx else A
def backD (es : List (List AV)) (idx B : Nat) : List (Nat × Row) := [(idx, boxD B es.length), (B, opsR es)]
theorem OpsP.nil : OpsP [] := fun e he => by cases he
theorem OpsP.in {es : List (List AV)} (h : OpsP es) (U : Nat → Bool) : ∀ e ∈ es, ∀ c ∈ e, AV.In U c := fun e he c hc => (h e he c hc).2.1.mono (fun _ h => by cases h)
theorem OpsP.sub {es : List (List AV)} (h : OpsP es) {id m : Nat} {c : AV} : es.map (AV.subL id m c) = es := by
  have hL : ∀ e : List AV, (∀ x ∈ e, ∀ (id m : Nat) (y : AV), AV.sub id m y x = x) → AV.subL id m c e = e := fun e => by
    induction e with
    | nil => intro _; unfold AV.subL; rfl
    | cons x xs ih => intro h; rw [subL_cons, h x List.mem_cons_self, ih (fun y hy => h y (List.mem_cons_of_mem _ hy))]
  refine (List.map_congr_left (fun e he => ?_)).trans (List.map_id es)
  exact hL e (fun x hx => (h e he x hx).2.2)
theorem purD {es : List (List AV)} (h : OpsP es) {A : Nat} : ∀ p ∈ [(1000, boxD A es.length), (A, opsR es)], ∀ e ∈ p.2.es, ∀ c ∈ e, PurR c := by
  simp only [List.forall_mem_cons, List.not_mem_nil, false_implies, implies_true, and_true, boxD]
  exact ⟨purR_own, fun e he c hc => (h e he c hc).1.purR⟩
theorem inD' {es : List (List AV)} (h : OpsP es) {A : Nat} : ∀ p ∈ [(1000, boxD A es.length), (A, opsR es)], ∀ e ∈ p.2.es, ∀ c ∈ e, AV.In (fun id => (rowsOf [(1000, boxD A es.length), (A, opsR es)] id).isSome) c := by
  simp only [List.forall_mem_cons, List.not_mem_nil, false_implies, implies_true, and_true, boxD]
  refine ⟨in_own.2 ?_, fun e he c hc => h.in _ e he c hc⟩
  simp only [rowsOf_cons]; split <;> simp
theorem back_D {s : ASt} {es es' : List (List AV)} (hes : OpsP es') {idx A0 A B : Nat} (ha : A ≠ 1000) (hB : B ≠ idx) (uB : s.used B = false) :
    Back s (rowsDf es) (nuD idx A0) (nuD idx B) [(1000, boxD A es'.length), (A, opsR es')] (backD es' idx B) (.tup []) (.tup []) := by
  have m0 : nuD idx B 1000 = idx := by unfold nuD; rw [if_pos rfl]
  have m1 : nuD idx B A = B := by unfold nuD; rw [if_neg ha]
  refine ⟨?_, ?_, ?_, .base (.base (.pur ?_))⟩
  · intro k hk k' hk'
    simp only [List.map_cons, List.map_nil, List.mem_cons, List.not_mem_nil, or_false] at hk hk'
    rcases hk with rfl | rfl <;> rcases hk' with rfl | rfl <;> simp only [m0, m1] <;> intro h <;> first | rfl | omega
  · intro k R hk
    have hmem := rowsOf_key hk
    simp only [List.map_cons, List.map_nil, List.mem_cons, List.not_mem_nil, or_false] at hmem
    rcases hmem with rfl | rfl
    · left
      rw [rowsOf_cons, if_pos rfl] at hk
      cases hk
      exact ⟨by rw [m0]; unfold nuD; rw [if_pos rfl], rfl, _, by unfold rowsDf; rw [rowsOf_cons, if_pos rfl], rfl⟩
    · right; rw [m1]; exact uB
  · exact .cons (es := [[.own B es'.length]]) m0.symm (.box (.cons (.own (by simp) m1.symm) .nil)) (.cons (es := es') m1.symm (.refl (fun e he c hc => (hes e he c hc).1)) .nil)
  · exact fun w ρ v hr => by
      obtain ⟨vs, rfl, h2⟩ := rep_tup.1 hr
      exact rep_tup.2 ⟨vs, rfl, by unfold RepL at h2 ⊢; exact h2⟩
section
variable {P : Program} {T : Tab} {k0 : Nat} {md : List Nat} {Av : Nat → Prop} {pc : Pc} {ops : Array Oper} {K : ASt → Prop} {o : Oper} {l : List Oper} {s : ASt} {f : FuncId} {xs : List Operand} {args : List AV}
theorem nuD_inj {es : List (List AV)} {idx A0 : Nat} (h1 : A0 ≠ idx) : ∀ k ∈ (rowsDf es).map (·.1), ∀ k' ∈ (rowsDf es).map (·.1), nuD idx A0 k = nuD idx A0 k' → k = k' := by
  intro k hk k' hk'
  simp only [rowsDf, List.map_cons, List.map_nil, List.mem_cons, List.not_mem_nil, or_false] at hk hk'
  rcases hk with rfl | rfl <;> rcases hk' with rfl | rfl <;> simp [nuD] <;> intro h <;> omega
theorem rowsDf_mv {es : List (List AV)} (hes : OpsP es) {idx A0 : Nat} (h1 : s.rows idx = some (boxD A0 es.length)) (h2 : s.rows A0 = some (opsR es)) : MvR s.rows ((rowsDf es).map (·.1)) (nuD idx A0) (rowsDf es) := by
  refine MvR.cons (R := boxD A0 es.length) (by unfold nuD; rw [if_pos rfl]; exact h1) rfl rfl rfl (.box (.cons (.own (by simp [rowsDf]) (by simp [nuD])) .nil)) ?_
  exact MvR.same (by simp [nuD]; exact h2) (fun e he c hc => (hes e he c hc).1.clo) MvR.nil
theorem arun_callDf {es : List (List AV)} {k : Nat} (hes : OpsP es) (idx A0 B : Nat) (hac : ACG P f args (rowsDf es) 0 (PostDf es k))
    (h1 : s.rows idx = some (boxD A0 es.length)) (h2 : s.rows A0 = some (opsR es)) (hd : A0 ≠ idx) (hB : B ≠ idx) (uB : s.used B = false)
    (hw : awant ops o s = some true) (ha : acall o.op = some (f, xs)) (hargs : MvL s.rows ((rowsDf es).map (·.1)) (nuD idx A0) (xs.map (aev s)) args) (hcan : s.can 0)
    (h : ∀ es', OpsP es' → es'.length = es.length + k → ARun P T k0 Av md ops K l ((s.back (rowsDf es) (nuD idx A0) 0 (backD es' idx B)).put o.dst (.tup []))) : ARun P T k0 Av md ops K (o :: l) s :=
  arun_callG (rowsDf es) (nuD idx A0) hw ha rfl ⟨hac, nuD_inj hd, rowsDf_mv hes h1 h2, hargs, hcan⟩ (fun r l' hp => by
    obtain ⟨es', A, q1, q2, q3, rfl, rfl⟩ := hp
    exact ⟨_, _, _, back_D q1 q3 hB uB, h es' q1 q2⟩)
theorem arunD_callDf {j : Nat} {es : List (List AV)} {k : Nat} (hes : OpsP es) (idx A0 B : Nat) (hac : ACG P f args (rowsDf es) 0 (PostDf es k))
    (h1 : s.rows idx = some (boxD A0 es.length)) (h2 : s.rows A0 = some (opsR es)) (hd : A0 ≠ idx) (hB : B ≠ idx) (uB : s.used B = false)
    (hl : pc.2.contains (1000 + j) = true) (hw : awant ops o s = some true) (ha : acall o.op = some (f, xs)) (hargs : MvL s.rows ((rowsDf es).map (·.1)) (nuD idx A0) (xs.map (aev s)) args) (hcan : s.can 0)
    (h : ∀ es', OpsP es' → es'.length = es.length + k → ARunD P T md Av pc ops K l (j + 1) ((s.back (rowsDf es) (nuD idx A0) 0 (backD es' idx B)).put o.dst (.tup []))) : ARunD P T md Av pc ops K (o :: l) j s :=
  arunD_spcG (rowsDf es) (nuD idx A0) hl hw ha rfl ⟨hac, nuD_inj hd, rowsDf_mv hes h1 h2, hargs, hcan⟩ ⟨.tup [], [(1000, boxD 1001 (es ++ List.replicate k []).length), (1001, opsR (es ++ List.replicate k []))], es ++ List.replicate k [], 1001, (fun e he c hc => by
      rcases List.mem_append.1 he with he | he
      · exact hes e he c hc
      · rw [List.eq_of_mem_replicate he] at hc; cases hc), by simp, by decide, rfl, rfl⟩ (fun r l' hp => by
    obtain ⟨es', A, q1, q2, q3, rfl, rfl⟩ := hp
    have hin : BackIn (backD es' idx B) (.tup []) := by
      refine ⟨in_tup.2 (fun _ h => by cases h), ?_⟩
      unfold backD
      simp only [List.forall_mem_cons, List.not_mem_nil, false_implies, implies_true, and_true, boxD]
      refine ⟨in_own.2 ?_, fun e he c hc => q1.in _ e he c hc⟩
      show (rowsOf _ B).isSome = true
      rw [rowsOf_cons, if_neg hB, rowsOf_cons, if_pos rfl]; rfl
    exact ⟨_, _, _, back_D q1 q3 hB uB, hin, h es' q1 q2⟩)
end
def opC (kd : Int) (p : List ByteArray) (v : Nd) : List AV := [.int .i64 kd, .view .loose 1 (strsE p), .view .tight 0 [], .int .i64 v.kind, .int .i64 v.num, .str v.text, .view .loose 1 (strsE v.names), .view .loose 5 (v.kids.map nodeL)]
theorem OpsP.snoc {es : List (List AV)} (h : OpsP es) (kd : Int) (p : List ByteArray) (v : Nd) : OpsP (es ++ [opC kd p v]) := fun e he => by
  rcases List.mem_append.1 he with he | he
  · exact h e he
  rw [List.mem_singleton.1 he]
  have h0 : Pur (.view .tight 0 []) := pur_view (by decide) (fun e he => by cases he)
  unfold opC
  simp only [List.forall_mem_cons, List.not_mem_nil, false_implies, implies_true, and_true]
  exact ⟨⟨pur_int, in_int, fun _ _ _ => by simp [AV.sub]⟩, ⟨strs_pur _ (by decide), strs_in _, fun _ _ _ => by simp [AV.sub, strsE_sub]⟩, ⟨h0, in_view.2 (fun e he => by cases he), fun _ _ _ => by simp [AV.sub]⟩, ⟨pur_int, in_int, fun _ _ _ => by simp [AV.sub]⟩, ⟨pur_int, in_int, fun _ _ _ => by simp [AV.sub]⟩, ⟨pur_str, in_str, fun _ _ _ => by simp [AV.sub]⟩, ⟨strs_pur _ (by decide), strs_in _, fun _ _ _ => by simp [AV.sub, strsE_sub]⟩, nodes_pur _ (by decide), in_view.2 (nodesE_in _), fun _ _ _ => by simp only [AV.sub, nodesE_sub]⟩
set_option maxRecDepth 100000
set_option maxHeartbeats 8000000
theorem put_ACG (t : VC) (kd : Int) (p : List ByteArray) (v : Nd) (hv : Sml v) (hp : p.length ≤ 1000) (es : List (List AV)) (hes : OpsP es) (hb : es.length + 1 ≤ 10000000000) :
    ACG Tryd.prog 75 [.ptr true 1 1 1000 0 0, .int .i64 kd, .view t 1 (strsE p), nodeA v] (rowsDf es) 0 (PostDf es 1) := by
  have p1 := copyTexts_AC t p hp
  have p2 := implCopy_AC v hv
  have hb1 : (es.length + 1) * 136 ≤ 140737488355328 := by omega
  have hb2 : es.length + 1 ≤ 140737488355328 := by omega
  have iv := node_in (U := fun _ => false) v
  unfold nodeA at p2 iv ⊢
  rw [nodeL_eq v] at p2 iv ⊢
  unfold rowsDf boxD opsR
  refine ACG.of tab_ok mixed_ok Tryd.func75 (by rfl) (by kernel_rfl) (by simp) ?_; rintro ⟨P, T, hT, hm, w0, S0, rd0, k0⟩ hP hTT; dsimp only at hP hTT; subst hP hTT; unfold initStG; rw [Tryd.ntmps75]
  (repeat (first | with_reducible refine AW.seq ?_ | ((first | refine arun_kn 4 rfl (fun C hC => ?_) | refine arunD_kn 4 rfl (fun C hC => ?_)); (repeat ((conv => whnf); simp [hb1, hb2])); refine hC _ ?_; clear hC C; simp only [List.drop, Nat.reduceAdd]) | ((first | refine arun_kn 1 rfl (fun C hC => ?_) | refine arunD_kn 1 rfl (fun C hC => ?_)); (repeat ((conv => whnf); simp [hb1, hb2])); refine hC _ ?_; clear hC C; simp only [List.drop, Nat.reduceAdd]) | (refine arun_skip ?_ ?_; (focus (simp [awant, hb1, hb2]; done))) | (refine arunD_skip ?_ ?_; (focus (simp [awant, hb1, hb2]; done))) | (refine AW.regionK [] (fun K hK => ?_)) | (refine AW.condT ?_ ?_; (focus (simp [aev, hb1, hb2]; done))) | (refine AW.condF ?_ ?_; (focus (simp [aev, hb1, hb2]; done))) | with_reducible refine AW.block ?_ | ((first | ((first | refine arun_nil ?_ | refine arunD_nil ?_); refine hK _ ?_; clear hK K) | refine AW.skip ?_ | refine AW.exit ?_ | refine AW.ret ?_); simp only [thenA_exit, inBlockA_exit, if_true, if_false, Nat.reduceEqDiff, thenA_normal, inBlockA_normal, reduceIte, thenA_ret, inBlockA_ret, endQ_ret, endR_ret, endG_ret, endQ_normal, endR_normal, endG_normal])))
  refine AW.regionDK [] (pcs [(7, 0, fun r => r = .view .loose 1 (strsE p)), (9, 0, fun r => r = .agg [.int .i64 v.kind, .int .i64 v.num, .str v.text, .view .loose 1 (strsE v.names), .view .loose 5 (v.kids.map nodeL)])] []) (by kernel_rfl) (by kernel_rfl) (fun K hK => ?_)
  (repeat (first | with_reducible refine AW.seq ?_ | ((first | refine arun_kn 4 rfl (fun C hC => ?_) | refine arunD_kn 4 rfl (fun C hC => ?_)); (repeat ((conv => whnf); simp [hb1, hb2])); refine hC _ ?_; clear hC C; simp only [List.drop, Nat.reduceAdd]) | ((first | refine arun_kn 1 rfl (fun C hC => ?_) | refine arunD_kn 1 rfl (fun C hC => ?_)); (repeat ((conv => whnf); simp [hb1, hb2])); refine hC _ ?_; clear hC C; simp only [List.drop, Nat.reduceAdd]) | (refine arun_skip ?_ ?_; (focus (simp [awant, hb1, hb2]; done))) | (refine arun_c0 (p1) ?_; rintro _ rfl) | (refine arun_c0 (p2) ?_; rintro _ rfl) | (refine arunD_skip ?_ ?_; (focus (simp [awant, hb1, hb2]; done))) | (refine arunD_cE (0) (p1) (by exact ⟨_, rfl, strs_in p⟩) ?_; rintro _ rfl; intro _) | (refine arunD_cE (0) (p2) (by exact ⟨_, rfl, iv⟩) ?_; rintro _ rfl; intro _) | (refine AW.regionK [] (fun K hK => ?_)) | (refine AW.regionDK [] (pcs [] []) (by kernel_rfl) (by kernel_rfl) (fun K hK => ?_)) | (refine AW.condT ?_ ?_; (focus (simp [aev, hb1, hb2]; done))) | (refine AW.condF ?_ ?_; (focus (simp [aev, hb1, hb2]; done))) | with_reducible refine AW.block ?_ | ((first | ((first | refine arun_nil ?_ | refine arunD_nil ?_); refine hK _ ?_; clear hK K) | refine AW.skip ?_ | refine AW.exit ?_ | refine AW.ret ?_); simp only [thenA_exit, inBlockA_exit, if_true, if_false, Nat.reduceEqDiff, thenA_normal, inBlockA_normal, reduceIte, thenA_ret, inBlockA_ret, endQ_ret, endR_ret, endG_ret, endQ_normal, endR_normal, endG_normal])))
  refine ⟨.tup [], [(1000, boxD 1001 (es ++ [opC kd p v]).length), (1001, opsR (es ++ [opC kd p v]))], by simp [ares, aresL], ?_, purR_tup (fun _ h => by cases h), purD (hes.snoc kd p v), ⟨in_tup.2 (fun _ h => by cases h), inD' (hes.snoc kd p v)⟩, es ++ [opC kd p v], 1001, hes.snoc kd p v, by simp, by decide, rfl, rfl⟩
  unfold boxD opsR opC
  simp only [List.forall_mem_cons, List.not_mem_nil, false_implies, implies_true, and_true, List.length_append, List.length_cons, List.length_nil]
  exact ⟨rfl, rfl⟩
end Go.Proofs.YtmmaanbppheabaaDoor.Eng
