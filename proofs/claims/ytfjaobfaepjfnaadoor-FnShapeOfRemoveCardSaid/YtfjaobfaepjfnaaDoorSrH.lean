/-
  Texts of this claim, joined.
-/
import Derived.Shelf.RegionOpenPlain
import Derived.Test.YtfjaobfaepjfnaaDoorSrG

set_option linter.unusedSimpArgs false
set_option linter.unusedVariables false
set_option linter.unnecessarySimpa false
set_option maxRecDepth 100000
set_option maxHeartbeats 16000000
namespace Go.Proofs.YtfjaobfaepjfnaaDoor
open Go Go.RowKit Go.Proofs.YtfjaobfaepjfnaaDoor.Eng
theorem delS_last (w : World) (b i : Nat) (L : List Value) (hb : Row0 w b L 9) (hL : L.length = (i + 1) * 1) (hc : i + 1 ≤ maxLen) :
    Calls Tryd.prog 61 #[.slice (some ⟨b, 0, none⟩) (i + 1) (i + 1), .int .i64 i, .int .i64 ((i : Int) + 1)] w fun e w' =>
      ∃ L', e = .returned (.slice (some ⟨b, 0, none⟩) i (i + 1)) ∧ Ext (fun k => k = b) w w' ∧ Row0 w' b L' 9 ∧ L'.length = (i + 1) * 1 ∧ L'.take (i * 1) = L.take (i * 1) := by
  obtain ⟨d, j, hs⟩ := TI.says (tab_ok _ _ tab9)
  obtain ⟨j', zv, zs, k1, k2, k3, k3', k3'', k4, k5, k6⟩ := zero_ok (w := w) (ρ := pureC nil nil none) (tab_ok _ _ tab9) (by decide)
  rw [hs.inf] at k1; cases k1
  have hjs := hs.sz
  have hinf := hs.inf
  dsimp only at hjs k6
  have hzs : zv.cells.size = j.size := by rw [k3, hjs]; simpa using k6
  have hz1c : ∀ u ∈ zv.cells.toList, u.oneCell' = true := by rw [k3]; simpa using k5
  have hc63 : i + 1 ≤ 9223372036854775807 := by unfold maxLen at hc; exact hc
  have mixed := mixed_ok
  have hz1 : ¬ ((i : Int) = (i : Int) + 1) := by omega
  have hb1 : (0 : Int) ≤ (i : Int) + 1 := by omega
  have hb2 : (0 : Int) ≤ (i : Int) := by omega
  have hb3 : (i : Int) ≤ (i : Int) + 1 := by omega
  have htn : ((i : Int) + 1).toNat = i + 1 := by omega
  have hni : ¬ (i + 1 = i) := by omega
  have hll : i + 1 - i = 1 := by omega
  have hX1 : ∀ v ∈ ([] : List Value), v.oneCell' = true := fun v hv => by cases hv
  have HB := Lib.hid hb
  clear hb
  go_enter Tryd.func61, Tryd.ntmps61
  go_wp2_with fail
  go_region_law_o (refine step_appendN rfl (.tmp 22) (.tmp 25) 23 9 rfl j Tryd.underlying23 hinf b i (i + 1) b 0 0 0 (by simp [Act.eval, Act.put]) (by simp [Act.eval, Act.put]) L L 9 HB.out HB.out [] (by simp) (by simp) (by omega) (by rw [hjs, hL]; simp only [List.length_nil]; omega) hX1 ?_; intro w2 R2 E2)
  have hsp : splice L (i * j.size) [] = L := by unfold splice; simp
  rw [hsp] at R2
  go_wp2_with (refine wpList_clearN rfl (.tmp 31) 23 9 rfl j zv Tryd.underlying23 hinf k2 hzs hz1c b _ _ _ rfl (by omega) _ R2 (by rw [hjs, hL]; omega) ?_; intro v3 w3 Z R3 Zl Z1 E3)
  go_ret
  refine ⟨_, by simp, Ext.trans (Ext.trans (Ext.drew (Ext.refl _ w)) E2) E3, R3, by rw [length_splice _ _ _ (by rw [hL, Zl, hjs]; omega), hL], ?_⟩
  unfold splice
  rw [List.take_append_of_le_length (by rw [List.length_take, hL]; omega), List.take_take]
  simp
theorem delS_mid (w : World) (b n c i : Nat) (L : List Value) (hb : Row0 w b L 9) (hL : L.length = c * 1) (hi : i < n) (hnc : n ≤ c) (hc : c ≤ maxLen) (hci : ¬ c = i + 1) (h1 : ∀ u ∈ L.take (n * 1), u.oneCell' = true) :
    Calls Tryd.prog 61 #[.slice (some ⟨b, 0, none⟩) n c, .int .i64 i, .int .i64 ((i : Int) + 1)] w fun e w' =>
      ∃ L', e = .returned (.slice (some ⟨b, 0, none⟩) (n - 1 : Nat) c) ∧ Ext (fun k => k = b) w w' ∧ Row0 w' b L' 9 ∧ L'.length = c * 1 ∧ L'.take ((n - 1) * 1) = L.take (i * 1) ++ (L.take (n * 1)).drop ((i + 1) * 1) := by
  obtain ⟨d, j, hs⟩ := TI.says (tab_ok _ _ tab9)
  obtain ⟨j', zv, zs, k1, k2, k3, k3', k3'', k4, k5, k6⟩ := zero_ok (w := w) (ρ := pureC nil nil none) (tab_ok _ _ tab9) (by decide)
  rw [hs.inf] at k1; cases k1
  have hjs := hs.sz
  have hinf := hs.inf
  dsimp only at hjs k6
  have hzs : zv.cells.size = j.size := by rw [k3, hjs]; simpa using k6
  have hz1c : ∀ u ∈ zv.cells.toList, u.oneCell' = true := by rw [k3]; simpa using k5
  have hc63 : c ≤ 9223372036854775807 := by unfold maxLen at hc; exact hc
  have mixed := mixed_ok
  have hz1 : ¬ ((i : Int) = (i : Int) + 1) := by omega
  have hb1 : (0 : Int) ≤ (i : Int) + 1 := by omega
  have hb2 : (0 : Int) ≤ (i : Int) := by omega
  have hb3 : (i : Int) ≤ (i : Int) + 1 := by omega
  have hb4 : (i : Int) + 1 ≤ (n : Int) := by omega
  have hb5 : (n : Int) ≤ (c : Int) := by omega
  have hb6 : (i : Int) ≤ (n : Int) := by omega
  have hb7 : (i : Int) ≤ (c : Int) := by omega
  have htn : ((i : Int) + 1).toNat = i + 1 := by omega
  have hni : ¬ (c = i) := by omega
  have hni3 : ¬ (n = i) := by omega
  obtain ⟨X, hX⟩ : ∃ X, X = (L.take (n * 1)).drop ((i + 1) * 1) := ⟨_, rfl⟩
  have hXl : X.length = (n - (i + 1)) * 1 := by rw [hX, List.length_drop, List.length_take, Nat.sub_mul, hL]; omega
  have hX1 : ∀ v ∈ X, v.oneCell' = true := fun v hv => h1 v (by rw [hX] at hv; exact List.mem_of_mem_drop hv)
  have hm : i + (n - (i + 1)) = n - 1 := by omega
  have hlast : n - (i + (n - (i + 1))) = 1 := by omega
  have hlc : (((n - 1 : Nat) : Int)) ≤ (n : Int) := by omega
  have hl0 : (0 : Int) ≤ ((n - 1 : Nat) : Int) := by omega
  have hnl : ¬ (c = n - 1) := by omega
  have hln : (splice L (i * j.size) X).length = c * 1 := by rw [length_splice _ _ _ (by rw [hXl, hjs, hL]; omega), hL]
  have HB := Lib.hid hb
  clear hb
  go_enter Tryd.func61, Tryd.ntmps61
  go_wp2_with fail
  go_region_law_o (refine step_appendN rfl (.tmp 22) (.tmp 25) 23 9 rfl j Tryd.underlying23 hinf b i c b ((i + 1) * 1) (n - (i + 1)) (c - (i + 1)) (by simp [Act.eval, Act.put]) (by simp [Act.eval, Act.put]) L L 9 HB.out HB.out X (by rw [hXl, hjs]) (by rw [hXl, hX]; rw [List.drop_take, Nat.sub_mul]) (by omega) (by rw [hjs, hXl, hL]; omega) hX1 ?_; intro w2 R2 E2)
  go_wp2_with (refine wpList_clearN rfl (.tmp 31) 23 9 rfl j zv Tryd.underlying23 hinf k2 hzs hz1c b _ _ _ rfl (by omega) _ R2 (by rw [hln, hjs]; omega) ?_; intro v3 w3 Z R3 Zl Z1 E3)
  go_ret
  refine ⟨_, by simp, Ext.trans (Ext.trans (Ext.drew (Ext.refl _ w)) E2) E3, R3, by rw [length_splice _ _ _ (by rw [hln, Zl, hjs]; omega), hln], ?_⟩
  rw [← hX]
  have e1 : splice L (i * j.size) X = L.take (i * 1) ++ X ++ L.drop ((n - 1) * 1) := by
    unfold splice
    rw [hXl, hjs, show i * 1 + (n - (i + 1)) * 1 = (n - 1) * 1 by omega, List.append_assoc]
  have e2 : (L.take (i * 1) ++ X).length = (n - 1) * 1 := by rw [List.length_append, List.length_take, hXl, hL]; omega
  unfold splice at e1 hln ⊢
  rw [List.take_append_of_le_length (by rw [List.length_take, hln]; omega), List.take_take, Nat.min_eq_left (by omega), e1, List.take_append_of_le_length (by omega), List.take_of_length_le (by omega)]
theorem insS_inv3 {w : World} {ρ : Cx} {a b c : AV} {vs : List Value} (h : RepL w ρ [a, b, c] vs) : ∃ x y z, vs = [x, y, z] ∧ Eng.Rep w ρ a x ∧ Eng.Rep w ρ b y ∧ Eng.Rep w ρ c z := by
  unfold RepL at h
  obtain ⟨x, _, rfl, h1, h⟩ := h
  unfold RepL at h
  obtain ⟨y, _, rfl, h2, h⟩ := h
  unfold RepL at h
  obtain ⟨z, _, rfl, h3, h⟩ := h
  unfold RepL at h
  subst h
  exact ⟨x, y, z, rfl, h1, h2, h3⟩
theorem delS_ACG (es : List (List AV)) (i : Nat) (hi : i < es.length) (hes : ∀ e ∈ es, ∀ c ∈ e, Pur c) :
    ACG Tryd.prog 61 [.own 1000 es.length, .int .i64 i, .int .i64 ((i : Int) + 1)] [(1000, ⟨false, 9, 1, es⟩)] 0 (fun r l => r = .own 1 (es.length - 1) ∧ l = [(1, ⟨false, 9, 1, es.take i ++ es.drop (i + 1)⟩)]) := by
  refine ⟨Go.Proofs.YtfjaobfaepjfnaaDoor.Eng.enters_of Tryd.func61 (by kernel_rfl) (by kernel_rfl), by simp, fun w ρ k vs hL hS hrd hU hR hargs => ?_⟩
  obtain ⟨v0, v1, v2, rfl, a0, a1, a2⟩ := insS_inv3 hargs
  obtain ⟨u0, p1, p2, ⟨p3, _⟩, p4, p5, xs0, p6, p7, p8⟩ := hR.rw 1000 _ rfl
  dsimp only at p2 p4 p6 p7
  obtain ⟨_, _, _, hv0⟩ := rep_own.1 a0
  have := hv0 u0 p1 p2.symm
  subst this
  rw [rep_int] at a1 a2
  subst a1 a2
  rcases p6 with ⟨h0, _⟩ | ⟨g, cap, cur, rfl, hp, _, hg, hnc, hcm, hcs, htk, hol⟩
  · omega
  have hG : Row0 w g cur.toList 9 := by show _ = _; rw [hg]
  have hbl : blk (.slice (some ⟨g, 0, none⟩) es.length cap) = some g := blk_slice _ _ _ hp
  have hcl : cur.toList.length = cap * 1 := by rw [Array.length_toList, hcs]
  have hl2 : (es.take i ++ es.drop (i + 1)).length = es.length - 1 := by simp; omega
  have hsp : es.flatten = (es.take i).flatten ++ (es.drop i).flatten := by rw [← List.flatten_append, List.take_append_drop]
  have hlt : (es.take i).flatten.length = i * 1 := by rw [flat_len (fun e he => p4 e (List.mem_of_mem_take he)), List.length_take, Nat.min_eq_left (by omega)]
  have hlt2 : (es.take (i + 1)).flatten.length = (i + 1) * 1 := by rw [flat_len (fun e he => p4 e (List.mem_of_mem_take he)), List.length_take, Nat.min_eq_left (by omega)]
  have hsp2 : es.flatten = (es.take (i + 1)).flatten ++ (es.drop (i + 1)).flatten := by rw [← List.flatten_append, List.take_append_drop]
  have key : Calls Tryd.prog 61 #[.slice (some ⟨g, 0, none⟩) es.length cap, .int .i64 i, .int .i64 ((i : Int) + 1)] w fun e w' =>
      ∃ L', e = .returned (.slice (some ⟨g, 0, none⟩) (es.length - 1 : Nat) cap) ∧ Ext (fun k => k = g) w w' ∧ Row0 w' g L' 9 ∧ L'.length = cap * 1 ∧ L'.take ((es.length - 1) * 1) = xs0.take (i * 1) ++ xs0.drop ((i + 1) * 1) := by
    have hcut : cur.toList.take (i * 1) = xs0.take (i * 1) := by rw [← htk, List.take_take, Nat.min_eq_left (by omega)]
    by_cases hci : cap = i + 1
    · subst hci
      have : es.length = i + 1 := by omega
      rw [this]
      refine (delS_last w g i cur.toList hG hcl hcm).mono ?_
      rintro e w' ⟨L', rfl, m1, m2, m3, m4⟩
      refine ⟨L', by simp, m1, m2, m3, ?_⟩
      rw [Nat.add_sub_cancel, m4, hcut, List.drop_of_length_le (by rw [hol, this]; exact Nat.le_refl _), List.append_nil]
    · refine (delS_mid w g es.length cap i cur.toList hG hcl hi hnc hcm hci (by rw [htk]; exact p8)).mono ?_
      rintro e w' ⟨L', rfl, m1, m2, m3, m4⟩
      exact ⟨L', rfl, m1, m2, m3, by rw [m4, hcut, htk]⟩
  refine key.mono ?_
  rintro e w' ⟨L', rfl, m1, m2, m3, m4⟩
  have hat : Eng.RowAt w' 0 9 1 (.slice (some ⟨g, 0, none⟩) (es.length - 1) cap) (es.length - 1) (xs0.take (i * 1) ++ xs0.drop ((i + 1) * 1)) :=
    .inr ⟨g, cap, _, rfl, hp, Nat.zero_le _, m2.out, by omega, hcm, by rw [List.size_toArray, m3], by rw [← m4], by simp only [List.length_append, List.length_take, List.length_drop, hol, Nat.sub_mul, Nat.add_mul]; omega⟩
  obtain ⟨ρ', r1, r2, r3, r4, r5, r6, r7, r8, r9⟩ := acg_one (k := k) (c := 0) hL hS hrd hR (m1.mono (fun b hb => ⟨1000, _, p1, by rw [hbl, hb]⟩)) ⟨false, 9, 1, es.take i ++ es.drop (i + 1)⟩ _ _ rfl p3 (fun y hy => by
    rcases List.mem_append.1 hy with hy | hy
    · exact p4 y (List.mem_of_mem_take hy)
    · exact p4 y (List.mem_of_mem_drop hy)) (by dsimp only; rw [hl2]; exact hat) (fun g' hg' => .inl ⟨1000, _, p1, by rw [hbl]; rw [blk_slice _ _ _ hp] at hg'; exact hg'⟩) (by
      dsimp only
      rw [List.flatten_append]
      have t1 := p7
      have t2 := p7
      rw [hsp] at t1
      rw [hsp2] at t2
      have t1 := t1.take (i * 1)
      have t2 := t2.drop ((i + 1) * 1)
      rw [← hlt, List.take_left] at t1
      rw [← hlt2, List.drop_left] at t2
      rw [hlt] at t1
      rw [hlt2] at t2
      exact t1.append t2) (fun e he c hc => by
      rcases List.mem_append.1 he with he | he
      · exact hes e (List.mem_of_mem_take he) c hc
      · exact hes e (List.mem_of_mem_drop he) c hc) (fun u hu => by
      rcases List.mem_append.1 hu with hu | hu
      · exact p8 u (List.mem_of_mem_take hu)
      · exact p8 u (List.mem_of_mem_drop hu))
  exact ⟨_, _, _, ρ', rfl, r1, r2, r3, r4, r5, r6, r7, (fun id r h1 h2 u h3 => by rw [r8 id (by have := rowsOf_key h1; simp at this; omega)] at h3; cases h3), by rw [hl2] at r9; exact r9, rfl, rfl⟩
end Go.Proofs.YtfjaobfaepjfnaaDoor
namespace Go.Proofs.YtfjaobfaepjfnaaDoor.Eng
open Go Go.RowKit
attribute [local simp] big size_mk ASt.pay Option.map_map Function.comp_def awant aop acall ado aev ofVal ofVal0 ASt.put ASt.add ASt.turn ASt.kill abox aalloc astore aload aloadD astoreD idOf ASt.at cellsTo afieldAddr afield aindexAddr aindex alen abin aint acmp astr aun apick aextract anil aslice abound abuild afill abuildSlice asCells aps avCells over upd aappend asrc amax amin aconv mkSt slots rowsOf_cons rowsOf_nil usedOf_cons usedOf_nil ZK.av List.replicate ASt.back ASt.addL ASt.killL nodeA nodeT nodeTL_eq nodeL_eq strsE_get strsE_len intsE_get intsE_len strsE_at intsE_at tab2 tab3 tab4 tab5 tab6 tab7 tab8 tab9 tab10 tab11 tab12 tab13 tab14 tab15 tab16 tab17 tab18 tab19 tab21 tab22 tab23 tab24 tab25 tab26 tab28 tab29 tab30 tab31 tab42 tab43 tab44 tab46 tab63 tab64 tab67 tab68 tab75 tab98 tab100 tab101 tab105 tab106 tab107 tab122 tab123 tab125 tab128 tab138 tab144 tab151 tab152 tab157 tab158 tab160 tab161 tab162
def putK (n : Nd) (nm : ByteArray) (v : Nd) : Nd :=
  if mem n.names nm then ⟨n.kind, n.num, n.text, n.names, n.kids.set (lbound n.names nm) v⟩
  else ⟨n.kind, n.num, n.text, n.names.take (lbound n.names nm) ++ (nm :: n.names.drop (lbound n.names nm)), n.kids.take (lbound n.names nm) ++ (v :: n.kids.drop (lbound n.names nm))⟩
def dropK (n : Nd) (nm : ByteArray) : Nd :=
  if mem n.names nm then ⟨n.kind, n.num, n.text, n.names.take (lbound n.names nm) ++ n.names.drop (lbound n.names nm + 1), n.kids.take (lbound n.names nm) ++ n.kids.drop (lbound n.names nm + 1)⟩ else n
theorem lbn_le (xs : List ByteArray) (nm : ByteArray) : lbound xs nm ≤ xs.length := List.countP_le_length
theorem putK_yes {n v : Nd} {nm : ByteArray} (h : mem n.names nm = true) : putK n nm v = ⟨n.kind, n.num, n.text, n.names, n.kids.set (lbound n.names nm) v⟩ := by unfold putK; rw [if_pos h]
theorem putK_no {n v : Nd} {nm : ByteArray} (h : mem n.names nm = false) : putK n nm v = ⟨n.kind, n.num, n.text, n.names.take (lbound n.names nm) ++ (nm :: n.names.drop (lbound n.names nm)), n.kids.take (lbound n.names nm) ++ (v :: n.kids.drop (lbound n.names nm))⟩ := by unfold putK; rw [h]; rfl
theorem dropK_yes {n : Nd} {nm : ByteArray} (h : mem n.names nm = true) : dropK n nm = ⟨n.kind, n.num, n.text, n.names.take (lbound n.names nm) ++ n.names.drop (lbound n.names nm + 1), n.kids.take (lbound n.names nm) ++ n.kids.drop (lbound n.names nm + 1)⟩ := by unfold dropK; rw [if_pos h]
theorem dropK_no {n : Nd} {nm : ByteArray} (h : mem n.names nm = false) : dropK n nm = n := by unfold dropK; rw [h]; rfl
end Go.Proofs.YtfjaobfaepjfnaaDoor.Eng
namespace Go.Proofs.YtfjaobfaepjfnaaDoor.Eng
open Go Go.RowKit
section
variable {P : Program} {T : Tab} {k0 : Nat} {md : List Nat} {Av : Nat → Prop} {pc : Pc} {ops : Array Oper} {K : ASt → Prop} {o : Oper} {l : List Oper} {s : ASt} {f : FuncId} {xs : List Operand} {args : List AV}
end
end Go.Proofs.YtfjaobfaepjfnaaDoor.Eng
namespace Go.Proofs.YtfjaobfaepjfnaaDoor.Eng
open Go Go.RowKit
theorem asc_pw {xs : List ByteArray} : Asc xs ↔ xs.Pairwise (fun a b => lt a b = true) := by
  rw [List.pairwise_iff_getElem]
  exact ⟨fun h i j hi hj hij => h i j hi hj hij, fun h i j hi hj hij => h i j hi hj hij⟩
theorem lt_tot {a b : ByteArray} (h : lt a b = false) (hn : a ≠ b) : lt b a = true := by
  rcases bl_cases a b with ⟨h1, h2, _, _, h3⟩ | ⟨h1, h2, _, _, h3⟩ | h'
  · exact absurd (show lt a b = true from h1) (by rw [h]; simp)
  · exact h2
  · exact absurd h' hn
theorem lb_split : ∀ {xs : List ByteArray} {s : ByteArray}, xs.Pairwise (fun a b => lt a b = true) → (∀ a ∈ xs.take (lbound xs s), lt a s = true) ∧ (∀ b ∈ xs.drop (lbound xs s), lt b s = false)
  | [], s, _ => ⟨fun a h => by simp at h, fun a h => by simp at h⟩
  | x :: t, s, h => by
    rw [List.pairwise_cons] at h
    have hlb : lbound (x :: t) s = lbound t s + if lt x s then 1 else 0 := by unfold lbound; rw [List.countP_cons]
    obtain ⟨i1, i2⟩ := lb_split (s := s) h.2
    cases hx : lt x s
    · have h0 : lbound t s = 0 := by
        unfold lbound
        rw [List.countP_eq_zero]
        intro y hy hys
        have := bl_trans _ _ _ (h.1 y hy) hys
        exact absurd (show lt x s = true from this) (by rw [hx]; simp)
      rw [hlb, hx, h0]
      rw [h0] at i2
      refine ⟨fun a ha => by simp at ha, fun b hb => ?_⟩
      simp at hb
      rcases hb with rfl | hb
      · exact hx
      · exact i2 b (by simpa using hb)
    · rw [hlb, hx]
      simp only [if_true, List.take_succ_cons, List.drop_succ_cons, List.mem_cons, forall_eq_or_imp]
      exact ⟨⟨hx, i1⟩, i2⟩
structure MapW (r : Nd) : Prop where
  kd : r.kind = 4
  nz : r.num = 0
  tz : r.text = ⟨#[]⟩
  asc : Asc r.names
  len : r.names.length = r.kids.length
def zK (r : Nd) : List (ByteArray × Nd) := r.names.zip r.kids
theorem zK_len {r : Nd} (h : MapW r) : (zK r).length = r.kids.length := by unfold zK; rw [List.length_zip, h.len, Nat.min_self]
theorem zK_in {r : Nd} (h : MapW r) {x : ByteArray} {v : Nd} (hm : (x, v) ∈ zK r) : mem r.names x = true ∧ kidOf r x = v := by
  obtain ⟨i, he⟩ := List.getElem?_of_mem hm
  unfold zK at he
  rw [List.getElem?_zip_eq_some] at he
  obtain ⟨e3, e4⟩ := he
  obtain ⟨h1, e1⟩ := List.getElem?_eq_some_iff.1 e3
  obtain ⟨h2, e2⟩ := List.getElem?_eq_some_iff.1 e4
  clear e3 e4
  dsimp only at e1 e2
  subst e1 e2
  have hlb := lb_at h.asc h1
  have hmm : mem r.names r.names[i] = true := mem_iff.2 (List.getElem_mem h1)
  refine ⟨hmm, ?_⟩
  rw [kidOf_yes hmm (by rw [hlb]; exact h2)]
  simp only [hlb]
theorem zK_of {r : Nd} (h : MapW r) {x : ByteArray} (hm : mem r.names x = true) : (x, kidOf r x) ∈ zK r := by
  obtain ⟨h1, h2⟩ := Go.Proofs.YtfjaobfaepjfnaaDoor.lb_lt h.asc hm
  have h3 : lbound r.names x < r.kids.length := by rw [← h.len]; exact h1
  rw [kidOf_yes hm h3]
  have : (zK r)[lbound r.names x]? = some (x, r.kids[lbound r.names x]) := by
    unfold zK
    rw [List.getElem?_zip_eq_some]
    exact ⟨by rw [List.getElem?_eq_getElem h1, h2], List.getElem?_eq_getElem h3⟩
  exact List.mem_of_getElem? this
theorem putK_w {r : Nd} (h : MapW r) (nm : ByteArray) (v : Nd) : MapW (putK r nm v) ∧ (nm, v) ∈ zK (putK r nm v) ∧ (∀ x w, x ≠ nm → (x, w) ∈ zK r → (x, w) ∈ zK (putK r nm v)) ∧ (∀ x, mem (putK r nm v).names x = true → x = nm ∨ mem r.names x = true) := by
  cases hm : mem r.names nm
  · rw [putK_no hm]
    have hle := lbn_le r.names nm
    have hl := h.len
    obtain ⟨s1, s2⟩ := lb_split (s := nm) (asc_pw.1 h.asc)
    have hz : zK ⟨r.kind, r.num, r.text, r.names.take (lbound r.names nm) ++ (nm :: r.names.drop (lbound r.names nm)), r.kids.take (lbound r.names nm) ++ (v :: r.kids.drop (lbound r.names nm))⟩ = (zK r).take (lbound r.names nm) ++ ((nm, v) :: (zK r).drop (lbound r.names nm)) := by
      unfold zK
      dsimp only
      rw [List.zip_append (by rw [List.length_take, List.length_take]; omega), List.zip_cons_cons]
      congr 1
      · exact (List.take_zipWith ..).symm
      · congr 1; exact (List.drop_zipWith ..).symm
    refine ⟨⟨h.kd, h.nz, h.tz, ?_, by dsimp only; simp only [List.length_append, List.length_cons, List.length_take, List.length_drop]; omega⟩, ?_, fun x w hx hxw => ?_, fun x hx => ?_⟩
    · rw [asc_pw]
      dsimp only
      have hp := asc_pw.1 h.asc
      rw [← List.take_append_drop (lbound r.names nm) r.names, List.pairwise_append] at hp
      rw [List.pairwise_append, List.pairwise_cons]
      have hb : ∀ b ∈ r.names.drop (lbound r.names nm), lt nm b = true := fun b hb => lt_tot (s2 b hb) (fun e => by
        subst e
        have := mem_iff.2 (List.mem_of_mem_drop hb)
        rw [hm] at this; cases this)
      refine ⟨hp.1, ⟨hb, hp.2.1⟩, fun a ha b hb' => ?_⟩
      rcases List.mem_cons.1 hb' with rfl | hb'
      · exact s1 a ha
      · exact hp.2.2 a ha b hb'
    · rw [hz]; simp
    · rw [hz]
      rw [← List.take_append_drop (lbound r.names nm) (zK r)] at hxw
      rcases List.mem_append.1 hxw with h | h
      · exact List.mem_append.2 (.inl h)
      · exact List.mem_append.2 (.inr (List.mem_cons.2 (.inr h)))
    · rw [mem_iff] at hx
      dsimp only at hx
      rw [List.mem_append, List.mem_cons] at hx
      rcases hx with hx | rfl | hx
      · exact .inr (mem_iff.2 (List.mem_of_mem_take hx))
      · exact .inl rfl
      · exact .inr (mem_iff.2 (List.mem_of_mem_drop hx))
  · rw [putK_yes hm]
    obtain ⟨h1, h2⟩ := Go.Proofs.YtfjaobfaepjfnaaDoor.lb_lt h.asc hm
    have h3 : lbound r.names nm < r.kids.length := by rw [← h.len]; exact h1
    have hW : MapW ⟨r.kind, r.num, r.text, r.names, r.kids.set (lbound r.names nm) v⟩ := ⟨h.kd, h.nz, h.tz, h.asc, by dsimp only; rw [List.length_set]; exact h.len⟩
    refine ⟨hW, ?_, fun x w hx hxw => ?_, fun x hx => .inr hx⟩
    · have : (zK ⟨r.kind, r.num, r.text, r.names, r.kids.set (lbound r.names nm) v⟩)[lbound r.names nm]? = some (nm, v) := by
        unfold zK
        rw [List.getElem?_zip_eq_some]
        exact ⟨by dsimp only; rw [List.getElem?_eq_getElem h1, h2], by dsimp only; rw [List.getElem?_set_self h3]⟩
      exact List.mem_of_getElem? this
    · obtain ⟨i, hi⟩ := List.getElem?_of_mem hxw
      unfold zK at hi
      rw [List.getElem?_zip_eq_some] at hi
      have hne : lbound r.names nm ≠ i := fun e => by
        subst e
        have := hi.1
        dsimp only at this
        rw [List.getElem?_eq_getElem h1, h2] at this
        exact hx (Option.some.inj this).symm
      have : (zK ⟨r.kind, r.num, r.text, r.names, r.kids.set (lbound r.names nm) v⟩)[i]? = some (x, w) := by
        unfold zK
        rw [List.getElem?_zip_eq_some]
        exact ⟨hi.1, by dsimp only; rw [List.getElem?_set_ne hne]; exact hi.2⟩
      exact List.mem_of_getElem? this
theorem dropK_w {r : Nd} (h : MapW r) (nm : ByteArray) : MapW (dropK r nm) ∧ mem (dropK r nm).names nm = false ∧ (∀ x w, x ≠ nm → (x, w) ∈ zK r → (x, w) ∈ zK (dropK r nm)) ∧ (∀ x, mem (dropK r nm).names x = true → x ≠ nm ∧ mem r.names x = true) := by
  cases hm : mem r.names nm
  · rw [dropK_no hm]
    exact ⟨h, hm, fun x w _ hx => hx, fun x hx => ⟨(fun e => by subst e; rw [hm] at hx; cases hx), hx⟩⟩
  · rw [dropK_yes hm]
    obtain ⟨h1, h2⟩ := Go.Proofs.YtfjaobfaepjfnaaDoor.lb_lt h.asc hm
    have h3 : lbound r.names nm < r.kids.length := by rw [← h.len]; exact h1
    have hl := h.len
    have hp := asc_pw.1 h.asc
    have hsp : r.names = r.names.take (lbound r.names nm) ++ (nm :: r.names.drop (lbound r.names nm + 1)) := by
      conv => lhs; rw [← List.take_append_drop (lbound r.names nm) r.names, List.drop_eq_getElem_cons h1, h2]
    have hp2 := hp
    rw [hsp, List.pairwise_append, List.pairwise_cons] at hp2
    obtain ⟨p1, ⟨p2, p3⟩, p4⟩ := hp2
    have hin : ∀ x, x ∈ r.names.take (lbound r.names nm) ++ r.names.drop (lbound r.names nm + 1) → x ≠ nm ∧ x ∈ r.names := fun x hx => by
      rcases List.mem_append.1 hx with hx | hx
      · refine ⟨fun e => ?_, List.mem_of_mem_take hx⟩
        subst e
        have := p4 x hx x (by simp)
        rw [lt_irr] at this; cases this
      · refine ⟨fun e => ?_, List.mem_of_mem_drop hx⟩
        subst e
        have := p2 x hx
        rw [lt_irr] at this; cases this
    refine ⟨⟨h.kd, h.nz, h.tz, ?_, by dsimp only; simp only [List.length_append, List.length_take, List.length_drop]; omega⟩, ?_, fun x w hx hxw => ?_, fun x hx => ?_⟩
    · rw [asc_pw]
      dsimp only
      rw [List.pairwise_append]
      exact ⟨p1, p3, fun a ha b hb => p4 a ha b (by simp [hb])⟩
    · exact mem_no (fun hx => (hin nm hx).1 rfl)
    · have hz : zK ⟨r.kind, r.num, r.text, r.names.take (lbound r.names nm) ++ r.names.drop (lbound r.names nm + 1), r.kids.take (lbound r.names nm) ++ r.kids.drop (lbound r.names nm + 1)⟩ = (zK r).take (lbound r.names nm) ++ (zK r).drop (lbound r.names nm + 1) := by
        unfold zK
        dsimp only
        rw [List.zip_append (by rw [List.length_take, List.length_take]; omega)]
        congr 1
        · exact (List.take_zipWith ..).symm
        · exact (List.drop_zipWith ..).symm
      rw [hz]
      have hzl : lbound r.names nm < (zK r).length := by rw [zK_len h]; exact h3
      have hzg : (zK r)[lbound r.names nm] = (nm, r.kids[lbound r.names nm]) := by
        have : (zK r)[lbound r.names nm]? = some (nm, r.kids[lbound r.names nm]) := by
          unfold zK
          rw [List.getElem?_zip_eq_some]
          exact ⟨by rw [List.getElem?_eq_getElem h1, h2], List.getElem?_eq_getElem h3⟩
        rw [List.getElem?_eq_getElem hzl] at this
        exact Option.some.inj this
      rw [← List.take_append_drop (lbound r.names nm) (zK r), List.drop_eq_getElem_cons hzl, hzg] at hxw
      rcases List.mem_append.1 hxw with hq | hq
      · exact List.mem_append.2 (.inl hq)
      · rcases List.mem_cons.1 hq with hq | hq
        · exact absurd (congrArg Prod.fst hq) hx
        · exact List.mem_append.2 (.inr hq)
    · have := hin x (mem_iff.1 hx)
      exact ⟨this.1, mem_iff.2 this.2⟩
theorem kidOf_put {r : Nd} (h : MapW r) (nm : ByteArray) (v : Nd) (x : ByteArray) : kidOf (putK r nm v) x = if x = nm then v else kidOf r x := by
  obtain ⟨h1, h2, h3, h4⟩ := putK_w h nm v
  by_cases e : x = nm
  · subst e; rw [if_pos rfl]; exact (zK_in h1 h2).2
  · rw [if_neg e]
    cases hm : mem r.names x
    · have : mem (putK r nm v).names x = false := by
        cases hq : mem (putK r nm v).names x
        · rfl
        · rcases h4 x hq with h | h
          · exact absurd h e
          · rw [hm] at h; cases h
      rw [kidOf_no this, kidOf_no hm]
    · exact (zK_in h1 (h3 x _ e (zK_of h hm))).2
theorem kidOf_drop {r : Nd} (h : MapW r) (nm : ByteArray) (x : ByteArray) : kidOf (dropK r nm) x = if x = nm then Nd.zero else kidOf r x := by
  obtain ⟨h1, h2, h3, h4⟩ := dropK_w h nm
  by_cases e : x = nm
  · subst e; rw [if_pos rfl]; exact kidOf_no h2
  · rw [if_neg e]
    cases hm : mem r.names x
    · have : mem (dropK r nm).names x = false := by
        cases hq : mem (dropK r nm).names x
        · rfl
        · rw [(h4 x hq).2] at hm; cases hm
      rw [kidOf_no this, kidOf_no hm]
    · exact (zK_in h1 (h3 x _ e (zK_of h hm))).2
theorem putK_kids {r v k : Nd} {nm : ByteArray} (h : k ∈ (putK r nm v).kids) : k = v ∨ k ∈ r.kids := by
  cases hm : mem r.names nm
  · rw [putK_no hm] at h
    rcases List.mem_append.1 h with h | h
    · exact .inr (List.mem_of_mem_take h)
    · rcases List.mem_cons.1 h with h | h
      · exact .inl h
      · exact .inr (List.mem_of_mem_drop h)
  · rw [putK_yes hm] at h
    exact (List.mem_or_eq_of_mem_set h).symm
theorem dropK_kids {r k : Nd} {nm : ByteArray} (h : k ∈ (dropK r nm).kids) : k ∈ r.kids := by
  cases hm : mem r.names nm
  · rw [dropK_no hm] at h; exact h
  · rw [dropK_yes hm] at h
    rcases List.mem_append.1 h with h | h
    · exact List.mem_of_mem_take h
    · exact List.mem_of_mem_drop h
theorem putK_klen {r v : Nd} {nm : ByteArray} : (putK r nm v).kids.length ≤ r.kids.length + 1 := by
  cases hm : mem r.names nm
  · rw [putK_no hm]; simp; omega
  · rw [putK_yes hm]; simp
theorem dropK_klen {r : Nd} {nm : ByteArray} : (dropK r nm).kids.length ≤ r.kids.length := by
  cases hm : mem r.names nm
  · rw [dropK_no hm]; exact Nat.le_refl _
  · rw [dropK_yes hm]; simp; omega
def baseM (n : Nd) : Nd := if n.kind = 4 then n else ⟨4, 0, ⟨#[]⟩, [], []⟩
mutual
def mrg : Nd → Nd → Nd
  | ⟨kind, num, text, names, kids⟩, n => if kind = 4 then mrgL names kids (baseM n) else ⟨kind, num, text, names, kids⟩
def mrgL : List ByteArray → List Nd → Nd → Nd
  | _, [], r => r
  | ns, k :: ks, r => mrgL ns.tail ks (if k.kind = 0 then dropK r (ns.headD ⟨#[]⟩) else putK r (ns.headD ⟨#[]⟩) (mrg k (kidOf r (ns.headD ⟨#[]⟩))))
end
def stepN (r : Nd) (nm : ByteArray) (k : Nd) : Nd := if k.kind = 0 then dropK r nm else putK r nm (mrg k (kidOf r nm))
theorem mrg_map {p : Nd} (h : p.kind = 4) (n : Nd) : mrg p n = mrgL p.names p.kids (baseM n) := by cases p; rw [mrg, if_pos h]
theorem mrg_no {p : Nd} (h : p.kind ≠ 4) (n : Nd) : mrg p n = p := by cases p; rw [mrg, if_neg h]
theorem mrgL_step {ns : List ByteArray} {ks : List Nd} {i : Nat} (h1 : i < ns.length) (h2 : i < ks.length) (r : Nd) : mrgL (ns.drop i) (ks.drop i) r = mrgL (ns.drop (i + 1)) (ks.drop (i + 1)) (stepN r ns[i] ks[i]) := by
  rw [List.drop_eq_getElem_cons h1, List.drop_eq_getElem_cons h2, mrgL]
  rfl
theorem shp_zero : Shp Nd.zero := ⟨1, by simp [shapeB_eq, partsB, Nd.zero, shapeL]⟩
theorem base_w {n : Nd} (h : Shp n) : MapW (baseM n) := by
  unfold baseM
  split
  · rename_i h4
    have hp := h.parts
    unfold partsB at hp
    simp only [Bool.and_eq_true, Bool.or_eq_true, decide_eq_true_eq] at hp
    obtain ⟨⟨⟨h1, h2⟩, h3⟩, _⟩ := hp
    refine ⟨h4, by rcases h1 with h | h <;> omega, ?_, h.asc h4, ((h.map h4).2).symm⟩
    rcases h2 with h | h
    · omega
    · have ht : n.text.toList = [] := by simpa using h
      exact of_decide_eq_true (by rw [← beq_toList, ht]; decide +kernel)
  · exact ⟨rfl, rfl, rfl, fun i j hi => by simp at hi, rfl⟩
theorem base_kids {n : Nd} (h : Shp n) : (baseM n).kids.length ≤ 6 ∧ ∀ k ∈ (baseM n).kids, Shp k := by
  unfold baseM
  split
  · exact ⟨h.kids, fun k hk => h.kid hk⟩
  · exact ⟨by simp, fun k hk => by cases hk⟩
theorem base_old {n : Nd} (h : Shp n) (x : ByteArray) : Shp (kidOf (baseM n) x) := by
  have hw := base_w h
  cases hm : mem (baseM n).names x
  · rw [kidOf_no hm]; exact shp_zero
  · exact (base_kids h).2 _ (kidOf_mem hw.asc (by rw [hw.len]; exact Nat.le_refl _) hm)
structure Mid (n p : Nd) (i : Nat) (r : Nd) : Prop where
  w : MapW r
  wide : r.kids.length ≤ 6 + i
  sml : ∀ k ∈ r.kids, Sml k
  old : ∀ x, x ∉ p.names.take i → kidOf r x = kidOf (baseM n) x
theorem Mid.start {n : Nd} (h : Shp n) (p : Nd) : Mid n p 0 (baseM n) := ⟨base_w h, (base_kids h).1, fun k hk => ((base_kids h).2 k hk).sml, fun _ _ => rfl⟩
theorem fresh_name {p : Nd} (hp : Shp p) (h4 : p.kind = 4) {i : Nat} (hi : i < p.names.length) : p.names[i] ∉ p.names.take i := fun hm => by
  obtain ⟨j, hj, he⟩ := List.getElem_of_mem hm
  rw [List.length_take] at hj
  rw [List.getElem_take] at he
  have := hp.asc h4 j i (by omega) hi (by omega)
  rw [he, lt_irr] at this; cases this
theorem Mid.kid {n p r : Nd} {i : Nat} (h : Mid n p i r) (hp : Shp p) (h4 : p.kind = 4) (hn : Shp n) (hi : i < p.names.length) : kidOf r p.names[i] = kidOf (baseM n) p.names[i] := h.old _ (fresh_name hp h4 hi)
theorem Mid.step {n p r : Nd} {i : Nat} (h : Mid n p i r) (hi : i < p.names.length) (hk : i < p.kids.length) (hs : p.kids[i].kind ≠ 0 → Sml (mrg p.kids[i] (kidOf r p.names[i]))) : Mid n p (i + 1) (stepN r p.names[i] p.kids[i]) := by
  have hx : ∀ x, x ∉ p.names.take (i + 1) → x ≠ p.names[i] ∧ x ∉ p.names.take i := fun x hx => by
    rw [List.take_add_one, List.getElem?_eq_getElem hi, Option.toList_some, List.mem_append, List.mem_singleton] at hx
    exact ⟨fun e => hx (.inr e), fun e => hx (.inl e)⟩
  unfold stepN
  split
  · exact ⟨(dropK_w h.w _).1, by have := h.wide; have := dropK_klen (r := r) (nm := p.names[i]); omega, fun k hk => h.sml k (dropK_kids hk), fun x hxn => by
      rw [kidOf_drop h.w, if_neg (hx x hxn).1]; exact h.old x (hx x hxn).2⟩
  · rename_i h0
    exact ⟨(putK_w h.w _ _).1, by have := h.wide; have := putK_klen (r := r) (nm := p.names[i]) (v := mrg p.kids[i] (kidOf r p.names[i])); omega, fun k hk => by
      rcases putK_kids hk with rfl | hk
      · exact hs h0
      · exact h.sml k hk, fun x hxn => by
      rw [kidOf_put h.w, if_neg (hx x hxn).1]; exact h.old x (hx x hxn).2⟩
theorem Mid.smlR {n p r : Nd} {i : Nat} (h : Mid n p i r) (hi : i ≤ 6) : Sml r := .mk _ (by rw [h.w.len]; have := h.wide; omega) (by have := h.wide; omega) h.sml
theorem mrg_loop {n p : Nd} (hp : Shp p) (h4 : p.kind = 4) (I : Nat → Nd → Prop) (h0 : I 0 (baseM n)) (hs : ∀ i (hi : i < p.names.length) (hk : i < p.kids.length) r, I i r → I (i + 1) (stepN r p.names[i] p.kids[i])) : I p.kids.length (mrg p n) := by
  have hl := (hp.map h4).2
  have key : ∀ j, j ≤ p.kids.length → ∃ r, I j r ∧ mrgL (p.names.drop j) (p.kids.drop j) r = mrg p n := fun j => by
    induction j with
    | zero => exact fun _ => ⟨_, h0, by rw [mrg_map h4]; rfl⟩
    | succ j ih =>
      intro hj
      obtain ⟨r, h1, h2⟩ := ih (by omega)
      rw [mrgL_step (by omega) (by omega)] at h2
      exact ⟨_, hs j (by omega) (by omega) r h1, h2⟩
  obtain ⟨r, h1, h2⟩ := key _ (Nat.le_refl _)
  rw [List.drop_of_length_le (Nat.le_refl _), List.drop_of_length_le (by omega), mrgL] at h2
  rw [← h2]; exact h1
theorem mrg_sml : ∀ p, Shp p → ∀ n, Shp n → Sml (mrg p n) := Nd.ind' _ (fun p ih hp n hn => by
  by_cases h4 : p.kind = 4
  · have h6 := hp.kids
    refine Mid.smlR (n := n) (p := p) (mrg_loop hp h4 (Mid n p) (Mid.start hn p) (fun i hi hk r h => h.step hi hk (fun _ => ?_))) h6
    rw [h.kid hp h4 hn hi]
    exact ih _ (List.getElem_mem hk) (hp.kid (List.getElem_mem hk)) _ (base_old hn _)
  · rw [mrg_no h4]; exact hp.sml)
theorem Mid.next {n p r : Nd} {i : Nat} (h : Mid n p i r) (hp : Shp p) (h4 : p.kind = 4) (hn : Shp n) (hi : i < p.names.length) (hk : i < p.kids.length) : Mid n p (i + 1) (stepN r p.names[i] p.kids[i]) := h.step hi hk (fun _ => by
  rw [h.kid hp h4 hn hi]
  exact mrg_sml _ (hp.kid (List.getElem_mem hk)) _ (base_old hn _))
end Go.Proofs.YtfjaobfaepjfnaaDoor.Eng
-- EV: rows
namespace Go.Proofs.YtfjaobfaepjfnaaDoor.Eng
open Go Go.RowKit
attribute [local simp] big size_mk ASt.pay Option.map_map Function.comp_def awant aop acall ado aev ofVal ofVal0 ASt.put ASt.add ASt.turn ASt.kill abox aalloc astore aload aloadD astoreD idOf ASt.at cellsTo afieldAddr afield aindexAddr aindex alen abin aint acmp astr aun apick aextract anil aslice abound abuild afill abuildSlice asCells aps avCells over upd aappend asrc amax amin aconv mkSt slots rowsOf_cons rowsOf_nil usedOf_cons usedOf_nil ZK.av List.replicate ASt.back ASt.addL ASt.killL nodeA nodeT nodeTL_eq nodeL_eq strsE_get strsE_len intsE_get intsE_len strsE_at intsE_at nodeN namesRow nodeO kidsRow tab2 tab3 tab4 tab5 tab6 tab7 tab8 tab9 tab10 tab11 tab12 tab13 tab14 tab15 tab16 tab17 tab18 tab19 tab21 tab22 tab23 tab24 tab25 tab26 tab28 tab29 tab30 tab31 tab42 tab43 tab44 tab46 tab63 tab64 tab67 tab68 tab75 tab98 tab100 tab101 tab105 tab106 tab107 tab122 tab123 tab125 tab128 tab138 tab144 tab151 tab152 tab157 tab158 tab160 tab161 tab162
end Go.Proofs.YtfjaobfaepjfnaaDoor.Eng
-- EV: rows skip
namespace Go.Proofs.YtfjaobfaepjfnaaDoor.Eng
open Go Go.RowKit
attribute [local simp] big size_mk ASt.pay Option.map_map Function.comp_def awant aop acall ado aev ofVal ofVal0 ASt.put ASt.add ASt.turn ASt.kill abox aalloc astore aload aloadD astoreD idOf ASt.at cellsTo afieldAddr afield aindexAddr aindex alen abin aint acmp astr aun apick aextract anil aslice abound abuild afill abuildSlice asCells aps avCells over upd aappend asrc amax amin aconv mkSt slots rowsOf_cons rowsOf_nil usedOf_cons usedOf_nil ZK.av List.replicate ASt.back ASt.addL ASt.killL nodeA nodeT nodeTL_eq nodeL_eq strsE_get strsE_len intsE_get intsE_len strsE_at intsE_at nodeN namesRow nodeO kidsRow tab2 tab3 tab4 tab5 tab6 tab7 tab8 tab9 tab10 tab11 tab12 tab13 tab14 tab15 tab16 tab17 tab18 tab19 tab21 tab22 tab23 tab24 tab25 tab26 tab28 tab29 tab30 tab31 tab42 tab43 tab44 tab46 tab63 tab64 tab67 tab68 tab75 tab98 tab100 tab101 tab105 tab106 tab107 tab122 tab123 tab125 tab128 tab138 tab144 tab151 tab152 tab157 tab158 tab160 tab161 tab162
end Go.Proofs.YtfjaobfaepjfnaaDoor.Eng
namespace Go.Proofs.YtfjaobfaepjfnaaDoor.Eng
open Go Go.RowKit
attribute [local simp] big size_mk ASt.pay Option.map_map Function.comp_def awant aop acall ado aev ofVal ofVal0 ASt.put ASt.add ASt.turn ASt.kill abox aalloc astore aload aloadD astoreD idOf ASt.at cellsTo afieldAddr afield aindexAddr aindex alen abin aint acmp astr aun apick aextract anil aslice abound abuild afill abuildSlice asCells aps avCells over upd aappend asrc amax amin aconv mkSt slots rowsOf_cons rowsOf_nil usedOf_cons usedOf_nil ZK.av List.replicate ASt.back ASt.addL ASt.killL nodeA nodeT nodeTL_eq nodeL_eq strsE_get strsE_len intsE_get intsE_len strsE_at intsE_at tab2 tab3 tab4 tab5 tab6 tab7 tab8 tab9 tab10 tab11 tab12 tab13 tab14 tab15 tab16 tab17 tab18 tab19 tab21 tab22 tab23 tab24 tab25 tab26 tab28 tab29 tab30 tab31 tab42 tab43 tab44 tab46 tab63 tab64 tab67 tab68 tab75 tab98 tab100 tab101 tab105 tab106 tab107 tab122 tab123 tab125 tab128 tab138 tab144 tab151 tab152 tab157 tab158 tab160 tab161 tab162
end Go.Proofs.YtfjaobfaepjfnaaDoor.Eng
-- EV: rows skip
namespace Go.Proofs.YtfjaobfaepjfnaaDoor.Eng
open Go Go.RowKit
attribute [local simp] big size_mk ASt.pay Option.map_map Function.comp_def awant aop acall ado aev ofVal ofVal0 ASt.put ASt.add ASt.turn ASt.kill abox aalloc astore aload aloadD astoreD idOf ASt.at cellsTo afieldAddr afield aindexAddr aindex alen abin aint acmp astr aun apick aextract anil aslice abound abuild afill abuildSlice asCells aps avCells over upd aappend asrc amax amin aconv mkSt slots rowsOf_cons rowsOf_nil usedOf_cons usedOf_nil ZK.av List.replicate ASt.back ASt.addL ASt.killL nodeA nodeT nodeTL_eq nodeL_eq strsE_get strsE_len intsE_get intsE_len strsE_at intsE_at nodeN namesRow nodeO kidsRow tab2 tab3 tab4 tab5 tab6 tab7 tab8 tab9 tab10 tab11 tab12 tab13 tab14 tab15 tab16 tab17 tab18 tab19 tab21 tab22 tab23 tab24 tab25 tab26 tab28 tab29 tab30 tab31 tab42 tab43 tab44 tab46 tab63 tab64 tab67 tab68 tab75 tab98 tab100 tab101 tab105 tab106 tab107 tab122 tab123 tab125 tab128 tab138 tab144 tab151 tab152 tab157 tab158 tab160 tab161 tab162
end Go.Proofs.YtfjaobfaepjfnaaDoor.Eng
namespace Go.Proofs.YtfjaobfaepjfnaaDoor.Eng
open Go Go.RowKit
theorem countL_take {l : List Nd} {i : Nat} (h : i < l.length) : countL (l.take (i + 1)) = countL (l.take i) + l[i].count := by
  rw [List.take_add_one, List.getElem?_eq_getElem h, Option.toList_some, countL_snoc]
theorem namesFrom_of : ∀ (xs : List ByteArray) (p : Option ByteArray), (∀ x ∈ xs, plainT x = true) → xs.Pairwise (fun a b => lt a b = true) → (∀ y, p = some y → ∀ x ∈ xs, lt y x = true) → namesFrom p xs = true
  | [], p, _, _, _ => by simp [namesFrom]
  | x :: xs, p, h1, h2, h3 => by
    rw [List.pairwise_cons] at h2
    have ih := namesFrom_of xs (some x) (fun y hy => h1 y (by simp [hy])) h2.2 (fun y hy z hz => by cases hy; exact h2.1 z hz)
    have hx := h1 x (by simp)
    cases p with
    | none => simp [namesFrom, hx, ih]
    | some y => simp [namesFrom, hx, ih, h3 y rfl x (by simp)]
theorem namesFrom_plain : ∀ (xs : List ByteArray) (p : Option ByteArray), namesFrom p xs = true → ∀ x ∈ xs, plainT x = true
  | [], _, _ => by simp
  | x :: xs, p, h => by
    simp only [namesFrom, Bool.and_eq_true] at h
    intro y hy
    rcases List.mem_cons.1 hy with rfl | hy
    · exact h.1.1
    · exact namesFrom_plain xs _ h.2 y hy
end Go.Proofs.YtfjaobfaepjfnaaDoor.Eng
namespace Go.Proofs.YtfjaobfaepjfnaaDoor.Eng
open Go Go.RowKit
theorem tdSub {α : Type} (l : List α) (k : Nat) : (l.take k ++ l.drop (k + 1)).Sublist l := by
  rw [← List.eraseIdx_eq_take_drop_succ]; exact List.eraseIdx_sublist l k
theorem namesTd {xs ys : List ByteArray} (h : xs.Sublist ys) (k : areNamesB ys = true) : areNamesB xs = true := by
  unfold areNamesB at k ⊢
  rw [Bool.and_eq_true, decide_eq_true_eq] at k ⊢
  refine ⟨Nat.le_trans h.length_le k.1, ?_⟩
  have hp : ∀ x ∈ ys, plainT x = true := namesFrom_plain _ _ k.2
  have ha := asc_pw.1 (namesB_asc k.2)
  exact namesFrom_of _ _ (fun x hx => hp x (h.subset hx)) (ha.sublist h) (fun y hy => by cases hy)
theorem Shp.bare {m : Nd} (h : Shp m) (hk : m.kind = 4 ∨ m.kind = 3) : m.num = 0 ∧ m.text = ⟨#[]⟩ ∧ (m.kind = 3 → m.names = []) := by
  have hp := h.parts
  unfold partsB at hp
  simp only [Bool.and_eq_true, Bool.or_eq_true, decide_eq_true_eq] at hp
  obtain ⟨⟨⟨h1, h2⟩, h3⟩, _⟩ := hp
  refine ⟨by rcases h1 with h | h <;> omega, ?_, fun h => ?_⟩
  · rcases h2 with h | h
    · omega
    · have ht : m.text.toList = [] := by simpa using h
      exact of_decide_eq_true (by rw [← beq_toList, ht]; decide +kernel)
  · rcases h3 with h3 | h3
    · omega
    · exact List.length_eq_zero_iff.1 h3
theorem Shp.kd {m : Nd} (h : Shp m) {k : Nat} (hk : k < m.kids.length) : m.kind = 4 ∨ m.kind = 3 := by
  by_cases h4 : m.kind = 4
  · exact .inl h4
  · by_cases h3 : m.kind = 3
    · exact .inr h3
    · have := h.leaf h4 h3; omega
theorem countL_sub {l m : List Nd} (h : l.Sublist m) : countL l ≤ countL m := by
  induction h with
  | slnil => exact Nat.le_refl _
  | cons a _ ih => simp only [countL]; omega
  | cons_cons a _ ih => simp only [countL]; omega
theorem countL_set : ∀ (l : List Nd) (k : Nat) (y : Nd) (hk : k < l.length), y.count ≤ l[k].count → countL (l.set k y) ≤ countL l
  | [], _, _, hk, _ => by cases hk
  | a :: l, 0, y, _, h => by rw [List.set_cons_zero]; simp only [countL]; simp at h; omega
  | a :: l, k + 1, y, hk, h => by
    rw [List.set_cons_succ]
    simp only [countL]
    have := countL_set l k y (by simpa using hk) (by simpa using h)
    omega
theorem del_shape {m : Nd} {d k : Nat} (hm : shapeB m d = true) (hk : k < m.kids.length) : shapeB (delK m k) d = true ∧ (delK m k).count ≤ m.count := by
  have hs : Shp m := ⟨d, hm⟩
  constructor
  · have hl := hs.kd hk
    cases d with
    | zero => rw [shapeB_eq] at hm; simp at hm
    | succ d =>
      have hall : shapeL m.kids d = true → shapeL (delK m k).kids d = true := fun h => by
        rw [shapeL_all, List.all_eq_true] at h ⊢
        exact fun x hx => h x ((tdSub m.kids k).subset hx)
      have e : (ByteArray.mk #[]).toList.isEmpty = true := by decide +kernel
      rcases hl with h4 | h3
      · rw [shape_4 h4] at hm
        rw [shape_4 (by exact h4)]
        simp only [Bool.and_eq_true, decide_eq_true_eq] at hm ⊢
        obtain ⟨⟨⟨⟨_, _⟩, q3⟩, q4⟩, q5⟩ := hm
        refine ⟨⟨⟨⟨rfl, e⟩, ?_⟩, ?_⟩, hall q5⟩
        · unfold delK; dsimp only; rw [if_pos h4]; exact namesTd (tdSub _ _) q3
        · unfold delK; dsimp only; rw [if_pos h4]; simp [q4]
      · rw [shape_3 h3] at hm
        rw [shape_3 (by exact h3)]
        simp only [Bool.and_eq_true, decide_eq_true_eq] at hm ⊢
        obtain ⟨⟨⟨⟨_, _⟩, q3⟩, q4⟩, q5⟩ := hm
        refine ⟨⟨⟨⟨rfl, e⟩, ?_⟩, ?_⟩, hall q5⟩
        · unfold delK; dsimp only; rw [if_neg (by omega)]; rfl
        · exact Nat.le_trans (tdSub m.kids k).length_le q4
  · rw [Nd.count_eq, Nd.count_eq m]
    have := countL_sub (tdSub m.kids k)
    show 1 + countL (m.kids.take k ++ m.kids.drop (k + 1)) ≤ _
    omega
theorem set_shape : ∀ (p : List ByteArray) (n m x r : Nd) (d : Nat), shapeB n d = true → getS n p = some m → (∀ e, shapeB m e = true → shapeB x e = true) → x.count ≤ m.count → setS n p x = some r → shapeB r d = true ∧ r.count ≤ n.count
  | [], n, m, x, r, d, hn, hg, hx, hc, hr => by
    rw [getS] at hg; rw [setS] at hr
    cases hg; cases hr
    exact ⟨hx d hn, hc⟩
  | s :: p, n, m, x, r, d, hn, hg, hx, hc, hr => by
    rcases placeI_cases n s with ⟨h1, _⟩ | ⟨k, h1, h2, _⟩
    · rw [setS_no p h1] at hr; cases hr
    · rw [setS_yes p h1 h2] at hr
      rw [getS_yes p h1 h2] at hg
      obtain ⟨y, hy, rfl⟩ := Option.map_eq_some_iff.1 hr
      rw [shapeB_eq] at hn
      simp only [Bool.and_eq_true] at hn
      obtain ⟨⟨q1, q2⟩, q3⟩ := hn
      have hall := q3
      rw [shapeL_all, List.all_eq_true] at hall
      obtain ⟨z1, z2⟩ := set_shape p n.kids[k] m x y (d - 1) (hall _ (List.getElem_mem h1)) hg hx hc hy
      constructor
      · rw [shapeB_eq]
        simp only [Bool.and_eq_true]
        refine ⟨⟨q1, ?_⟩, ?_⟩
        · unfold partsB setK at *
          simpa only [List.length_set] using q2
        · rw [shapeL_all, List.all_eq_true]
          intro c hcm
          rcases List.mem_or_eq_of_mem_set hcm with h | h
          · exact hall c h
          · rw [h]; exact z1
      · rw [Nd.count_eq, Nd.count_eq n]
        have := countL_set n.kids k y h1 z2
        show 1 + countL (n.kids.set k y) ≤ _
        omega
theorem rem_valid {n r : Nd} {p : List ByteArray} (hn : validB n = true) (hr : remS n p = some r) : validB r = true := by
  unfold validB at hn ⊢
  rw [Bool.and_eq_true, decide_eq_true_eq] at hn ⊢
  rcases snoc_cases p with rfl | ⟨q, s, rfl⟩
  · unfold remS at hr; cases hr
  · rw [remS_snoc] at hr
    obtain ⟨m, hm, hr⟩ := Option.bind_eq_some_iff.1 hr
    rcases placeI_cases m s with ⟨h1, _⟩ | ⟨k, h1, h2, _⟩
    · rw [h1, if_neg (by omega)] at hr; cases hr
    · rw [h2, if_pos (by omega), Int.toNat_natCast] at hr
      have hcnt : (delK m k).count ≤ m.count := by
        rw [Nd.count_eq, Nd.count_eq m]
        have := countL_sub (tdSub m.kids k)
        show 1 + countL (m.kids.take k ++ m.kids.drop (k + 1)) ≤ _
        omega
      obtain ⟨z1, z2⟩ := set_shape q n m (delK m k) r 5 hn.1 hm (fun e he => (del_shape he h1).1) hcnt hr
      exact ⟨z1, by omega⟩
def delO (s : ByteArray) (m : Nd) : Option Nd := if 0 ≤ placeI m s then some (delK m (placeI m s).toNat) else none
theorem chgS_bind (g : Nd → Option Nd) : ∀ (p : List ByteArray) (n : Nd), chgS n p g = (getS n p).bind (fun m => (g m).bind (fun x => setS n p x))
  | [], n => by
    rw [chgS, getS, Option.bind_some]
    cases g n <;> simp [setS]
  | s :: p, n => by
    rcases placeI_cases n s with ⟨h1, _⟩ | ⟨k, h1, h2, _⟩
    · rw [chgS_no p g h1, getS_no _ h1]; rfl
    · rw [chgS_yes p g h1 h2, getS_yes p h1 h2, chgS_bind g p]
      simp only [setS_yes p h1 h2]
      cases getS n.kids[k] p with
      | none => rfl
      | some m =>
        simp only [Option.bind_some]
        cases g m with
        | none => rfl
        | some x => rfl
theorem chgS_del (n : Nd) (q : List ByteArray) (s : ByteArray) : chgS n q (delO s) = remS n (q ++ [s]) := by
  rw [chgS_bind, remS_snoc]
  congr 1
  funext m
  unfold delO
  split <;> rfl
end Go.Proofs.YtfjaobfaepjfnaaDoor.Eng
-- EV: fresh
namespace Go.Proofs.YtfjaobfaepjfnaaDoor.Eng
open Go Go.RowKit
attribute [local simp] big size_mk ASt.pay Option.map_map Function.comp_def awant aop acall ado aev ofVal ofVal0 ASt.put ASt.add ASt.turn ASt.kill abox aalloc astore aload aloadD astoreD idOf ASt.at cellsTo afieldAddr afield aindexAddr aindex alen abin aint acmp astr aun apick aextract anil aslice abound abuild afill abuildSlice asCells aps avCells over upd aappend asrc amax amin aconv mkSt slots rowsOf_cons rowsOf_nil usedOf_cons usedOf_nil ZK.av List.replicate ASt.back ASt.addL ASt.killL nodeA nodeT nodeTL_eq nodeL_eq strsE_get strsE_len intsE_get intsE_len strsE_at intsE_at tab2 tab3 tab4 tab5 tab6 tab7 tab8 tab9 tab10 tab11 tab12 tab13 tab14 tab15 tab16 tab17 tab18 tab19 tab21 tab22 tab23 tab24 tab25 tab26 tab28 tab29 tab30 tab31 tab42 tab43 tab44 tab46 tab63 tab64 tab67 tab68 tab75 tab98 tab100 tab101 tab105 tab106 tab107 tab122 tab123 tab125 tab128 tab138 tab144 tab151 tab152 tab157 tab158 tab160 tab161 tab162
def ckN (m : Nd) : Option Nd := if validB m then some m else none
def remO (n : Nd) (p : List ByteArray) : Option Nd := if validB n && pathB p then (remS n p).bind ckN else none
set_option maxRecDepth 100000
set_option maxHeartbeats 8000000
end Go.Proofs.YtfjaobfaepjfnaaDoor.Eng
-- EV: fresh
namespace Go.Proofs.YtfjaobfaepjfnaaDoor.Eng
open Go Go.RowKit
attribute [local simp] big size_mk ASt.pay Option.map_map Function.comp_def awant aop acall ado aev ofVal ofVal0 ASt.put ASt.add ASt.turn ASt.kill abox aalloc astore aload aloadD astoreD idOf ASt.at cellsTo afieldAddr afield aindexAddr aindex alen abin aint acmp astr aun apick aextract anil aslice abound abuild afill abuildSlice asCells aps avCells over upd aappend asrc amax amin aconv mkSt slots rowsOf_cons rowsOf_nil usedOf_cons usedOf_nil ZK.av List.replicate ASt.back ASt.addL ASt.killL nodeA nodeT nodeTL_eq nodeL_eq strsE_get strsE_len intsE_get intsE_len strsE_at intsE_at tab2 tab3 tab4 tab5 tab6 tab7 tab8 tab9 tab10 tab11 tab12 tab13 tab14 tab15 tab16 tab17 tab18 tab19 tab21 tab22 tab23 tab24 tab25 tab26 tab28 tab29 tab30 tab31 tab42 tab43 tab44 tab46 tab63 tab64 tab67 tab68 tab75 tab98 tab100 tab101 tab105 tab106 tab107 tab122 tab123 tab125 tab128 tab138 tab144 tab151 tab152 tab157 tab158 tab160 tab161 tab162
theorem fp_td {ks : List Lb} (k : Nat) (h : (ks.flatMap Lb.fp).Nodup) : ((ks.take k ++ ks.drop (k + 1)).flatMap Lb.fp).Nodup := by
  have aux : ∀ {l m : List Lb}, l.Sublist m → (l.flatMap Lb.fp).Sublist (m.flatMap Lb.fp) := fun h => by
    induction h with
    | slnil => exact List.Sublist.refl _
    | cons a _ ih => rw [List.flatMap_cons]; exact ih.trans (List.sublist_append_right _ _)
    | cons_cons a _ ih => rw [List.flatMap_cons, List.flatMap_cons]; exact (List.Sublist.refl _).append ih
  exact h.sublist (aux (tdSub ks k))
theorem fp_td_mem {ks : List Lb} {k b : Nat} (h : b ∈ (ks.take k ++ ks.drop (k + 1)).flatMap Lb.fp) : b ∈ ks.flatMap Lb.fp := by
  obtain ⟨y, hy, hb⟩ := List.mem_flatMap.1 h
  exact List.mem_flatMap.2 ⟨y, (tdSub ks k).subset hy, hb⟩
set_option maxRecDepth 100000
set_option maxHeartbeats 8000000
theorem remKF (t : VC) (q : List ByteArray) (s : ByteArray) (n : Nd) (hn : Shp n) (hq : q.length ≤ 999) : ACF Tryd.prog 58 [nodeA n, .eptr .loose [.view t 1 (strsE (q ++ [s]))], .eptr .loose [.int .i64 q.length]] 0 (rNB ((delO s n).getD Nd.zero) (delO s n).isSome) := by
  have pk := kidIndex_AC n s hn
  have hki := kidI_eq (st := s) hn
  have p5 := implCopyF_ACM n hn.sml
  have hcn := node_clo n
  have hget : (strsE q ++ [[AV.str s]])[q.length]? = some [AV.str s] := by rw [List.getElem?_append_right (by rw [strsE_len]; exact Nat.le_refl _), strsE_len]; simp
  have hget' : ∀ h, (strsE q ++ [[AV.str s]])[q.length]'h = [AV.str s] := fun h => by rw [List.getElem?_eq_getElem h] at hget; exact Option.some.inj hget
  have hlt : q.length < q.length + 1 := by omega
  have hle : q.length ≤ q.length + 1 := by omega
  have hle' : (q.length : Int) ≤ (q.length : Int) + 1 := by omega
  have hlt' : (q.length : Int) < (q.length : Int) + 1 := by omega
  have hn0 : ¬ (q.length : Int) < 0 := by omega
  refine ACF.weak ?_
  unfold nodeA at pk p5 hcn ⊢
  rw [nodeL_eq] at pk p5 hcn ⊢
  rw [strs_snoc]
  refine ACF.of tab_ok mixed_ok Tryd.func58 (by rfl) (by kernel_rfl) ?_; rintro ⟨P, T, hT, hm, w0, S0, rd0, k0⟩ hP hTT hN; dsimp only at hP hTT hN; subst hP hTT; dsimp only; unfold initSt; rw [Tryd.ntmps58]
  rcases placeI_cases n s with ⟨h1, _⟩ | ⟨k, h1, h2, _⟩
  · have hd : decide (0 ≤ placeI n s) = false := by rw [h1]; rfl
    have e : delO s n = none := by unfold delO; rw [h1, if_neg (by omega)]
    rw [hd] at pk
    rw [e]
    generalize kidI n s = ki at pk
    (repeat (first | with_reducible refine AW.seq ?_ | ((first | refine arun_kn 4 rfl (fun C hC => ?_) | refine arunD_kn 4 rfl (fun C hC => ?_)); (repeat ((conv => whnf); simp [strsE_len, hget, hget', hlt, hle, hle', hlt', hn0])); refine hC _ ?_; clear hC C; simp only [List.drop, Nat.reduceAdd]) | ((first | refine arun_kn 1 rfl (fun C hC => ?_) | refine arunD_kn 1 rfl (fun C hC => ?_)); (repeat ((conv => whnf); simp [strsE_len, hget, hget', hlt, hle, hle', hlt', hn0])); refine hC _ ?_; clear hC C; simp only [List.drop, Nat.reduceAdd]) | (refine arun_skip ?_ ?_; (focus (simp [awant, strsE_len, hget, hget', hlt, hle, hle', hlt', hn0]; done))) | (refine arun_c0 (pk) ?_; rintro _ rfl) | (refine arunD_c (0) (pk) ?_; rintro _ rfl; intro _) | (refine AW.regionK [] (fun K hK => ?_)) | (refine AW.regionDK [] (pcs [(5, 0, fun r => r = .tup [.int .i64 ki, .bool false])] []) (by kernel_rfl) (by kernel_rfl) (fun K hK => ?_)) | (refine AW.condT ?_ ?_; (focus (simp [aev, strsE_len, hget, hget', hlt, hle, hle', hlt', hn0]; done))) | (refine AW.condF ?_ ?_; (focus (simp [aev, strsE_len, hget, hget', hlt, hle, hle', hlt', hn0]; done))) | with_reducible refine AW.block ?_ | ((first | ((first | refine arun_nil ?_ | refine arunD_nil ?_); refine hK _ ?_; clear hK K) | refine AW.skip ?_ | refine AW.exit ?_ | refine AW.ret ?_); simp only [thenA_exit, inBlockA_exit, if_true, if_false, Nat.reduceEqDiff, thenA_normal, inBlockA_normal, reduceIte, thenA_ret, inBlockA_ret, endQ_ret, endR_ret, endG_ret, endQ_normal, endR_normal, endG_normal, endF_ret, endF_normal])))
    obtain ⟨z1, z2, z3⟩ := rNB_none (r := .tup [node0 0 0 ⟨#[]⟩, .bool false]) rfl
    exact ⟨.tup [node0 0 0 ⟨#[]⟩, .bool false], by simp [node0, ares, aresL, upd, rowsOf_cons], z1, z2 _, z3⟩
  have hd : decide (0 ≤ placeI n s) = true := by rw [h2]; simp
  rw [hd, hki (by omega), h2] at pk
  have e : delO s n = some (delK n k) := by unfold delO; rw [h2, if_pos (by omega), Int.toNat_natCast]
  rw [e]
  have hk0 : ¬ ((k : Int) < 0) := by omega
  have h6 := hn.kids
  have hw : IntKind.i64.wrap ((k : Int) + 1) = (k : Int) + 1 := i64_nat (by omega) (by omega)
  (repeat (first | with_reducible refine AW.seq ?_ | ((first | refine arun_kn 4 rfl (fun C hC => ?_) | refine arunD_kn 4 rfl (fun C hC => ?_)); (repeat ((conv => whnf); simp [strsE_len, hget, hget', hlt, hle, hle', hlt', hn0])); refine hC _ ?_; clear hC C; simp only [List.drop, Nat.reduceAdd]) | ((first | refine arun_kn 1 rfl (fun C hC => ?_) | refine arunD_kn 1 rfl (fun C hC => ?_)); (repeat ((conv => whnf); simp [strsE_len, hget, hget', hlt, hle, hle', hlt', hn0])); refine hC _ ?_; clear hC C; simp only [List.drop, Nat.reduceAdd]) | (refine arun_skip ?_ ?_; (focus (simp [awant, strsE_len, hget, hget', hlt, hle, hle', hlt', hn0]; done))) | (refine arun_c0 (pk) ?_; rintro _ rfl) | (refine arunD_c (0) (pk) ?_; rintro _ rfl; intro _) | (refine AW.regionK [] (fun K hK => ?_)) | (refine AW.regionDK [] (pcs [(5, 0, fun r => r = .tup [.int .i64 k, .bool true])] []) (by kernel_rfl) (by kernel_rfl) (fun K hK => ?_)) | (refine AW.condT ?_ ?_; (focus (simp [aev, strsE_len, hget, hget', hlt, hle, hle', hlt', hn0]; done))) | (refine AW.condF ?_ ?_; (focus (simp [aev, strsE_len, hget, hget', hlt, hle, hle', hlt', hn0]; done))) | with_reducible refine AW.block ?_ | ((first | ((first | refine arun_nil ?_ | refine arunD_nil ?_); refine hK _ ?_; clear hK K) | refine AW.skip ?_ | refine AW.exit ?_ | refine AW.ret ?_); simp only [thenA_exit, inBlockA_exit, if_true, if_false, Nat.reduceEqDiff, thenA_normal, inBlockA_normal, reduceIte, thenA_ret, inBlockA_ret, endQ_ret, endR_ret, endG_ret, endQ_normal, endR_normal, endG_normal, endF_ret, endF_normal])))
  refine arun_callM (hw := by simp [awant]) (ha := rfl) p5 (hargs := .cons (.base (.clo hcn.cloTo)) .nil) (hcan := can_of (Nat.le_refl _)) ?_
  rintro r l' ⟨ks, hks, hkn, rfl, rfl⟩ hA2
  refine ⟨_, _, _, back_copyF (A := 100) (B := 101) (by decide) (by simp [usedOf_cons, usedOf_nil, upd]) (by simp [usedOf_cons, usedOf_nil, upd]), ?_⟩
  have hA4 : ∀ b ∈ ks.flatMap Lb.fp, w0.wd.heap.size ≤ b := fun b hb => hN.ge (fun h => hA2 b (.inr ⟨(34, labsR ks), by simp, by rw [show (labsR ks).es = ks.map labL from rfl, atE_labs]; exact hb⟩) h)
  have hbare := hn.bare (hn.kd h1)
  (repeat (first | with_reducible refine AW.seq ?_ | ((first | refine arun_kn 4 rfl (fun C hC => ?_) | refine arunD_kn 4 rfl (fun C hC => ?_)); (repeat ((conv => whnf); simp [nodeRR])); refine hC _ ?_; clear hC C; simp only [List.drop, Nat.reduceAdd]) | ((first | refine arun_kn 1 rfl (fun C hC => ?_) | refine arunD_kn 1 rfl (fun C hC => ?_)); (repeat ((conv => whnf); simp [nodeRR])); refine hC _ ?_; clear hC C; simp only [List.drop, Nat.reduceAdd]) | (refine arun_skip ?_ ?_; (focus (simp [awant, nodeRR]; done))) | (refine AW.condT ?_ ?_; (focus (simp [aev, nodeRR]; done))) | (refine AW.condF ?_ ?_; (focus (simp [aev, nodeRR]; done))) | with_reducible refine AW.block ?_ | ((first | ((first | refine arun_nil ?_ | refine arunD_nil ?_); refine hK _ ?_; clear hK K) | refine AW.skip ?_ | refine AW.exit ?_ | refine AW.ret ?_); simp only [thenA_exit, inBlockA_exit, if_true, if_false, Nat.reduceEqDiff, thenA_normal, inBlockA_normal, reduceIte, thenA_ret, inBlockA_ret, endQ_ret, endR_ret, endG_ret, endQ_normal, endR_normal, endG_normal, endF_ret, endF_normal])))
  by_cases h4 : n.kind = 4
  · have hb4 : (n.kind == 4) = true := by simpa using h4
    have hnl := (hn.map h4).2
    have hsl := strsE_len n.names
    have hdel := delS_ACG (strsE n.names) k (by rw [hsl]; omega) (strsE_pur n.names)
    rw [hsl] at hdel
    obtain ⟨nm', hnm'⟩ : ∃ nm', nm' = n.names.take k ++ n.names.drop (k + 1) := ⟨_, rfl⟩
    have hes : (strsE n.names).take k ++ (strsE n.names).drop (k + 1) = strsE nm' := by rw [hnm']; simp [strsE, List.map_take, List.map_drop]
    rw [hes] at hdel
    have hnl2 : nm'.length = n.names.length - 1 := by rw [hnm', List.length_append, List.length_take, List.length_drop]; omega
    (repeat (first | with_reducible refine AW.seq ?_ | ((first | refine arun_kn 4 rfl (fun C hC => ?_) | refine arunD_kn 4 rfl (fun C hC => ?_)); (repeat ((conv => whnf); simp [hb4, hw, hsl, namesR, labsR])); refine hC _ ?_; clear hC C; simp only [List.drop, Nat.reduceAdd]) | ((first | refine arun_kn 1 rfl (fun C hC => ?_) | refine arunD_kn 1 rfl (fun C hC => ?_)); (repeat ((conv => whnf); simp [hb4, hw, hsl, namesR, labsR])); refine hC _ ?_; clear hC C; simp only [List.drop, Nat.reduceAdd]) | (refine arun_skip ?_ ?_; (focus (simp [awant, hb4, hw, hsl, namesR, labsR]; done))) | (refine AW.regionK [] (fun K hK => ?_)) | (refine AW.regionDK [] (pcs [] []) (by kernel_rfl) (by kernel_rfl) (fun K hK => ?_)) | (refine AW.condT ?_ ?_; (focus (simp [aev, hb4, hw, hsl, namesR, labsR]; done))) | (refine AW.condF ?_ ?_; (focus (simp [aev, hb4, hw, hsl, namesR, labsR]; done))) | with_reducible refine AW.block ?_ | ((first | ((first | refine arun_nil ?_ | refine arunD_nil ?_); refine hK _ ?_; clear hK K) | refine AW.skip ?_ | refine AW.exit ?_ | refine AW.ret ?_); simp only [thenA_exit, inBlockA_exit, if_true, if_false, Nat.reduceEqDiff, thenA_normal, inBlockA_normal, reduceIte, thenA_ret, inBlockA_ret, endQ_ret, endR_ret, endG_ret, endQ_normal, endR_normal, endG_normal, endF_ret, endF_normal])))
    refine arun_callG1 (g := fun k => .own k (n.names.length - 1)) (R := namesR nm') [(1000, ⟨false, 9, 1, strsE n.names⟩)] (fun _ => 100) 102 (by simp [awant]) rfl (hdel.mono (fun r b h => ⟨1, h⟩)) (by simp) ?_ ?_ (can_of (Nat.le_refl _)) (by simp [upd]) (strsE_pur _) (fun k => .base (.base (.own (by simp) rfl))) ?_
    · exact MvR.same (by simp [upd, rowsOf_cons]) (fun e he c hc => (strsE_pur _ e he c hc).clo) MvR.nil
    · exact .cons (.base (.own (by simp) (by simp))) (.cons (.base (.clo (Clo.cloTo clo_int))) (.cons (.base (.clo (Clo.cloTo clo_int))) .nil))
    (repeat (first | with_reducible refine AW.seq ?_ | ((first | refine arun_kn 4 rfl (fun C hC => ?_) | refine arunD_kn 4 rfl (fun C hC => ?_)); (repeat ((conv => whnf); simp [hw, hsl, namesR, labsR])); refine hC _ ?_; clear hC C; simp only [List.drop, Nat.reduceAdd]) | ((first | refine arun_kn 1 rfl (fun C hC => ?_) | refine arunD_kn 1 rfl (fun C hC => ?_)); (repeat ((conv => whnf); simp [hw, hsl, namesR, labsR])); refine hC _ ?_; clear hC C; simp only [List.drop, Nat.reduceAdd]) | (refine arun_skip ?_ ?_; (focus (simp [awant, hw, hsl, namesR, labsR]; done))) | (refine AW.regionK [] (fun K hK => ?_)) | (refine AW.regionDK [] (pcs [] []) (by kernel_rfl) (by kernel_rfl) (fun K hK => ?_)) | (refine AW.condT ?_ ?_; (focus (simp [aev, hw, hsl, namesR, labsR]; done))) | (refine AW.condF ?_ ?_; (focus (simp [aev, hw, hsl, namesR, labsR]; done))) | with_reducible refine AW.block ?_ | ((first | ((first | refine arun_nil ?_ | refine arunD_nil ?_); refine hK _ ?_; clear hK K) | refine AW.skip ?_ | refine AW.exit ?_ | refine AW.ret ?_); simp only [thenA_exit, inBlockA_exit, if_true, if_false, Nat.reduceEqDiff, thenA_normal, inBlockA_normal, reduceIte, thenA_ret, inBlockA_ret, endQ_ret, endR_ret, endG_ret, endQ_normal, endR_normal, endG_normal, endF_ret, endF_normal])))
    have hlk : ks.length = n.kids.length := by rw [← hks, List.length_map]
    have hml : (ks.map labL).length = n.kids.length := by rw [List.length_map, hlk]
    obtain ⟨ks', hks'⟩ : ∃ ks', ks' = ks.take k ++ ks.drop (k + 1) := ⟨_, rfl⟩
    have hlk2 : ks'.length = n.kids.length - 1 := by rw [hks', List.length_append, List.length_take, List.length_drop]; omega
    have hdek := delN_ACG (ks.map labL) k (by rw [hml]; exact h1) (labsE_pur ks)
    rw [hml] at hdek
    have hkk : (ks.map labL).take k ++ (ks.map labL).drop (k + 1) = ks'.map labL := by rw [hks']; simp [List.map_take, List.map_drop]
    rw [hkk] at hdek
    refine arun_callG1 (g := fun k => .own k (n.kids.length - 1)) (R := labsR ks') [(1000, ⟨false, 26, 5, ks.map labL⟩)] (fun _ => 101) 103 (by simp [awant]) rfl (hdek.mono (fun r b h => ⟨1, h⟩)) (by simp) ?_ ?_ (can_of (Nat.le_refl _)) (by simp [upd]) (labsE_pur _) (fun k => .base (.base (.own (by simp) rfl))) ?_
    · exact MvR.same (by simp [upd, rowsOf_cons, labsR]) (fun e he c hc => (labsE_pur _ e he c hc).clo) MvR.nil
    · exact .cons (.base (.own (by simp) (by simp))) (.cons (.base (.clo (Clo.cloTo clo_int))) (.cons (.base (.clo (Clo.cloTo clo_int))) .nil))
    (repeat (first | with_reducible refine AW.seq ?_ | ((first | refine arun_kn 4 rfl (fun C hC => ?_) | refine arunD_kn 4 rfl (fun C hC => ?_)); (repeat ((conv => whnf); simp [hw, hsl, namesR, labsR])); refine hC _ ?_; clear hC C; simp only [List.drop, Nat.reduceAdd]) | ((first | refine arun_kn 1 rfl (fun C hC => ?_) | refine arunD_kn 1 rfl (fun C hC => ?_)); (repeat ((conv => whnf); simp [hw, hsl, namesR, labsR])); refine hC _ ?_; clear hC C; simp only [List.drop, Nat.reduceAdd]) | (refine arun_skip ?_ ?_; (focus (simp [awant, hw, hsl, namesR, labsR]; done))) | (refine AW.condT ?_ ?_; (focus (simp [aev, hw, hsl, namesR, labsR]; done))) | (refine AW.condF ?_ ?_; (focus (simp [aev, hw, hsl, namesR, labsR]; done))) | with_reducible refine AW.block ?_ | ((first | ((first | refine arun_nil ?_ | refine arunD_nil ?_); refine hK _ ?_; clear hK K) | refine AW.skip ?_ | refine AW.exit ?_ | refine AW.ret ?_); simp only [thenA_exit, inBlockA_exit, if_true, if_false, Nat.reduceEqDiff, thenA_normal, inBlockA_normal, reduceIte, thenA_ret, inBlockA_ret, endQ_ret, endR_ret, endG_ret, endQ_normal, endR_normal, endG_normal, endF_ret, endF_normal])))
    refine AW.holdF 102 hN (fun g1 hg1 ht1 hr1 => ?_)
    have f1 := hr1 103 ⟨false, 26, 5, ks'.map labL⟩ (by simp [upd, rowsOf_cons, labsR])
    refine AW.holdF 103 hN (fun g2 hg2 ht2 hr2 => ?_)
    have f2 := hr2 103 ⟨false, 26, 5, ks'.map labL⟩ (by simp [ASt.holdF, rowsOf_cons, upd, Row.sub, labsE_sub, namesR, labsR]; exact fun a _ => labL_sub a)
    have f3 := hr2 8 ⟨true, 26, 5, [[.int .i64 n.kind, .int .i64 n.num, .str n.text, .view (.fr g1) 1 (strsE nm'), .own 103 (n.kids.length - 1)]]⟩ (by simp [ASt.holdF, rowsOf_cons, upd, AV.subL, AV.sub, Row.sub, strsE_len, namesR, labsR, hnl2])
    clear ht1 hr1 ht2 hr2
    (repeat (first | with_reducible refine AW.seq ?_ | ((first | refine arun_kn 4 rfl (fun C hC => ?_) | refine arunD_kn 4 rfl (fun C hC => ?_)); (repeat ((conv => whnf); simp [ASt.holdF, AV.subL, AV.sub, Row.sub, rowsOf_cons, upd, labsE_sub, strsE_len, hlk2, hnl2, namesR, labsR])); refine hC _ ?_; clear hC C; simp only [List.drop, Nat.reduceAdd]) | ((first | refine arun_kn 1 rfl (fun C hC => ?_) | refine arunD_kn 1 rfl (fun C hC => ?_)); (repeat ((conv => whnf); simp [ASt.holdF, AV.subL, AV.sub, Row.sub, rowsOf_cons, upd, labsE_sub, strsE_len, hlk2, hnl2, namesR, labsR])); refine hC _ ?_; clear hC C; simp only [List.drop, Nat.reduceAdd]) | (refine arun_skip ?_ ?_; (focus (simp [awant, ASt.holdF, AV.subL, AV.sub, Row.sub, rowsOf_cons, upd, labsE_sub, strsE_len, hlk2, hnl2, namesR, labsR]; done))) | (refine AW.regionK [] (fun K hK => ?_)) | (refine AW.regionDK [] (pcs [] []) (by kernel_rfl) (by kernel_rfl) (fun K hK => ?_)) | (refine AW.condT ?_ ?_; (focus (simp [aev, ASt.holdF, AV.subL, AV.sub, Row.sub, rowsOf_cons, upd, labsE_sub, strsE_len, hlk2, hnl2, namesR, labsR]; done))) | (refine AW.condF ?_ ?_; (focus (simp [aev, ASt.holdF, AV.subL, AV.sub, Row.sub, rowsOf_cons, upd, labsE_sub, strsE_len, hlk2, hnl2, namesR, labsR]; done))) | with_reducible refine AW.block ?_ | ((first | ((first | refine arun_nil ?_ | refine arunD_nil ?_); refine hK _ ?_; clear hK K) | refine AW.skip ?_ | refine AW.exit ?_ | refine AW.ret ?_); simp only [thenA_exit, inBlockA_exit, if_true, if_false, Nat.reduceEqDiff, thenA_normal, inBlockA_normal, reduceIte, thenA_ret, inBlockA_ret, endQ_ret, endR_ret, endG_ret, endQ_normal, endR_normal, endG_normal, endF_ret, endF_normal])))
    rw [atE_labs] at f1 f2
    refine ⟨.tup [labA ⟨n.kind, n.num, n.text, nm', g1, ks', g2⟩, .bool true], by unfold labA; rw [labL_eq]; simp [ares, aresL, upd, rowsOf_cons, labL_sub], tup2_pur (lab_pur _) pur_bool, fun b hb => ?_, _, Wk.refl _, fun _ h => h, ⟨_, _, _, _, _, _, _⟩, ?_, fp_nodup (by dsimp only; rw [hks']; exact fp_td k hkn) f1 f2 (fun h1 _ => f3 g1 ?_), rfl⟩
    · rw [at_tup2] at hb
      refine fp_ge (l := ⟨n.kind, n.num, n.text, nm', g1, ks', g2⟩) (fun b hb => ?_) hg1 hg2 b hb
      rw [hks'] at hb
      exact hA4 b (fp_td_mem hb)
    · rw [nd_eq]
      dsimp only
      rw [hks', List.map_append, List.map_take, List.map_drop, hks, hbare.1, hbare.2.1]
      show _ = delK n k
      unfold delK
      rw [if_pos h4, hnm']
    · dsimp only at h1
      have : (strsE nm').isEmpty = false := by unfold strsE; cases hh : nm' with | nil => exact absurd hh h1 | cons _ _ => rfl
      simp [atE_cons, atE_nil, atL_cons, atL_nil, at_int, at_str, at_own, at_view, frB_fr, this]
  · have hb4 : (n.kind == 4) = false := by simpa using h4
    (repeat (first | with_reducible refine AW.seq ?_ | ((first | refine arun_kn 4 rfl (fun C hC => ?_) | refine arunD_kn 4 rfl (fun C hC => ?_)); (repeat ((conv => whnf); simp [hb4, hw, namesR, labsR])); refine hC _ ?_; clear hC C; simp only [List.drop, Nat.reduceAdd]) | ((first | refine arun_kn 1 rfl (fun C hC => ?_) | refine arunD_kn 1 rfl (fun C hC => ?_)); (repeat ((conv => whnf); simp [hb4, hw, namesR, labsR])); refine hC _ ?_; clear hC C; simp only [List.drop, Nat.reduceAdd]) | (refine arun_skip ?_ ?_; (focus (simp [awant, hb4, hw, namesR, labsR]; done))) | (refine AW.regionK [] (fun K hK => ?_)) | (refine AW.regionDK [] (pcs [] []) (by kernel_rfl) (by kernel_rfl) (fun K hK => ?_)) | (refine AW.condT ?_ ?_; (focus (simp [aev, hb4, hw, namesR, labsR]; done))) | (refine AW.condF ?_ ?_; (focus (simp [aev, hb4, hw, namesR, labsR]; done))) | with_reducible refine AW.block ?_ | ((first | ((first | refine arun_nil ?_ | refine arunD_nil ?_); refine hK _ ?_; clear hK K) | refine AW.skip ?_ | refine AW.exit ?_ | refine AW.ret ?_); simp only [thenA_exit, inBlockA_exit, if_true, if_false, Nat.reduceEqDiff, thenA_normal, inBlockA_normal, reduceIte, thenA_ret, inBlockA_ret, endQ_ret, endR_ret, endG_ret, endQ_normal, endR_normal, endG_normal, endF_ret, endF_normal])))
    have hlk : ks.length = n.kids.length := by rw [← hks, List.length_map]
    have hml : (ks.map labL).length = n.kids.length := by rw [List.length_map, hlk]
    obtain ⟨ks', hks'⟩ : ∃ ks', ks' = ks.take k ++ ks.drop (k + 1) := ⟨_, rfl⟩
    have hlk2 : ks'.length = n.kids.length - 1 := by rw [hks', List.length_append, List.length_take, List.length_drop]; omega
    have hdek := delN_ACG (ks.map labL) k (by rw [hml]; exact h1) (labsE_pur ks)
    rw [hml] at hdek
    have hkk : (ks.map labL).take k ++ (ks.map labL).drop (k + 1) = ks'.map labL := by rw [hks']; simp [List.map_take, List.map_drop]
    rw [hkk] at hdek
    refine arun_callG1 (g := fun k => .own k (n.kids.length - 1)) (R := labsR ks') [(1000, ⟨false, 26, 5, ks.map labL⟩)] (fun _ => 101) 103 (by simp [awant]) rfl (hdek.mono (fun r b h => ⟨1, h⟩)) (by simp) ?_ ?_ (can_of (Nat.le_refl _)) (by simp [upd]) (labsE_pur _) (fun k => .base (.base (.own (by simp) rfl))) ?_
    · exact MvR.same (by simp [upd, rowsOf_cons, labsR]) (fun e he c hc => (labsE_pur _ e he c hc).clo) MvR.nil
    · exact .cons (.base (.own (by simp) (by simp))) (.cons (.base (.clo (Clo.cloTo clo_int))) (.cons (.base (.clo (Clo.cloTo clo_int))) .nil))
    (repeat (first | with_reducible refine AW.seq ?_ | ((first | refine arun_kn 4 rfl (fun C hC => ?_) | refine arunD_kn 4 rfl (fun C hC => ?_)); (repeat ((conv => whnf); simp [hw, namesR, labsR])); refine hC _ ?_; clear hC C; simp only [List.drop, Nat.reduceAdd]) | ((first | refine arun_kn 1 rfl (fun C hC => ?_) | refine arunD_kn 1 rfl (fun C hC => ?_)); (repeat ((conv => whnf); simp [hw, namesR, labsR])); refine hC _ ?_; clear hC C; simp only [List.drop, Nat.reduceAdd]) | (refine arun_skip ?_ ?_; (focus (simp [awant, hw, namesR, labsR]; done))) | (refine AW.condT ?_ ?_; (focus (simp [aev, hw, namesR, labsR]; done))) | (refine AW.condF ?_ ?_; (focus (simp [aev, hw, namesR, labsR]; done))) | with_reducible refine AW.block ?_ | ((first | ((first | refine arun_nil ?_ | refine arunD_nil ?_); refine hK _ ?_; clear hK K) | refine AW.skip ?_ | refine AW.exit ?_ | refine AW.ret ?_); simp only [thenA_exit, inBlockA_exit, if_true, if_false, Nat.reduceEqDiff, thenA_normal, inBlockA_normal, reduceIte, thenA_ret, inBlockA_ret, endQ_ret, endR_ret, endG_ret, endQ_normal, endR_normal, endG_normal, endF_ret, endF_normal])))
    refine AW.holdF 100 hN (fun g1 hg1 ht1 hr1 => ?_)
    have f1 := hr1 103 ⟨false, 26, 5, ks'.map labL⟩ (by simp [upd, rowsOf_cons, labsR])
    refine AW.holdF 103 hN (fun g2 hg2 ht2 hr2 => ?_)
    have f2 := hr2 103 ⟨false, 26, 5, ks'.map labL⟩ (by simp [ASt.holdF, rowsOf_cons, upd, Row.sub, labsE_sub, namesR, labsR]; exact fun a _ => labL_sub a)
    have f3 := hr2 8 ⟨true, 26, 5, [[.int .i64 n.kind, .int .i64 n.num, .str n.text, .view (.fr g1) 1 (strsE n.names), .own 103 (n.kids.length - 1)]]⟩ (by simp [ASt.holdF, rowsOf_cons, upd, AV.subL, AV.sub, Row.sub, strsE_len, namesR, labsR, hlk2])
    clear ht1 hr1 ht2 hr2
    (repeat (first | with_reducible refine AW.seq ?_ | ((first | refine arun_kn 4 rfl (fun C hC => ?_) | refine arunD_kn 4 rfl (fun C hC => ?_)); (repeat ((conv => whnf); simp [ASt.holdF, AV.subL, AV.sub, Row.sub, rowsOf_cons, upd, labsE_sub, strsE_len, hlk2, hlk2, namesR, labsR])); refine hC _ ?_; clear hC C; simp only [List.drop, Nat.reduceAdd]) | ((first | refine arun_kn 1 rfl (fun C hC => ?_) | refine arunD_kn 1 rfl (fun C hC => ?_)); (repeat ((conv => whnf); simp [ASt.holdF, AV.subL, AV.sub, Row.sub, rowsOf_cons, upd, labsE_sub, strsE_len, hlk2, hlk2, namesR, labsR])); refine hC _ ?_; clear hC C; simp only [List.drop, Nat.reduceAdd]) | (refine arun_skip ?_ ?_; (focus (simp [awant, ASt.holdF, AV.subL, AV.sub, Row.sub, rowsOf_cons, upd, labsE_sub, strsE_len, hlk2, hlk2, namesR, labsR]; done))) | (refine AW.regionK [] (fun K hK => ?_)) | (refine AW.regionDK [] (pcs [] []) (by kernel_rfl) (by kernel_rfl) (fun K hK => ?_)) | (refine AW.condT ?_ ?_; (focus (simp [aev, ASt.holdF, AV.subL, AV.sub, Row.sub, rowsOf_cons, upd, labsE_sub, strsE_len, hlk2, hlk2, namesR, labsR]; done))) | (refine AW.condF ?_ ?_; (focus (simp [aev, ASt.holdF, AV.subL, AV.sub, Row.sub, rowsOf_cons, upd, labsE_sub, strsE_len, hlk2, hlk2, namesR, labsR]; done))) | with_reducible refine AW.block ?_ | ((first | ((first | refine arun_nil ?_ | refine arunD_nil ?_); refine hK _ ?_; clear hK K) | refine AW.skip ?_ | refine AW.exit ?_ | refine AW.ret ?_); simp only [thenA_exit, inBlockA_exit, if_true, if_false, Nat.reduceEqDiff, thenA_normal, inBlockA_normal, reduceIte, thenA_ret, inBlockA_ret, endQ_ret, endR_ret, endG_ret, endQ_normal, endR_normal, endG_normal, endF_ret, endF_normal])))
    rw [atE_labs] at f1 f2
    refine ⟨.tup [labA ⟨n.kind, n.num, n.text, n.names, g1, ks', g2⟩, .bool true], by unfold labA; rw [labL_eq]; simp [ares, aresL, upd, rowsOf_cons, labL_sub], tup2_pur (lab_pur _) pur_bool, fun b hb => ?_, _, Wk.refl _, fun _ h => h, ⟨_, _, _, _, _, _, _⟩, ?_, fp_nodup (by dsimp only; rw [hks']; exact fp_td k hkn) f1 f2 (fun h1 _ => f3 g1 ?_), rfl⟩
    · rw [at_tup2] at hb
      refine fp_ge (l := ⟨n.kind, n.num, n.text, n.names, g1, ks', g2⟩) (fun b hb => ?_) hg1 hg2 b hb
      rw [hks'] at hb
      exact hA4 b (fp_td_mem hb)
    · rw [nd_eq]
      dsimp only
      rw [hks', List.map_append, List.map_take, List.map_drop, hks, hbare.1, hbare.2.1]
      show _ = delK n k
      unfold delK
      rw [if_neg h4, hbare.2.2 ((hn.kd h1).resolve_left h4)]
    · dsimp only at h1
      have : (strsE n.names).isEmpty = false := by unfold strsE; cases hh : n.names with | nil => exact absurd hh h1 | cons _ _ => rfl
      simp [atE_cons, atE_nil, atL_cons, atL_nil, at_int, at_str, at_own, at_view, frB_fr, this]
theorem remO_eq {n : Nd} {p : List ByteArray} (h1 : validB n = true) (h2 : pathB p = true) : remO n p = remS n p := by
  unfold remO
  rw [h1, h2]
  cases hr : remS n p with
  | none => rfl
  | some r => simp [ckN, rem_valid h1 hr]
theorem RemoveNode_ACF (t : VC) (n : Nd) (p : List ByteArray) : ACF Tryd.prog 17 [nodeA n, .view t 1 (strsE p)] 0 (rNB ((remO n p).getD Nd.zero) (remO n p).isSome) := by
  refine ACF.weak ?_
  have p1 := ValidNode_AC n .loose
  have p2 := isPath_AC p t
  have hcn := node_clo n
  unfold nodeA at hcn ⊢
  rw [nodeL_eq n] at hcn ⊢
  refine ACF.of tab_ok mixed_ok Tryd.func17 (by rfl) (by kernel_rfl) ?_; rintro ⟨P, T, hT, hm, w0, S0, rd0, k0⟩ hP hTT hN; dsimp only at hP hTT hN; subst hP hTT; dsimp only; unfold initSt; rw [Tryd.ntmps17]
  cases h1 : validB n <;> rw [h1] at p1
  · have e : remO n p = none := by unfold remO; rw [h1]; rfl
    rw [e]
    (repeat (first | with_reducible refine AW.seq ?_ | ((first | refine arun_kn 4 rfl (fun C hC => ?_) | refine arunD_kn 4 rfl (fun C hC => ?_)); (repeat ((conv => whnf); simp)); refine hC _ ?_; clear hC C; simp only [List.drop, Nat.reduceAdd]) | ((first | refine arun_kn 1 rfl (fun C hC => ?_) | refine arunD_kn 1 rfl (fun C hC => ?_)); (repeat ((conv => whnf); simp)); refine hC _ ?_; clear hC C; simp only [List.drop, Nat.reduceAdd]) | (refine arun_skip ?_ ?_; (focus (simp [awant]; done))) | (refine arun_c0 (p1) ?_; rintro _ rfl) | (refine arun_c0 (p2) ?_; rintro _ rfl) | (refine AW.regionK [] (fun K hK => ?_)) | (refine AW.regionDK [] (pcs [] []) (by kernel_rfl) (by kernel_rfl) (fun K hK => ?_)) | (refine AW.condT ?_ ?_; (focus (simp [aev]; done))) | (refine AW.condF ?_ ?_; (focus (simp [aev]; done))) | with_reducible refine AW.block ?_ | ((first | ((first | refine arun_nil ?_ | refine arunD_nil ?_); refine hK _ ?_; clear hK K) | refine AW.skip ?_ | refine AW.exit ?_ | refine AW.ret ?_); simp only [thenA_exit, inBlockA_exit, if_true, if_false, Nat.reduceEqDiff, thenA_normal, inBlockA_normal, reduceIte, thenA_ret, inBlockA_ret, endQ_ret, endR_ret, endG_ret, endQ_normal, endR_normal, endG_normal, endF_ret, endF_normal])))
    obtain ⟨z1, z2, z3⟩ := rNB_none (r := .tup [node0 0 0 ⟨#[]⟩, .bool false]) rfl
    exact ⟨.tup [node0 0 0 ⟨#[]⟩, .bool false], by simp [node0, ares, aresL, upd, rowsOf_cons], z1, z2 _, z3⟩
  cases h2 : pathB p <;> rw [h2] at p2
  · have e : remO n p = none := by unfold remO; rw [h1, h2]; rfl
    rw [e]
    (repeat (first | with_reducible refine AW.seq ?_ | ((first | refine arun_kn 4 rfl (fun C hC => ?_) | refine arunD_kn 4 rfl (fun C hC => ?_)); (repeat ((conv => whnf); simp)); refine hC _ ?_; clear hC C; simp only [List.drop, Nat.reduceAdd]) | ((first | refine arun_kn 1 rfl (fun C hC => ?_) | refine arunD_kn 1 rfl (fun C hC => ?_)); (repeat ((conv => whnf); simp)); refine hC _ ?_; clear hC C; simp only [List.drop, Nat.reduceAdd]) | (refine arun_skip ?_ ?_; (focus (simp [awant]; done))) | (refine arun_c0 (p1) ?_; rintro _ rfl) | (refine arun_c0 (p2) ?_; rintro _ rfl) | (refine AW.regionK [] (fun K hK => ?_)) | (refine AW.regionDK [] (pcs [] []) (by kernel_rfl) (by kernel_rfl) (fun K hK => ?_)) | (refine AW.condT ?_ ?_; (focus (simp [aev]; done))) | (refine AW.condF ?_ ?_; (focus (simp [aev]; done))) | with_reducible refine AW.block ?_ | ((first | ((first | refine arun_nil ?_ | refine arunD_nil ?_); refine hK _ ?_; clear hK K) | refine AW.skip ?_ | refine AW.exit ?_ | refine AW.ret ?_); simp only [thenA_exit, inBlockA_exit, if_true, if_false, Nat.reduceEqDiff, thenA_normal, inBlockA_normal, reduceIte, thenA_ret, inBlockA_ret, endQ_ret, endR_ret, endG_ret, endQ_normal, endR_normal, endG_normal, endF_ret, endF_normal])))
    obtain ⟨z1, z2, z3⟩ := rNB_none (r := .tup [node0 0 0 ⟨#[]⟩, .bool false]) rfl
    exact ⟨.tup [node0 0 0 ⟨#[]⟩, .bool false], by simp [node0, ares, aresL, upd, rowsOf_cons], z1, z2 _, z3⟩
  rw [remO_eq h1 h2]
  have hpl : p.length ≤ 1000 := by unfold pathB at h2; simp at h2; omega
  rcases snoc_cases p with rfl | ⟨q, s, rfl⟩
  · have e : remS n [] = none := rfl
    rw [e]
    (repeat (first | with_reducible refine AW.seq ?_ | ((first | refine arun_kn 4 rfl (fun C hC => ?_) | refine arunD_kn 4 rfl (fun C hC => ?_)); (repeat ((conv => whnf); simp [strsE_len])); refine hC _ ?_; clear hC C; simp only [List.drop, Nat.reduceAdd]) | ((first | refine arun_kn 1 rfl (fun C hC => ?_) | refine arunD_kn 1 rfl (fun C hC => ?_)); (repeat ((conv => whnf); simp [strsE_len])); refine hC _ ?_; clear hC C; simp only [List.drop, Nat.reduceAdd]) | (refine arun_skip ?_ ?_; (focus (simp [awant, strsE_len]; done))) | (refine arun_c0 (p1) ?_; rintro _ rfl) | (refine arun_c0 (p2) ?_; rintro _ rfl) | (refine AW.regionK [] (fun K hK => ?_)) | (refine AW.regionDK [] (pcs [] []) (by kernel_rfl) (by kernel_rfl) (fun K hK => ?_)) | (refine AW.condT ?_ ?_; (focus (simp [aev, strsE_len]; done))) | (refine AW.condF ?_ ?_; (focus (simp [aev, strsE_len]; done))) | with_reducible refine AW.block ?_ | ((first | ((first | refine arun_nil ?_ | refine arunD_nil ?_); refine hK _ ?_; clear hK K) | refine AW.skip ?_ | refine AW.exit ?_ | refine AW.ret ?_); simp only [thenA_exit, inBlockA_exit, if_true, if_false, Nat.reduceEqDiff, thenA_normal, inBlockA_normal, reduceIte, thenA_ret, inBlockA_ret, endQ_ret, endR_ret, endG_ret, endQ_normal, endR_normal, endG_normal, endF_ret, endF_normal])))
    obtain ⟨z1, z2, z3⟩ := rNB_none (r := .tup [node0 0 0 ⟨#[]⟩, .bool false]) rfl
    exact ⟨.tup [node0 0 0 ⟨#[]⟩, .bool false], by simp [node0, ares, aresL, upd, rowsOf_cons], z1, z2 _, z3⟩
  rw [List.length_append, List.length_singleton] at hpl
  have hch := changeAt_ACF 58 [.eptr .loose [.view t 1 (strsE (q ++ [s]))], .eptr .loose [.int .i64 q.length]] ⟨clo_eptr (fun c hc => by rw [List.mem_singleton.1 hc]; exact strs_clo _), clo_eptr (fun c hc => by rw [List.mem_singleton.1 hc]; exact clo_int), trivial⟩ (fun c hc => by
    simp only [List.mem_cons, List.not_mem_nil, or_false] at hc
    rcases hc with rfl | rfl
    · exact in_eptr.2 (fun c hc => by rw [List.mem_singleton.1 hc]; exact in_view.2 (strsE_in _))
    · exact in_eptr.2 (fun c hc => by rw [List.mem_singleton.1 hc]; exact in_int)) (delO s) q n t.cut (Shp.of h1) (fun m hm => remKF t q s m (getS_shp q n m (Shp.of h1) hm) (by omega))
  rw [chgS_del] at hch
  replace hch := hch.mono (fun r h => rNB_X h)
  have hcf : Clo (.fn 58 [.eptr .loose [.view t 1 (strsE q ++ [[.str s]])], .eptr .loose [.int .i64 q.length]]) := clo_fn (fun c hc => by
    simp only [List.mem_cons, List.not_mem_nil, or_false] at hc
    rcases hc with rfl | rfl
    · rw [← strs_snoc]; exact clo_eptr (fun c hc => by rw [List.mem_singleton.1 hc]; exact strs_clo _)
    · exact clo_eptr (fun c hc => by rw [List.mem_singleton.1 hc]; exact clo_int))
  unfold nodeA at hch
  rw [nodeL_eq n] at hch
  have hcp : Clo (.view t 1 (strsE q ++ [[.str s]])) := by rw [← strs_snoc]; exact strs_clo _
  rw [strs_snoc] at hch p2 ⊢
  have hw : IntKind.i64.wrap (q.length : Int) = (q.length : Int) := i64_nat (by omega) (by omega)
  have htk : (strsE q ++ [[AV.str s]]).take q.length = strsE q := by rw [List.take_append_of_le_length (by rw [strsE_len]; exact Nat.le_refl _), List.take_of_length_le (by rw [strsE_len]; exact Nat.le_refl _)]
  have hlt : q.length < q.length + 1 := by omega
  have hle : q.length ≤ q.length + 1 := by omega
  have hle' : (q.length : Int) ≤ (q.length : Int) + 1 := by omega
  have hlt' : (q.length : Int) < (q.length : Int) + 1 := by omega
  have hn0 : ¬ (q.length : Int) < 0 := by omega
  have hz : (((q.length : Int) + 1) == 0) = false := beq_false_of_ne (by omega)
  refine AW.bound (fun N hNb => ?_)
  (repeat (first | with_reducible refine AW.seq ?_ | ((first | refine arun_kn 4 rfl (fun C hC => ?_) | refine arunD_kn 4 rfl (fun C hC => ?_)); (repeat ((conv => whnf); simp [strsE_len, hw, hz])); refine hC _ ?_; clear hC C; simp only [List.drop, Nat.reduceAdd]) | ((first | refine arun_kn 1 rfl (fun C hC => ?_) | refine arunD_kn 1 rfl (fun C hC => ?_)); (repeat ((conv => whnf); simp [strsE_len, hw, hz])); refine hC _ ?_; clear hC C; simp only [List.drop, Nat.reduceAdd]) | (refine arun_skip ?_ ?_; (focus (simp [awant, strsE_len, hw, hz]; done))) | (refine arun_c0 (p1) ?_; rintro _ rfl) | (refine arun_c0 (p2) ?_; rintro _ rfl) | (refine AW.regionK [] (fun K hK => ?_)) | (refine AW.condT ?_ ?_; (focus (simp [aev, strsE_len, hw, hz]; done))) | (refine AW.condF ?_ ?_; (focus (simp [aev, strsE_len, hw, hz]; done))) | with_reducible refine AW.block ?_ | ((first | ((first | refine arun_nil ?_ | refine arunD_nil ?_); refine hK _ ?_; clear hK K) | refine AW.skip ?_ | refine AW.exit ?_ | refine AW.ret ?_); simp only [thenA_exit, inBlockA_exit, if_true, if_false, Nat.reduceEqDiff, thenA_normal, inBlockA_normal, reduceIte, thenA_ret, inBlockA_ret, endQ_ret, endR_ret, endG_ret, endQ_normal, endR_normal, endG_normal, endF_ret, endF_normal])))
  refine AW.holdBox 3 3 (r := ⟨true, 23, 1, [[.view t 1 (strsE q ++ [[.str s]])]]⟩) rfl (by simp [upd, rowsOf_cons]) rfl ?_
  unfold ASt.holdBox
  refine AW.holdBox 6 6 (r := ⟨true, 3, 1, [[.int .i64 q.length]]⟩) rfl (by simp [upd, rowsOf_cons]) rfl ?_
  unfold ASt.holdBox
  (repeat (first | with_reducible refine AW.seq ?_ | ((first | refine arun_kn 4 rfl (fun C hC => ?_) | refine arunD_kn 4 rfl (fun C hC => ?_)); (repeat ((conv => whnf); simp [strsE_len, hw, htk, hlt, hle, hle', hlt', hn0])); refine hC _ ?_; clear hC C; simp only [List.drop, Nat.reduceAdd]) | ((first | refine arun_kn 1 rfl (fun C hC => ?_) | refine arunD_kn 1 rfl (fun C hC => ?_)); (repeat ((conv => whnf); simp [strsE_len, hw, htk, hlt, hle, hle', hlt', hn0])); refine hC _ ?_; clear hC C; simp only [List.drop, Nat.reduceAdd]) | (refine arun_skip ?_ ?_; (focus (simp [awant, strsE_len, hw, htk, hlt, hle, hle', hlt', hn0]; done))) | (refine arun_cF (0) (hch) ?_; (rintro _ ⟨l, hl, hlp, rfl⟩ hA)) | (refine arunD_cF (0) (hch) (by exact rNBX_ex _ _ hNb) ?_; (rintro _ ⟨l, hl, hlp, rfl⟩ hA); intro _) | (refine AW.regionK [] (fun K hK => ?_)) | (refine AW.regionDK [] (pcs [(5, 0, fun r => rNBX ((remS n (q ++ [s])).getD Nd.zero) (remS n (q ++ [s])).isSome r ∧ ∀ b ∈ atB r, ¬ w0.A b)] []) (by kernel_rfl) (by kernel_rfl) (fun K hK => ?_)) | (refine AW.condT ?_ ?_; (focus (simp [aev, strsE_len, hw, htk, hlt, hle, hle', hlt', hn0]; done))) | (refine AW.condF ?_ ?_; (focus (simp [aev, strsE_len, hw, htk, hlt, hle, hle', hlt', hn0]; done))) | with_reducible refine AW.block ?_ | ((first | ((first | refine arun_nil ?_ | refine arunD_nil ?_); refine hK _ ?_; clear hK K) | refine AW.skip ?_ | refine AW.exit ?_ | refine AW.ret ?_); simp only [thenA_exit, inBlockA_exit, if_true, if_false, Nat.reduceEqDiff, thenA_normal, inBlockA_normal, reduceIte, thenA_ret, inBlockA_ret, endQ_ret, endR_ret, endG_ret, endQ_normal, endR_normal, endG_normal, endF_ret, endF_normal])))
  have hA' : ∀ b ∈ l.fp, ¬ w0.A b := fun b hb => hA b (by rw [at_tup, atL_cons, at_agg, ← labL_eq]; exact List.mem_append_left _ hb)
  exact ⟨.tup [labA l, .bool (remS n (q ++ [s])).isSome], by simp [labA, labL_eq, ares, aresL, upd, rowsOf_cons], tup2_pur (lab_pur l) pur_bool, fun b hb => by rw [at_tup2] at hb; exact hN.ge (hA' b hb), _, Wk.refl _, fun _ h => h, l, hl, hlp, rfl⟩
end Go.Proofs.YtfjaobfaepjfnaaDoor.Eng
namespace Go.Proofs.YtfjaobfaepjfnaaDoor
open Go.RowKit
end Go.Proofs.YtfjaobfaepjfnaaDoor
namespace Go.Proofs.YtfjaobfaepjfnaaDoor.Eng
open Go Go.RowKit
attribute [local simp] big size_mk ASt.pay Option.map_map Function.comp_def awant aop acall ado aev ofVal ofVal0 ASt.put ASt.add ASt.turn ASt.kill abox aalloc astore aload aloadD astoreD idOf ASt.at cellsTo afieldAddr afield aindexAddr aindex alen abin aint acmp astr aun apick aextract anil aslice abound abuild afill abuildSlice asCells aps avCells over upd aappend asrc amax amin aconv mkSt slots rowsOf_cons rowsOf_nil usedOf_cons usedOf_nil ZK.av List.replicate ASt.back ASt.addL ASt.killL nodeA nodeT nodeTL_eq nodeL_eq strsE_get strsE_len intsE_get intsE_len strsE_at intsE_at tab2 tab3 tab4 tab5 tab6 tab7 tab8 tab9 tab10 tab11 tab12 tab13 tab14 tab15 tab16 tab17 tab18 tab19 tab21 tab22 tab23 tab24 tab25 tab26 tab28 tab29 tab30 tab31 tab42 tab43 tab44 tab46 tab63 tab64 tab67 tab68 tab75 tab98 tab100 tab101 tab105 tab106 tab107 tab122 tab123 tab125 tab128 tab138 tab144 tab151 tab152 tab157 tab158 tab160 tab161 tab162
end Go.Proofs.YtfjaobfaepjfnaaDoor.Eng
-- EV: skip
namespace Go.Proofs.YtfjaobfaepjfnaaDoor.Eng
open Go Go.RowKit
attribute [local simp] big size_mk ASt.pay Option.map_map Function.comp_def awant aop acall ado aev ofVal ofVal0 ASt.put ASt.add ASt.turn ASt.kill abox aalloc astore aload aloadD astoreD idOf ASt.at cellsTo afieldAddr afield aindexAddr aindex alen abin aint acmp astr aun apick aextract anil aslice abound abuild afill abuildSlice asCells aps avCells over upd aappend asrc amax amin aconv mkSt slots rowsOf_cons rowsOf_nil usedOf_cons usedOf_nil ZK.av List.replicate ASt.back ASt.addL ASt.killL nodeA nodeT nodeTL_eq nodeL_eq strsE_get strsE_len intsE_get intsE_len strsE_at intsE_at tab2 tab3 tab4 tab5 tab6 tab7 tab8 tab9 tab10 tab11 tab12 tab13 tab14 tab15 tab16 tab17 tab18 tab19 tab21 tab22 tab23 tab24 tab25 tab26 tab28 tab29 tab30 tab31 tab42 tab43 tab44 tab46 tab63 tab64 tab67 tab68 tab75 tab98 tab100 tab101 tab105 tab106 tab107 tab122 tab123 tab125 tab128 tab138 tab144 tab151 tab152 tab157 tab158 tab160 tab161 tab162
theorem optA_some (m : Nd) : optA (some m) = .tup [nodeA m, .bool true] := rfl
end Go.Proofs.YtfjaobfaepjfnaaDoor.Eng
-- EV: rows skip
namespace Go.Proofs.YtfjaobfaepjfnaaDoor.Eng
open Go Go.RowKit
attribute [local simp] big size_mk ASt.pay Option.map_map Function.comp_def awant aop acall ado aev ofVal ofVal0 ASt.put ASt.add ASt.turn ASt.kill abox aalloc astore aload aloadD astoreD idOf ASt.at cellsTo afieldAddr afield aindexAddr aindex alen abin aint acmp astr aun apick aextract anil aslice abound abuild afill abuildSlice asCells aps avCells over upd aappend asrc amax amin aconv mkSt slots rowsOf_cons rowsOf_nil usedOf_cons usedOf_nil ZK.av List.replicate ASt.back ASt.addL ASt.killL nodeA nodeT nodeTL_eq nodeL_eq strsE_get strsE_len intsE_get intsE_len strsE_at intsE_at nodeN namesRow nodeO kidsRow tab2 tab3 tab4 tab5 tab6 tab7 tab8 tab9 tab10 tab11 tab12 tab13 tab14 tab15 tab16 tab17 tab18 tab19 tab21 tab22 tab23 tab24 tab25 tab26 tab28 tab29 tab30 tab31 tab42 tab43 tab44 tab46 tab63 tab64 tab67 tab68 tab75 tab98 tab100 tab101 tab105 tab106 tab107 tab122 tab123 tab125 tab128 tab138 tab144 tab151 tab152 tab157 tab158 tab160 tab161 tab162
theorem rNB_wk {o : Option Nd} {r : AV} (h : rNB (o.getD Nd.zero) o.isSome r) : Wk r (optA o) := by
  obtain ⟨l, hl, _, rfl⟩ := h
  unfold optA
  rw [← hl]
  exact .tup (.cons (.agg (labL_wk l)) (.cons (Wk.refl _) .nil))
theorem RemoveNode_AC (t : VC) (n : Nd) (p : List ByteArray) : AC Tryd.prog 17 [nodeA n, .view t 1 (strsE p)] 0 (fun r => r = optA (remO n p)) := by
  refine AC.weak ((RemoveNode_ACF t n p).toAC.mono (fun r h => ⟨_, rNB_wk h, rfl⟩))
theorem sC_le : cN + 12 + cN ≤ 1000000 := by decide +kernel
set_option maxRecDepth 100000
set_option maxHeartbeats 16000000
end Go.Proofs.YtfjaobfaepjfnaaDoor.Eng
-- EV: rows skip
namespace Go.Proofs.YtfjaobfaepjfnaaDoor.Eng
open Go Go.RowKit
attribute [local simp] big size_mk ASt.pay Option.map_map Function.comp_def awant aop acall ado aev ofVal ofVal0 ASt.put ASt.add ASt.turn ASt.kill abox aalloc astore aload aloadD astoreD idOf ASt.at cellsTo afieldAddr afield aindexAddr aindex alen abin aint acmp astr aun apick aextract anil aslice abound abuild afill abuildSlice asCells aps avCells over upd aappend asrc amax amin aconv mkSt slots rowsOf_cons rowsOf_nil usedOf_cons usedOf_nil ZK.av List.replicate ASt.back ASt.addL ASt.killL nodeA nodeT nodeTL_eq nodeL_eq strsE_get strsE_len intsE_get intsE_len strsE_at intsE_at nodeN namesRow nodeO kidsRow tab2 tab3 tab4 tab5 tab6 tab7 tab8 tab9 tab10 tab11 tab12 tab13 tab14 tab15 tab16 tab17 tab18 tab19 tab21 tab22 tab23 tab24 tab25 tab26 tab28 tab29 tab30 tab31 tab42 tab43 tab44 tab46 tab63 tab64 tab67 tab68 tab75 tab98 tab100 tab101 tab105 tab106 tab107 tab122 tab123 tab125 tab128 tab138 tab144 tab151 tab152 tab157 tab158 tab160 tab161 tab162
theorem place_name {n : Nd} (h : Shp n) (h4 : n.kind = 4) {i : Nat} (hi : i < n.names.length) : placeI n n.names[i] = (i : Int) := by
  have hl := (h.map h4).2
  have hit : ∀ j (hj : j < n.names.length), hitP n n.names[i] j = eqs n.names[j] n.names[i] := fun j hj => by
    unfold hitP
    rw [h4, List.getElem?_eq_getElem hj]
    simp
  rcases placeI_cases n n.names[i] with ⟨_, h2⟩ | ⟨j, h1, h2, h3⟩
  · have := h2 i (by omega)
    rw [hit i hi, eqs_self'] at this
    cases this
  · rw [hit j (by omega)] at h3
    have he := eqs_iff.1 h3
    have ha := h.asc h4
    rcases Nat.lt_trichotomy i j with q | q | q
    · have := ha i j hi (by omega) q
      rw [he, lt_irr] at this; cases this
    · rw [h2, q]
    · have := ha j i (by omega) hi q
      rw [he, lt_irr] at this; cases this
set_option maxRecDepth 100000
set_option maxHeartbeats 16000000
end Go.Proofs.YtfjaobfaepjfnaaDoor.Eng
-- EV: rows skip
namespace Go.Proofs.YtfjaobfaepjfnaaDoor.Eng
open Go Go.RowKit
attribute [local simp] big size_mk ASt.pay Option.map_map Function.comp_def awant aop acall ado aev ofVal ofVal0 ASt.put ASt.add ASt.turn ASt.kill abox aalloc astore aload aloadD astoreD idOf ASt.at cellsTo afieldAddr afield aindexAddr aindex alen abin aint acmp astr aun apick aextract anil aslice abound abuild afill abuildSlice asCells aps avCells over upd aappend asrc amax amin aconv mkSt slots rowsOf_cons rowsOf_nil usedOf_cons usedOf_nil ZK.av List.replicate ASt.back ASt.addL ASt.killL nodeA nodeT nodeTL_eq nodeL_eq strsE_get strsE_len intsE_get intsE_len strsE_at intsE_at nodeN namesRow nodeO kidsRow tab2 tab3 tab4 tab5 tab6 tab7 tab8 tab9 tab10 tab11 tab12 tab13 tab14 tab15 tab16 tab17 tab18 tab19 tab21 tab22 tab23 tab24 tab25 tab26 tab28 tab29 tab30 tab31 tab42 tab43 tab44 tab46 tab63 tab64 tab67 tab68 tab75 tab98 tab100 tab101 tab105 tab106 tab107 tab122 tab123 tab125 tab128 tab138 tab144 tab151 tab152 tab157 tab158 tab160 tab161 tab162
def shOpt (n : Nd) : AV := .tup [shA (if validB n then shO n else ⟨0, [], [], []⟩), .bool (validB n)]
theorem shNone_wk : Wk (.tup [.agg [.int .i64 0, .view .tight 0 [], .view .tight 0 [], .view .tight 0 []], .bool false]) (.tup [shA ⟨0, [], [], []⟩, .bool false]) := by
  unfold shA
  rw [shE_eq]
  exact .tup (.cons (.agg (.cons (Wk.refl _) (.cons (Wk.nil (fun h => by cases h)) (.cons (Wk.nil (fun h => by cases h)) (.cons (Wk.nil (fun h => by cases h)) .nil))))) (.cons (Wk.refl _) .nil))
theorem shNone_pur : Pur (.tup [.agg [.int .i64 0, .view .tight 0 [], .view .tight 0 [], .view .tight 0 []], .bool false]) := tup2_pur (pur_agg (by
  simp only [List.forall_mem_cons, List.not_mem_nil, false_implies, implies_true, and_true]
  exact ⟨pur_int, pur_view (by simp) (fun e he => by cases he), pur_view (by simp) (fun e he => by cases he), pur_view (by simp) (fun e he => by cases he)⟩)) pur_bool
set_option maxRecDepth 100000
set_option maxHeartbeats 16000000
theorem ShapeOf_AC (n : Nd) : AC Tryd.prog 14 [nodeA n] 0 (fun r => r = shOpt n) := by
  refine AC.weak ?_
  have p1 := ValidNode_AC n .loose
  have hcn := node_clo n
  unfold nodeA at hcn ⊢
  rw [nodeL_eq] at hcn ⊢
  unfold shOpt
  cases hv : validB n <;> rw [hv] at p1
  · refine AC.of tab_ok mixed_ok Tryd.func14 (by rfl) (by kernel_rfl) ?_; rintro ⟨P, T, hT, hm, w0, S0, rd0, k0⟩ hP hTT; dsimp only at hP hTT; subst hP hTT; unfold initSt; rw [Tryd.ntmps14]
    (repeat (first | with_reducible refine AW.seq ?_ | ((first | refine arun_kn 4 rfl (fun C hC => ?_) | refine arunD_kn 4 rfl (fun C hC => ?_)); (repeat ((conv => whnf); simp)); refine hC _ ?_; clear hC C; simp only [List.drop, Nat.reduceAdd]) | ((first | refine arun_kn 1 rfl (fun C hC => ?_) | refine arunD_kn 1 rfl (fun C hC => ?_)); (repeat ((conv => whnf); simp)); refine hC _ ?_; clear hC C; simp only [List.drop, Nat.reduceAdd]) | (refine arun_skip ?_ ?_; (focus (simp [awant]; done))) | (refine arun_c0 (p1) ?_; rintro _ rfl) | (refine arunD_skip ?_ ?_; (focus (simp [awant]; done))) | (refine AW.regionK [] (fun K hK => ?_)) | (refine AW.regionDK [] (pcs [] []) (by kernel_rfl) (by kernel_rfl) (fun K hK => ?_)) | (refine AW.condT ?_ ?_; (focus (simp [aev]; done))) | (refine AW.condF ?_ ?_; (focus (simp [aev]; done))) | with_reducible refine AW.block ?_ | ((first | ((first | refine arun_nil ?_ | refine arunD_nil ?_); refine hK _ ?_; clear hK K) | refine AW.skip ?_ | refine AW.exit ?_ | refine AW.ret ?_); simp only [thenA_exit, inBlockA_exit, if_true, if_false, Nat.reduceEqDiff, thenA_normal, inBlockA_normal, reduceIte, thenA_ret, inBlockA_ret, endQ_ret, endR_ret, endG_ret, endQ_normal, endR_normal, endG_normal])))
    exact ⟨.tup [.agg [.int .i64 0, .view .tight 0 [], .view .tight 0 [], .view .tight 0 []], .bool false], by simp [ares, aresL, upd, rowsOf_cons], shNone_pur, _, shNone_wk, rfl⟩
  · have p2 := shapeVal_AC n (Shp.of hv)
    have hp := sh_pur (shO n)
    have hq : shA (shO n) = .agg [.int .i64 (shO n).kind, .view .loose 1 (strsE (shO n).names), .view .loose 1 (boolsE (shO n).needs), .view .loose 4 ((shO n).kids.map shE)] := by unfold shA; rw [shE_eq]
    unfold nodeA at p2
    rw [nodeL_eq] at p2
    rw [if_pos rfl]
    rw [hq] at p2 hp ⊢
    refine AC.of tab_ok mixed_ok Tryd.func14 (by rfl) (by kernel_rfl) ?_; rintro ⟨P, T, hT, hm, w0, S0, rd0, k0⟩ hP hTT; dsimp only at hP hTT; subst hP hTT; unfold initSt; rw [Tryd.ntmps14]
    (repeat (first | with_reducible refine AW.seq ?_ | ((first | refine arun_kn 4 rfl (fun C hC => ?_) | refine arunD_kn 4 rfl (fun C hC => ?_)); (repeat ((conv => whnf); simp)); refine hC _ ?_; clear hC C; simp only [List.drop, Nat.reduceAdd]) | ((first | refine arun_kn 1 rfl (fun C hC => ?_) | refine arunD_kn 1 rfl (fun C hC => ?_)); (repeat ((conv => whnf); simp)); refine hC _ ?_; clear hC C; simp only [List.drop, Nat.reduceAdd]) | (refine arun_skip ?_ ?_; (focus (simp [awant]; done))) | (refine arun_c0 (p1) ?_; rintro _ rfl) | (refine arun_c0 (p2) ?_; rintro _ rfl) | (refine arunD_skip ?_ ?_; (focus (simp [awant]; done))) | (refine AW.regionK [] (fun K hK => ?_)) | (refine AW.regionDK [] (pcs [] []) (by kernel_rfl) (by kernel_rfl) (fun K hK => ?_)) | (refine AW.condT ?_ ?_; (focus (simp [aev]; done))) | (refine AW.condF ?_ ?_; (focus (simp [aev]; done))) | with_reducible refine AW.block ?_ | ((first | ((first | refine arun_nil ?_ | refine arunD_nil ?_); refine hK _ ?_; clear hK K) | refine AW.skip ?_ | refine AW.exit ?_ | refine AW.ret ?_); simp only [thenA_exit, inBlockA_exit, if_true, if_false, Nat.reduceEqDiff, thenA_normal, inBlockA_normal, reduceIte, thenA_ret, inBlockA_ret, endQ_ret, endR_ret, endG_ret, endQ_normal, endR_normal, endG_normal])))
    exact ⟨.tup [.agg [.int .i64 (shO n).kind, .view .loose 1 (strsE (shO n).names), .view .loose 1 (boolsE (shO n).needs), .view .loose 4 ((shO n).kids.map shE)], .bool true], by simp [ares, aresL, upd, rowsOf_cons], tup2_pur hp pur_bool, _, Wk.refl _, rfl⟩
theorem specShapeOf_AC (n : Nd) : AC Tryd.prog 15 [nodeA n] 0 (fun r => r = shOpt n) := by
  refine AC.weak ?_
  have p1 := validNode_AC n .loose
  have hcn := node_clo n
  unfold nodeA at hcn ⊢
  rw [nodeL_eq] at hcn ⊢
  unfold shOpt
  cases hv : validB n <;> rw [hv] at p1
  · refine AC.of tab_ok mixed_ok Tryd.func15 (by rfl) (by kernel_rfl) ?_; rintro ⟨P, T, hT, hm, w0, S0, rd0, k0⟩ hP hTT; dsimp only at hP hTT; subst hP hTT; unfold initSt; rw [Tryd.ntmps15]
    (repeat (first | with_reducible refine AW.seq ?_ | ((first | refine arun_kn 4 rfl (fun C hC => ?_) | refine arunD_kn 4 rfl (fun C hC => ?_)); (repeat ((conv => whnf); simp)); refine hC _ ?_; clear hC C; simp only [List.drop, Nat.reduceAdd]) | ((first | refine arun_kn 1 rfl (fun C hC => ?_) | refine arunD_kn 1 rfl (fun C hC => ?_)); (repeat ((conv => whnf); simp)); refine hC _ ?_; clear hC C; simp only [List.drop, Nat.reduceAdd]) | (refine arun_skip ?_ ?_; (focus (simp [awant]; done))) | (refine arun_c0 (p1) ?_; rintro _ rfl) | (refine arunD_skip ?_ ?_; (focus (simp [awant]; done))) | (refine AW.regionK [] (fun K hK => ?_)) | (refine AW.regionDK [] (pcs [] []) (by kernel_rfl) (by kernel_rfl) (fun K hK => ?_)) | (refine AW.condT ?_ ?_; (focus (simp [aev]; done))) | (refine AW.condF ?_ ?_; (focus (simp [aev]; done))) | with_reducible refine AW.block ?_ | ((first | ((first | refine arun_nil ?_ | refine arunD_nil ?_); refine hK _ ?_; clear hK K) | refine AW.skip ?_ | refine AW.exit ?_ | refine AW.ret ?_); simp only [thenA_exit, inBlockA_exit, if_true, if_false, Nat.reduceEqDiff, thenA_normal, inBlockA_normal, reduceIte, thenA_ret, inBlockA_ret, endQ_ret, endR_ret, endG_ret, endQ_normal, endR_normal, endG_normal])))
    exact ⟨.tup [.agg [.int .i64 0, .view .tight 0 [], .view .tight 0 [], .view .tight 0 []], .bool false], by simp [ares, aresL, upd, rowsOf_cons], shNone_pur, _, shNone_wk, rfl⟩
  · have p2 := shapeOf_AC n (Shp.of hv)
    have hp := sh_pur (shO n)
    have hq : shA (shO n) = .agg [.int .i64 (shO n).kind, .view .loose 1 (strsE (shO n).names), .view .loose 1 (boolsE (shO n).needs), .view .loose 4 ((shO n).kids.map shE)] := by unfold shA; rw [shE_eq]
    unfold nodeA at p2
    rw [nodeL_eq] at p2
    rw [if_pos rfl]
    rw [hq] at p2 hp ⊢
    refine AC.of tab_ok mixed_ok Tryd.func15 (by rfl) (by kernel_rfl) ?_; rintro ⟨P, T, hT, hm, w0, S0, rd0, k0⟩ hP hTT; dsimp only at hP hTT; subst hP hTT; unfold initSt; rw [Tryd.ntmps15]
    (repeat (first | with_reducible refine AW.seq ?_ | ((first | refine arun_kn 4 rfl (fun C hC => ?_) | refine arunD_kn 4 rfl (fun C hC => ?_)); (repeat ((conv => whnf); simp)); refine hC _ ?_; clear hC C; simp only [List.drop, Nat.reduceAdd]) | ((first | refine arun_kn 1 rfl (fun C hC => ?_) | refine arunD_kn 1 rfl (fun C hC => ?_)); (repeat ((conv => whnf); simp)); refine hC _ ?_; clear hC C; simp only [List.drop, Nat.reduceAdd]) | (refine arun_skip ?_ ?_; (focus (simp [awant]; done))) | (refine arun_c0 (p1) ?_; rintro _ rfl) | (refine arun_c0 (p2) ?_; rintro _ rfl) | (refine arunD_skip ?_ ?_; (focus (simp [awant]; done))) | (refine AW.regionK [] (fun K hK => ?_)) | (refine AW.regionDK [] (pcs [] []) (by kernel_rfl) (by kernel_rfl) (fun K hK => ?_)) | (refine AW.condT ?_ ?_; (focus (simp [aev]; done))) | (refine AW.condF ?_ ?_; (focus (simp [aev]; done))) | with_reducible refine AW.block ?_ | ((first | ((first | refine arun_nil ?_ | refine arunD_nil ?_); refine hK _ ?_; clear hK K) | refine AW.skip ?_ | refine AW.exit ?_ | refine AW.ret ?_); simp only [thenA_exit, inBlockA_exit, if_true, if_false, Nat.reduceEqDiff, thenA_normal, inBlockA_normal, reduceIte, thenA_ret, inBlockA_ret, endQ_ret, endR_ret, endG_ret, endQ_normal, endR_normal, endG_normal])))
    exact ⟨.tup [.agg [.int .i64 (shO n).kind, .view .loose 1 (strsE (shO n).names), .view .loose 1 (boolsE (shO n).needs), .view .loose 4 ((shO n).kids.map shE)], .bool true], by simp [ares, aresL, upd, rowsOf_cons], tup2_pur hp pur_bool, _, Wk.refl _, rfl⟩
inductive SmS : Go.Proofs.YtfjaobfaepjfnaaDoor.Shp → Prop
  | mk (x : Go.Proofs.YtfjaobfaepjfnaaDoor.Shp) (h1 : x.names.length ≤ 1000) (h2 : x.needs.length ≤ 1000) (h3 : x.kids.length ≤ 1000) (h4 : ∀ k ∈ x.kids, SmS k) : SmS x
theorem eqShape_step (x : Go.Proofs.YtfjaobfaepjfnaaDoor.Shp) (h1 : x.names.length ≤ 1000) (h2 : x.needs.length ≤ 1000) (h3 : x.kids.length ≤ 1000) (ih : ∀ k ∈ x.kids, AC Tryd.prog 16 [shA k, shA k] 0 (fun r => r = .bool true)) : AC Tryd.prog 16 [shA x, shA x] 0 (fun r => r = .bool true) := by
  have p1 := equalTexts_AC .loose .loose x.names x.names (by omega)
  rw [eqT_refl] at p1
  have hbl := boolsE_len x.needs
  have hkl : (x.kids.map shE).length = x.kids.length := List.length_map _
  have hv1 : ∀ U, AV.In U (.view .loose 1 (boolsE x.needs)) := fun U => in_view.2 (boolsE_in _)
  have hv2 : ∀ U, AV.In U (.view .loose 4 (x.kids.map shE)) := fun U => in_view.2 (shsE_in _)
  unfold shA at ih ⊢
  rw [shE_eq]
  refine AC.of tab_ok mixed_ok Tryd.func16 (by rfl) (by kernel_rfl) ?_; rintro ⟨P, T, hT, hm, w0, S0, rd0, k0⟩ hP hTT; dsimp only at hP hTT; subst hP hTT; unfold initSt; rw [Tryd.ntmps16]
  (repeat (first | with_reducible refine AW.seq ?_ | ((first | refine arun_kn 4 rfl (fun C hC => ?_) | refine arunD_kn 4 rfl (fun C hC => ?_)); (repeat ((conv => whnf); simp [strsE_len, hbl, hkl])); refine hC _ ?_; clear hC C; simp only [List.drop, Nat.reduceAdd]) | ((first | refine arun_kn 1 rfl (fun C hC => ?_) | refine arunD_kn 1 rfl (fun C hC => ?_)); (repeat ((conv => whnf); simp [strsE_len, hbl, hkl])); refine hC _ ?_; clear hC C; simp only [List.drop, Nat.reduceAdd]) | (refine arun_skip ?_ ?_; (focus (simp [awant, strsE_len, hbl, hkl]; done))) | (refine arun_c0 (p1) ?_; rintro _ rfl) | (refine arunD_skip ?_ ?_; (focus (simp [awant, strsE_len, hbl, hkl]; done))) | (refine AW.regionK [] (fun K hK => ?_)) | (refine AW.regionDK [] (pcs [] []) (by kernel_rfl) (by kernel_rfl) (fun K hK => ?_)) | (refine AW.condT ?_ ?_; (focus (simp [aev, strsE_len, hbl, hkl]; done))) | (refine AW.condF ?_ ?_; (focus (simp [aev, strsE_len, hbl, hkl]; done))) | with_reducible refine AW.block ?_ | ((first | ((first | refine arun_nil ?_ | refine arunD_nil ?_); refine hK _ ?_; clear hK K) | refine AW.skip ?_ | refine AW.exit ?_ | refine AW.ret ?_); simp only [thenA_exit, inBlockA_exit, if_true, if_false, Nat.reduceEqDiff, thenA_normal, inBlockA_normal, reduceIte, thenA_ret, inBlockA_ret, endQ_ret, endR_ret, endG_ret, endQ_normal, endR_normal, endG_normal])))
  refine AW.loopS (fun (i : Nat) => mkSt (slots 0 75 [(2, .ptr true 4 1 2 0 0), (3, .ptr true 4 1 3 0 0), (5, .int .i64 i)]) [(2, ⟨true, 31, 4, [[.int .i64 x.kind, .view .loose 1 (strsE x.names), .view .loose 1 (boolsE x.needs), .view .loose 4 (x.kids.map shE)]]⟩), (3, ⟨true, 31, 4, [[.int .i64 x.kind, .view .loose 1 (strsE x.names), .view .loose 1 (boolsE x.needs), .view .loose 4 (x.kids.map shE)]]⟩)] [2, 3] (rd0.map fun _ => 0)) (fun i => x.needs.length - i) (fun i => i ≤ x.needs.length) 0 ?_ (Nat.zero_le _) ?_
  · exact (less_of (by simp [lessL, mkSt, slots, hv1, hv2, nodeN, namesRow, nodeO, kidsRow]) (by simp [upd, mkSt, rowsOf_cons, hv1, hv2, nodeN, namesRow, nodeO, kidsRow]) (by simp [upd, mkSt, usedOf_cons, hv1, hv2, nodeN, namesRow, nodeO, kidsRow]) (by first | exact rd_less (by omega) | simp [mkSt, hv1, hv2, nodeN, namesRow, nodeO, kidsRow]) (by simp [slots, in_any, in_int, in_bool, in_str, in_ptr, in_own, in_agg, in_vnil, in_rdr, usedOf_cons, usedOf_nil, strs_in, ints_in, nodes_in, in_tup, hv1, hv2, nodeN, namesRow, nodeO, kidsRow]) (by simp only [List.forall_mem_cons, List.not_mem_nil, false_implies, implies_true, and_true, true_and, hv1, hv2, nodeN, namesRow, nodeO, kidsRow]; (repeat (first | with_reducible exact trivial | with_reducible refine And.intro ?_ ?_ | with_reducible exact in_int | with_reducible exact in_str | with_reducible exact in_bool | with_reducible exact strs_in _ | with_reducible exact nodes_in _ | with_reducible exact items_in _ | with_reducible exact in_vnil | with_reducible exact in_any | exact hin _ | with_reducible refine take_in ?_ | with_reducible exact strsE_in _ | with_reducible exact nodesE_in _ | with_reducible exact nodeL_in _ | with_reducible exact itemsE_in _ | with_reducible exact itemL_in _ | with_reducible refine app_in ?_ ?_ | with_reducible refine sing_in ?_ | (focus (simp [in_any, in_int, in_bool, in_str, in_ptr, in_own, in_agg, in_vnil, in_rdr, usedOf_cons, usedOf_nil, strs_in, ints_in, nodes_in, hv1, hv2, nodeN, namesRow, nodeO, kidsRow]; done)))); done))
  intro i hi
  by_cases hlt : i < x.needs.length
  · have hw : IntKind.i64.wrap ((i : Int) + 1) = (i : Int) + 1 := i64_nat (by omega) (by omega)
    have hget : (boolsE x.needs)[i]? = some [.bool x.needs[i]] := by unfold boolsE; rw [List.getElem?_map, List.getElem?_eq_getElem hlt]; rfl
    have hget' : ∀ h, (boolsE x.needs)[i]'h = [.bool x.needs[i]] := fun h => by rw [List.getElem?_eq_getElem h] at hget; exact Option.some.inj hget
    generalize x.needs[i] = b at *
    have hbb : (b != b) = false := by cases b <;> rfl
    (repeat (first | with_reducible refine AW.seq ?_ | ((first | refine arun_kn 4 rfl (fun C hC => ?_) | refine arunD_kn 4 rfl (fun C hC => ?_)); (repeat ((conv => whnf); simp [hlt, hw, hbl, hget, hget', hbb])); refine hC _ ?_; clear hC C; simp only [List.drop, Nat.reduceAdd]) | ((first | refine arun_kn 1 rfl (fun C hC => ?_) | refine arunD_kn 1 rfl (fun C hC => ?_)); (repeat ((conv => whnf); simp [hlt, hw, hbl, hget, hget', hbb])); refine hC _ ?_; clear hC C; simp only [List.drop, Nat.reduceAdd]) | (refine arun_skip ?_ ?_; (focus (simp [awant, hlt, hw, hbl, hget, hget', hbb]; done))) | (refine arunD_skip ?_ ?_; (focus (simp [awant, hlt, hw, hbl, hget, hget', hbb]; done))) | (refine AW.regionK [] (fun K hK => ?_)) | (refine AW.regionDK [] (pcs [] []) (by kernel_rfl) (by kernel_rfl) (fun K hK => ?_)) | (refine AW.condT ?_ ?_; (focus (simp [aev, hlt, hw, hbl, hget, hget', hbb]; done))) | (refine AW.condF ?_ ?_; (focus (simp [aev, hlt, hw, hbl, hget, hget', hbb]; done))) | with_reducible refine AW.block ?_ | ((first | ((first | refine arun_nil ?_ | refine arunD_nil ?_); refine hK _ ?_; clear hK K) | refine AW.skip ?_ | refine AW.exit ?_ | refine AW.ret ?_); simp only [thenA_exit, inBlockA_exit, if_true, if_false, Nat.reduceEqDiff, thenA_normal, inBlockA_normal, reduceIte, thenA_ret, inBlockA_ret, endQ_ret, endR_ret, endG_ret, endQ_normal, endR_normal, endG_normal])))
    exact ⟨i + 1, by omega, by omega, (less_of (by simp [lessL, mkSt, slots, hv1, hv2, nodeN, namesRow, nodeO, kidsRow]) (by simp [upd, mkSt, rowsOf_cons, hv1, hv2, nodeN, namesRow, nodeO, kidsRow]) (by simp [upd, mkSt, usedOf_cons, hv1, hv2, nodeN, namesRow, nodeO, kidsRow]) (by first | exact rd_less (by omega) | simp [mkSt, hv1, hv2, nodeN, namesRow, nodeO, kidsRow]) (by simp [slots, in_any, in_int, in_bool, in_str, in_ptr, in_own, in_agg, in_vnil, in_rdr, usedOf_cons, usedOf_nil, strs_in, ints_in, nodes_in, in_tup, hv1, hv2, nodeN, namesRow, nodeO, kidsRow]) (by simp only [List.forall_mem_cons, List.not_mem_nil, false_implies, implies_true, and_true, true_and, hv1, hv2, nodeN, namesRow, nodeO, kidsRow]; (repeat (first | with_reducible exact trivial | with_reducible refine And.intro ?_ ?_ | with_reducible exact in_int | with_reducible exact in_str | with_reducible exact in_bool | with_reducible exact strs_in _ | with_reducible exact nodes_in _ | with_reducible exact items_in _ | with_reducible exact in_vnil | with_reducible exact in_any | exact hin _ | with_reducible refine take_in ?_ | with_reducible exact strsE_in _ | with_reducible exact nodesE_in _ | with_reducible exact nodeL_in _ | with_reducible exact itemsE_in _ | with_reducible exact itemL_in _ | with_reducible refine app_in ?_ ?_ | with_reducible refine sing_in ?_ | (focus (simp [in_any, in_int, in_bool, in_str, in_ptr, in_own, in_agg, in_vnil, in_rdr, usedOf_cons, usedOf_nil, strs_in, ints_in, nodes_in, hv1, hv2, nodeN, namesRow, nodeO, kidsRow]; done)))); done))⟩
  (repeat (first | with_reducible refine AW.seq ?_ | ((first | refine arun_kn 4 rfl (fun C hC => ?_) | refine arunD_kn 4 rfl (fun C hC => ?_)); (repeat ((conv => whnf); simp [hlt, hbl, hkl])); refine hC _ ?_; clear hC C; simp only [List.drop, Nat.reduceAdd]) | ((first | refine arun_kn 1 rfl (fun C hC => ?_) | refine arunD_kn 1 rfl (fun C hC => ?_)); (repeat ((conv => whnf); simp [hlt, hbl, hkl])); refine hC _ ?_; clear hC C; simp only [List.drop, Nat.reduceAdd]) | (refine arun_skip ?_ ?_; (focus (simp [awant, hlt, hbl, hkl]; done))) | (refine arunD_skip ?_ ?_; (focus (simp [awant, hlt, hbl, hkl]; done))) | (refine AW.regionK [] (fun K hK => ?_)) | (refine AW.regionDK [] (pcs [] []) (by kernel_rfl) (by kernel_rfl) (fun K hK => ?_)) | (refine AW.condT ?_ ?_; (focus (simp [aev, hlt, hbl, hkl]; done))) | (refine AW.condF ?_ ?_; (focus (simp [aev, hlt, hbl, hkl]; done))) | with_reducible refine AW.block ?_ | ((first | ((first | refine arun_nil ?_ | refine arunD_nil ?_); refine hK _ ?_; clear hK K) | refine AW.skip ?_ | refine AW.exit ?_ | refine AW.ret ?_); simp only [thenA_exit, inBlockA_exit, if_true, if_false, Nat.reduceEqDiff, thenA_normal, inBlockA_normal, reduceIte, thenA_ret, inBlockA_ret, endQ_ret, endR_ret, endG_ret, endQ_normal, endR_normal, endG_normal])))
  refine AW.loopS (fun (i : Nat) => mkSt (slots 0 75 [(2, .ptr true 4 1 2 0 0), (3, .ptr true 4 1 3 0 0), (6, .int .i64 i)]) [(2, ⟨true, 31, 4, [[.int .i64 x.kind, .view .loose 1 (strsE x.names), .view .loose 1 (boolsE x.needs), .view .loose 4 (x.kids.map shE)]]⟩), (3, ⟨true, 31, 4, [[.int .i64 x.kind, .view .loose 1 (strsE x.names), .view .loose 1 (boolsE x.needs), .view .loose 4 (x.kids.map shE)]]⟩)] [2, 3] (rd0.map fun _ => 0)) (fun i => x.kids.length - i) (fun i => i ≤ x.kids.length) 0 ?_ (Nat.zero_le _) ?_
  · exact (less_of (by simp [lessL, mkSt, slots, hv1, hv2, nodeN, namesRow, nodeO, kidsRow]) (by simp [upd, mkSt, rowsOf_cons, hv1, hv2, nodeN, namesRow, nodeO, kidsRow]) (by simp [upd, mkSt, usedOf_cons, hv1, hv2, nodeN, namesRow, nodeO, kidsRow]) (by first | exact rd_less (by omega) | simp [mkSt, hv1, hv2, nodeN, namesRow, nodeO, kidsRow]) (by simp [slots, in_any, in_int, in_bool, in_str, in_ptr, in_own, in_agg, in_vnil, in_rdr, usedOf_cons, usedOf_nil, strs_in, ints_in, nodes_in, in_tup, hv1, hv2, nodeN, namesRow, nodeO, kidsRow]) (by simp only [List.forall_mem_cons, List.not_mem_nil, false_implies, implies_true, and_true, true_and, hv1, hv2, nodeN, namesRow, nodeO, kidsRow]; (repeat (first | with_reducible exact trivial | with_reducible refine And.intro ?_ ?_ | with_reducible exact in_int | with_reducible exact in_str | with_reducible exact in_bool | with_reducible exact strs_in _ | with_reducible exact nodes_in _ | with_reducible exact items_in _ | with_reducible exact in_vnil | with_reducible exact in_any | exact hin _ | with_reducible refine take_in ?_ | with_reducible exact strsE_in _ | with_reducible exact nodesE_in _ | with_reducible exact nodeL_in _ | with_reducible exact itemsE_in _ | with_reducible exact itemL_in _ | with_reducible refine app_in ?_ ?_ | with_reducible refine sing_in ?_ | (focus (simp [in_any, in_int, in_bool, in_str, in_ptr, in_own, in_agg, in_vnil, in_rdr, usedOf_cons, usedOf_nil, strs_in, ints_in, nodes_in, hv1, hv2, nodeN, namesRow, nodeO, kidsRow]; done)))); done))
  intro j hj
  by_cases hlj : j < x.kids.length
  · have hw : IntKind.i64.wrap ((j : Int) + 1) = (j : Int) + 1 := i64_nat (by omega) (by omega)
    have hget : (x.kids.map shE)[j]? = some (shE x.kids[j]) := by rw [List.getElem?_map, List.getElem?_eq_getElem hlj]; rfl
    have hik := ih x.kids[j] (List.getElem_mem hlj)
    have hc := sh_clo x.kids[j]
    have hl4 := shE_eq x.kids[j]
    unfold shA at hc
    rw [hl4] at hget hik hc
    have hget' : ∀ h, (x.kids.map shE)[j]'h = [.int .i64 x.kids[j].kind, .view .loose 1 (strsE x.kids[j].names), .view .loose 1 (boolsE x.kids[j].needs), .view .loose 4 (x.kids[j].kids.map shE)] := fun h => by rw [List.getElem?_eq_getElem h] at hget; exact Option.some.inj hget
    (repeat (first | with_reducible refine AW.seq ?_ | ((first | refine arun_kn 4 rfl (fun C hC => ?_) | refine arunD_kn 4 rfl (fun C hC => ?_)); (repeat ((conv => whnf); simp [hlj, hw, hkl, hget, hget'])); refine hC _ ?_; clear hC C; simp only [List.drop, Nat.reduceAdd]) | ((first | refine arun_kn 1 rfl (fun C hC => ?_) | refine arunD_kn 1 rfl (fun C hC => ?_)); (repeat ((conv => whnf); simp [hlj, hw, hkl, hget, hget'])); refine hC _ ?_; clear hC C; simp only [List.drop, Nat.reduceAdd]) | (refine arun_skip ?_ ?_; (focus (simp [awant, hlj, hw, hkl, hget, hget']; done))) | (refine arun_c0 (hik) ?_; rintro _ rfl) | (refine arunD_skip ?_ ?_; (focus (simp [awant, hlj, hw, hkl, hget, hget']; done))) | (refine arunD_c (0) (hik) ?_; rintro _ rfl; intro _) | (refine AW.regionK [] (fun K hK => ?_)) | (refine AW.regionDK [] (pcs [(10, 0, fun r => r = .bool true)] []) (by kernel_rfl) (by kernel_rfl) (fun K hK => ?_)) | (refine AW.condT ?_ ?_; (focus (simp [aev, hlj, hw, hkl, hget, hget']; done))) | (refine AW.condF ?_ ?_; (focus (simp [aev, hlj, hw, hkl, hget, hget']; done))) | with_reducible refine AW.block ?_ | ((first | ((first | refine arun_nil ?_ | refine arunD_nil ?_); refine hK _ ?_; clear hK K) | refine AW.skip ?_ | refine AW.exit ?_ | refine AW.ret ?_); simp only [thenA_exit, inBlockA_exit, if_true, if_false, Nat.reduceEqDiff, thenA_normal, inBlockA_normal, reduceIte, thenA_ret, inBlockA_ret, endQ_ret, endR_ret, endG_ret, endQ_normal, endR_normal, endG_normal])))
    exact ⟨j + 1, by omega, by omega, (less_of (by simp [lessL, mkSt, slots, hv1, hv2, nodeN, namesRow, nodeO, kidsRow]) (by simp [upd, mkSt, rowsOf_cons, hv1, hv2, nodeN, namesRow, nodeO, kidsRow]) (by simp [upd, mkSt, usedOf_cons, hv1, hv2, nodeN, namesRow, nodeO, kidsRow]) (by first | exact rd_less (by omega) | simp [mkSt, hv1, hv2, nodeN, namesRow, nodeO, kidsRow]) (by simp [slots, in_any, in_int, in_bool, in_str, in_ptr, in_own, in_agg, in_vnil, in_rdr, usedOf_cons, usedOf_nil, strs_in, ints_in, nodes_in, in_tup, hv1, hv2, nodeN, namesRow, nodeO, kidsRow]) (by simp only [List.forall_mem_cons, List.not_mem_nil, false_implies, implies_true, and_true, true_and, hv1, hv2, nodeN, namesRow, nodeO, kidsRow]; (repeat (first | with_reducible exact trivial | with_reducible refine And.intro ?_ ?_ | with_reducible exact in_int | with_reducible exact in_str | with_reducible exact in_bool | with_reducible exact strs_in _ | with_reducible exact nodes_in _ | with_reducible exact items_in _ | with_reducible exact in_vnil | with_reducible exact in_any | exact hin _ | with_reducible refine take_in ?_ | with_reducible exact strsE_in _ | with_reducible exact nodesE_in _ | with_reducible exact nodeL_in _ | with_reducible exact itemsE_in _ | with_reducible exact itemL_in _ | with_reducible refine app_in ?_ ?_ | with_reducible refine sing_in ?_ | (focus (simp [in_any, in_int, in_bool, in_str, in_ptr, in_own, in_agg, in_vnil, in_rdr, usedOf_cons, usedOf_nil, strs_in, ints_in, nodes_in, hv1, hv2, nodeN, namesRow, nodeO, kidsRow]; done)))); done))⟩
  (repeat (first | with_reducible refine AW.seq ?_ | ((first | refine arun_kn 4 rfl (fun C hC => ?_) | refine arunD_kn 4 rfl (fun C hC => ?_)); (repeat ((conv => whnf); simp [hlj, hkl])); refine hC _ ?_; clear hC C; simp only [List.drop, Nat.reduceAdd]) | ((first | refine arun_kn 1 rfl (fun C hC => ?_) | refine arunD_kn 1 rfl (fun C hC => ?_)); (repeat ((conv => whnf); simp [hlj, hkl])); refine hC _ ?_; clear hC C; simp only [List.drop, Nat.reduceAdd]) | (refine arun_skip ?_ ?_; (focus (simp [awant, hlj, hkl]; done))) | (refine arunD_skip ?_ ?_; (focus (simp [awant, hlj, hkl]; done))) | (refine AW.regionK [] (fun K hK => ?_)) | (refine AW.regionDK [] (pcs [] []) (by kernel_rfl) (by kernel_rfl) (fun K hK => ?_)) | (refine AW.condT ?_ ?_; (focus (simp [aev, hlj, hkl]; done))) | (refine AW.condF ?_ ?_; (focus (simp [aev, hlj, hkl]; done))) | with_reducible refine AW.block ?_ | ((first | ((first | refine arun_nil ?_ | refine arunD_nil ?_); refine hK _ ?_; clear hK K) | refine AW.skip ?_ | refine AW.exit ?_ | refine AW.ret ?_); simp only [thenA_exit, inBlockA_exit, if_true, if_false, Nat.reduceEqDiff, thenA_normal, inBlockA_normal, reduceIte, thenA_ret, inBlockA_ret, endQ_ret, endR_ret, endG_ret, endQ_normal, endR_normal, endG_normal])))
  exact ⟨.bool true, by simp [ares, aresL], pur_bool, rfl⟩
theorem eqShape_AC : ∀ x, SmS x → AC Tryd.prog 16 [shA x, shA x] 0 (fun r => r = .bool true) := fun x h => by
  induction h with
  | mk x h1 h2 h3 h4 ih => exact eqShape_step x h1 h2 h3 ih
theorem shO_sms : ∀ n, Shp n → SmS (shO n) := shp_ind fun n hs ih => by
  have h1 := hs.sml.names
  have h2 := hs.kids
  rw [shO_eq]
  refine .mk _ h1 (by simpa using h1) (by simp; omega) (fun k hk => ?_)
  obtain ⟨m, hm, rfl⟩ := List.mem_map.1 hk
  exact ih m (List.mem_of_mem_take hm)
theorem shO_shp : ∀ n d, shapeB n d = true → shpB (shO n) d = true := Nd.ind' _ (fun n ih d h => by
  have hs : Shp n := ⟨d, h⟩
  have hp := h
  rw [shapeB_eq] at hp
  simp only [Bool.and_eq_true] at hp
  obtain ⟨⟨q1, q2⟩, q3⟩ := hp
  rw [shapeL_all, List.all_eq_true] at q3
  have hk : 0 ≤ n.kind ∧ n.kind ≤ 4 := by
    unfold partsB at q2
    simp only [Bool.and_eq_true] at q2
    have := q2.2
    split at this
    · omega
    · split at this
      · omega
      · split at this
        · omega
        · split at this
          · omega
          · split at this
            · omega
            · cases this
  rw [shpB_eq]
  simp only [Bool.and_eq_true]
  by_cases h4 : n.kind = 4
  · obtain ⟨ha, hl⟩ := hs.map h4
    rw [shO_map hs h4]
    refine ⟨⟨q1, ?_⟩, ?_⟩
    · unfold shpHead
      simp [ha, h4, hl, inR]
    · dsimp only
      rw [shpL_all, List.all_eq_true]
      intro x hx
      obtain ⟨k, hk, rfl⟩ := List.mem_map.1 hx
      exact ih k hk _ (q3 k hk)
  · rw [shO_leaf hs h4]
    refine ⟨⟨q1, ?_⟩, by simp [shpL]⟩
    unfold shpHead
    have : areNamesB [] = true := rfl
    simp [this, inR]
    omega)
theorem mis_del {n : Nd} (hs : Shp n) (h4 : n.kind = 4) (hl : 0 < n.names.length) : mis (shO n) (delK n 0) = some [n.names[0]] := by
  have hk := (hs.map h4).2
  have ha := hs.asc h4
  have hm : mem (delK n 0).names n.names[0] = false := by
    refine mem_no (fun h => ?_)
    unfold delK at h
    dsimp only at h
    rw [if_pos h4, List.take_zero, List.nil_append] at h
    obtain ⟨j, hj, he⟩ := List.getElem_of_mem h
    rw [List.getElem_drop] at he
    have hj' : 0 + 1 + j < n.names.length := by rw [List.length_drop] at hj; omega
    have := ha 0 (0 + 1 + j) hl hj' (by omega)
    rw [he, lt_irr] at this; cases this
  rw [shO_map hs h4, mis_eq]
  dsimp only
  rw [if_neg (by omega), if_neg (by simp [delK])]
  have := misL_step (ns := n.names) (bs := List.replicate n.kids.length true) (ks := n.kids.map shO) (delK n 0) (k := 0) hl (by rw [List.length_replicate]; omega) (by rw [List.length_map]; omega)
  rw [List.drop_zero, List.drop_zero, List.drop_zero] at this
  rw [this, hm]
  simp
theorem remO_name {n : Nd} (h : validB n = true) (h4 : n.kind = 4) (hl : 0 < n.names.length) : remO n [n.names[0]] = some (delK n 0) := by
  have hs := Shp.of h
  obtain ⟨ha, hk⟩ := hs.map h4
  have hp : pathB [n.names[0]] = true := by
    unfold areNamesB at ha
    rw [Bool.and_eq_true] at ha
    have := namesFrom_plain _ _ ha.2 n.names[0] (List.getElem_mem hl)
    unfold pathB
    simp [this]
  rw [remO_eq h hp]
  have := remS_snoc n [] n.names[0]
  rw [List.nil_append] at this
  rw [this, getS, Option.bind_some, place_name hs h4 hl]
  rfl
theorem dShape_AC0 (zs : List Int) (hl : zs.length ≤ 1048576) (hb : ByteL zs) : AC0 Tryd.prog 13 [.view .loose 1 (bytesE zs)] rNodeA := by
  have hc := sC_le
  have hN : AC Tryd.prog 51 [.rdr] cN rNodeA := anyNode_AC
  generalize cN = M at *
  refine AC0.of tab_ok mixed_ok Tryd.func13 (by rfl) (by kernel_rfl) ?_; rintro ⟨P, T, hT, hm, w0, S0, rd0, k0⟩ hP hTT hk0; dsimp only at hP hTT hk0; subst hP hTT hk0; unfold initSt; rw [Tryd.ntmps13]
  (repeat (first | with_reducible refine AW.seq ?_ | ((first | refine arun_kn 4 rfl (fun C hC => ?_) | refine arunD_kn 4 rfl (fun C hC => ?_)); (repeat ((conv => whnf); simp)); refine hC _ ?_; clear hC C; simp only [List.drop, Nat.reduceAdd]) | ((first | refine arun_kn 1 rfl (fun C hC => ?_) | refine arunD_kn 1 rfl (fun C hC => ?_)); (repeat ((conv => whnf); simp)); refine hC _ ?_; clear hC C; simp only [List.drop, Nat.reduceAdd]) | (refine arun_skip ?_ ?_; (focus (simp [awant]; done))) | (refine arun_cN M (newReader_ACN zs (0 + M) hl (by omega) hb) ?_) | (refine arun_c (M) (hN) ?_; (rintro _ ⟨n, hn, rfl⟩)) | (refine arunD_skip ?_ ?_; (focus (simp [awant]; done))) | (refine AW.regionK [] (fun K hK => ?_)) | (refine AW.regionDK [] (pcs [] []) (by kernel_rfl) (by kernel_rfl) (fun K hK => ?_)) | (refine AW.condT ?_ ?_; (focus (simp [aev]; done))) | (refine AW.condF ?_ ?_; (focus (simp [aev]; done))) | with_reducible refine AW.block ?_ | ((first | ((first | refine arun_nil ?_ | refine arunD_nil ?_); refine hK _ ?_; clear hK K) | refine AW.skip ?_ | refine AW.exit ?_ | refine AW.ret ?_); simp only [thenA_exit, inBlockA_exit, if_true, if_false, Nat.reduceEqDiff, thenA_normal, inBlockA_normal, reduceIte, thenA_ret, inBlockA_ret, endQ_ret, endR_ret, endG_ret, endQ_normal, endR_normal, endG_normal])))
  exact ⟨nodeA n, by simp [ares, aresL, upd, rowsOf_cons], node_pur n, n, hn, rfl⟩
theorem lawShRem_AC0 (zs : List Int) (hb : ByteL zs) : AC0 Tryd.prog 3 [.view .loose 1 (bytesE zs)] (fun r => r = .bool true) := by
  refine AC0.of tab_ok mixed_ok Tryd.func3 (by rfl) (by kernel_rfl) ?_; rintro ⟨P, T, hT, hm, w0, S0, rd0, k0⟩ hP hTT hk0; dsimp only at hP hTT hk0; subst hP hTT hk0; unfold initSt; rw [Tryd.ntmps3]
  by_cases hl : zs.length ≤ 1048576
  · have hl' : ¬ ((1048576 : Int) < (zs.length : Int)) := by omega
    have hqn : ∀ x : Go.Proofs.YtfjaobfaepjfnaaDoor.Shp, shA x = .agg [.int .i64 x.kind, .view .loose 1 (strsE x.names), .view .loose 1 (boolsE x.needs), .view .loose 4 (x.kids.map shE)] := fun x => by unfold shA; rw [shE_eq]
    (repeat (first | with_reducible refine AW.seq ?_ | ((first | refine arun_kn 4 rfl (fun C hC => ?_) | refine arunD_kn 4 rfl (fun C hC => ?_)); (repeat ((conv => whnf); simp [bytesE_len, hl'])); refine hC _ ?_; clear hC C; simp only [List.drop, Nat.reduceAdd]) | ((first | refine arun_kn 1 rfl (fun C hC => ?_) | refine arunD_kn 1 rfl (fun C hC => ?_)); (repeat ((conv => whnf); simp [bytesE_len, hl'])); refine hC _ ?_; clear hC C; simp only [List.drop, Nat.reduceAdd]) | (refine arun_skip ?_ ?_; (focus (simp [awant, bytesE_len, hl']; done))) | (refine arun_cZ (dShape_AC0 zs hl hb) ?_; (rintro _ ⟨n, hn, rfl⟩)) | (refine arunD_skip ?_ ?_; (focus (simp [awant, bytesE_len, hl']; done))) | (refine AW.regionK [] (fun K hK => ?_)) | (refine AW.regionDK [] (pcs [] []) (by kernel_rfl) (by kernel_rfl) (fun K hK => ?_)) | (refine AW.condT ?_ ?_; (focus (simp [aev, bytesE_len, hl']; done))) | (refine AW.condF ?_ ?_; (focus (simp [aev, bytesE_len, hl']; done))) | with_reducible refine AW.block ?_ | ((first | ((first | refine arun_nil ?_ | refine arunD_nil ?_); refine hK _ ?_; clear hK K) | refine AW.skip ?_ | refine AW.exit ?_ | refine AW.ret ?_); simp only [thenA_exit, inBlockA_exit, if_true, if_false, Nat.reduceEqDiff, thenA_normal, inBlockA_normal, reduceIte, thenA_ret, inBlockA_ret, endQ_ret, endR_ret, endG_ret, endQ_normal, endR_normal, endG_normal])))
    have p1 := ShapeOf_AC n
    have p2 := specShapeOf_AC n
    have hms : SmS (if validB n then shO n else ⟨0, [], [], []⟩) := by
      split
      · rename_i h; exact shO_sms n (Shp.of h)
      · exact .mk _ (by simp) (by simp) (by simp) (fun k hk => by cases hk)
    have p3 := eqShape_AC _ hms
    unfold shOpt at p1 p2
    cases h1 : validB n
    · rw [h1] at p1 p2 p3
      simp only [Bool.false_eq_true, if_false] at p1 p2 p3
      have hcx := sh_clo ⟨0, [], [], []⟩
      rw [hqn] at p1 p2 p3 hcx
      (repeat (first | with_reducible refine AW.seq ?_ | ((first | refine arun_kn 4 rfl (fun C hC => ?_) | refine arunD_kn 4 rfl (fun C hC => ?_)); (repeat ((conv => whnf); simp)); refine hC _ ?_; clear hC C; simp only [List.drop, Nat.reduceAdd]) | ((first | refine arun_kn 1 rfl (fun C hC => ?_) | refine arunD_kn 1 rfl (fun C hC => ?_)); (repeat ((conv => whnf); simp)); refine hC _ ?_; clear hC C; simp only [List.drop, Nat.reduceAdd]) | (refine arun_skip ?_ ?_; (focus (simp [awant]; done))) | (refine arun_c0 (p1) ?_; rintro _ rfl) | (refine arun_c0 (p2) ?_; rintro _ rfl) | (refine arun_c0 (p3) ?_; rintro _ rfl) | (refine arunD_skip ?_ ?_; (focus (simp [awant]; done))) | (refine AW.regionK [] (fun K hK => ?_)) | (refine AW.regionDK [] (pcs [] []) (by kernel_rfl) (by kernel_rfl) (fun K hK => ?_)) | (refine AW.condT ?_ ?_; (focus (simp [aev]; done))) | (refine AW.condF ?_ ?_; (focus (simp [aev]; done))) | with_reducible refine AW.block ?_ | ((first | ((first | refine arun_nil ?_ | refine arunD_nil ?_); refine hK _ ?_; clear hK K) | refine AW.skip ?_ | refine AW.exit ?_ | refine AW.ret ?_); simp only [thenA_exit, inBlockA_exit, if_true, if_false, Nat.reduceEqDiff, thenA_normal, inBlockA_normal, reduceIte, thenA_ret, inBlockA_ret, endQ_ret, endR_ret, endG_ret, endQ_normal, endR_normal, endG_normal])))
      exact ⟨.bool true, by simp [ares, aresL], pur_bool, rfl⟩
    rw [h1] at p1 p2 p3
    simp only [if_true] at p1 p2 p3
    have hcx := sh_clo (shO n)
    rw [hqn] at p1 p2 p3 hcx
    by_cases h4 : n.kind = 4
    rotate_left
    · have h4' : (n.kind != 4) = true := by simpa using h4
      (repeat (first | with_reducible refine AW.seq ?_ | ((first | refine arun_kn 4 rfl (fun C hC => ?_) | refine arunD_kn 4 rfl (fun C hC => ?_)); (repeat ((conv => whnf); simp [h4'])); refine hC _ ?_; clear hC C; simp only [List.drop, Nat.reduceAdd]) | ((first | refine arun_kn 1 rfl (fun C hC => ?_) | refine arunD_kn 1 rfl (fun C hC => ?_)); (repeat ((conv => whnf); simp [h4'])); refine hC _ ?_; clear hC C; simp only [List.drop, Nat.reduceAdd]) | (refine arun_skip ?_ ?_; (focus (simp [awant, h4']; done))) | (refine arun_c0 (p1) ?_; rintro _ rfl) | (refine arun_c0 (p2) ?_; rintro _ rfl) | (refine arun_c0 (p3) ?_; rintro _ rfl) | (refine arunD_skip ?_ ?_; (focus (simp [awant, h4']; done))) | (refine AW.regionK [] (fun K hK => ?_)) | (refine AW.regionDK [] (pcs [] []) (by kernel_rfl) (by kernel_rfl) (fun K hK => ?_)) | (refine AW.condT ?_ ?_; (focus (simp [aev, h4']; done))) | (refine AW.condF ?_ ?_; (focus (simp [aev, h4']; done))) | with_reducible refine AW.block ?_ | ((first | ((first | refine arun_nil ?_ | refine arunD_nil ?_); refine hK _ ?_; clear hK K) | refine AW.skip ?_ | refine AW.exit ?_ | refine AW.ret ?_); simp only [thenA_exit, inBlockA_exit, if_true, if_false, Nat.reduceEqDiff, thenA_normal, inBlockA_normal, reduceIte, thenA_ret, inBlockA_ret, endQ_ret, endR_ret, endG_ret, endQ_normal, endR_normal, endG_normal])))
      exact ⟨.bool true, by simp [ares, aresL], pur_bool, rfl⟩
    have h4' : (n.kind != 4) = false := by simp [h4]
    by_cases h2 : n.names.length = 0
    · have h2' : ((n.names.length : Int) == 0) = true := by rw [h2]; rfl
      (repeat (first | with_reducible refine AW.seq ?_ | ((first | refine arun_kn 4 rfl (fun C hC => ?_) | refine arunD_kn 4 rfl (fun C hC => ?_)); (repeat ((conv => whnf); simp [h4', h2, h2', strsE_len])); refine hC _ ?_; clear hC C; simp only [List.drop, Nat.reduceAdd]) | ((first | refine arun_kn 1 rfl (fun C hC => ?_) | refine arunD_kn 1 rfl (fun C hC => ?_)); (repeat ((conv => whnf); simp [h4', h2, h2', strsE_len])); refine hC _ ?_; clear hC C; simp only [List.drop, Nat.reduceAdd]) | (refine arun_skip ?_ ?_; (focus (simp [awant, h4', h2, h2', strsE_len]; done))) | (refine arun_c0 (p1) ?_; rintro _ rfl) | (refine arun_c0 (p2) ?_; rintro _ rfl) | (refine arun_c0 (p3) ?_; rintro _ rfl) | (refine arunD_skip ?_ ?_; (focus (simp [awant, h4', h2, h2', strsE_len]; done))) | (refine AW.regionK [] (fun K hK => ?_)) | (refine AW.regionDK [] (pcs [] []) (by kernel_rfl) (by kernel_rfl) (fun K hK => ?_)) | (refine AW.condT ?_ ?_; (focus (simp [aev, h4', h2, h2', strsE_len]; done))) | (refine AW.condF ?_ ?_; (focus (simp [aev, h4', h2, h2', strsE_len]; done))) | with_reducible refine AW.block ?_ | ((first | ((first | refine arun_nil ?_ | refine arunD_nil ?_); refine hK _ ?_; clear hK K) | refine AW.skip ?_ | refine AW.exit ?_ | refine AW.ret ?_); simp only [thenA_exit, inBlockA_exit, if_true, if_false, Nat.reduceEqDiff, thenA_normal, inBlockA_normal, reduceIte, thenA_ret, inBlockA_ret, endQ_ret, endR_ret, endG_ret, endQ_normal, endR_normal, endG_normal])))
      exact ⟨.bool true, by simp [ares, aresL], pur_bool, rfl⟩
    have h2' : ((n.names.length : Int) == 0) = false := beq_false_of_ne (by omega)
    have hl1 : 0 < n.names.length := by omega
    have g1 : 1 ≤ n.names.length := by omega
    have g1' : (1 : Int) ≤ n.names.length := by omega
    have hk := remO_name h1 h4 hl1
    have hrv : validB (delK n 0) = true := by
      have h5 := hk
      rw [remO_eq h1 (by
        cases hp : pathB [n.names[0]]
        · unfold remO at hk; rw [h1, hp] at hk; cases hk
        · rfl)] at h5
      exact rem_valid h1 h5
    have q1 := RemoveNode_AC .loose n [n.names[0]]
    rw [hk, optA_some] at q1
    have hsb : shpB (shO n) 5 = true := by
      unfold validB at h1
      rw [Bool.and_eq_true] at h1
      exact shO_shp n 5 h1.1
    have hmv : fmV (shO n) (delK n 0) = some [n.names[0]] := by
      unfold fmV
      rw [hsb, hrv, Bool.and_true, if_pos rfl]
      exact mis_del (Shp.of h1) h4 hl1
    have hfv : fitsV (shO n) (delK n 0) = false := by
      have := fmV_fits hsb hrv
      rw [hmv] at this
      cases hf : fitsV (shO n) (delK n 0)
      · rfl
      · rw [hf] at this; cases this
    have q2 := FirstMisfit_AC (shO n) (delK n 0)
    have q3 := FitsShape_AC (shO n) (delK n 0)
    rw [hmv] at q2
    rw [hfv] at q3
    have q4 := equalTexts_AC .loose .loose [n.names[0]] [n.names[0]] (by simp)
    rw [eqT_refl] at q4
    rw [Option.isSome_some, Option.getD_some] at q2
    have s1 : (strsE n.names).take 1 = strsE [n.names[0]] := by
      obtain ⟨x, xs, hx⟩ : ∃ x xs, n.names = x :: xs := List.exists_cons_of_length_pos hl1
      simp [hx, strsE]
    rw [hqn] at q2 q3
    generalize hG : [n.names[0]] = P at *
    have hcp : Clo (.view .loose 1 (strsE P)) := strs_clo P
    generalize delK n 0 = m at *
    have hcm := node_clo m
    (repeat (first | with_reducible refine AW.seq ?_ | ((first | refine arun_kn 4 rfl (fun C hC => ?_) | refine arunD_kn 4 rfl (fun C hC => ?_)); (repeat ((conv => whnf); simp [h4', h2, h2', strsE_len])); refine hC _ ?_; clear hC C; simp only [List.drop, Nat.reduceAdd]) | ((first | refine arun_kn 1 rfl (fun C hC => ?_) | refine arunD_kn 1 rfl (fun C hC => ?_)); (repeat ((conv => whnf); simp [h4', h2, h2', strsE_len])); refine hC _ ?_; clear hC C; simp only [List.drop, Nat.reduceAdd]) | (refine arun_skip ?_ ?_; (focus (simp [awant, h4', h2, h2', strsE_len]; done))) | (refine arun_c0 (p1) ?_; rintro _ rfl) | (refine arun_c0 (p2) ?_; rintro _ rfl) | (refine arun_c0 (p3) ?_; rintro _ rfl) | (refine arunD_skip ?_ ?_; (focus (simp [awant, h4', h2, h2', strsE_len]; done))) | (refine AW.regionK [] (fun K hK => ?_)) | (refine AW.condT ?_ ?_; (focus (simp [aev, h4', h2, h2', strsE_len]; done))) | (refine AW.condF ?_ ?_; (focus (simp [aev, h4', h2, h2', strsE_len]; done))) | with_reducible refine AW.block ?_ | ((first | ((first | refine arun_nil ?_ | refine arunD_nil ?_); refine hK _ ?_; clear hK K) | refine AW.skip ?_ | refine AW.exit ?_ | refine AW.ret ?_); simp only [thenA_exit, inBlockA_exit, if_true, if_false, Nat.reduceEqDiff, thenA_normal, inBlockA_normal, reduceIte, thenA_ret, inBlockA_ret, endQ_ret, endR_ret, endG_ret, endQ_normal, endR_normal, endG_normal])))
    refine AW.regionDK [] (pcs [(4, 0, fun r => r = .tup [nodeA m, .bool true])] []) (by kernel_rfl) (by kernel_rfl) (fun K hK => ?_)
    (repeat (first | with_reducible refine AW.seq ?_ | ((first | refine arun_kn 4 rfl (fun C hC => ?_) | refine arunD_kn 4 rfl (fun C hC => ?_)); (repeat ((conv => whnf); simp [strsE_len, s1, g1, g1', VC.cut])); refine hC _ ?_; clear hC C; simp only [List.drop, Nat.reduceAdd]) | ((first | refine arun_kn 1 rfl (fun C hC => ?_) | refine arunD_kn 1 rfl (fun C hC => ?_)); (repeat ((conv => whnf); simp [strsE_len, s1, g1, g1', VC.cut])); refine hC _ ?_; clear hC C; simp only [List.drop, Nat.reduceAdd]) | (refine arun_skip ?_ ?_; (focus (simp [awant, strsE_len, s1, g1, g1', VC.cut]; done))) | (refine arun_c0 (hx := by (simp [strsE_len, s1, g1, g1', VC.cut] <;> fail)) (q1) ?_; rintro _ rfl) | (refine arunD_skip ?_ ?_; (focus (simp [awant, strsE_len, s1, g1, g1', VC.cut]; done))) | (refine arunD_c (0) (q1) ?_; rintro _ rfl; intro _) | (refine AW.regionK [] (fun K hK => ?_)) | (refine AW.condT ?_ ?_; (focus (simp [aev, strsE_len, s1, g1, g1', VC.cut]; done))) | (refine AW.condF ?_ ?_; (focus (simp [aev, strsE_len, s1, g1, g1', VC.cut]; done))) | with_reducible refine AW.block ?_ | ((first | ((first | refine arun_nil ?_ | refine arunD_nil ?_); refine hK _ ?_; clear hK K) | refine AW.skip ?_ | refine AW.exit ?_ | refine AW.ret ?_); simp only [thenA_exit, inBlockA_exit, if_true, if_false, Nat.reduceEqDiff, thenA_normal, inBlockA_normal, reduceIte, thenA_ret, inBlockA_ret, endQ_ret, endR_ret, endG_ret, endQ_normal, endR_normal, endG_normal])))
    (repeat (first | with_reducible refine AW.seq ?_ | ((first | refine arun_kn 4 rfl (fun C hC => ?_) | refine arunD_kn 4 rfl (fun C hC => ?_)); (repeat ((conv => whnf); simp [strsE_len, s1, g1, g1', VC.cut])); refine hC _ ?_; clear hC C; simp only [List.drop, Nat.reduceAdd]) | ((first | refine arun_kn 1 rfl (fun C hC => ?_) | refine arunD_kn 1 rfl (fun C hC => ?_)); (repeat ((conv => whnf); simp [strsE_len, s1, g1, g1', VC.cut])); refine hC _ ?_; clear hC C; simp only [List.drop, Nat.reduceAdd]) | (refine arun_skip ?_ ?_; (focus (simp [awant, strsE_len, s1, g1, g1', VC.cut]; done))) | (refine arun_c0 (q2) ?_; rintro _ rfl) | (refine arun_c0 (q3) ?_; rintro _ rfl) | (refine arun_c0 (hx := by (simp [strsE_len, s1, g1, g1', VC.cut] <;> fail)) (q4) ?_; rintro _ rfl) | (refine arunD_skip ?_ ?_; (focus (simp [awant, strsE_len, s1, g1, g1', VC.cut]; done))) | (refine AW.regionK [] (fun K hK => ?_)) | (refine AW.regionDK [] (pcs [] []) (by kernel_rfl) (by kernel_rfl) (fun K hK => ?_)) | (refine AW.condT ?_ ?_; (focus (simp [aev, strsE_len, s1, g1, g1', VC.cut]; done))) | (refine AW.condF ?_ ?_; (focus (simp [aev, strsE_len, s1, g1, g1', VC.cut]; done))) | with_reducible refine AW.block ?_ | ((first | ((first | refine arun_nil ?_ | refine arunD_nil ?_); refine hK _ ?_; clear hK K) | refine AW.skip ?_ | refine AW.exit ?_ | refine AW.ret ?_); simp only [thenA_exit, inBlockA_exit, if_true, if_false, Nat.reduceEqDiff, thenA_normal, inBlockA_normal, reduceIte, thenA_ret, inBlockA_ret, endQ_ret, endR_ret, endG_ret, endQ_normal, endR_normal, endG_normal])))
    exact ⟨.bool true, by simp [ares, aresL], pur_bool, rfl⟩
  · have hl' : (1048576 : Int) < (zs.length : Int) := by omega
    (repeat (first | with_reducible refine AW.seq ?_ | ((first | refine arun_kn 4 rfl (fun C hC => ?_) | refine arunD_kn 4 rfl (fun C hC => ?_)); (repeat ((conv => whnf); simp [bytesE_len, hl'])); refine hC _ ?_; clear hC C; simp only [List.drop, Nat.reduceAdd]) | ((first | refine arun_kn 1 rfl (fun C hC => ?_) | refine arunD_kn 1 rfl (fun C hC => ?_)); (repeat ((conv => whnf); simp [bytesE_len, hl'])); refine hC _ ?_; clear hC C; simp only [List.drop, Nat.reduceAdd]) | (refine arun_skip ?_ ?_; (focus (simp [awant, bytesE_len, hl']; done))) | (refine arunD_skip ?_ ?_; (focus (simp [awant, bytesE_len, hl']; done))) | (refine AW.regionK [] (fun K hK => ?_)) | (refine AW.regionDK [] (pcs [] []) (by kernel_rfl) (by kernel_rfl) (fun K hK => ?_)) | (refine AW.condT ?_ ?_; (focus (simp [aev, bytesE_len, hl']; done))) | (refine AW.condF ?_ ?_; (focus (simp [aev, bytesE_len, hl']; done))) | with_reducible refine AW.block ?_ | ((first | ((first | refine arun_nil ?_ | refine arunD_nil ?_); refine hK _ ?_; clear hK K) | refine AW.skip ?_ | refine AW.exit ?_ | refine AW.ret ?_); simp only [thenA_exit, inBlockA_exit, if_true, if_false, Nat.reduceEqDiff, thenA_normal, inBlockA_normal, reduceIte, thenA_ret, inBlockA_ret, endQ_ret, endR_ret, endG_ret, endQ_normal, endR_normal, endG_normal])))
    exact ⟨.bool true, by simp [ares, aresL], pur_bool, rfl⟩
end Go.Proofs.YtfjaobfaepjfnaaDoor.Eng
