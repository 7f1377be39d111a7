/-
  Texts of this claim, joined.
-/
import Derived.Shelf.RegionOpenPlain
import Derived.Laws.MakeOwn
import Derived.Test.YtgfnmhfdmmnaoaaPdF

set_option linter.unusedSimpArgs false
set_option linter.unusedVariables false
set_option linter.unnecessarySimpa false
set_option maxRecDepth 100000
set_option maxHeartbeats 16000000
namespace Go.Proofs.Ytgfnmhfdmmnaoaa
open Go Go.RowKit Go.Proofs.Ytgfnmhfdmmnaoaa.Eng
theorem insI_grow (w : World) (b n i vb vc : Nat) (L M : List Value) (e1 : TypeId) (xs : List Value) (hb : Row0 w b L 116) (hv : Row0 w vb M e1) (hL : n * 7 ≤ L.length) (hM : M.take 7 = xs) (hxl : xs.length = 7) (hi : i < n) (hn : n ≤ 1000000) (h1 : ∀ u ∈ L, u.oneCell' = true) (h2 : ∀ u ∈ xs, u.oneCell' = true) :
    Calls Try.prog 146 #[.slice (some ⟨b, 0, none⟩) n n, .int .i64 i, .slice (some ⟨vb, 0, none⟩) 1 vc] w fun e w' =>
      ∃ g G Z, e = .returned (.slice (some ⟨g, 0, none⟩) (n + 1 : Nat) G) ∧ Grow w w' ∧ w.heap.size ≤ g ∧ Row0 w' g (L.take (i * 7) ++ (xs ++ ((L.take (n * 7)).drop (i * 7) ++ Z))) 116 ∧ Z.length = (G - (n + 1)) * 7 ∧ n + 1 ≤ G ∧ G ≤ maxLen := by
  obtain ⟨d, j, hs⟩ := TI.says (tab_ok _ _ tab116)
  obtain ⟨j', zv, zs, k1, k2, k3, k3', k3'', k4, k5, k6⟩ := zero_ok (w := w) (ρ := pureC nil nil none) (tab_ok _ _ tab116) (by decide)
  rw [hs.inf] at k1; cases k1
  have hjs := hs.sz
  have hjb := hs.by'
  have hinf := hs.inf
  dsimp only at hjs hjb k6
  have hzs : zv.cells.size = j.size := by rw [k3, hjs]; simpa using k6
  have hsz : (Try.prog.info? 116).map (·.size) = some 7 := by rw [hinf]; simp [hjs]
  have mixed := mixed_ok
  have hz1 : ¬ ((1 : Int) = 0) := by omega
  have hz2 : ¬ ((i : Int) = (n : Int)) := by omega
  have hz3 : (n : Int) < (n : Int) + 1 := by omega
  have hw1 : IntKind.i64.wrap ((n : Int) + 1) = (n : Int) + 1 := by rw [IntKind.wrap_i64]; omega
  have hw2 : IntKind.i64.wrap ((n : Int) + 1 - (i : Int)) = ((n + 1 - i : Nat) : Int) := by rw [IntKind.wrap_i64]; omega
  have hw3 : IntKind.i64.wrap ((i : Int) + 1) = (i : Int) + 1 := by rw [IntKind.wrap_i64]; omega
  have hb1 : (0 : Int) ≤ (i : Int) + 1 := by omega
  have hb2 : (0 : Int) ≤ (i : Int) := by omega
  have hin : i ≤ n := by omega
  have hni : ¬ (n = i) := by omega
  have htn : ((i : Int) + 1).toNat = i + 1 := by omega
  have hb3 : (i : Int) ≤ (n : Int) := by omega
  have hbn : b ≠ w.heap.size := by have := hb.lt; omega
  obtain ⟨X, hX⟩ : ∃ X, X = (L.take (n * 7)).drop (i * 7) := ⟨_, rfl⟩
  have hXl : X.length = (n - i) * 7 := by rw [hX, List.length_drop, List.length_take, Nat.sub_mul]; omega
  have hXs : X = (L.drop (i * 7)).take X.length := by rw [hXl, hX, List.drop_take, Nat.sub_mul]
  have hX1 : ∀ v ∈ X, v.oneCell' = true := fun v hv => h1 v (by rw [hX] at hv; exact List.mem_of_mem_take (List.mem_of_mem_drop hv))
  have HB := Lib.hid hb
  have HV := Lib.hid hv
  clear hb hv
  go_enter Try.func146, Try.ntmps146
  go_wp2_with (first
    | (at_builtin; refine wpList_appendZ rfl _ _ 60 3 rfl 116 j zv .i64 .i64 Try.underlying60 Try.underlying3 hinf k2 hzs b i n (n + 1 - i) rfl rfl L HB.out (by rw [hjs]; omega) (by omega) (by rw [hjs]; omega) (by omega) (by unfold maxLen; omega) (by rw [hjb]; omega) ?_; intro G w1 Z R1 Z1 G1 G2 E1; have B1 := HB.out.ext E1 (fun h => h); have V1 := HV.out.ext E1 (fun h => h); have G3 : ¬ (G = i) := (by omega); have G4 : ¬ (G = i + 1) := (by omega); have G5 : i + (n + 1 - i) = n + 1 := (by omega))
    | (refine wpList_copyN rfl (.tmp 43) (.tmp 44) 60 60 rfl 116 7 Try.underlying60 hsz w.heap.size _ _ _ vb 0 1 vc rfl rfl (L.take (i * j.size) ++ Z) M 116 e1 R1 V1 xs (by rw [hxl]; simp only [Nat.min_def]; split <;> omega) (by rw [hxl, List.drop_zero, hM]) (by simp only [List.length_append, List.length_take, Z1, hxl, hjs]; omega) h2 ?_; intro x2 w2 R2 E2; have B2 := B1.ext E2 (fun h => hbn h)))
  go_region_law_o (refine step_copyN rfl (.tmp 50) (.tmp 53) 60 60 rfl 116 7 Try.underlying60 hsz w.heap.size ((i + 1) * 7) (n + 1 - (i + 1)) (G - (i + 1)) b (i * 7) (n - i) (n - i) (by simp [Act.eval, Act.put]) (by simp [Act.eval, Act.put]) _ L 116 116 R2 B2 X (by rw [hXl, show Nat.min (n - i) (n + 1 - (i + 1)) = n - i from by rw [show n + 1 - (i + 1) = n - i by omega]; exact Nat.min_self _]) hXs (by rw [length_splice _ _ _ (by simp only [List.length_append, List.length_take, Z1, hxl, hjs]; omega)]; simp only [List.length_append, List.length_take, Z1, hXl, hjs]; omega) hX1 ?_; intro x3 w3 R3 E3)
  go_wp2
  go_ret
  have hZ : xs.length + X.length ≤ Z.length := by rw [hxl, hXl, Z1, hjs]; omega
  rw [hjs] at R3
  rw [splice_two _ _ _ _ _ _ (by rw [List.length_take]; omega) (by rw [hxl]; omega) hZ] at R3
  refine ⟨w.heap.size, G, Z.drop (xs.length + X.length), by simp, ?_, Nat.le_refl _, by rw [← hX]; exact R3, by rw [List.length_drop, hxl, hXl, Z1, hjs]; omega, by omega, G2⟩
  exact Grow.inner (Ext.drew (E1.inner E2 (fun k hk => Nat.le_of_eq (Eq.symm hk)))) E3 (fun k hk => Nat.le_of_eq (Eq.symm hk))
theorem insI_room (w : World) (b n c i vb vc : Nat) (L M : List Value) (e1 : TypeId) (xs : List Value) (hb : Row0 w b L 116) (hv : Row0 w vb M e1) (hbv : vb ≠ b) (hL : L.length = c * 7) (hM : M.take 7 = xs) (hxl : xs.length = 7) (hi : i < n) (hroom : n + 1 ≤ c) (hc : c ≤ maxLen) (h1 : ∀ u ∈ L.take (n * 7), u.oneCell' = true) (h2 : ∀ u ∈ xs, u.oneCell' = true) :
    Calls Try.prog 146 #[.slice (some ⟨b, 0, none⟩) n c, .int .i64 i, .slice (some ⟨vb, 0, none⟩) 1 vc] w fun e w' =>
      e = .returned (.slice (some ⟨b, 0, none⟩) (n + 1 : Nat) c) ∧ Ext (fun k => k = b) w w' ∧ Row0 w' b (L.take (i * 7) ++ (xs ++ ((L.take (n * 7)).drop (i * 7) ++ L.drop ((n + 1) * 7)))) 116 := by
  obtain ⟨d, j, hs⟩ := TI.says (tab_ok _ _ tab116)
  have hjs := hs.sz
  have hinf := hs.inf
  dsimp only at hjs
  have hsz : (Try.prog.info? 116).map (·.size) = some 7 := by rw [hinf]; simp [hjs]
  have hc63 : c ≤ 9223372036854775807 := by unfold maxLen at hc; exact hc
  have mixed := mixed_ok
  have hz1 : ¬ ((1 : Int) = 0) := by omega
  have hz2 : ¬ ((i : Int) = (n : Int)) := by omega
  have hz3 : ¬ ((c : Int) < (n : Int) + 1) := by omega
  have hw1 : IntKind.i64.wrap ((n : Int) + 1) = (n : Int) + 1 := by rw [IntKind.wrap_i64]; omega
  have hw3 : IntKind.i64.wrap ((i : Int) + 1) = (i : Int) + 1 := by rw [IntKind.wrap_i64]; omega
  have hb1 : (0 : Int) ≤ (i : Int) + 1 := by omega
  have hb2 : (0 : Int) ≤ (i : Int) := by omega
  have hb4 : (0 : Int) ≤ (n : Int) + 1 := by omega
  have hin : i ≤ n := by omega
  have hni : ¬ (c = i) := by omega
  have hni2 : ¬ (c = i + 1) := by omega
  have htn : ((i : Int) + 1).toNat = i + 1 := by omega
  have htn2 : ((n : Int) + 1).toNat = n + 1 := by omega
  have hb3 : (i : Int) ≤ (n : Int) := by omega
  have hb5 : (i : Int) + 1 ≤ (n : Int) + 1 := by omega
  have hb6 : (n : Int) + 1 ≤ (c : Int) := by omega
  have hb7 : (i : Int) ≤ (n : Int) + 1 := by omega
  obtain ⟨X, hX⟩ : ∃ X, X = (L.take (n * 7)).drop (i * 7) := ⟨_, rfl⟩
  have hXl : X.length = (n - i) * 7 := by rw [hX, List.length_drop, List.length_take, Nat.sub_mul, hL]; omega
  have hXs : X = (L.drop (i * 7)).take X.length := by rw [hXl, hX, List.drop_take, Nat.sub_mul]
  have hX1 : ∀ v ∈ X, v.oneCell' = true := fun v hv => h1 v (by rw [hX] at hv; exact List.mem_of_mem_drop hv)
  have hov : ∀ lb cb, (callFunc 174 #[.slice (some ⟨vb, 0, none⟩) 1 vc, .slice (some ⟨b, (i + 1) * 7, none⟩) lb cb]).run Try.prog w = .ok (.value (.bool false)) w := fun lb cb => by
    rw [run_callFunc_extern (P := Try.prog) (f := 174) (fn := Try.f174) (e := Extern.SlicesOverlaps.overlaps #[60, 60] #[4]) (by kernel_rfl) (by kernel_rfl) (by kernel_rfl) (by kernel_rfl) (by kernel_rfl)]
    rw [run_overlaps_rows (P := Try.prog) w 60 4 116 Try.underlying60 7 (fun w => hs.sizeOf w) vb 0 b ((i + 1) * 7) 1 vc lb cb M L e1 116 hv hb hbv (by rw [hL]; omega)]
    rfl
  have HB := Lib.hid hb
  have HV := Lib.hid hv
  clear hb hv
  go_enter Try.func146, Try.ntmps146
  go_wp2_with (simp only [hov])
  go_region_law_o (refine step_copyN rfl (.tmp 73) (.tmp 76) 60 60 rfl 116 7 Try.underlying60 hsz b ((i + 1) * 7) (n + 1 - (i + 1)) (c - (i + 1)) b (i * 7) (n + 1 - i) (c - i) (by simp [Act.eval, Act.put]) (by simp [Act.eval, Act.put]) L L 116 116 HB.out HB.out X (by rw [hXl, show Nat.min (n + 1 - i) (n + 1 - (i + 1)) = n - i from by rw [show n + 1 - (i + 1) = n - i by omega]; exact Nat.min_eq_right (by omega)]) hXs (by rw [hXl, hL]; omega) hX1 ?_; intro x2 w2 R2 E2)
  have V2 := HV.out.ext (Ext.trans (Ext.drew (Ext.refl _ w)) E2) (fun h => hbv h)
  go_wp2_with (refine wpList_copyN rfl (.tmp 80) (.tmp 81) 60 60 rfl 116 7 Try.underlying60 hsz b _ _ _ vb 0 1 vc rfl rfl (splice L ((i + 1) * 7) X) M 116 e1 R2 V2 xs (by rw [hxl]; simp only [Nat.min_def]; split <;> omega) (by rw [hxl, List.drop_zero, hM]) (by rw [length_splice _ _ _ (by rw [hXl, hL]; omega), hxl, hL]; omega) h2 ?_; intro x3 w3 R3 E3)
  go_ret
  rw [show (i + 1) * 7 = i * 7 + 7 by omega, splice_shift _ _ _ _ _ hxl (by rw [hXl, hL]; omega)] at R3
  refine ⟨by simp, Ext.trans (Ext.trans (Ext.drew (Ext.refl _ w)) E2) E3, ?_⟩
  rw [← hX, show (n + 1) * 7 = i * 7 + 7 + X.length by rw [hXl]; omega]
  exact R3
theorem delI_last (w : World) (b i : Nat) (L : List Value) (hb : Row0 w b L 116) (hL : L.length = (i + 1) * 7) (hc : i + 1 ≤ maxLen) :
    Calls Try.prog 117 #[.slice (some ⟨b, 0, none⟩) (i + 1) (i + 1), .int .i64 i, .int .i64 ((i : Int) + 1)] w fun e w' =>
      ∃ L', e = .returned (.slice (some ⟨b, 0, none⟩) i (i + 1)) ∧ Ext (fun k => k = b) w w' ∧ Row0 w' b L' 116 ∧ L'.length = (i + 1) * 7 ∧ L'.take (i * 7) = L.take (i * 7) := by
  obtain ⟨d, j, hs⟩ := TI.says (tab_ok _ _ tab116)
  obtain ⟨j', zv, zs, k1, k2, k3, k3', k3'', k4, k5, k6⟩ := zero_ok (w := w) (ρ := pureC nil nil none) (tab_ok _ _ tab116) (by decide)
  rw [hs.inf] at k1; cases k1
  have hjs := hs.sz
  have hinf := hs.inf
  dsimp only at hjs k6
  have hzs : zv.cells.size = j.size := by rw [k3, hjs]; simpa using k6
  have hz1c : ∀ u ∈ zv.cells.toList, u.oneCell' = true := by rw [k3]; simpa using k5
  have hc63 : i + 1 ≤ 9223372036854775807 := by unfold maxLen at hc; exact hc
  have mixed := mixed_ok
  have hz1 : ¬ ((i : Int) = (i : Int) + 1) := by omega
  have hb1 : (0 : Int) ≤ (i : Int) + 1 := by omega
  have hb2 : (0 : Int) ≤ (i : Int) := by omega
  have hb3 : (i : Int) ≤ (i : Int) + 1 := by omega
  have htn : ((i : Int) + 1).toNat = i + 1 := by omega
  have hni : ¬ (i + 1 = i) := by omega
  have hll : i + 1 - i = 1 := by omega
  have hX1 : ∀ v ∈ ([] : List Value), v.oneCell' = true := fun v hv => by cases hv
  have HB := Lib.hid hb
  clear hb
  go_enter Try.func117, Try.ntmps117
  go_wp2_with fail
  go_region_law_o (refine step_appendN rfl (.tmp 22) (.tmp 25) 60 116 rfl j Try.underlying60 hinf b i (i + 1) b 0 0 0 (by simp [Act.eval, Act.put]) (by simp [Act.eval, Act.put]) L L 116 HB.out HB.out [] (by simp) (by simp) (by omega) (by rw [hjs, hL]; simp only [List.length_nil]; omega) hX1 ?_; intro w2 R2 E2)
  have hsp : splice L (i * j.size) [] = L := by unfold splice; simp
  rw [hsp] at R2
  go_wp2_with (refine wpList_clearN rfl (.tmp 31) 60 116 rfl j zv Try.underlying60 hinf k2 hzs hz1c b _ _ _ rfl (by omega) _ R2 (by rw [hjs, hL]; omega) ?_; intro v3 w3 Z R3 Zl Z1 E3)
  go_ret
  refine ⟨_, by simp, Ext.trans (Ext.trans (Ext.drew (Ext.refl _ w)) E2) E3, R3, by rw [length_splice _ _ _ (by rw [hL, Zl, hjs]; omega), hL], ?_⟩
  unfold splice
  rw [List.take_append_of_le_length (by rw [List.length_take, hL]; omega), List.take_take]
  simp
theorem delI_mid (w : World) (b n c i : Nat) (L : List Value) (hb : Row0 w b L 116) (hL : L.length = c * 7) (hi : i < n) (hnc : n ≤ c) (hc : c ≤ maxLen) (hci : ¬ c = i + 1) (h1 : ∀ u ∈ L.take (n * 7), u.oneCell' = true) :
    Calls Try.prog 117 #[.slice (some ⟨b, 0, none⟩) n c, .int .i64 i, .int .i64 ((i : Int) + 1)] w fun e w' =>
      ∃ L', e = .returned (.slice (some ⟨b, 0, none⟩) (n - 1 : Nat) c) ∧ Ext (fun k => k = b) w w' ∧ Row0 w' b L' 116 ∧ L'.length = c * 7 ∧ L'.take ((n - 1) * 7) = L.take (i * 7) ++ (L.take (n * 7)).drop ((i + 1) * 7) := by
  obtain ⟨d, j, hs⟩ := TI.says (tab_ok _ _ tab116)
  obtain ⟨j', zv, zs, k1, k2, k3, k3', k3'', k4, k5, k6⟩ := zero_ok (w := w) (ρ := pureC nil nil none) (tab_ok _ _ tab116) (by decide)
  rw [hs.inf] at k1; cases k1
  have hjs := hs.sz
  have hinf := hs.inf
  dsimp only at hjs k6
  have hzs : zv.cells.size = j.size := by rw [k3, hjs]; simpa using k6
  have hz1c : ∀ u ∈ zv.cells.toList, u.oneCell' = true := by rw [k3]; simpa using k5
  have hc63 : c ≤ 9223372036854775807 := by unfold maxLen at hc; exact hc
  have mixed := mixed_ok
  have hz1 : ¬ ((i : Int) = (i : Int) + 1) := by omega
  have hb1 : (0 : Int) ≤ (i : Int) + 1 := by omega
  have hb2 : (0 : Int) ≤ (i : Int) := by omega
  have hb3 : (i : Int) ≤ (i : Int) + 1 := by omega
  have hb4 : (i : Int) + 1 ≤ (n : Int) := by omega
  have hb5 : (n : Int) ≤ (c : Int) := by omega
  have hb6 : (i : Int) ≤ (n : Int) := by omega
  have hb7 : (i : Int) ≤ (c : Int) := by omega
  have htn : ((i : Int) + 1).toNat = i + 1 := by omega
  have hni : ¬ (c = i) := by omega
  have hni3 : ¬ (n = i) := by omega
  obtain ⟨X, hX⟩ : ∃ X, X = (L.take (n * 7)).drop ((i + 1) * 7) := ⟨_, rfl⟩
  have hXl : X.length = (n - (i + 1)) * 7 := by rw [hX, List.length_drop, List.length_take, Nat.sub_mul, hL]; omega
  have hX1 : ∀ v ∈ X, v.oneCell' = true := fun v hv => h1 v (by rw [hX] at hv; exact List.mem_of_mem_drop hv)
  have hm : i + (n - (i + 1)) = n - 1 := by omega
  have hlast : n - (i + (n - (i + 1))) = 1 := by omega
  have hlc : (((n - 1 : Nat) : Int)) ≤ (n : Int) := by omega
  have hl0 : (0 : Int) ≤ ((n - 1 : Nat) : Int) := by omega
  have hnl : ¬ (c = n - 1) := by omega
  have hln : (splice L (i * j.size) X).length = c * 7 := by rw [length_splice _ _ _ (by rw [hXl, hjs, hL]; omega), hL]
  have HB := Lib.hid hb
  clear hb
  go_enter Try.func117, Try.ntmps117
  go_wp2_with fail
  go_region_law_o (refine step_appendN rfl (.tmp 22) (.tmp 25) 60 116 rfl j Try.underlying60 hinf b i c b ((i + 1) * 7) (n - (i + 1)) (c - (i + 1)) (by simp [Act.eval, Act.put]) (by simp [Act.eval, Act.put]) L L 116 HB.out HB.out X (by rw [hXl, hjs]) (by rw [hXl, hX]; rw [List.drop_take, Nat.sub_mul]) (by omega) (by rw [hjs, hXl, hL]; omega) hX1 ?_; intro w2 R2 E2)
  go_wp2_with (refine wpList_clearN rfl (.tmp 31) 60 116 rfl j zv Try.underlying60 hinf k2 hzs hz1c b _ _ _ rfl (by omega) _ R2 (by rw [hln, hjs]; omega) ?_; intro v3 w3 Z R3 Zl Z1 E3)
  go_ret
  refine ⟨_, by simp, Ext.trans (Ext.trans (Ext.drew (Ext.refl _ w)) E2) E3, R3, by rw [length_splice _ _ _ (by rw [hln, Zl, hjs]; omega), hln], ?_⟩
  rw [← hX]
  have e1 : splice L (i * j.size) X = L.take (i * 7) ++ X ++ L.drop ((n - 1) * 7) := by
    unfold splice
    rw [hXl, hjs, show i * 7 + (n - (i + 1)) * 7 = (n - 1) * 7 by omega, List.append_assoc]
  have e2 : (L.take (i * 7) ++ X).length = (n - 1) * 7 := by rw [List.length_append, List.length_take, hXl, hL]; omega
  unfold splice at e1 hln ⊢
  rw [List.take_append_of_le_length (by rw [List.length_take, hln]; omega), List.take_take, Nat.min_eq_left (by omega), e1, List.take_append_of_le_length (by omega), List.take_of_length_le (by omega)]
theorem wp_appRI {w : World} {ops : Array Oper} {rest : List Oper} {o : Oper} {a : Act} {Q : Exit → Act → World → Prop} (hgd : o.guard = none) (ho : o.op = .call { callee := .builtin .append, args := #[.tmp 23, .tmp 24], argTypes := #[60, 60] })
    (u : Value) (hx : a.eval (.tmp 23) = u) (n : Nat) (olds : List Value) (hat : Hid (Eng.RowAt w 0 116 7 u n olds)) (vb vc : Nat) (hy : a.eval (.tmp 24) = .slice (some ⟨vb, 0, none⟩) 1 vc) (M : List Value) (e1 : TypeId) (hv : Row0 w vb M e1) (xs : List Value) (hM : M.take 7 = xs) (hxl : xs.length = 7) (h2 : ∀ u ∈ xs, u.oneCell' = true) (hn : n ≤ 1000000)
    (h : ∀ v' w', Eng.RowAt w' 0 116 7 v' (n + 1) (olds ++ xs) → Ext (fun k => blk u = some k) w w' → (∀ g, blk v' = some g → blk u = some g ∨ w.heap.size ≤ g) → wpList Try.prog ops Q rest (a.put o.dst v') w') : wpList Try.prog ops Q (o :: rest) a w := by
  obtain ⟨d, j, hs⟩ := TI.says (tab_ok _ _ tab116)
  obtain ⟨j', zv, zs, k1, k2, k3, k3', k3'', k4, k5, k6⟩ := zero_ok (w := w) (ρ := pureC nil nil none) (tab_ok _ _ tab116) (by decide)
  rw [hs.inf] at k1; cases k1
  have hjs := hs.sz
  have hjb := hs.by'
  dsimp only at hjs hjb k6
  have hsrc : Eng.Src w (some ⟨vb, 0, none⟩) 1 xs := .inr ⟨_, rfl, fun q v hq => by
    rw [addr_plus, Nat.zero_add]
    refine hv.cell ?_
    rw [← hM] at hq
    have hl := (List.getElem?_eq_some_iff.1 hq).1
    rw [List.length_take] at hl
    rwa [List.getElem?_take_of_lt (by omega)] at hq⟩
  obtain ⟨v', w', m1, m2, m3, m4, _⟩ := run_append_row (P := Try.prog) (B := 0) 60 o.type 116 j zv Try.underlying60 hs.inf k2 (by rw [k3, hjs]; simpa using k6) (by rw [hjs]; exact hat.out) (Nat.zero_le _) (some ⟨vb, 0, none⟩) 1 vc xs (by rw [hxl, hjs]) hsrc h2 (by rw [hjb]; omega) (by unfold maxLen; omega)
  refine wpList_plain hgd fun K hK => ?_
  unfold Oper.wp
  simp only [execOp, ho, resolve, invoke, builtin, Sem.run_bind, Sem.run_pure, Result.andThen_ok, List.map_toArray, List.map_cons, List.map_nil, hx, hy, m1]
  exact hK _ _ (h v' w' (by rw [hjs] at m2; exact m2) m3 m4)
theorem insI_end (w : World) (b n c vb vc : Nat) (M : List Value) (e1 : TypeId) (xs olds : List Value) (hat : Eng.RowAt w 0 116 7 (.slice (some ⟨b, 0, none⟩) n c) n olds) (hv : Row0 w vb M e1) (hM : M.take 7 = xs) (hxl : xs.length = 7) (h2 : ∀ u ∈ xs, u.oneCell' = true) (hn : n ≤ 1000000) (hnc : n ≤ c) (hc : c ≤ maxLen) :
    Calls Try.prog 146 #[.slice (some ⟨b, 0, none⟩) n c, .int .i64 n, .slice (some ⟨vb, 0, none⟩) 1 vc] w fun e w' =>
      ∃ v', e = .returned v' ∧ Eng.RowAt w' 0 116 7 v' (n + 1) (olds ++ xs) ∧ Ext (fun k => blk (.slice (some ⟨b, 0, none⟩) n c) = some k) w w' ∧ ∀ g, blk v' = some g → blk (.slice (some ⟨b, 0, none⟩) n c) = some g ∨ w.heap.size ≤ g := by
  have hc63 : c ≤ 9223372036854775807 := by unfold maxLen at hc; exact hc
  have hz1 : ¬ ((1 : Int) = 0) := by omega
  have hb2 : (0 : Int) ≤ (n : Int) := by omega
  have hb3 : (n : Int) ≤ (c : Int) := by omega
  have HA := Lib.hid hat
  have HV := Lib.hid hv
  clear hat hv
  by_cases hcn : c = n
  · go_enter Try.func146, Try.ntmps146
    go_wp2_with (at_builtin; refine wp_appRI rfl rfl (.slice (some ⟨b, 0, none⟩) n c) (by simp [Act.eval, Act.put, hcn]) n olds HA vb vc rfl M e1 HV.out xs hM hxl h2 hn ?_; intro v4 w4 R4 E4 B4)
    go_ret
    exact ⟨_, by simp, R4, E4, B4⟩
  · go_enter Try.func146, Try.ntmps146
    go_wp2_with (at_builtin; refine wp_appRI rfl rfl (.slice (some ⟨b, 0, none⟩) n c) (by simp [Act.eval, Act.put]) n olds HA vb vc rfl M e1 HV.out xs hM hxl h2 hn ?_; intro v4 w4 R4 E4 B4)
    go_ret
    exact ⟨_, by simp, R4, E4, B4⟩
theorem insI_nil (w : World) (ad : Option Addr) (vb vc : Nat) (M : List Value) (e1 : TypeId) (xs : List Value) (hv : Row0 w vb M e1) (hM : M.take 7 = xs) (hxl : xs.length = 7) (h2 : ∀ u ∈ xs, u.oneCell' = true) :
    Calls Try.prog 146 #[.slice ad 0 0, .int .i64 0, .slice (some ⟨vb, 0, none⟩) 1 vc] w fun e w' =>
      ∃ v', e = .returned v' ∧ Eng.RowAt w' 0 116 7 v' 1 xs ∧ Grow w w' ∧ ∀ g, blk v' = some g → w.heap.size ≤ g := by
  have hat : Eng.RowAt w 0 116 7 (.slice ad 0 0) 0 [] := .inl ⟨rfl, rfl, ad, rfl⟩
  have hnb : ∀ k, ¬ blk (.slice ad 0 0) = some k := fun k hk => by cases ad <;> simp [blk] at hk
  have hz1 : ¬ ((1 : Int) = 0) := by omega
  have HA := Lib.hid hat
  have HV := Lib.hid hv
  clear hat hv
  cases ad with
  | none =>
    go_enter Try.func146, Try.ntmps146
    go_wp2_with (at_builtin; refine wp_appRI rfl rfl (.slice none 0 0) (by simp [Act.eval, Act.put]) 0 [] HA vb vc rfl M e1 HV.out xs hM hxl h2 (by omega) ?_; intro v4 w4 R4 E4 B4)
    go_ret
    exact ⟨v4, by simp, by simpa using R4, E4.mono (fun k hk => hnb k hk), fun g hg => (B4 g (by simpa using hg)).resolve_left (hnb g)⟩
  | some ad =>
    go_enter Try.func146, Try.ntmps146
    go_wp2_with (at_builtin; refine wp_appRI rfl rfl (.slice (some ad) 0 0) (by simp [Act.eval, Act.put]) 0 [] HA vb vc rfl M e1 HV.out xs hM hxl h2 (by omega) ?_; intro v4 w4 R4 E4 B4)
    go_ret
    exact ⟨v4, by simp, by simpa using R4, E4.mono (fun k hk => hnb k hk), fun g hg => (B4 g (by simpa using hg)).resolve_left (hnb g)⟩
theorem insI_at (w : World) (u : Value) (n i : Nat) (olds : List Value) (vb vc : Nat) (M : List Value) (e1 : TypeId) (xs : List Value) (hat : Eng.RowAt w 0 116 7 u n olds) (hone : ∀ u ∈ olds, u.oneCell' = true) (hv : Row0 w vb M e1) (hne : blk u ≠ some vb) (hM : M.take 7 = xs) (hxl : xs.length = 7) (h2 : ∀ u ∈ xs, u.oneCell' = true) (hi : i ≤ n) (hn : n ≤ 1000000) :
    Calls Try.prog 146 #[u, .int .i64 i, .slice (some ⟨vb, 0, none⟩) 1 vc] w fun e w' =>
      ∃ v', e = .returned v' ∧ Eng.RowAt w' 0 116 7 v' (n + 1) (olds.take (i * 7) ++ (xs ++ olds.drop (i * 7))) ∧ Ext (fun k => blk u = some k) w w' ∧ ∀ g, blk v' = some g → blk u = some g ∨ w.heap.size ≤ g := by
  have hat0 := hat
  rcases hat with ⟨rfl, rfl, ad, rfl⟩ | ⟨g, cap, cur, rfl, hp, _, hg, hnc, hcm, hcs, htk, hol⟩
  · have : i = 0 := by omega
    subst this
    refine (insI_nil w ad vb vc M e1 xs hv hM hxl h2).mono ?_
    rintro e w' ⟨v', rfl, q1, q2, q3⟩
    exact ⟨v', rfl, by simpa using q1, q2.mono (fun _ h => h.elim), fun g hg => .inr (q3 g hg)⟩
  · have hbl : blk (.slice (some ⟨g, 0, none⟩) n cap) = some g := blk_slice _ _ _ hp
    have hG : Row0 w g cur.toList 116 := by show _ = _; rw [hg]
    rcases Nat.lt_or_ge i n with hlt | hge
    · have hcl : cur.toList.length = cap * 7 := by rw [Array.length_toList, hcs]
      have hcut : (cur.toList.take (n * 7)).take (i * 7) = cur.toList.take (i * 7) := by rw [List.take_take, Nat.min_eq_left (by omega)]
      rcases Nat.lt_or_ge n cap with hroom | hfull
      · refine (insI_room w g n cap i vb vc cur.toList M e1 xs hG hv (fun e => hne (by rw [hbl, e])) hcl hM hxl hlt hroom hcm (by rw [htk]; exact hone) h2).mono ?_
        rintro e w' ⟨rfl, q1, q2⟩
        refine ⟨_, rfl, .inr ⟨g, cap, _, rfl, hp, Nat.zero_le _, q2.out, hroom, hcm, ?_, ?_, ?_⟩, q1.mono (fun k hk => by rw [hk]; exact hbl), fun g' hg' => by rw [blk_slice _ _ _ hp] at hg'; exact .inl (by rw [hbl]; exact hg')⟩
        · simp only [List.size_toArray, List.length_append, List.length_take, List.length_drop, hcl, hxl, Nat.add_mul]; omega
        · simp only [List.append_assoc]
          rw [htk, ← hcut, htk, ← List.append_assoc xs, ← List.append_assoc, ← List.append_assoc]
          exact List.take_left' (by simp only [List.length_append, List.length_take, List.length_drop, hol, hxl, Nat.add_mul]; omega)
        · simp only [List.length_append, List.length_take, List.length_drop, hol, hxl, Nat.add_mul]; omega
      · have hce : cap = n := by omega
        subst hce
        refine (insI_grow w g cap i vb vc cur.toList M e1 xs hG hv (by omega) hM hxl hlt hn ?_ h2).mono ?_
        · rw [← List.take_of_length_le (l := cur.toList) (i := cap * 7) (by omega), htk]; exact hone
        · rintro e w' ⟨g', G, Z, rfl, q1, q2, q3, q4, q5, q6⟩
          refine ⟨_, rfl, .inr ⟨g', G, _, rfl, by omega, Nat.zero_le _, q3.out, q5, q6, ?_, ?_, ?_⟩, q1.mono (fun _ h => h.elim), fun g'' hg' => by rw [blk_slice _ _ _ (by omega)] at hg'; cases hg'; exact .inr q2⟩
          · simp only [List.size_toArray, List.length_append, List.length_take, List.length_drop, hcl, hxl, q4, Nat.add_mul, Nat.sub_mul]; omega
          · rw [htk, ← hcut, htk, ← List.append_assoc xs, ← List.append_assoc]
            exact List.take_left' (by simp only [List.length_append, List.length_take, List.length_drop, hol, hxl, Nat.add_mul]; omega)
          · simp only [List.length_append, List.length_take, List.length_drop, hol, hxl, Nat.add_mul]; omega
    · have : i = n := by omega
      subst this
      refine (insI_end w g i cap vb vc M e1 xs olds hat0 hv hM hxl h2 hn hnc hcm).mono ?_
      rintro e w' ⟨v', rfl, q1, q2, q3⟩
      refine ⟨v', rfl, ?_, q2, q3⟩
      rw [List.take_of_length_le (by omega), List.drop_of_length_le (by omega), List.append_nil]
      exact q1
theorem insI_inv3 {w : World} {ρ : Cx} {a b c : AV} {vs : List Value} (h : RepL w ρ [a, b, c] vs) : ∃ x y z, vs = [x, y, z] ∧ Eng.Rep w ρ a x ∧ Eng.Rep w ρ b y ∧ Eng.Rep w ρ c z := by
  unfold RepL at h
  obtain ⟨x, _, rfl, h1, h⟩ := h
  unfold RepL at h
  obtain ⟨y, _, rfl, h2, h⟩ := h
  unfold RepL at h
  obtain ⟨z, _, rfl, h3, h⟩ := h
  unfold RepL at h
  subst h
  exact ⟨x, y, z, rfl, h1, h2, h3⟩
theorem insI_ACG (es : List (List AV)) (x : List AV) (i : Nat) (hi : i ≤ es.length) (hn : es.length ≤ 1000000) (hes : ∀ e ∈ es, ∀ c ∈ e, Pur c) (hx : ∀ c ∈ x, Pur c) :
    ACG Try.prog 146 [.own 1000 es.length, .int .i64 i, .own 1001 1] [(1000, ⟨false, 116, 7, es⟩), (1001, ⟨false, 116, 7, [x]⟩)] 0 (fun r l => r = .own 1 (es.length + 1) ∧ l = [(1, ⟨false, 116, 7, es.take i ++ (x :: es.drop i)⟩)]) := by
  refine ⟨Go.Proofs.Ytgfnmhfdmmnaoaa.Eng.enters_of Try.func146 (by kernel_rfl) (by kernel_rfl), by simp, fun w ρ k vs hL hS hrd hU hR hargs => ?_⟩
  obtain ⟨v0, v1, v2, rfl, a0, a1, a2⟩ := insI_inv3 hargs
  obtain ⟨u0, p1, p2, ⟨p3, _⟩, p4, p5, xs0, p6, p7, p8⟩ := hR.rw 1000 _ rfl
  obtain ⟨u1, q1, q2, _, q4, q5, xs1, q6, q7, q8⟩ := hR.rw 1001 _ rfl
  dsimp only at p2 p4 p6 p7 q2 q4 q6 q7
  obtain ⟨_, _, _, hv0⟩ := rep_own.1 a0
  obtain ⟨_, _, _, hv2⟩ := rep_own.1 a2
  have := hv0 u0 p1 p2.symm
  subst this
  have := hv2 u1 q1 q2.symm
  subst this
  rw [rep_int] at a1
  subst a1
  rcases q6 with ⟨h0, _⟩ | ⟨g, cap, cur, rfl, hp, _, hg, hnc, hcm, hcs, htk, hol⟩
  · simp at h0
  have hG : Row0 w g cur.toList 116 := by show _ = _; rw [hg]
  have hbl : blk (.slice (some ⟨g, 0, none⟩) [x].length cap) = some g := blk_slice _ _ _ hp
  have htk' : cur.toList.take 7 = xs1 := by rw [← htk]; simp
  refine (insI_at w v0 es.length i xs0 g cap cur.toList 116 xs1 p6 p8 hG (fun e => ?_) htk' (by simpa using hol) q8 hi hn).mono ?_
  · have := hR.dj 1000 1001 _ _ g p1 q1 e hbl
    omega
  · rintro e w' ⟨v', rfl, m1, m2, m3⟩
    have hfl : (es.take i ++ (x :: es.drop i)).flatten = (es.take i).flatten ++ (x ++ (es.drop i).flatten) := by simp
    have hlt : (es.take i).flatten.length = i * 7 := by rw [flat_len (fun e he => p4 e (List.mem_of_mem_take he)), List.length_take, Nat.min_eq_left hi]
    have hsp : es.flatten = (es.take i).flatten ++ (es.drop i).flatten := by rw [← List.flatten_append, List.take_append_drop]
    have hl2 : (es.take i ++ (x :: es.drop i)).length = es.length + 1 := by simp; omega
    obtain ⟨ρ', r1, r2, r3, r4, r5, r6, r7, r8, r9⟩ := acg_one (k := k) (c := 0) hL hS hrd hR (m2.mono (fun b hb => ⟨1000, v0, p1, hb⟩)) ⟨false, 116, 7, es.take i ++ (x :: es.drop i)⟩ v' _ rfl p3 (fun y hy => by
      rcases List.mem_append.1 hy with hy | hy
      · exact p4 y (List.mem_of_mem_take hy)
      · rcases List.mem_cons.1 hy with rfl | hy
        · exact q4 _ (by simp)
        · exact p4 y (List.mem_of_mem_drop hy)) (by dsimp only; rw [hl2]; exact m1) (fun g hg => (m3 g hg).imp (fun h => ⟨1000, v0, p1, h⟩) (fun h => h)) (by
        dsimp only
        rw [hfl]
        rw [hsp] at p7
        have t1 := p7.take (i * 7)
        have t2 := p7.drop (i * 7)
        rw [← hlt, List.take_left] at t1
        rw [← hlt, List.drop_left] at t2
        rw [hlt] at t1 t2
        exact t1.append ((by simpa using q7 : RepL w ρ x xs1).append t2)) (fun e he c hc => by
        rcases List.mem_append.1 he with he | he
        · exact hes e (List.mem_of_mem_take he) c hc
        · rcases List.mem_cons.1 he with rfl | he
          · exact hx c hc
          · exact hes e (List.mem_of_mem_drop he) c hc) (fun u hu => by
        rcases List.mem_append.1 hu with hu | hu
        · exact p8 u (List.mem_of_mem_take hu)
        · rcases List.mem_append.1 hu with hu | hu
          · exact q8 u hu
          · exact p8 u (List.mem_of_mem_drop hu))
    exact ⟨v', _, _, ρ', rfl, r1, r2, r3, r4, r5, r6, r7, (fun id r h1 h2 u h3 => by rw [r8 id (by have := rowsOf_key h1; simp at this; omega)] at h3; cases h3), by rw [hl2] at r9; exact r9, rfl, rfl⟩
theorem delI_ACG (es : List (List AV)) (i : Nat) (hi : i < es.length) (hes : ∀ e ∈ es, ∀ c ∈ e, Pur c) :
    ACG Try.prog 117 [.own 1000 es.length, .int .i64 i, .int .i64 ((i : Int) + 1)] [(1000, ⟨false, 116, 7, es⟩)] 0 (fun r l => r = .own 1 (es.length - 1) ∧ l = [(1, ⟨false, 116, 7, es.take i ++ es.drop (i + 1)⟩)]) := by
  refine ⟨Go.Proofs.Ytgfnmhfdmmnaoaa.Eng.enters_of Try.func117 (by kernel_rfl) (by kernel_rfl), by simp, fun w ρ k vs hL hS hrd hU hR hargs => ?_⟩
  obtain ⟨v0, v1, v2, rfl, a0, a1, a2⟩ := insI_inv3 hargs
  obtain ⟨u0, p1, p2, ⟨p3, _⟩, p4, p5, xs0, p6, p7, p8⟩ := hR.rw 1000 _ rfl
  dsimp only at p2 p4 p6 p7
  obtain ⟨_, _, _, hv0⟩ := rep_own.1 a0
  have := hv0 u0 p1 p2.symm
  subst this
  rw [rep_int] at a1 a2
  subst a1 a2
  rcases p6 with ⟨h0, _⟩ | ⟨g, cap, cur, rfl, hp, _, hg, hnc, hcm, hcs, htk, hol⟩
  · omega
  have hG : Row0 w g cur.toList 116 := by show _ = _; rw [hg]
  have hbl : blk (.slice (some ⟨g, 0, none⟩) es.length cap) = some g := blk_slice _ _ _ hp
  have hcl : cur.toList.length = cap * 7 := by rw [Array.length_toList, hcs]
  have hl2 : (es.take i ++ es.drop (i + 1)).length = es.length - 1 := by simp; omega
  have hsp : es.flatten = (es.take i).flatten ++ (es.drop i).flatten := by rw [← List.flatten_append, List.take_append_drop]
  have hlt : (es.take i).flatten.length = i * 7 := by rw [flat_len (fun e he => p4 e (List.mem_of_mem_take he)), List.length_take, Nat.min_eq_left (by omega)]
  have hlt2 : (es.take (i + 1)).flatten.length = (i + 1) * 7 := by rw [flat_len (fun e he => p4 e (List.mem_of_mem_take he)), List.length_take, Nat.min_eq_left (by omega)]
  have hsp2 : es.flatten = (es.take (i + 1)).flatten ++ (es.drop (i + 1)).flatten := by rw [← List.flatten_append, List.take_append_drop]
  have key : Calls Try.prog 117 #[.slice (some ⟨g, 0, none⟩) es.length cap, .int .i64 i, .int .i64 ((i : Int) + 1)] w fun e w' =>
      ∃ L', e = .returned (.slice (some ⟨g, 0, none⟩) (es.length - 1 : Nat) cap) ∧ Ext (fun k => k = g) w w' ∧ Row0 w' g L' 116 ∧ L'.length = cap * 7 ∧ L'.take ((es.length - 1) * 7) = xs0.take (i * 7) ++ xs0.drop ((i + 1) * 7) := by
    have hcut : cur.toList.take (i * 7) = xs0.take (i * 7) := by rw [← htk, List.take_take, Nat.min_eq_left (by omega)]
    by_cases hci : cap = i + 1
    · subst hci
      have : es.length = i + 1 := by omega
      rw [this]
      refine (delI_last w g i cur.toList hG hcl hcm).mono ?_
      rintro e w' ⟨L', rfl, m1, m2, m3, m4⟩
      refine ⟨L', by simp, m1, m2, m3, ?_⟩
      rw [Nat.add_sub_cancel, m4, hcut, List.drop_of_length_le (by rw [hol, this]; exact Nat.le_refl _), List.append_nil]
    · refine (delI_mid w g es.length cap i cur.toList hG hcl hi hnc hcm hci (by rw [htk]; exact p8)).mono ?_
      rintro e w' ⟨L', rfl, m1, m2, m3, m4⟩
      exact ⟨L', rfl, m1, m2, m3, by rw [m4, hcut, htk]⟩
  refine key.mono ?_
  rintro e w' ⟨L', rfl, m1, m2, m3, m4⟩
  have hat : Eng.RowAt w' 0 116 7 (.slice (some ⟨g, 0, none⟩) (es.length - 1) cap) (es.length - 1) (xs0.take (i * 7) ++ xs0.drop ((i + 1) * 7)) :=
    .inr ⟨g, cap, _, rfl, hp, Nat.zero_le _, m2.out, by omega, hcm, by rw [List.size_toArray, m3], by rw [← m4], by simp only [List.length_append, List.length_take, List.length_drop, hol, Nat.sub_mul, Nat.add_mul]; omega⟩
  obtain ⟨ρ', r1, r2, r3, r4, r5, r6, r7, r8, r9⟩ := acg_one (k := k) (c := 0) hL hS hrd hR (m1.mono (fun b hb => ⟨1000, _, p1, by rw [hbl, hb]⟩)) ⟨false, 116, 7, es.take i ++ es.drop (i + 1)⟩ _ _ rfl p3 (fun y hy => by
    rcases List.mem_append.1 hy with hy | hy
    · exact p4 y (List.mem_of_mem_take hy)
    · exact p4 y (List.mem_of_mem_drop hy)) (by dsimp only; rw [hl2]; exact hat) (fun g' hg' => .inl ⟨1000, _, p1, by rw [hbl]; rw [blk_slice _ _ _ hp] at hg'; exact hg'⟩) (by
      dsimp only
      rw [List.flatten_append]
      have t1 := p7
      have t2 := p7
      rw [hsp] at t1
      rw [hsp2] at t2
      have t1 := t1.take (i * 7)
      have t2 := t2.drop ((i + 1) * 7)
      rw [← hlt, List.take_left] at t1
      rw [← hlt2, List.drop_left] at t2
      rw [hlt] at t1
      rw [hlt2] at t2
      exact t1.append t2) (fun e he c hc => by
      rcases List.mem_append.1 he with he | he
      · exact hes e (List.mem_of_mem_take he) c hc
      · exact hes e (List.mem_of_mem_drop he) c hc) (fun u hu => by
      rcases List.mem_append.1 hu with hu | hu
      · exact p8 u (List.mem_of_mem_take hu)
      · exact p8 u (List.mem_of_mem_drop hu))
  exact ⟨_, _, _, ρ', rfl, r1, r2, r3, r4, r5, r6, r7, (fun id r h1 h2 u h3 => by rw [r8 id (by have := rowsOf_key h1; simp at this; omega)] at h3; cases h3), by rw [hl2] at r9; exact r9, rfl, rfl⟩
end Go.Proofs.Ytgfnmhfdmmnaoaa
-- EV: store
namespace Go.Proofs.Ytgfnmhfdmmnaoaa.Eng
open Go Go.RowKit
attribute [local simp] big size_mk ASt.pay Option.map_map Function.comp_def awant aop acall ado aev ofVal ofVal0 ASt.put ASt.add ASt.turn ASt.kill abox aalloc astore aload aloadD astoreD idOf ASt.at cellsTo afieldAddr afield aindexAddr aindex alen abin aint acmp astr aun apick aextract anil aslice abound abuild afill abuildSlice asCells aps avCells over upd aappend asrc amax amin aconv mkSt slots rowsOf_cons rowsOf_nil usedOf_cons usedOf_nil ZK.av List.replicate ASt.back ASt.addL ASt.killL nodeA nodeT nodeTL_eq nodeL_eq strsE_get strsE_len intsE_get intsE_len strsE_at intsE_at itemA itemL_eq storeA storeT storeO itemsRow tab2 tab3 tab4 tab5 tab6 tab7 tab8 tab9 tab10 tab11 tab12 tab13 tab14 tab15 tab16 tab17 tab18 tab19 tab21 tab22 tab23 tab24 tab25 tab26 tab27 tab28 tab29 tab30 tab39 tab40 tab41 tab42 tab43 tab47 tab48 tab55 tab56 tab57 tab60 tab61 tab62 tab73 tab74 tab75 tab85 tab92 tab115 tab116 tab143 tab144 tab145 tab154 tab155 tab170 tab175 tab182 tab197 tab198 tab203 tab204 tab205 tab207 tab208 tab209
def zeroI : List AV := [.str ⟨#[]⟩, .int .i64 0, .int .i64 0, .int .i64 0, .str ⟨#[]⟩, .view .tight 0 [], .view .tight 0 []]
theorem findItem_AC (l : List Itm) (t : VC) (nm : ByteArray) (hasc : Asc (nmL l)) (hb : l.length ≤ 1000000) : AC Try.prog 116 [.view t 7 (l.map itemL), .str nm] 0 (fun r => r = .tup [.int .i64 (lbound (nmL l) nm : Nat), .bool (mem (nmL l) nm)]) := by
  refine AC.ofNew (enters_of Try.func116 (by kernel_rfl) (by kernel_rfl)) (fun w L S rb vs hargs => ?_)
  obtain ⟨v0, v1, rfl, a0, a1⟩ := repL2_inv hargs
  obtain ⟨a, c, rfl, hs⟩ := items_of_rep a0
  obtain ⟨rfl, _⟩ := rep_str.1 a1
  refine (findItem_ok l a c nm w hs hasc hb).mono ?_
  rintro e w' ⟨rfl, hg⟩
  exact ⟨_, _, rfl, hg, rep_tup.2 ⟨[_, _], rfl, repL2 (rep_int.2 rfl) (rep_bool.2 rfl)⟩, rfl⟩
def putI (l : List Itm) (it : Itm) : List Itm := if mem (nmL l) it.1 then l.set (lbound (nmL l) it.1) it else l.take (lbound (nmL l) it.1) ++ (it :: l.drop (lbound (nmL l) it.1))
end Go.Proofs.Ytgfnmhfdmmnaoaa.Eng
-- EV: store
namespace Go.Proofs.Ytgfnmhfdmmnaoaa.Eng
open Go Go.RowKit
theorem asc_head {x : ByteArray} {xs : List ByteArray} (h : Asc (x :: xs)) : (∀ y ∈ xs, lt x y = true) ∧ Asc xs := by
  refine ⟨fun y hy => ?_, fun i j hi hj hij => ?_⟩
  · obtain ⟨i, hi, rfl⟩ := List.getElem_of_mem hy
    have := h 0 (i + 1) (by simp) (by simpa using hi) (by omega)
    simpa using this
  · have := h (i + 1) (j + 1) (by simpa using hi) (by simpa using hj) (by omega)
    simpa using this
theorem putL_true {nm : ByteArray} {nx : Itm} : ∀ {l : List Itm}, (∀ y ∈ l, eqs y.1 nm = false) → putL nm nx true l = l
  | [], _ => rfl
  | x :: l, h => by
    unfold putL
    rw [h x (by simp)]
    simp only [Bool.not_true, Bool.false_and, Bool.false_eq_true, if_false, List.nil_append, List.singleton_append, Bool.true_or]
    rw [putL_true (fun y hy => h y (by simp [hy]))]
theorem dropL_none {nm : ByteArray} : ∀ {l : List Itm}, (∀ y ∈ l, eqs y.1 nm = false) → dropL nm l = l
  | [], _ => rfl
  | x :: l, h => by
    unfold dropL
    rw [h x (by simp), dropL_none (fun y hy => h y (by simp [hy]))]
    rfl
theorem nmL_cons (x : Itm) (l : List Itm) : nmL (x :: l) = x.1 :: nmL l := rfl
theorem lb_zero {nm x : ByteArray} {xs : List ByteArray} (h : lt x nm = false) (ha : ∀ y ∈ xs, lt x y = true) : lbound xs nm = 0 := by
  unfold lbound
  rw [List.countP_eq_zero]
  intro y hy hl
  have := ha y hy
  have h3 : lt x nm = true := bl_trans _ _ _ this hl
  rw [h] at h3; cases h3
theorem lts_false_of {x nm y : ByteArray} (h : lt x nm = false) (hy : lt x y = true) : eqs y nm = false := by
  rw [eqs_false]
  rintro rfl
  rw [h] at hy; cases hy
theorem putI_eq : ∀ {l : List Itm} (_ : Asc (nmL l)) (it : Itm), putI l it = putL it.1 it false l
  | [], _, it => by simp [putI, putL, nmL, mem, lbound]
  | x :: l, ha, it => by
    rw [nmL_cons] at ha
    obtain ⟨h1, h2⟩ := asc_head ha
    have h1' : ∀ y ∈ l, lt x.1 y.1 = true := fun y hy => h1 y.1 (List.mem_map.2 ⟨y, hy, rfl⟩)
    have ih := putI_eq h2 it
    unfold putL
    unfold putI at ih ⊢
    rw [nmL_cons]
    have hlb : lbound (x.1 :: nmL l) it.1 = lbound (nmL l) it.1 + if lt x.1 it.1 then 1 else 0 := by unfold lbound; rw [List.countP_cons]
    have hme : mem (x.1 :: nmL l) it.1 = (decide (x.1 = it.1) || mem (nmL l) it.1) := by unfold mem; rw [List.any_cons]
    rw [hlb, hme, lts_lt]
    cases hl : lt x.1 it.1 with
    | true =>
      have hne : eqs x.1 it.1 = false := by
        rw [eqs_false]
        intro e
        rw [e, lt_irr] at hl; cases hl
      have hd : decide (x.1 = it.1) = false := by rw [eqs_false] at hne; simpa using hne
      rw [hne, hd]
      simp only [Bool.false_or, if_true, Bool.not_true, Bool.and_false, Bool.false_eq_true, if_false, List.nil_append, List.singleton_append, Bool.or_false]
      rw [← ih]
      split
      · rfl
      · rfl
    | false =>
      have hz := lb_zero hl h1
      rw [hz]
      have hrest : putL it.1 it true l = l := putL_true (fun y hy => lts_false_of hl (h1' y hy))
      simp only [Bool.false_eq_true, if_false, Nat.add_zero, Bool.not_false, Bool.and_self, if_true, Bool.or_true, hrest]
      cases he : eqs x.1 it.1 with
      | true =>
        have hx : x.1 = it.1 := eqs_iff.1 he
        simp [hx]
      | false =>
        have hd : decide (x.1 = it.1) = false := by rw [eqs_false] at he; simpa using he
        have hm : mem (nmL l) it.1 = false := mem_no (fun hm => by
          have h3 := h1 _ hm
          rw [hl] at h3; cases h3)
        rw [hd, hm]
        simp
def dropI (l : List Itm) (nm : ByteArray) : List Itm := l.take (lbound (nmL l) nm) ++ l.drop (lbound (nmL l) nm + 1)
theorem dropI_eq : ∀ {l : List Itm} (_ : Asc (nmL l)) (nm : ByteArray), mem (nmL l) nm = true → dropI l nm = dropL nm l
  | [], _, nm, h => by simp [nmL, mem] at h
  | x :: l, ha, nm, h => by
    rw [nmL_cons] at ha h
    obtain ⟨h1, h2⟩ := asc_head ha
    have h1' : ∀ y ∈ l, lt x.1 y.1 = true := fun y hy => h1 y.1 (List.mem_map.2 ⟨y, hy, rfl⟩)
    unfold dropL
    unfold dropI
    rw [nmL_cons]
    have hlb : lbound (x.1 :: nmL l) nm = lbound (nmL l) nm + if lt x.1 nm then 1 else 0 := by unfold lbound; rw [List.countP_cons]
    have hme : mem (x.1 :: nmL l) nm = (decide (x.1 = nm) || mem (nmL l) nm) := by unfold mem; rw [List.any_cons]
    rw [hme] at h
    rw [hlb]
    cases hl : lt x.1 nm with
    | true =>
      have hne : eqs x.1 nm = false := by
        rw [eqs_false]
        intro e
        rw [e, lt_irr] at hl; cases hl
      have hd : decide (x.1 = nm) = false := by rw [eqs_false] at hne; simpa using hne
      rw [hd, Bool.false_or] at h
      have ih := dropI_eq h2 nm h
      unfold dropI at ih
      rw [hne]
      simp only [if_true, Bool.false_eq_true, if_false, List.singleton_append]
      rw [← ih]
      rfl
    | false =>
      have hz := lb_zero hl h1
      rw [hz]
      cases he : eqs x.1 nm with
      | true =>
        rw [dropL_none (fun y hy => lts_false_of hl (h1' y hy))]
        simp
      | false =>
        exfalso
        have hd : decide (x.1 = nm) = false := by rw [eqs_false] at he; simpa using he
        rw [hd, Bool.false_or, mem_iff] at h
        have h3 := h1 _ h
        rw [hl] at h3; cases h3
theorem lb_lt : ∀ {xs : List ByteArray} {nm : ByteArray}, mem xs nm = true → lbound xs nm < xs.length := fun {xs nm} h => by
  unfold lbound
  rw [Nat.lt_iff_le_and_ne]
  refine ⟨List.countP_le_length, fun e => ?_⟩
  rw [List.countP_eq_length] at e
  have := e nm (mem_iff.1 h)
  rw [lt_irr] at this; cases this
theorem lb_le (xs : List ByteArray) (nm : ByteArray) : lbound xs nm ≤ xs.length := List.countP_le_length
end Go.Proofs.Ytgfnmhfdmmnaoaa.Eng
-- EV: store
namespace Go.Proofs.Ytgfnmhfdmmnaoaa.Eng
open Go Go.RowKit
attribute [local simp] big size_mk ASt.pay Option.map_map Function.comp_def awant aop acall ado aev ofVal ofVal0 ASt.put ASt.add ASt.turn ASt.kill abox aalloc astore aload aloadD astoreD idOf ASt.at cellsTo afieldAddr afield aindexAddr aindex alen abin aint acmp astr aun apick aextract anil aslice abound abuild afill abuildSlice asCells aps avCells over upd aappend asrc amax amin aconv mkSt slots rowsOf_cons rowsOf_nil usedOf_cons usedOf_nil ZK.av List.replicate ASt.back ASt.addL ASt.killL nodeA nodeT nodeTL_eq nodeL_eq strsE_get strsE_len intsE_get intsE_len strsE_at intsE_at itemA itemL_eq storeA storeT storeO itemsRow tab2 tab3 tab4 tab5 tab6 tab7 tab8 tab9 tab10 tab11 tab12 tab13 tab14 tab15 tab16 tab17 tab18 tab19 tab21 tab22 tab23 tab24 tab25 tab26 tab27 tab28 tab29 tab30 tab39 tab40 tab41 tab42 tab43 tab47 tab48 tab55 tab56 tab57 tab60 tab61 tab62 tab73 tab74 tab75 tab85 tab92 tab115 tab116 tab143 tab144 tab145 tab154 tab155 tab170 tab175 tab182 tab197 tab198 tab203 tab204 tab205 tab207 tab208 tab209
theorem putI_S (s : Sto) (nm : ByteArray) (n : Nd) (h : storeB s = true) : (putI s.1 (nm, s.2 + 1, n), s.2 + 1) = putS s nm n := by
  unfold putS
  rw [putI_eq (storeB_asc h)]
theorem findF_mem (nm : ByteArray) : ∀ (l : List Itm) (k : Nat), decide (findF nm l k < 0) = !(mem (nmL l) nm)
  | [], k => by simp [findF, nmL, mem]
  | x :: l, k => by
    have ih := findF_mem nm l (k + 1)
    have hme : mem (nmL (x :: l)) nm = (decide (x.1 = nm) || mem (nmL l) nm) := by unfold mem nmL; rw [List.map_cons, List.any_cons]
    unfold findF
    rw [hme]
    cases he : eqs x.1 nm with
    | true =>
      have hx : x.1 = nm := eqs_iff.1 he
      simp [hx]
    | false =>
      have hd : decide (x.1 = nm) = false := by rw [eqs_false] at he; simpa using he
      rw [hd, Bool.false_or, ← ih]
      simp
theorem findI_mem (s : Sto) (nm : ByteArray) : decide (findI s nm < 0) = !(mem (nmL s.1) nm) := findF_mem nm s.1 0
end Go.Proofs.Ytgfnmhfdmmnaoaa.Eng
namespace Go.Proofs.Ytgfnmhfdmmnaoaa.Eng
open Go Go.RowKit
section
variable {P : Program} {T : Tab} {w0 : W0} {S0 : Nat → Prop} {rd0 : Option Nat} {k0 : Nat} {w : World} {a : Act} {s : ASt} {ρ : Cx}
end
section
variable {P : Program} {T : Tab} {k0 : Nat} {md : List Nat} {Av : Nat → Prop} {ops : Array Oper} {K : ASt → Prop} {o : Oper} {l : List Oper} {s : ASt}
end
end Go.Proofs.Ytgfnmhfdmmnaoaa.Eng
namespace Go.Proofs.Ytgfnmhfdmmnaoaa.Eng
open Go Go.RowKit
def frB : VC → Bool → List Nat
  | .fr g, false => [g]
  | _, _ => []
mutual
def atB : AV → List Nat
  | .agg cs => atL cs
  | .tup cs => atL cs
  | .fn _ cs => atL cs
  | .view t _ es => frB t es.isEmpty ++ atE es
  | .eptr t cs => frB t false ++ atL cs
  | _ => []
def atL : List AV → List Nat
  | [] => []
  | c :: cs => atB c ++ atL cs
def atE : List (List AV) → List Nat
  | [] => []
  | e :: es => atL e ++ atE es
end
theorem at_any : atB .any = [] := by unfold atB; rfl
theorem at_int {k : IntKind} {n : Int} : atB (.int k n) = [] := by unfold atB; rfl
theorem at_bool {b : Bool} : atB (.bool b) = [] := by unfold atB; rfl
theorem at_str {b : ByteArray} : atB (.str b) = [] := by unfold atB; rfl
theorem at_own {id n : Nat} : atB (.own id n) = [] := by unfold atB; rfl
theorem at_ptr {bx : Bool} {sz n id i j : Nat} : atB (.ptr bx sz n id i j) = [] := by unfold atB; rfl
theorem at_rdr : atB .rdr = [] := by unfold atB; rfl
theorem at_agg {cs : List AV} : atB (.agg cs) = atL cs := by unfold atB; rfl
theorem at_tup {cs : List AV} : atB (.tup cs) = atL cs := by unfold atB; rfl
theorem at_fn {f : FuncId} {cs : List AV} : atB (.fn f cs) = atL cs := by unfold atB; rfl
theorem at_view {t : VC} {sz : Nat} {es : List (List AV)} : atB (.view t sz es) = frB t es.isEmpty ++ atE es := by conv => lhs; unfold atB
theorem atL_nil : atL [] = [] := by unfold atL; rfl
theorem atL_cons {c : AV} {cs : List AV} : atL (c :: cs) = atB c ++ atL cs := by conv => lhs; unfold atL
theorem atE_nil : atE [] = [] := by unfold atE; rfl
theorem atE_cons {e : List AV} {es : List (List AV)} : atE (e :: es) = atL e ++ atE es := by conv => lhs; unfold atE
theorem frB_tight {b : Bool} : frB .tight b = [] := by cases b <;> rfl
theorem frB_fr {g : Nat} {b : Bool} : frB (.fr g) b = if b then [] else [g] := by cases b <;> rfl
theorem atL_mem {b : Nat} : ∀ {cs : List AV}, b ∈ atL cs ↔ ∃ c ∈ cs, b ∈ atB c
  | [] => by rw [atL_nil]; simp
  | c :: cs => by rw [atL_cons, List.mem_append, atL_mem]; simp
theorem atE_mem {b : Nat} : ∀ {es : List (List AV)}, b ∈ atE es ↔ ∃ e ∈ es, b ∈ atL e
  | [] => by rw [atE_nil]; simp
  | e :: es => by rw [atE_cons, List.mem_append, atE_mem]; simp
theorem atE_app {es ds : List (List AV)} : atE (es ++ ds) = atE es ++ atE ds := by
  induction es with
  | nil => rw [atE_nil]; rfl
  | cons e es ih => rw [List.cons_append, atE_cons, atE_cons, ih, List.append_assoc]
section
variable {w : World} {ρ : Cx}
mutual
theorem Rep.at : ∀ {c : AV} {v : Value}, Rep w ρ c v → ∀ b ∈ atB c, ρ.S b ∧ ∀ o, w.frozen? ⟨b, o, none⟩ = false
  | .any, _, _, b, hb => by rw [at_any] at hb; cases hb
  | .int _ _, _, _, b, hb => by rw [at_int] at hb; cases hb
  | .bool _, _, _, b, hb => by rw [at_bool] at hb; cases hb
  | .str _, _, _, b, hb => by rw [at_str] at hb; cases hb
  | .own _ _, _, _, b, hb => by rw [at_own] at hb; cases hb
  | .ptr _ _ _ _ _ _, _, _, b, hb => by rw [at_ptr] at hb; cases hb
  | .rdr, _, _, b, hb => by rw [at_rdr] at hb; cases hb
  | .agg cs, _, h, b, hb => by
    rw [at_agg] at hb
    obtain ⟨vs, _, _, h3⟩ := rep_agg.1 h
    exact RepL.at h3 b hb
  | .tup cs, _, h, b, hb => by
    rw [at_tup] at hb
    obtain ⟨vs, _, h3⟩ := rep_tup.1 h
    exact RepL.at h3 b hb
  | .fn f cs, _, h, b, hb => by
    rw [at_fn] at hb
    obtain ⟨vs, _, h3⟩ := rep_fn.1 h
    exact RepL.at h3 b hb
  | .view t sz es, _, h, b, hb => by
    rw [at_view, List.mem_append] at hb
    obtain ⟨a, c, _, _, _, _, _, h6⟩ := rep_view.1 h
    rcases h6 with rfl | ⟨g, o, _, hg, he⟩
    · rcases hb with hb | hb
      · cases t <;> simp [frB] at hb
      · rw [atE_nil] at hb; cases hb
    · rcases hb with hb | hb
      · cases t <;> cases hem : es.isEmpty <;> rw [hem] at hb <;> simp [frB] at hb
        subst hb
        simp only [Cx.H] at hg
        obtain ⟨h1, rfl, h3⟩ := hg
        exact ⟨h1, h3⟩
      · exact RepE.at he b hb
  | .eptr t cs, _, h, b, hb => by
    unfold atB at hb
    rw [List.mem_append] at hb
    obtain ⟨g, o, _, hg, he⟩ := rep_eptr.1 h
    rcases hb with hb | hb
    · cases t <;> simp [frB] at hb
      subst hb
      simp only [Cx.H] at hg
      obtain ⟨h1, rfl, h3⟩ := hg
      exact ⟨h1, h3⟩
    · exact RepC.at he b hb
theorem RepL.at : ∀ {cs : List AV} {vs : List Value}, RepL w ρ cs vs → ∀ b ∈ atL cs, ρ.S b ∧ ∀ o, w.frozen? ⟨b, o, none⟩ = false
  | [], _, _, b, hb => by rw [atL_nil] at hb; cases hb
  | c :: cs, _, h, b, hb => by
    rw [atL_cons, List.mem_append] at hb
    unfold RepL at h
    obtain ⟨v, vs', _, h2, h3⟩ := h
    rcases hb with hb | hb
    · exact Rep.at h2 b hb
    · exact RepL.at h3 b hb
theorem RepC.at {g : Nat} : ∀ {cs : List AV} {o : Nat}, RepC w ρ g o cs → ∀ b ∈ atL cs, ρ.S b ∧ ∀ o, w.frozen? ⟨b, o, none⟩ = false
  | [], _, _, b, hb => by rw [atL_nil] at hb; cases hb
  | c :: cs, _, h, b, hb => by
    rw [atL_cons, List.mem_append] at hb
    unfold RepC at h
    obtain ⟨⟨v, _, _, h2⟩, h3⟩ := h
    rcases hb with hb | hb
    · exact Rep.at h2 b hb
    · exact RepC.at h3 b hb
theorem RepE.at {g : Nat} : ∀ {es : List (List AV)} {o : Nat}, RepE w ρ g o es → ∀ b ∈ atE es, ρ.S b ∧ ∀ o, w.frozen? ⟨b, o, none⟩ = false
  | [], _, _, b, hb => by rw [atE_nil] at hb; cases hb
  | e :: es, _, h, b, hb => by
    rw [atE_cons, List.mem_append] at hb
    unfold RepE at h
    rcases hb with hb | hb
    · exact RepC.at h.1 b hb
    · exact RepE.at h.2 b hb
end
end
def ACF (P : Program) (f : FuncId) (args : List AV) (c : Nat) (Post : AV → Prop) : Prop :=
  Enters P f ∧ ∀ (w : World) (L S : Nat → Prop) (rb : Option Nat) (k : Nat) (vs : List Value), (∀ b, L b → b < w.heap.size ∧ rb ≠ some b) → (∀ b, S b → b < w.heap.size) → (∀ b, rb = some b → ¬ S b ∧ RdOk w S b (k + c)) → RepL w (pureC L S rb) args vs →
    Calls P f vs.toArray w fun e w' => ∃ v r S', e = .returned v ∧ Ext (fun b => rb = some b) w w' ∧ (∀ b, S b → S' b) ∧ (∀ b, S' b → S b ∨ (w.heap.size ≤ b ∧ b < w'.heap.size)) ∧
      (∀ b, rb = some b → RdOk w' S' b k) ∧ Rep w' (pureC nil S' none) r v ∧ Post r ∧ ∀ b ∈ atB r, w.heap.size ≤ b
section
variable {P : Program} {f : FuncId} {args : List AV} {c : Nat} {Q R : AV → Prop}
theorem ACF.toAC (h : ACF P f args c Q) : AC P f args c Q :=
  ⟨h.1, fun w L S rb k vs h0 h1 h2 h3 => (h.2 w L S rb k vs h0 h1 h2 h3).mono fun e w' ⟨v, r, S', k1, k2, k3, k4, k5, k6, k7, _⟩ => ⟨v, r, S', k1, k2, k3, k4, k5, k6, k7⟩⟩
theorem ACF.toV {A : Nat → Prop} (h : ACF P f args c Q) : ACV P A f args c (fun r => Q r ∧ ∀ b ∈ atB r, ¬ A b) :=
  ⟨h.1, fun w L S rb k vs hA h0 h1 h2 h3 => (h.2 w L S rb k vs h0 h1 h2 h3).mono fun e w' ⟨v, r, S', k1, k2, k3, k4, k5, k6, k7, k8⟩ => ⟨v, r, S', k1, k2, k3, k4, k5, k6, k7, fun b hb h => by have := hA b h; have := k8 b hb; omega⟩⟩
theorem ACF.mono (h : ACF P f args c Q) (hq : ∀ r, Q r → R r) : ACF P f args c R :=
  ⟨h.1, fun w L S rb k vs h0 h1 h2 h3 => (h.2 w L S rb k vs h0 h1 h2 h3).mono fun e w' ⟨v, r, S', k1, k2, k3, k4, k5, k6, k7, k8⟩ => ⟨v, r, S', k1, k2, k3, k4, k5, k6, hq r k7, k8⟩⟩
theorem AC.arg {bs : List AV} (h : AC P f args c Q) (hw : WkL bs args) : AC P f bs c Q :=
  ⟨h.1, fun w L S rb k vs h0 h1 h2 h3 => h.2 w L S rb k vs h0 h1 h2 (hw.rep h3)⟩
theorem ACF.arg {bs : List AV} (h : ACF P f args c Q) (hw : WkL bs args) : ACF P f bs c Q :=
  ⟨h.1, fun w L S rb k vs h0 h1 h2 h3 => h.2 w L S rb k vs h0 h1 h2 (hw.rep h3)⟩
end
section
variable {P : Program} {T : Tab} {k0 : Nat} {md : List Nat} {Av : Nat → Prop} {ops : Array Oper} {K : ASt → Prop} {o : Oper} {l : List Oper} {s : ASt}
theorem arun_callF {f : FuncId} {xs : List Operand} {args : List AV} {c : Nat} {Post : AV → Prop} (hw : awant ops o s = some true) (ha : acall o.op = some (f, xs)) (hx : xs.map (aev s) = args) (hac : ACF P f args c Post) (hclo : cloL args) (hcan : s.can c)
    (h : ∀ r, Post r → (∀ b ∈ atB r, ¬ Av b) → ARun P T k0 Av md ops K l ((s.pay c).put o.dst r)) : ARun P T k0 Av md ops K (o :: l) s :=
  ARun.opA hw fun w0 S0 rd0 w a ρ hT hA hS next Q hn => by
    subst hx
    exact callV_ok hS ha hA hac.toV (lendL_ops (cloL_spec hclo)) hcan (fun r v w' ρ' hp _ hs => hn _ _ _ _ hs (h r hp.1 hp.2))
theorem arun_cF {f : FuncId} {xs : List Operand} {args : List AV} (c : Nat) {Post : AV → Prop} (hac : ACF P f args c Post) (h : ∀ r, Post r → (∀ b ∈ atB r, ¬ Av b) → ARun P T k0 Av md ops K l ((s.pay c).put o.dst r)) (hw : awant ops o s = some true := by (simp [awant] <;> fail)) (ha : acall o.op = some (f, xs) := by rfl)
    (hx : xs.map (aev s) = args := by (simp [ASt.put, ASt.pay, ASt.add, Option.map_map, Function.comp_def, List.set_cons_succ, List.set_cons_zero, aev, ofVal, ofVal0, big, size_mk, nodeA, nodeT, nodeTL_eq, nodeL_eq] <;> fail))
    (hclo : cloL args := by (simp only [cloL] <;> (repeat (first | exact trivial | refine And.intro ?_ ?_ | exact clo_int | exact clo_str | exact clo_bool | exact clo_rdr | exact node_clo _ | exact nodeT_clo _ _ | exact strs_clo _ | exact ints_clo _ | exact nodes_clo _ | exact clo_vnil | exact bytes_clo _ | exact clo_lit _ rfl | assumption | exact item_clo _ | exact items_clo _ | exact store_clo _ _ | exact storeA_clo _ | exact change_clo _ _ _)) <;> fail))
    (hcan : s.can c := by (first | with_reducible exact can_none | (simp only [ASt.put, ASt.pay, ASt.add, Option.map_none]; exact can_none) | ((first | with_reducible refine can_some ?_ | refine can_of ?_ | (simp only [ASt.put, ASt.pay, ASt.add, Option.map_map, Function.comp_def, Option.map_some]; first | refine can_some ?_ | refine can_of ?_)); (first | exact Nat.le_refl _ | (simp <;> fail) | omega)))) : ARun P T k0 Av md ops K (o :: l) s :=
  arun_callF hw ha hx hac hclo hcan h
theorem arunD_cF {P : Program} {T : Tab} {md : List Nat} {Av : Nat → Prop} {pc : Pc} {ops : Array Oper} {K : ASt → Prop} {o : Oper} {l : List Oper} {k : Nat} {s : ASt} {f : FuncId} {xs : List Operand} {args : List AV} (c : Nat) {Post : AV → Prop} (hac : ACF P f args c Post) (hne : ∃ r, (Post r ∧ ∀ b ∈ atB r, ¬ Av b) ∧ NoId r)
    (h : ∀ r, Post r → (∀ b ∈ atB r, ¬ Av b) → NoId r → ARunD P T md Av pc ops K l (k + 1) ((s.pay c).put o.dst r)) (hl : (pc.2.contains k || pc.2.contains (1000 + k)) = false := by rfl) (hw : awant ops o s = some true := by (simp [awant] <;> fail)) (ha : acall o.op = some (f, xs) := by rfl)
    (hx : xs.map (aev s) = args := by (simp [ASt.put, ASt.pay, ASt.add, Option.map_map, Function.comp_def, List.set_cons_succ, List.set_cons_zero, aev, ofVal, ofVal0, big, size_mk, nodeA, nodeT, nodeTL_eq, nodeL_eq] <;> fail))
    (hpc : pc.1 k args = (some c, fun r => Post r ∧ ∀ b ∈ atB r, ¬ Av b) := by rfl)
    (hclo : ∀ x ∈ args, Clo x := by (simp only [List.forall_mem_cons, List.not_mem_nil, false_implies, implies_true, and_true] <;> (repeat (first | exact trivial | refine And.intro ?_ ?_ | exact clo_int | exact clo_str | exact clo_bool | exact clo_rdr | exact node_clo _ | exact nodeT_clo _ _ | exact strs_clo _ | exact ints_clo _ | exact nodes_clo _ | exact clo_vnil | exact bytes_clo _ | exact clo_lit _ rfl | assumption | exact item_clo _ | exact items_clo _ | exact store_clo _ _ | exact storeA_clo _ | exact change_clo _ _ _)) <;> fail))
    (hcan : s.can c := by (first | with_reducible exact can_none | (simp only [ASt.put, ASt.pay, ASt.add, Option.map_none]; exact can_none) | ((first | with_reducible refine can_some ?_ | refine can_of ?_ | (simp only [ASt.put, ASt.pay, ASt.add, Option.map_map, Function.comp_def, Option.map_some]; first | refine can_some ?_ | refine can_of ?_)); (first | exact Nat.le_refl _ | (simp <;> fail) | omega)))) : ARunD P T md Av pc ops K (o :: l) k s :=
  arunD_callV hl hw ha hx hac.toV hpc hclo hcan hne (fun r hr hn => h r hr.1 hr.2 hn)
end
def endF (T : Tab) (fn : Func) (B : Nat) (Post : AV → Prop) : Exit → ASt → Prop
  | .normal, s | .ret, s => ∃ r, ares T s fn.results.toList = some r ∧ Pur r ∧ (∀ b ∈ atB r, B ≤ b) ∧ Post r
  | _, _ => False
theorem endF_ret {T : Tab} {fn : Func} {B : Nat} {Post : AV → Prop} {s : ASt} : endF T fn B Post .ret s = ∃ r, ares T s fn.results.toList = some r ∧ Pur r ∧ (∀ b ∈ atB r, B ≤ b) ∧ Post r := rfl
theorem endF_normal {T : Tab} {fn : Func} {B : Nat} {Post : AV → Prop} {s : ASt} : endF T fn B Post .normal s = ∃ r, ares T s fn.results.toList = some r ∧ Pur r ∧ (∀ b ∈ atB r, B ≤ b) ∧ Post r := rfl
structure W0.New (w0 : W0) : Prop where
  A : ∀ b, b < w0.wd.heap.size → w0.A b
  X : ∀ b, ¬ w0.X b
theorem W0.New.ge {w0 : W0} (h : w0.New) {b : Nat} (hb : ¬ w0.A b) : w0.wd.heap.size ≤ b := by
  rcases Nat.lt_or_ge b w0.wd.heap.size with q | q
  · exact absurd (h.A b q) hb
  · exact q
theorem ACF.of {P : Program} {T : Tab} (hT : Tab.Ok P T) (hm : P.follows .mixedOrders = true) {f : FuncId} {fn : Func} {code : Code} (hf : P.funcs[f]? = some fn) (hb : fn.body = some code) (hn : (fn.name == "runtime.NumGoroutine") = false)
    {args : List AV} {c : Nat} {Post : AV → Prop}
    (h : ∀ E : Env, E.P = P → E.T = T → E.w0.New → AW E code (endF T fn E.w0.wd.heap.size Post) (initSt args fn.ntmps (E.rd0.map fun _ => c))) : ACF P f args c Post := by
  refine ⟨enters_of hf hn (by rw [hb]; rfl), fun w L S rb k vs hL hS hr hargs => ?_⟩
  refine calls_of_wp hf hb ?_
  refine wp_mono (h ⟨P, T, hT, hm, W0.of w, S, rb, k⟩ rfl rfl ⟨fun _ h => h, fun _ h => h⟩ w _ (initC L S rb) (init_SR hL hS hr hargs)) ?_
  rintro e a' w' ⟨s', ρ', h1, h2⟩
  have fin : ∀ r, ares T s' fn.results.toList = some r → Pur r → (∀ b ∈ atB r, w.heap.size ≤ b) → Post r → a'.defers = [] ∧ ∃ v, (results fn a'.tmps).run P w' = .ok v w' ∧ ∃ v' r S', Ending.returned v = .returned v' ∧ Ext (fun b => rb = some b) w w' ∧ (∀ b, S b → S' b) ∧ (∀ b, S' b → S b ∨ (w.heap.size ≤ b ∧ b < w'.heap.size)) ∧
      (∀ b, rb = some b → RdOk w' S' b k) ∧ Rep w' (pureC nil S' none) r v' ∧ Post r ∧ ∀ b ∈ atB r, w.heap.size ≤ b := fun r hr hp hat hq => by
    obtain ⟨v, k1, k2⟩ := ares_ok hT h1 hr
    exact ⟨SR.df h1, v, k1, v, r, ρ'.S, rfl, SR.fin_ext h1, SR.s0 h1, SR.fin_S h1, SR.fin_rd h1, hp _ _ _ k2, hq, hat⟩
  cases e with
  | normal => obtain ⟨r, q1, q2, q3, q4⟩ := h2; exact fin r q1 q2 q3 q4
  | ret => obtain ⟨r, q1, q2, q3, q4⟩ := h2; exact fin r q1 q2 q3 q4
  | _ => exact h2.elim
def W0.note (w0 : W0) (l : List Nat) : W0 := { w0 with A := fun b => w0.A b ∨ b ∈ l }
theorem W0.New.note {w0 : W0} (h : w0.New) (l : List Nat) : (w0.note l).New := ⟨fun b hb => .inl (h.A b hb), h.X⟩
theorem SR.noted {P : Program} {w0 : W0} {S0 : Nat → Prop} {rd0 : Option Nat} {k0 : Nat} {w : World} {a : Act} {s : ASt} {ρ : Cx} (h : SR P w0 S0 rd0 k0 w a s ρ) {l : List Nat} (hl : ∀ b ∈ l, b < w.heap.size) : SR P (w0.note l) S0 rd0 k0 w a s ρ :=
  ⟨h.tm, h.df, h.ext, h.s0, h.sl, h.us, h.rw, h.rn, h.dj, h.ns, h.rl, h.rdk, h.rdn, h.r0, h.ll, h.kp, h.rv, fun b hb => hb.elim (h.av b) (hl b)⟩
theorem SR.unnoted {P : Program} {w0 : W0} {S0 : Nat → Prop} {rd0 : Option Nat} {k0 : Nat} {w : World} {a : Act} {s : ASt} {ρ : Cx} {l : List Nat} (h : SR P (w0.note l) S0 rd0 k0 w a s ρ) : SR P w0 S0 rd0 k0 w a s ρ :=
  ⟨h.tm, h.df, h.ext, h.s0, h.sl, h.us, h.rw, h.rn, h.dj, h.ns, h.rl, h.rdk, h.rdn, h.r0, h.ll, h.kp, h.rv, fun b hb => h.av b (.inl hb)⟩
section
variable {P : Program} {T : Tab} {hT : Tab.Ok P T} {hm : P.follows .mixedOrders = true} {w0 : W0} {S0 : Nat → Prop} {rd0 : Option Nat} {k0 : Nat} {Q : Exit → ASt → Prop} {s : ASt} {code : Code}
theorem AW.noteL (l : List Nat) (hl : ∀ w a ρ, SR P w0 S0 rd0 k0 w a s ρ → ∀ b ∈ l, b < w.heap.size) (h : AW ⟨P, T, hT, hm, w0.note l, S0, rd0, k0⟩ code Q s) : AW ⟨P, T, hT, hm, w0, S0, rd0, k0⟩ code Q s := by
  intro w a ρ hS
  refine wp_mono (h w a ρ (SR.noted hS (hl w a ρ hS))) ?_
  rintro e a' w' ⟨s', ρ', h1, h2⟩
  exact ⟨s', ρ', SR.unnoted h1, h2⟩
theorem AW.noteR (id : Nat) {r : Row} (hr : s.rows id = some r) (h : AW ⟨P, T, hT, hm, w0.note (atE r.es), S0, rd0, k0⟩ code Q s) : AW ⟨P, T, hT, hm, w0, S0, rd0, k0⟩ code Q s :=
  AW.noteL (atE r.es) (fun w a ρ hS b hb => by
    obtain ⟨_, u, _, _, _, _, _, xs, _, q, _⟩ := hS.rw id r hr
    obtain ⟨e, he, hb⟩ := atE_mem.1 hb
    obtain ⟨c, hc, hb⟩ := atL_mem.1 hb
    exact (hS.sl b (q.at b (atL_mem.2 ⟨c, List.mem_flatten.2 ⟨e, he, hc⟩, hb⟩)).1).1) h
theorem AW.bound (h : ∀ N : Nat, (∀ b, w0.A b → b < N) → AW ⟨P, T, hT, hm, w0, S0, rd0, k0⟩ code Q s) : AW ⟨P, T, hT, hm, w0, S0, rd0, k0⟩ code Q s := by
  intro w a ρ hS
  exact h w.heap.size (fun b hb => SR.av hS b hb) w a ρ hS
end
def ASt.holdF (s : ASt) (id g : Nat) : ASt :=
  match s.rows id with
  | some r => { s with tmps := AV.subL id r.es.length (.view (.fr g) r.sz r.es) s.tmps, rows := fun k => ((upd s.rows id none) k).map (Row.sub id r.es.length (.view (.fr g) r.sz r.es)) }
  | none => s
section
variable {P : Program} {w0 : W0} {S0 : Nat → Prop} {rd0 : Option Nat} {k0 : Nat} {w : World} {a : Act} {s : ASt} {ρ : Cx}
theorem SR.heldF (h : SR P w0 S0 rd0 k0 w a s ρ) (id : Nat) : ∃ g ρ', w0.Own g ∧ ¬ ρ.S g ∧ SR P w0 S0 rd0 k0 w a (s.holdF id g) ρ' := by
  unfold ASt.holdF
  split
  · rename_i r hr
    obtain ⟨_, u0, hu0, hln, hok⟩ := h.rw id r hr
    obtain ⟨ρ', h1, h2, h3⟩ := h.hold id r hr
    obtain ⟨g, hg1, hg2, hg3⟩ : ∃ g, w0.Own g ∧ ¬ ρ.S g ∧ (r.es ≠ [] → ∀ a c, u0 = .slice (some a) r.es.length c → a.block = g ∧ ∀ o, w.frozen? ⟨g, o, none⟩ = false) := by
      by_cases hne : r.es = []
      · exact ⟨w.heap.size, .inl h.ext.size, fun hS => by have := (h.sl _ hS).1; omega, fun hn => absurd hne hn⟩
      · obtain ⟨⟨ad, c, rfl, k1, k2, k3⟩, k4⟩ := h3 _ hu0
        have hlen : 0 < r.es.length := List.length_pos_iff.2 hne
        rcases k3 with k3 | ⟨g, rfl, e2, e3⟩
        · exact absurd k3 hne
        · have hbl : blk (.slice (some ⟨g, 0, none⟩) r.es.length c) = some g := blk_slice _ _ _ (by omega)
          refine ⟨g, (h.row_lt hu0 hbl).1, (h.ns id _ g hu0 hbl).1, fun _ a c' he => ?_⟩
          cases he
          refine ⟨rfl, fun o => ?_⟩
          obtain ⟨_, _, _, xs, hat, _⟩ := hok
          rcases hat with ⟨q0, _⟩ | ⟨g', cap, cur, q1, _, _, q2, _⟩
          · omega
          · cases q1
            unfold World.frozen?
            rw [q2]
            simp
    refine ⟨g, ρ', hg1, hg2, ?_⟩
    have hc : ∀ v, Rep w ρ (.own id r.es.length) v → Rep w ρ' (.view (.fr g) r.sz r.es) v := fun v hv => by
      obtain ⟨_, _, _, hq⟩ := rep_own.1 hv
      have := hq u0 hu0 hln.symm
      subst this
      obtain ⟨⟨ad, c, rfl, k1, k2, k3⟩, k4⟩ := h3 _ hu0
      refine rep_view.2 ⟨ad, c, rfl, (fun h => by cases h), k1, k2, k4, ?_⟩
      by_cases hne : r.es = []
      · exact .inl hne
      · rcases k3 with k3 | ⟨g', rfl, e2, e3⟩
        · exact absurd k3 hne
        · obtain ⟨q1, q2⟩ := hg3 hne _ _ rfl
          dsimp only at q1
          subst q1
          exact .inr ⟨g', 0, rfl, ⟨e2, rfl, q2⟩, e3⟩
    refine ⟨h.tm.sub h2 hc, h1.df, h1.ext, h1.s0, h1.sl, h1.us, fun k r' hk => ?_, fun k hk => ?_, h1.dj, h1.ns, h1.rl, h1.rdk, h1.rdn, h1.r0, h1.ll, h1.kp2 (fun k r' hk => by
      simp only [Option.map_eq_some_iff] at hk
      obtain ⟨r0, hk, rfl⟩ := hk
      exact ⟨r0, hk, rfl⟩), h1.rv, h1.av⟩
    · simp only [Option.map_eq_some_iff] at hk
      obtain ⟨r0, hk, rfl⟩ := hk
      have hid : k ≠ id := fun e => by subst e; simp [upd_same] at hk
      rw [upd_ne _ _ hid] at hk
      obtain ⟨q1, u, q2, q3, p0, p1, p2, xs, p3, p4, p5⟩ := h.rw k r0 hk
      obtain ⟨q1', u', q2', q3', p0', p1', p2', xs', p3', p4', p5'⟩ := h1.rw k r0 (by simp only [ASt.kill]; rw [upd_ne _ _ hid]; exact hk)
      have hu' : ρ.row k = some u' := by
        have := (h2.U k ((h.us k).2 q1)).2.2 u' q2'
        exact this (by rw [q3', q3])
      rw [q2] at hu'; cases hu'
      refine ⟨q1', u, q2', by simpa [Row.sub] using q3', p0, fun x hx => ?_, fun hb => by simpa [Row.sub] using p2 hb, xs, by simpa [Row.sub] using p3, ?_, p5⟩
      · simp only [Row.sub, List.mem_map] at hx
        obtain ⟨y, hy, rfl⟩ := hx
        rw [subL_length]; exact p1 y hy
      · simp only [Row.sub]
        rw [subL_flatten]
        exact p4.sub h2 hc
    · simp only [Option.map_eq_none_iff] at hk
      exact h1.rn k hk
  · exact ⟨w.heap.size, ρ, .inl h.ext.size, fun hS => by have := (h.sl _ hS).1; omega, h⟩
end
section
variable {P : Program} {T : Tab} {hT : Tab.Ok P T} {hm : P.follows .mixedOrders = true} {w0 : W0} {S0 : Nat → Prop} {rd0 : Option Nat} {k0 : Nat} {Q : Exit → ASt → Prop} {s : ASt} {code : Code}
theorem AW.holdF (id : Nat) (hN : w0.New) (h : ∀ g, w0.wd.heap.size ≤ g → (∀ (t : Nat) c, s.tmps[t]? = some c → ∀ b ∈ atB c, g ≠ b) → (∀ k r, s.rows k = some r → ∀ b ∈ atE r.es, g ≠ b) → AW ⟨P, T, hT, hm, w0, S0, rd0, k0⟩ code Q (s.holdF id g)) : AW ⟨P, T, hT, hm, w0, S0, rd0, k0⟩ code Q s := by
  intro w a ρ hS
  obtain ⟨g, ρ', h1, h2, h3⟩ := SR.heldF hS id
  refine h g (h1.elim (fun h => h) (fun h => absurd h (hN.X g))) (fun t c hc b hb e => ?_) (fun k r hr b hb e => ?_) w a ρ' h3
  · obtain ⟨v, _, hr⟩ := (SR.tm hS).get hc
    exact h2 (by rw [e]; exact (hr.at b hb).1)
  · obtain ⟨_, u, _, _, _, _, _, xs, _, q, _⟩ := SR.rw hS k r hr
    obtain ⟨e', he, hb⟩ := atE_mem.1 hb
    obtain ⟨c, hc, hb⟩ := atL_mem.1 hb
    have hfl : b ∈ atL r.es.flatten := atL_mem.2 ⟨c, List.mem_flatten.2 ⟨e', he, hc⟩, hb⟩
    exact h2 (by rw [e]; exact (q.at b hfl).1)
end
def atRows (l : List (Nat × Row)) (b : Nat) : Prop := ∃ p ∈ l, b ∈ atE p.2.es
def ACM (P : Program) (f : FuncId) (args : List AV) (c : Nat) (Post : AV → List (Nat × Row) → Prop) : Prop :=
  ACGW P f args [] c (fun w r l => Post r l ∧ ∀ b, b ∈ atB r ∨ atRows l b → w.heap.size ≤ b)
theorem ACM.toV {P : Program} {A : Nat → Prop} {f : FuncId} {args : List AV} {c : Nat} {Q : AV → List (Nat × Row) → Prop} (h : ACM P f args c Q) : ACGV P A f args [] c (fun r l => Q r l ∧ ∀ b, b ∈ atB r ∨ atRows l b → ¬ A b) :=
  ⟨h.1, (fun p hp => by cases hp), fun w ρ k vs hA g0 g1 g2 g3 g4 g5 => (h.2.2 w ρ k vs g0 g1 g2 g3 g4 g5).mono fun e w' ⟨v, r, l, ρ', k1, k2, k3, k4, k5, k6, k7, k8, k9, k10, k11, k12⟩ => ⟨v, r, l, ρ', k1, k2, k3, k4, k5, k6, k7, k8, k9, k10, k11, fun b hb ha => by have := hA b ha; have := k12 b hb; omega⟩⟩
theorem ACM.of {P : Program} {T : Tab} (hT : Tab.Ok P T) (hm : P.follows .mixedOrders = true) {f : FuncId} {fn : Func} {code : Code} (hf : P.funcs[f]? = some fn) (hb : fn.body = some code) (hn : (fn.name == "runtime.NumGoroutine") = false)
    {args : List AV} {c : Nat} {Post : AV → List (Nat × Row) → Prop}
    (h : ∀ E : Env, E.P = P → E.T = T → E.w0.New → AW E code (endG T fn (fun r l => Post r l ∧ ∀ b, b ∈ atB r ∨ atRows l b → E.w0.wd.heap.size ≤ b)) (initStG args fn.ntmps [] (E.rd0.map fun _ => c))) : ACM P f args c Post :=
  ACGW.of hT hm hf hb hn (fun p hp => by cases hp) (fun E h1 h2 h3 h4 => h E h1 h2 ⟨h3, h4 rfl⟩)
section
variable {P : Program} {T : Tab} {k0 : Nat} {md : List Nat} {Av : Nat → Prop} {ops : Array Oper} {K : ASt → Prop} {o : Oper} {l : List Oper} {s : ASt}
theorem arun_callM {f : FuncId} {xs : List Operand} {args : List AV} {c : Nat} {Post : AV → List (Nat × Row) → Prop} (hw : awant ops o s = some true) (ha : acall o.op = some (f, xs)) (hac : ACM P f args c Post) (hargs : MvL s.rows [] (fun _ => 0) (xs.map (aev s)) args) (hcan : s.can c)
    (h : ∀ r l', Post r l' → (∀ b, b ∈ atB r ∨ atRows l' b → ¬ Av b) → ∃ μ l'' r', Back s [] (fun _ => 0) μ l' l'' r r' ∧ ARun P T k0 Av md ops K l ((s.back [] (fun _ => 0) c l'').put o.dst r')) : ARun P T k0 Av md ops K (o :: l) s :=
  ARun.opA hw fun w0 S0 rd0 w a ρ hT hA hS next Q hn =>
    callGV_ok hS ha hA hac.toV (fun _ => 0) (by simp) (fun p hp => by cases hp) hargs hcan (fun r l v w' hp hs => by
      obtain ⟨μ, l'', r', q1, q2⟩ := h r l hp.1 hp.2
      obtain ⟨ρ', q3⟩ := hs μ l'' r' q1
      exact hn _ _ _ ρ' q3 q2)
end
end Go.Proofs.Ytgfnmhfdmmnaoaa.Eng
namespace Go.Proofs.Ytgfnmhfdmmnaoaa.Eng
open Go Go.RowKit
structure Lb where
  kind : Int
  num : Int
  text : ByteArray
  names : List ByteArray
  nb : Nat
  kids : List Lb
  kb : Nat
theorem Lb.ind' (P : Lb → Prop) (h : ∀ n : Lb, (∀ k ∈ n.kids, P k) → P n) : ∀ n, P n := by
  intro n
  refine Lb.rec (motive_1 := P) (motive_2 := fun l => ∀ k ∈ l, P k) ?_ ?_ ?_ n
  · intro kind num text names nb kids kb ih
    exact h _ ih
  · intro k hk; cases hk
  · intro k ks h1 h2 x hx
    rcases List.mem_cons.1 hx with rfl | hx
    · exact h1
    · exact h2 _ hx
mutual
def Lb.nd : Lb → Nd
  | ⟨kind, num, text, names, _, kids, _⟩ => ⟨kind, num, text, names, Lb.nds kids⟩
def Lb.nds : List Lb → List Nd
  | [] => []
  | k :: ks => Lb.nd k :: Lb.nds ks
end
theorem nds_map : ∀ (ks : List Lb), Lb.nds ks = ks.map Lb.nd
  | [] => by unfold Lb.nds; rfl
  | k :: ks => by unfold Lb.nds; rw [nds_map ks]; rfl
theorem nd_eq (n : Lb) : n.nd = ⟨n.kind, n.num, n.text, n.names, n.kids.map Lb.nd⟩ := by cases n; unfold Lb.nd; rw [nds_map]
mutual
def labL : Lb → List AV
  | ⟨kind, num, text, names, nb, kids, kb⟩ => [.int .i64 kind, .int .i64 num, .str text, .view (.fr nb) 1 (strsE names), .view (.fr kb) 5 (labsL kids)]
def labsL : List Lb → List (List AV)
  | [] => []
  | k :: ks => labL k :: labsL ks
end
def labA (n : Lb) : AV := .agg (labL n)
theorem labsL_map : ∀ (ks : List Lb), labsL ks = ks.map labL
  | [] => by unfold labsL; rfl
  | k :: ks => by unfold labsL; rw [labsL_map ks]; rfl
theorem labL_eq (n : Lb) : labL n = [.int .i64 n.kind, .int .i64 n.num, .str n.text, .view (.fr n.nb) 1 (strsE n.names), .view (.fr n.kb) 5 (n.kids.map labL)] := by
  cases n; unfold labL; rw [labsL_map]
theorem labL_len (n : Lb) : (labL n).length = 5 := by rw [labL_eq]; rfl
theorem labL_pur : ∀ (n : Lb), ∀ c ∈ labL n, Pur c := Lb.ind' _ (fun n ih c hc => by
  rw [labL_eq] at hc
  simp only [List.mem_cons, List.not_mem_nil, or_false] at hc
  rcases hc with rfl | rfl | rfl | rfl | rfl
  · exact pur_int
  · exact pur_int
  · exact pur_str
  · exact pur_view (by simp) (strsE_pur _)
  · refine pur_view (by simp) (fun e he c hc => ?_)
    rw [List.mem_map] at he
    obtain ⟨k, hk, rfl⟩ := he
    exact ih k hk c hc)
theorem lab_pur (n : Lb) : Pur (labA n) := pur_agg (labL_pur n)
theorem labL_in {U : Nat → Bool} : ∀ (n : Lb), ∀ c ∈ labL n, AV.In U c := Lb.ind' _ (fun n ih c hc => by
  rw [labL_eq] at hc
  simp only [List.mem_cons, List.not_mem_nil, or_false] at hc
  rcases hc with rfl | rfl | rfl | rfl | rfl
  · exact in_int
  · exact in_int
  · exact in_str
  · exact in_view.2 (strsE_in _)
  · refine in_view.2 (fun e he c hc => ?_)
    rw [List.mem_map] at he
    obtain ⟨k, hk, rfl⟩ := he
    exact ih k hk c hc)
theorem lab_in {U : Nat → Bool} (n : Lb) : AV.In U (labA n) := in_agg.2 (labL_in n)
theorem labsE_in {U : Nat → Bool} (ks : List Lb) : ∀ e ∈ ks.map labL, ∀ c ∈ e, AV.In U c := fun e he c hc => by
  rw [List.mem_map] at he
  obtain ⟨k, hk, rfl⟩ := he
  exact labL_in k c hc
theorem labL_sub {id m : Nat} {c : AV} (n : Lb) : AV.subL id m c (labL n) = labL n := by rw [labL_eq]; simp [AV.subL, AV.sub]
theorem labsE_sub {id m : Nat} {c : AV} (ks : List Lb) : (ks.map labL).map (AV.subL id m c) = ks.map labL := by
  rw [List.map_map]; exact List.map_congr_left (fun k _ => labL_sub k)
def Lb.fp (n : Lb) : List Nat := atL (labL n)
theorem at_strsE : ∀ (xs : List ByteArray), atE (strsE xs) = []
  | [] => by unfold strsE; rw [List.map_nil, atE_nil]
  | x :: xs => by
    have := at_strsE xs
    unfold strsE at this ⊢
    rw [List.map_cons, atE_cons, this, atL_cons, at_str, atL_nil]; rfl
theorem atE_labs : ∀ (ks : List Lb), atE (ks.map labL) = ks.flatMap Lb.fp
  | [] => by rw [List.map_nil, atE_nil]; rfl
  | k :: ks => by rw [List.map_cons, atE_cons, atE_labs ks]; rfl
theorem fp_eq (n : Lb) : n.fp = frB (.fr n.nb) n.names.isEmpty ++ (frB (.fr n.kb) n.kids.isEmpty ++ n.kids.flatMap Lb.fp) := by
  have e1 : (strsE n.names).isEmpty = n.names.isEmpty := by unfold strsE; cases n.names <;> rfl
  have e2 : (n.kids.map labL).isEmpty = n.kids.isEmpty := by cases n.kids <;> rfl
  show atL (labL n) = _
  rw [labL_eq, atL_cons, atL_cons, atL_cons, atL_cons, atL_cons, atL_nil, at_int, at_int, at_str, at_view, at_view, at_strsE, atE_labs, e1, e2]
  simp
theorem at_lab (n : Lb) : atB (labA n) = n.fp := by unfold labA Lb.fp; rw [at_agg]
theorem labL_wk : ∀ (n : Lb), WkL (labL n) (nodeL n.nd) := Lb.ind' _ (fun n ih => by
  rw [labL_eq, nd_eq, nodeL_eq]
  dsimp only
  refine .cons (Wk.refl _) (.cons (Wk.refl _) (.cons (Wk.refl _) (.cons (Wk.loose (by simp)) (.cons (Wk.view (by simp) ?_) .nil))))
  have aux : ∀ ks : List Lb, (∀ k ∈ ks, WkL (labL k) (nodeL k.nd)) → WkE (ks.map labL) ((ks.map Lb.nd).map nodeL) := fun ks h => by
    induction ks with
    | nil => exact .nil
    | cons k ks ih2 => exact .cons (h k (by simp)) (ih2 (fun x hx => h x (by simp [hx])))
  exact aux _ (fun k hk => ih k hk))
section
variable {w : World} {ρ : Cx}
theorem strsF_of_rep {g : Nat} {xs : List ByteArray} {a : Option Addr} {c : Nat} (h : Rep w ρ (.view (.fr g) 1 (strsE xs)) (.slice a xs.length c)) : StrsF w a c xs (frB (.fr g) xs.isEmpty) := by
  obtain ⟨a', c', h1, _, h3, h4, h5, h6⟩ := rep_view.1 h
  rw [strsE_len] at *
  cases h1
  have hsz : ∀ x ∈ xs, x.size ≤ big := by
    rcases h6 with h6 | ⟨b, o, ha, hb, he⟩
    · unfold strsE at h6
      rw [List.map_eq_nil_iff.1 h6]
      exact fun x hx => by cases hx
    · intro x hx
      obtain ⟨i, hi, rfl⟩ := List.getElem_of_mem hx
      obtain ⟨u, q1, _, q3⟩ := (he.get h5 (i := i) (e := [.str xs[i]]) (by rw [strsE_get, List.getElem?_eq_getElem hi]; rfl)).get (i := 0) rfl
      exact (rep_str.1 q3).2
  refine ⟨h3, h4, hsz, ?_⟩
  by_cases hne : xs = []
  · subst hne; exact .inl ⟨rfl, rfl⟩
  · rcases h6 with h6 | ⟨b, o, ha, hb, he⟩
    · unfold strsE at h6
      exact absurd (List.map_eq_nil_iff.1 h6) hne
    · obtain ⟨_, rfl, _⟩ := hb
      refine .inr ⟨b, o, hne, ha, ?_, fun i hi => ?_⟩
      · cases xs with
        | nil => exact absurd rfl hne
        | cons x xs => rfl
      · obtain ⟨u, q1, _, q3⟩ := (he.get h5 (i := i) (e := [.str xs[i]]) (by rw [strsE_get, List.getElem?_eq_getElem hi]; rfl)).get (i := 0) rfl
        rw [(rep_str.1 q3).1] at q1
        simpa using q1
theorem kidsF_of_rep {b : Nat} : ∀ {ks : List Lb} {o : Nat}, (∀ k ∈ ks, ∀ (ρ : Cx) na nc ka kc, k.text.size ≤ big → Rep w ρ (.view (.fr k.nb) 1 (strsE k.names)) (.slice na k.names.length nc) → Rep w ρ (.view (.fr k.kb) 5 (k.kids.map labL)) (.slice ka k.kids.length kc) → NodeF w k.nd na nc ka kc k.fp) →
    RepE w ρ b o (ks.map labL) → KidsF w b o (ks.map Lb.nd) (ks.flatMap Lb.fp)
  | [], _, _, _ => by unfold KidsF; rfl
  | k :: ks, o, ih, h => by
    rw [List.map_cons] at h
    unfold RepE at h
    obtain ⟨h1, h2⟩ := h
    rw [labL_len] at h2
    rw [labL_eq] at h1
    obtain ⟨v0, p0, _, q0⟩ := h1.get (i := 0) rfl
    obtain ⟨v1, p1, _, q1⟩ := h1.get (i := 1) rfl
    obtain ⟨v2, p2, _, q2⟩ := h1.get (i := 2) rfl
    obtain ⟨v3, p3, _, q3⟩ := h1.get (i := 3) rfl
    obtain ⟨v4, p4, _, q4⟩ := h1.get (i := 4) rfl
    rw [rep_int] at q0 q1
    obtain ⟨q2, q2'⟩ := rep_str.1 q2
    obtain ⟨na, nc, r3, _⟩ := rep_view.1 q3
    obtain ⟨ka, kc, r4, _⟩ := rep_view.1 q4
    rw [strsE_len] at r3
    rw [List.length_map] at r4
    subst q0 q1 q2 r3 r4
    rw [List.map_cons, List.flatMap_cons]
    unfold KidsF
    have e := nd_eq k
    refine ⟨k.fp, ks.flatMap Lb.fp, rfl, ⟨na, nc, ka, kc, ?_, ?_, ?_, ?_, ?_, ih k (by simp) ρ na nc ka kc q2' q3 q4⟩, kidsF_of_rep (fun x hx => ih x (by simp [hx])) h2⟩
    · rw [e]; exact p0
    · rw [e]; exact p1
    · rw [e]; exact p2
    · rw [e]; exact p3
    · rw [e]; dsimp only; rw [List.length_map]; exact p4
theorem nodeF_of_rep : ∀ (n : Lb) (ρ : Cx) na nc ka kc, n.text.size ≤ big → Rep w ρ (.view (.fr n.nb) 1 (strsE n.names)) (.slice na n.names.length nc) → Rep w ρ (.view (.fr n.kb) 5 (n.kids.map labL)) (.slice ka n.kids.length kc) → NodeF w n.nd na nc ka kc n.fp :=
  Lb.ind' _ (fun n ih ρ na nc ka kc h0 h1 h2 => by
    have s1 := strsF_of_rep h1
    obtain ⟨a', c', g1, _, g3, g4, g5, g6⟩ := rep_view.1 h2
    rw [List.length_map] at *
    cases g1
    rw [nd_eq, fp_eq]
    refine NodeF.mk h0 s1 ⟨by rw [List.length_map]; exact g3, by rw [List.length_map]; exact g4, ?_⟩
    by_cases hne : n.kids = []
    · left
      rw [hne]
      exact ⟨rfl, rfl⟩
    · right
      rcases g6 with g6 | ⟨b, o, ha, hb, he⟩
      · exact absurd (List.map_eq_nil_iff.1 g6) hne
      · obtain ⟨_, rfl, _⟩ := hb
        refine ⟨n.kb, o, n.kids.flatMap Lb.fp, fun h => hne (List.map_eq_nil_iff.1 h), ha, ?_, kidsF_of_rep ih he⟩
        cases hk : n.kids with
        | nil => exact absurd hk hne
        | cons x xs => rfl)
end
end Go.Proofs.Ytgfnmhfdmmnaoaa.Eng
-- EV: fresh
namespace Go.Proofs.Ytgfnmhfdmmnaoaa.Eng
open Go Go.RowKit
attribute [local simp] big size_mk ASt.pay Option.map_map Function.comp_def awant aop acall ado aev ofVal ofVal0 ASt.put ASt.add ASt.turn ASt.kill abox aalloc astore aload aloadD astoreD idOf ASt.at cellsTo afieldAddr afield aindexAddr aindex alen abin aint acmp astr aun apick aextract anil aslice abound abuild afill abuildSlice asCells aps avCells over upd aappend asrc amax amin aconv mkSt slots rowsOf_cons rowsOf_nil usedOf_cons usedOf_nil ZK.av List.replicate ASt.back ASt.addL ASt.killL nodeA nodeT nodeTL_eq nodeL_eq strsE_get strsE_len intsE_get intsE_len strsE_at intsE_at tab2 tab3 tab4 tab5 tab6 tab7 tab8 tab9 tab10 tab11 tab12 tab13 tab14 tab15 tab16 tab17 tab18 tab19 tab21 tab22 tab23 tab24 tab25 tab26 tab27 tab28 tab29 tab30 tab39 tab40 tab41 tab42 tab43 tab47 tab48 tab55 tab56 tab57 tab60 tab61 tab62 tab73 tab74 tab75 tab85 tab92 tab115 tab116 tab143 tab144 tab145 tab154 tab155 tab170 tab175 tab182 tab197 tab198 tab203 tab204 tab205 tab207 tab208 tab209
def labsR (ks : List Lb) : Row := ⟨false, 30, 5, ks.map labL⟩
def rLab (n : Nd) (r : AV) : Prop := ∃ l : Lb, l.nd = n ∧ l.fp.Nodup ∧ r = labA l
def rLabX (n : Nd) (r : AV) : Prop := ∃ l : Lb, l.nd = n ∧ l.fp.Nodup ∧ r = .agg [.int .i64 l.kind, .int .i64 l.num, .str l.text, .view (.fr l.nb) 1 (strsE l.names), .view (.fr l.kb) 5 (l.kids.map labL)]
theorem rLab_X {n : Nd} {r : AV} (h : rLab n r) : rLabX n r := by
  obtain ⟨l, h1, h2, rfl⟩ := h
  exact ⟨l, h1, h2, by unfold labA; rw [labL_eq]⟩
def partF (ls : List Lb) (m : Nat) : List (List AV) := ls.map labL ++ List.replicate (m - ls.length) zeroN
theorem partF_len (ls : List Lb) (m : Nat) (h : ls.length ≤ m) : (partF ls m).length = m := by unfold partF; simp; omega
theorem partF_get (ls : List Lb) (m : Nat) (h : ls.length < m) : (partF ls m)[ls.length]? = some [.int .i64 0, .int .i64 0, .str ⟨#[]⟩, .view .tight 0 [], .view .tight 0 []] := by
  unfold partF
  rw [List.getElem?_append_right (by simp), List.length_map, Nat.sub_self, List.getElem?_replicate, if_pos (by omega)]
  rfl
theorem partF_set (ls : List Lb) (m : Nat) (h : ls.length < m) (l : Lb) : (partF ls m).set ls.length (labL l) = partF (ls ++ [l]) m := by
  unfold partF
  rw [List.set_append_right _ _ (by simp), List.length_map, Nat.sub_self]
  have : m - ls.length = (m - (ls ++ [l]).length) + 1 := by rw [List.length_append, List.length_singleton]; omega
  rw [this, List.replicate_succ, List.set_cons_zero, List.map_append, List.append_assoc]
  rfl
theorem partF_in {U : Nat → Bool} (ls : List Lb) (m : Nat) : ∀ e ∈ partF ls m, ∀ c ∈ e, AV.In U c := by
  intro e he c hc
  unfold partF at he
  rcases List.mem_append.1 he with he | he
  · exact labsE_in ls e he c hc
  · rw [List.eq_of_mem_replicate he] at hc
    simp only [zeroN, List.mem_cons, List.not_mem_nil, or_false] at hc
    rcases hc with rfl | rfl | rfl | rfl | rfl
    · exact in_int
    · exact in_int
    · exact in_str
    · exact in_vnil
    · exact in_vnil
theorem at_zeroN : atL zeroN = [] := by
  unfold zeroN
  simp only [atL_cons, atL_nil, at_int, at_str, at_view, atE_nil, frB_tight, List.append_nil]
theorem at_partF (ls : List Lb) (m : Nat) : atE (partF ls m) = ls.flatMap Lb.fp := by
  unfold partF
  rw [atE_app, atE_labs]
  have : ∀ k, atE (List.replicate k zeroN) = [] := fun k => by
    induction k with
    | zero => rw [List.replicate_zero, atE_nil]
    | succ k ih => rw [List.replicate_succ, atE_cons, ih, at_zeroN]; rfl
  rw [this, List.append_nil]
theorem fp_nodup {l : Lb} (h : (l.kids.flatMap Lb.fp).Nodup) (f1 : ∀ b ∈ l.kids.flatMap Lb.fp, l.nb ≠ b) (f2 : ∀ b ∈ l.kids.flatMap Lb.fp, l.kb ≠ b) (f3 : l.names ≠ [] → l.kids ≠ [] → l.kb ≠ l.nb) : l.fp.Nodup := by
  rw [fp_eq, frB_fr, frB_fr]
  refine List.nodup_append.2 ⟨by split <;> simp, List.nodup_append.2 ⟨by split <;> simp, h, fun a ha b hb e => ?_⟩, fun a ha b hb e => ?_⟩
  · split at ha <;> simp at ha
    exact f2 b hb (by rw [← ha, e])
  · rcases List.mem_append.1 hb with hb | hb
    · split at ha <;> split at hb <;> simp at ha hb
      rename_i q1 q2
      exact f3 (fun h => by rw [h] at q1; simp at q1) (fun h => by rw [h] at q2; simp at q2) (by rw [← ha, ← hb, e])
    · split at ha <;> simp at ha
      exact f1 b hb (by rw [← ha, e])
theorem fp_ge {l : Lb} {B : Nat} (h : ∀ b ∈ l.kids.flatMap Lb.fp, B ≤ b) (g1 : B ≤ l.nb) (g2 : B ≤ l.kb) : ∀ b ∈ l.fp, B ≤ b := by
  intro b hb
  rw [fp_eq, frB_fr, frB_fr] at hb
  rcases List.mem_append.1 hb with hb | hb
  · split at hb <;> simp at hb
    rw [hb]; exact g1
  · rcases List.mem_append.1 hb with hb | hb
    · split at hb <;> simp at hb
      rw [hb]; exact g2
    · exact h b hb
theorem lab_ex : ∀ (n : Nd) (N : Nat), ∃ (l : Lb) (M : Nat), l.nd = n ∧ l.fp.Nodup ∧ N ≤ M ∧ ∀ b ∈ l.fp, N ≤ b ∧ b < M := Nd.ind' _ (fun n ih N => by
  have aux : ∀ (ks : List Nd), (∀ k ∈ ks, ∀ N, ∃ (l : Lb) (M : Nat), l.nd = k ∧ l.fp.Nodup ∧ N ≤ M ∧ ∀ b ∈ l.fp, N ≤ b ∧ b < M) → ∀ N, ∃ (ls : List Lb) (M : Nat), ls.map Lb.nd = ks ∧ (ls.flatMap Lb.fp).Nodup ∧ N ≤ M ∧ ∀ b ∈ ls.flatMap Lb.fp, N ≤ b ∧ b < M := by
    intro ks
    induction ks with
    | nil => exact fun _ N => ⟨[], N, rfl, by simp, Nat.le_refl _, by simp⟩
    | cons k ks ih2 =>
      intro h N
      obtain ⟨l, M, h1, h2, h3, h4⟩ := h k (by simp) N
      obtain ⟨ls, M', g1, g2, g3, g4⟩ := ih2 (fun x hx => h x (by simp [hx])) M
      refine ⟨l :: ls, M', by rw [List.map_cons, h1, g1], ?_, by omega, ?_⟩
      · rw [List.flatMap_cons]
        exact List.nodup_append.2 ⟨h2, g2, fun a ha b hb e => by have := (h4 a ha).2; have := (g4 b hb).1; omega⟩
      · intro b hb
        rw [List.flatMap_cons] at hb
        rcases List.mem_append.1 hb with hb | hb
        · have := h4 b hb; omega
        · have := g4 b hb; omega
  obtain ⟨ls, M, h1, h2, h3, h4⟩ := aux n.kids ih (N + 2)
  refine ⟨⟨n.kind, n.num, n.text, n.names, N, ls, N + 1⟩, M, by rw [nd_eq]; dsimp only; rw [h1]; cases n; rfl, ?_, by omega, ?_⟩
  · rw [fp_eq, frB_fr, frB_fr]
    dsimp only
    refine List.nodup_append.2 ⟨by split <;> simp, List.nodup_append.2 ⟨by split <;> simp, h2, fun a ha b hb e => ?_⟩, fun a ha b hb e => ?_⟩
    · have := (h4 b hb).1
      split at ha <;> simp at ha
      omega
    · rcases List.mem_append.1 hb with hb | hb
      · split at ha <;> split at hb <;> simp at ha hb
        omega
      · have := (h4 b hb).1
        split at ha <;> simp at ha
        omega
  · intro b hb
    rw [fp_eq, frB_fr, frB_fr] at hb
    dsimp only at hb
    rcases List.mem_append.1 hb with hb | hb
    · split at hb <;> simp at hb
      omega
    · rcases List.mem_append.1 hb with hb | hb
      · split at hb <;> simp at hb
        omega
      · have := h4 b hb; omega)
theorem rLabX_ex (n : Nd) {A : Nat → Prop} {N : Nat} (hN : ∀ b, A b → b < N) : ∃ r, (rLabX n r ∧ ∀ b ∈ atB r, ¬ A b) ∧ NoId r := by
  obtain ⟨l, M, h1, h2, _, h4⟩ := lab_ex n N
  have hr : rLab n (labA l) := ⟨l, h1, h2, rfl⟩
  exact ⟨labA l, ⟨rLab_X hr, fun b hb ha => by rw [at_lab] at hb; have := (h4 b hb).1; have := hN b ha; omega⟩, lab_in l⟩
theorem nodup_snoc {ls : List Lb} {l : Lb} (h : (ls.flatMap Lb.fp).Nodup) (k : l.fp.Nodup) (ha : ∀ b ∈ l.fp, ¬ b ∈ ls.flatMap Lb.fp) : ((ls ++ [l]).flatMap Lb.fp).Nodup := by
  rw [List.flatMap_append, List.flatMap_cons, List.flatMap_nil, List.append_nil]
  exact List.nodup_append.2 ⟨h, k, fun a h1 b h2 e => ha b h2 (e ▸ h1)⟩
theorem implCopyF_hold (n : Nd) (hs : Sml n) (ih : ∀ k ∈ n.kids, ACF Try.prog 75 [nodeA k] 0 (rLabX k)) : ACF Try.prog 75 [nodeA n] 0 (rLabX n) := by
  have hs1 := hs.names
  have hs2 := hs.kids
  unfold nodeA at ih ⊢
  rw [nodeL_eq]
  refine ACF.of tab_ok mixed_ok Try.func75 (by rfl) (by kernel_rfl) ?_; rintro ⟨P, T, hT, hm, w0, S0, rd0, k0⟩ hP hTT hN; dsimp only at hP hTT hN; subst hP hTT; dsimp only; unfold initSt; rw [Try.ntmps75]
  refine AW.seq ?_
  (refine AW.regionK [] (fun K hK => ?_); (repeat (refine arun_ks 4 rfl (fun C hC => ?_); (repeat ((conv => whnf); simp)); refine hC _ ?_; clear hC C; simp only [List.drop_succ_cons, List.drop_zero, List.drop_nil])); refine arun_nil ?_; refine hK _ ?_; clear hK K; simp only [thenA_normal, inBlockA_normal, endQ_normal, endR_normal])
  refine AW.seq ?_
  (refine AW.regionK [] (fun K hK => ?_); (repeat (refine arun_ks 4 rfl (fun C hC => ?_); (repeat ((conv => whnf); simp)); refine hC _ ?_; clear hC C; simp only [List.drop_succ_cons, List.drop_zero, List.drop_nil])); refine arun_nil ?_; refine hK _ ?_; clear hK K; simp only [thenA_normal, inBlockA_normal, endQ_normal, endR_normal])
  refine AW.seq ?_
  refine AW.cutN (fun (_ : Unit) => mkSt (slots 0 52 [(1, .ptr true 5 1 1 0 0), (2, .ptr true 5 1 2 0 0), (3, .ptr true 5 1 3 0 0)]) [(1, ⟨true, 30, 5, [[.int .i64 n.kind, .int .i64 n.num, .str n.text, .view .loose 1 (strsE n.names), .view .loose 5 (n.kids.map nodeL)]]⟩), (2, ⟨true, 30, 5, [zeroN]⟩), (3, ⟨true, 30, 5, [[.int .i64 n.kind, .int .i64 n.num, .str n.text, .own 20 n.names.length, .view .tight 0 []]]⟩), (20, namesR n.names)] [1, 2, 3, 20] (rd0.map fun _ => 0)) (fun _ => True) ?_ ?_
  · by_cases hn0 : 0 < n.names.length
    · (repeat (first | with_reducible refine AW.seq ?_ | ((first | refine arun_kn 4 rfl (fun C hC => ?_) | refine arunD_kn 4 rfl (fun C hC => ?_)); (repeat ((conv => whnf); simp [hn0])); refine hC _ ?_; clear hC C; simp only [List.drop, Nat.reduceAdd]) | ((first | refine arun_kn 1 rfl (fun C hC => ?_) | refine arunD_kn 1 rfl (fun C hC => ?_)); (repeat ((conv => whnf); simp [hn0])); refine hC _ ?_; clear hC C; simp only [List.drop, Nat.reduceAdd]) | (refine arun_skip ?_ ?_; (focus (simp [awant, hn0]; done))) | (refine AW.regionK [] (fun K hK => ?_)) | (refine AW.regionDK [] (pcs [] []) (by kernel_rfl) (by kernel_rfl) (fun K hK => ?_)) | (refine AW.condT ?_ ?_; (focus (simp [aev, hn0]; done))) | (refine AW.condF ?_ ?_; (focus (simp [aev, hn0]; done))) | with_reducible refine AW.block ?_ | ((first | ((first | refine arun_nil ?_ | refine arunD_nil ?_); refine hK _ ?_; clear hK K) | refine AW.skip ?_ | refine AW.exit ?_ | refine AW.ret ?_); simp only [thenA_exit, inBlockA_exit, if_true, if_false, Nat.reduceEqDiff, thenA_normal, inBlockA_normal, reduceIte, thenA_ret, inBlockA_ret, endQ_ret, endR_ret, endG_ret, endQ_normal, endR_normal, endG_normal, endF_ret, endF_normal])))
      refine arun_make 20 rfl (by simp [awant]) rfl tab23 tab9 (by decide) rfl (by dsimp only; omega) (by unfold maxLen; omega) (by simp [upd]) ?_
      (repeat (first | with_reducible refine AW.seq ?_ | ((first | refine arun_kn 4 rfl (fun C hC => ?_) | refine arunD_kn 4 rfl (fun C hC => ?_)); (repeat ((conv => whnf); simp [hn0])); refine hC _ ?_; clear hC C; simp only [List.drop, Nat.reduceAdd]) | ((first | refine arun_kn 1 rfl (fun C hC => ?_) | refine arunD_kn 1 rfl (fun C hC => ?_)); (repeat ((conv => whnf); simp [hn0])); refine hC _ ?_; clear hC C; simp only [List.drop, Nat.reduceAdd]) | (refine arun_skip ?_ ?_; (focus (simp [awant, hn0]; done))) | (refine AW.regionK [] (fun K hK => ?_)) | (refine AW.regionDK [] (pcs [] []) (by kernel_rfl) (by kernel_rfl) (fun K hK => ?_)) | (refine AW.condT ?_ ?_; (focus (simp [aev, hn0]; done))) | (refine AW.condF ?_ ?_; (focus (simp [aev, hn0]; done))) | with_reducible refine AW.block ?_ | ((first | ((first | refine arun_nil ?_ | refine arunD_nil ?_); refine hK _ ?_; clear hK K) | refine AW.skip ?_ | refine AW.exit ?_ | refine AW.ret ?_); simp only [thenA_exit, inBlockA_exit, if_true, if_false, Nat.reduceEqDiff, thenA_normal, inBlockA_normal, reduceIte, thenA_ret, inBlockA_ret, endQ_ret, endR_ret, endG_ret, endQ_normal, endR_normal, endG_normal, endF_ret, endF_normal])))
      refine arun_copyAll (r := ⟨false, 9, 1, List.replicate n.names.length [AV.str ⟨#[]⟩]⟩) rfl (by simp [awant]) rfl (by simp [upd]) rfl rfl List.length_replicate rfl (strsE_len _) tab23 tab9 rfl ?_
      (repeat (first | with_reducible refine AW.seq ?_ | ((first | refine arun_kn 4 rfl (fun C hC => ?_) | refine arunD_kn 4 rfl (fun C hC => ?_)); (repeat ((conv => whnf); simp [hn0])); refine hC _ ?_; clear hC C; simp only [List.drop, Nat.reduceAdd]) | ((first | refine arun_kn 1 rfl (fun C hC => ?_) | refine arunD_kn 1 rfl (fun C hC => ?_)); (repeat ((conv => whnf); simp [hn0])); refine hC _ ?_; clear hC C; simp only [List.drop, Nat.reduceAdd]) | (refine arun_skip ?_ ?_; (focus (simp [awant, hn0]; done))) | (refine AW.regionK [] (fun K hK => ?_)) | (refine AW.regionDK [] (pcs [] []) (by kernel_rfl) (by kernel_rfl) (fun K hK => ?_)) | (refine AW.condT ?_ ?_; (focus (simp [aev, hn0]; done))) | (refine AW.condF ?_ ?_; (focus (simp [aev, hn0]; done))) | with_reducible refine AW.block ?_ | ((first | ((first | refine arun_nil ?_ | refine arunD_nil ?_); refine hK _ ?_; clear hK K) | refine AW.skip ?_ | refine AW.exit ?_ | refine AW.ret ?_); simp only [thenA_exit, inBlockA_exit, if_true, if_false, Nat.reduceEqDiff, thenA_normal, inBlockA_normal, reduceIte, thenA_ret, inBlockA_ret, endQ_ret, endR_ret, endG_ret, endQ_normal, endR_normal, endG_normal, endF_ret, endF_normal])))
      exact ⟨(), trivial, (less_of (by simp [lessL, mkSt, slots, namesR, zeroN]) (by simp [upd, mkSt, rowsOf_cons, namesR, zeroN]) (by simp [upd, mkSt, usedOf_cons, namesR, zeroN]) (by first | exact rd_less (by omega) | simp [mkSt, namesR, zeroN]) (by simp [slots, in_any, in_int, in_bool, in_str, in_ptr, in_own, in_agg, in_vnil, in_rdr, usedOf_cons, usedOf_nil, strs_in, ints_in, nodes_in, in_tup, namesR, zeroN]) (by simp only [List.forall_mem_cons, List.not_mem_nil, false_implies, implies_true, and_true, true_and, namesR, zeroN]; (repeat (first | with_reducible exact trivial | with_reducible refine And.intro ?_ ?_ | with_reducible exact in_int | with_reducible exact in_str | with_reducible exact in_bool | with_reducible exact strs_in _ | with_reducible exact nodes_in _ | with_reducible exact items_in _ | with_reducible exact in_vnil | with_reducible exact in_any | exact hin _ | with_reducible refine take_in ?_ | with_reducible exact strsE_in _ | with_reducible exact nodesE_in _ | with_reducible exact nodeL_in _ | with_reducible exact itemsE_in _ | with_reducible exact itemL_in _ | with_reducible refine app_in ?_ ?_ | with_reducible refine sing_in ?_ | (focus (simp [in_any, in_int, in_bool, in_str, in_ptr, in_own, in_agg, in_vnil, in_rdr, usedOf_cons, usedOf_nil, strs_in, ints_in, nodes_in, namesR, zeroN]; done)))); done))⟩
    · have hl0 : n.names.length = 0 := by omega
      have he0 : n.names = [] := List.length_eq_zero_iff.1 hl0
      refine AW.adoptB 3 3 20 9 1 ⟨_, tab9, rfl⟩ (by simp [upd]; rfl) rfl rfl (by simp [upd]) ?_
      simp only [ASt.adoptB]
      (repeat (first | with_reducible refine AW.seq ?_ | ((first | refine arun_kn 4 rfl (fun C hC => ?_) | refine arunD_kn 4 rfl (fun C hC => ?_)); (repeat ((conv => whnf); simp [hl0])); refine hC _ ?_; clear hC C; simp only [List.drop, Nat.reduceAdd]) | ((first | refine arun_kn 1 rfl (fun C hC => ?_) | refine arunD_kn 1 rfl (fun C hC => ?_)); (repeat ((conv => whnf); simp [hl0])); refine hC _ ?_; clear hC C; simp only [List.drop, Nat.reduceAdd]) | (refine arun_skip ?_ ?_; (focus (simp [awant, hl0]; done))) | (refine AW.regionK [] (fun K hK => ?_)) | (refine AW.regionDK [] (pcs [] []) (by kernel_rfl) (by kernel_rfl) (fun K hK => ?_)) | (refine AW.condT ?_ ?_; (focus (simp [aev, hl0]; done))) | (refine AW.condF ?_ ?_; (focus (simp [aev, hl0]; done))) | with_reducible refine AW.block ?_ | ((first | ((first | refine arun_nil ?_ | refine arunD_nil ?_); refine hK _ ?_; clear hK K) | refine AW.skip ?_ | refine AW.exit ?_ | refine AW.ret ?_); simp only [thenA_exit, inBlockA_exit, if_true, if_false, Nat.reduceEqDiff, thenA_normal, inBlockA_normal, reduceIte, thenA_ret, inBlockA_ret, endQ_ret, endR_ret, endG_ret, endQ_normal, endR_normal, endG_normal, endF_ret, endF_normal])))
      exact ⟨(), trivial, (less_of (by simp [lessL, mkSt, slots, namesR, zeroN, he0, strsE]) (by simp [upd, mkSt, rowsOf_cons, namesR, zeroN, he0, strsE]) (by simp [upd, mkSt, usedOf_cons, namesR, zeroN, he0, strsE]) (by first | exact rd_less (by omega) | simp [mkSt, namesR, zeroN, he0, strsE]) (by simp [slots, in_any, in_int, in_bool, in_str, in_ptr, in_own, in_agg, in_vnil, in_rdr, usedOf_cons, usedOf_nil, strs_in, ints_in, nodes_in, in_tup, namesR, zeroN, he0, strsE]) (by simp only [List.forall_mem_cons, List.not_mem_nil, false_implies, implies_true, and_true, true_and, namesR, zeroN, he0, strsE]; (repeat (first | with_reducible exact trivial | with_reducible refine And.intro ?_ ?_ | with_reducible exact in_int | with_reducible exact in_str | with_reducible exact in_bool | with_reducible exact strs_in _ | with_reducible exact nodes_in _ | with_reducible exact items_in _ | with_reducible exact in_vnil | with_reducible exact in_any | exact hin _ | with_reducible refine take_in ?_ | with_reducible exact strsE_in _ | with_reducible exact nodesE_in _ | with_reducible exact nodeL_in _ | with_reducible exact itemsE_in _ | with_reducible exact itemL_in _ | with_reducible refine app_in ?_ ?_ | with_reducible refine sing_in ?_ | (focus (simp [in_any, in_int, in_bool, in_str, in_ptr, in_own, in_agg, in_vnil, in_rdr, usedOf_cons, usedOf_nil, strs_in, ints_in, nodes_in, namesR, zeroN, he0, strsE]; done)))); done))⟩
  rintro ⟨⟩ s' - hls
  refine AW.less _ hls ?_
  clear hls s'
  refine AW.seq ?_
  refine AW.cutN (fun (ks : List Lb) => mkSt (slots 0 52 [(2, .ptr true 5 1 2 0 0), (3, .ptr true 5 1 3 0 0)]) [(2, ⟨true, 30, 5, [zeroN]⟩), (3, ⟨true, 30, 5, [[.int .i64 n.kind, .int .i64 n.num, .str n.text, .own 20 n.names.length, .own 34 n.kids.length]]⟩), (20, namesR n.names), (34, labsR ks)] [2, 3, 20, 34] (rd0.map fun _ => 0)) (fun ks => ks.map Lb.nd = n.kids ∧ (ks.flatMap Lb.fp).Nodup ∧ ∀ b ∈ ks.flatMap Lb.fp, w0.wd.heap.size ≤ b) ?_ ?_
  · by_cases hn0 : 0 < n.kids.length
    · (repeat (first | with_reducible refine AW.seq ?_ | ((first | refine arun_kn 4 rfl (fun C hC => ?_) | refine arunD_kn 4 rfl (fun C hC => ?_)); (repeat ((conv => whnf); simp [hn0])); refine hC _ ?_; clear hC C; simp only [List.drop, Nat.reduceAdd]) | ((first | refine arun_kn 1 rfl (fun C hC => ?_) | refine arunD_kn 1 rfl (fun C hC => ?_)); (repeat ((conv => whnf); simp [hn0])); refine hC _ ?_; clear hC C; simp only [List.drop, Nat.reduceAdd]) | (refine arun_skip ?_ ?_; (focus (simp [awant, hn0]; done))) | (refine AW.regionK [] (fun K hK => ?_)) | (refine AW.regionDK [] (pcs [] []) (by kernel_rfl) (by kernel_rfl) (fun K hK => ?_)) | (refine AW.condT ?_ ?_; (focus (simp [aev, hn0]; done))) | (refine AW.condF ?_ ?_; (focus (simp [aev, hn0]; done))) | with_reducible refine AW.block ?_ | ((first | ((first | refine arun_nil ?_ | refine arunD_nil ?_); refine hK _ ?_; clear hK K) | refine AW.skip ?_ | refine AW.exit ?_ | refine AW.ret ?_); simp only [thenA_exit, inBlockA_exit, if_true, if_false, Nat.reduceEqDiff, thenA_normal, inBlockA_normal, reduceIte, thenA_ret, inBlockA_ret, endQ_ret, endR_ret, endG_ret, endQ_normal, endR_normal, endG_normal, endF_ret, endF_normal])))
      refine arun_make 34 rfl (by simp [awant]) rfl tab28 tab30 (by decide) rfl (by dsimp only; omega) (by unfold maxLen; omega) (by simp [upd]) ?_
      (repeat (first | with_reducible refine AW.seq ?_ | ((first | refine arun_kn 4 rfl (fun C hC => ?_) | refine arunD_kn 4 rfl (fun C hC => ?_)); (repeat ((conv => whnf); simp [hn0])); refine hC _ ?_; clear hC C; simp only [List.drop, Nat.reduceAdd]) | ((first | refine arun_kn 1 rfl (fun C hC => ?_) | refine arunD_kn 1 rfl (fun C hC => ?_)); (repeat ((conv => whnf); simp [hn0])); refine hC _ ?_; clear hC C; simp only [List.drop, Nat.reduceAdd]) | (refine arun_skip ?_ ?_; (focus (simp [awant, hn0]; done))) | (refine AW.regionK [] (fun K hK => ?_)) | (refine AW.regionDK [] (pcs [] []) (by kernel_rfl) (by kernel_rfl) (fun K hK => ?_)) | (refine AW.condT ?_ ?_; (focus (simp [aev, hn0]; done))) | (refine AW.condF ?_ ?_; (focus (simp [aev, hn0]; done))) | with_reducible refine AW.block ?_ | ((first | ((first | refine arun_nil ?_ | refine arunD_nil ?_); refine hK _ ?_; clear hK K) | refine AW.skip ?_ | refine AW.exit ?_ | refine AW.ret ?_); simp only [thenA_exit, inBlockA_exit, if_true, if_false, Nat.reduceEqDiff, thenA_normal, inBlockA_normal, reduceIte, thenA_ret, inBlockA_ret, endQ_ret, endR_ret, endG_ret, endQ_normal, endR_normal, endG_normal, endF_ret, endF_normal])))
      refine AW.loopS (fun (ls : List Lb) => mkSt (slots 0 52 [(1, .ptr true 5 1 1 0 0), (2, .ptr true 5 1 2 0 0), (3, .ptr true 5 1 3 0 0), (37, .view .loose 5 (n.kids.map nodeL)), (38, .int .i64 n.kids.length), (39, .int .i64 ls.length)]) [(1, ⟨true, 30, 5, [[.int .i64 n.kind, .int .i64 n.num, .str n.text, .view .loose 1 (strsE n.names), .view .loose 5 (n.kids.map nodeL)]]⟩), (2, ⟨true, 30, 5, [zeroN]⟩), (3, ⟨true, 30, 5, [[.int .i64 n.kind, .int .i64 n.num, .str n.text, .own 20 n.names.length, .own 34 n.kids.length]]⟩), (20, namesR n.names), (34, ⟨false, 30, 5, partF ls n.kids.length⟩)] [1, 2, 3, 20, 34] (rd0.map fun _ => 0)) (fun ls => n.kids.length - ls.length) (fun ls => ls.map Lb.nd = n.kids.take ls.length ∧ ls.length ≤ n.kids.length ∧ (ls.flatMap Lb.fp).Nodup ∧ ∀ b ∈ ls.flatMap Lb.fp, w0.wd.heap.size ≤ b) [] ?_ ⟨rfl, Nat.zero_le _, List.nodup_nil, fun b hb => by cases hb⟩ ?_
      · have hin : ∀ U : Nat → Bool, ∀ e ∈ partF [] n.kids.length, ∀ c ∈ e, AV.In U c := fun U => partF_in _ _
        have e0 : partF [] n.kids.length = List.replicate n.kids.length zeroN := rfl
        rw [e0] at hin ⊢
        exact (less_of (by simp [lessL, mkSt, slots, namesR, zeroN]) (by simp [upd, mkSt, rowsOf_cons, namesR, zeroN]) (by simp [upd, mkSt, usedOf_cons, namesR, zeroN]) (by first | exact rd_less (by omega) | simp [mkSt, namesR, zeroN]) (by simp [slots, in_any, in_int, in_bool, in_str, in_ptr, in_own, in_agg, in_vnil, in_rdr, usedOf_cons, usedOf_nil, strs_in, ints_in, nodes_in, in_tup, namesR, zeroN]) (by simp only [List.forall_mem_cons, List.not_mem_nil, false_implies, implies_true, and_true, true_and, namesR, zeroN]; (repeat (first | with_reducible exact trivial | with_reducible refine And.intro ?_ ?_ | with_reducible exact in_int | with_reducible exact in_str | with_reducible exact in_bool | with_reducible exact strs_in _ | with_reducible exact nodes_in _ | with_reducible exact items_in _ | with_reducible exact in_vnil | with_reducible exact in_any | exact hin _ | with_reducible refine take_in ?_ | with_reducible exact strsE_in _ | with_reducible exact nodesE_in _ | with_reducible exact nodeL_in _ | with_reducible exact itemsE_in _ | with_reducible exact itemL_in _ | with_reducible refine app_in ?_ ?_ | with_reducible refine sing_in ?_ | (focus (simp [in_any, in_int, in_bool, in_str, in_ptr, in_own, in_agg, in_vnil, in_rdr, usedOf_cons, usedOf_nil, strs_in, ints_in, nodes_in, namesR, zeroN]; done)))); done))
      · rintro ls ⟨hnd, hi, hnp, hge⟩
        have hpl := partF_len ls n.kids.length hi
        by_cases hlt : ls.length < n.kids.length
        · have hw : IntKind.i64.wrap ((ls.length : Int) + 1) = ((ls.length + 1 : Nat) : Int) := by rw [i64_nat (by omega) (by omega)]; simp
          have hg := partF_get ls n.kids.length hlt
          have hgd : ∀ h, (partF ls n.kids.length)[ls.length]'h = [.int .i64 0, .int .i64 0, .str ⟨#[]⟩, .view .tight 0 [], .view .tight 0 []] := fun h => by
            rw [List.getElem?_eq_getElem h] at hg; exact Option.some.inj hg
          have hik := ih n.kids[ls.length] (List.getElem_mem hlt)
          have hck := node_clo n.kids[ls.length]
          unfold nodeA at hck
          rw [nodeL_eq n.kids[ls.length]] at hik hck
          have x1 : (n.kids.map nodeL)[ls.length]? = some [.int .i64 n.kids[ls.length].kind, .int .i64 n.kids[ls.length].num, .str n.kids[ls.length].text, .view .loose 1 (strsE n.kids[ls.length].names), .view .loose 5 (n.kids[ls.length].kids.map nodeL)] := by rw [List.getElem?_map, List.getElem?_eq_getElem hlt, ← nodeL_eq]; rfl
          refine AW.noteR 34 (r := ⟨false, 30, 5, partF ls n.kids.length⟩) (by simp [mkSt, rowsOf_cons]) ?_
          have hN' := hN.note (atE (partF ls n.kids.length))
          refine AW.bound (fun N hNb => ?_)
          (repeat (first | with_reducible refine AW.seq ?_ | ((first | refine arun_kn 4 rfl (fun C hC => ?_) | refine arunD_kn 4 rfl (fun C hC => ?_)); (repeat ((conv => whnf); simp [hlt, hw, hpl, hg, hgd, x1])); refine hC _ ?_; clear hC C; simp only [List.drop, Nat.reduceAdd]) | ((first | refine arun_kn 1 rfl (fun C hC => ?_) | refine arunD_kn 1 rfl (fun C hC => ?_)); (repeat ((conv => whnf); simp [hlt, hw, hpl, hg, hgd, x1])); refine hC _ ?_; clear hC C; simp only [List.drop, Nat.reduceAdd]) | (refine arun_skip ?_ ?_; (focus (simp [awant, hlt, hw, hpl, hg, hgd, x1]; done))) | (refine AW.regionK [] (fun K hK => ?_)) | (refine AW.condT ?_ ?_; (focus (simp [aev, hlt, hw, hpl, hg, hgd, x1]; done))) | (refine AW.condF ?_ ?_; (focus (simp [aev, hlt, hw, hpl, hg, hgd, x1]; done))) | with_reducible refine AW.block ?_ | ((first | ((first | refine arun_nil ?_ | refine arunD_nil ?_); refine hK _ ?_; clear hK K) | refine AW.skip ?_ | refine AW.exit ?_ | refine AW.ret ?_); simp only [thenA_exit, inBlockA_exit, if_true, if_false, Nat.reduceEqDiff, thenA_normal, inBlockA_normal, reduceIte, thenA_ret, inBlockA_ret, endQ_ret, endR_ret, endG_ret, endQ_normal, endR_normal, endG_normal, endF_ret, endF_normal])))
          refine AW.regionDK [] (pcs [(4, 0, fun r => rLabX n.kids[ls.length] r ∧ ∀ b ∈ atB r, ¬ (w0.note (atE (partF ls n.kids.length))).A b)] []) (by kernel_rfl) (by kernel_rfl) (fun K hK => ?_)
          (repeat (first | with_reducible refine AW.seq ?_ | ((first | refine arun_kn 4 rfl (fun C hC => ?_) | refine arunD_kn 4 rfl (fun C hC => ?_)); (repeat ((conv => whnf); simp [hlt, hw, hpl, hg, hgd, x1])); refine hC _ ?_; clear hC C; simp only [List.drop, Nat.reduceAdd]) | ((first | refine arun_kn 1 rfl (fun C hC => ?_) | refine arunD_kn 1 rfl (fun C hC => ?_)); (repeat ((conv => whnf); simp [hlt, hw, hpl, hg, hgd, x1])); refine hC _ ?_; clear hC C; simp only [List.drop, Nat.reduceAdd]) | (refine arun_skip ?_ ?_; (focus (simp [awant, hlt, hw, hpl, hg, hgd, x1]; done))) | (refine arun_cF (0) (hik) ?_; (rintro _ ⟨l, hl, hlp, rfl⟩ hA)) | (refine arunD_cF (0) (hik) (by exact rLabX_ex _ hNb) ?_; (rintro _ ⟨l, hl, hlp, rfl⟩ hA); intro _) | (refine AW.regionK [] (fun K hK => ?_)) | (refine AW.regionDK [] (pcs [] []) (by kernel_rfl) (by kernel_rfl) (fun K hK => ?_)) | (refine AW.condT ?_ ?_; (focus (simp [aev, hlt, hw, hpl, hg, hgd, x1]; done))) | (refine AW.condF ?_ ?_; (focus (simp [aev, hlt, hw, hpl, hg, hgd, x1]; done))) | with_reducible refine AW.block ?_ | ((first | ((first | refine arun_nil ?_ | refine arunD_nil ?_); refine hK _ ?_; clear hK K) | refine AW.skip ?_ | refine AW.exit ?_ | refine AW.ret ?_); simp only [thenA_exit, inBlockA_exit, if_true, if_false, Nat.reduceEqDiff, thenA_normal, inBlockA_normal, reduceIte, thenA_ret, inBlockA_ret, endQ_ret, endR_ret, endG_ret, endQ_normal, endR_normal, endG_normal, endF_ret, endF_normal])))
          have hA' : ∀ b ∈ l.fp, ¬ (w0.A b ∨ b ∈ atE (partF ls n.kids.length)) := fun b hb => hA b (by rw [at_agg, ← labL_eq]; exact hb)
          have hset := partF_set ls n.kids.length hlt l
          rw [labL_eq] at hset
          have hin : ∀ U : Nat → Bool, ∀ e ∈ partF (ls ++ [l]) n.kids.length, ∀ c ∈ e, AV.In U c := fun U => partF_in _ _
          have hll : (ls ++ [l]).length = ls.length + 1 := by rw [List.length_append]; rfl
          refine ⟨ls ++ [l], by rw [hll]; omega, ⟨?_, by rw [hll]; omega, nodup_snoc hnp hlp (fun b hb hm => hA' b hb (.inr (by rw [at_partF]; exact hm))), fun b hb => ?_⟩, ?_⟩
          · rw [hll, List.take_add_one, List.getElem?_eq_getElem hlt, List.map_append, hnd, List.map_cons, List.map_nil, hl]; rfl
          · rw [List.flatMap_append, List.flatMap_cons, List.flatMap_nil, List.append_nil] at hb
            rcases List.mem_append.1 hb with hb | hb
            · exact hge b hb
            · rcases Nat.lt_or_ge b w0.wd.heap.size with h | h
              · exact absurd (.inl (hN.A b h)) (hA' b hb)
              · exact h
          · rw [hll]
            exact (less_of (by simp [lessL, mkSt, slots, namesR, zeroN, hset]) (by simp [upd, mkSt, rowsOf_cons, namesR, zeroN, hset]) (by simp [upd, mkSt, usedOf_cons, namesR, zeroN, hset]) (by first | exact rd_less (by omega) | simp [mkSt, namesR, zeroN, hset]) (by simp [slots, in_any, in_int, in_bool, in_str, in_ptr, in_own, in_agg, in_vnil, in_rdr, usedOf_cons, usedOf_nil, strs_in, ints_in, nodes_in, in_tup, namesR, zeroN, hset]) (by simp only [List.forall_mem_cons, List.not_mem_nil, false_implies, implies_true, and_true, true_and, namesR, zeroN, hset]; (repeat (first | with_reducible exact trivial | with_reducible refine And.intro ?_ ?_ | with_reducible exact in_int | with_reducible exact in_str | with_reducible exact in_bool | with_reducible exact strs_in _ | with_reducible exact nodes_in _ | with_reducible exact items_in _ | with_reducible exact in_vnil | with_reducible exact in_any | exact hin _ | with_reducible refine take_in ?_ | with_reducible exact strsE_in _ | with_reducible exact nodesE_in _ | with_reducible exact nodeL_in _ | with_reducible exact itemsE_in _ | with_reducible exact itemL_in _ | with_reducible refine app_in ?_ ?_ | with_reducible refine sing_in ?_ | (focus (simp [in_any, in_int, in_bool, in_str, in_ptr, in_own, in_agg, in_vnil, in_rdr, usedOf_cons, usedOf_nil, strs_in, ints_in, nodes_in, namesR, zeroN, hset]; done)))); done))
        · have hl : ls.length = n.kids.length := by omega
          have hpa : partF ls n.kids.length = ls.map labL := by unfold partF; rw [hl, Nat.sub_self]; simp
          rw [hpa, hl]
          (repeat (first | with_reducible refine AW.seq ?_ | ((first | refine arun_kn 4 rfl (fun C hC => ?_) | refine arunD_kn 4 rfl (fun C hC => ?_)); (repeat ((conv => whnf); simp)); refine hC _ ?_; clear hC C; simp only [List.drop, Nat.reduceAdd]) | ((first | refine arun_kn 1 rfl (fun C hC => ?_) | refine arunD_kn 1 rfl (fun C hC => ?_)); (repeat ((conv => whnf); simp)); refine hC _ ?_; clear hC C; simp only [List.drop, Nat.reduceAdd]) | (refine arun_skip ?_ ?_; (focus (simp [awant]; done))) | (refine AW.regionK [] (fun K hK => ?_)) | (refine AW.regionDK [] (pcs [] []) (by kernel_rfl) (by kernel_rfl) (fun K hK => ?_)) | (refine AW.condT ?_ ?_; (focus (simp [aev]; done))) | (refine AW.condF ?_ ?_; (focus (simp [aev]; done))) | with_reducible refine AW.block ?_ | ((first | ((first | refine arun_nil ?_ | refine arunD_nil ?_); refine hK _ ?_; clear hK K) | refine AW.skip ?_ | refine AW.exit ?_ | refine AW.ret ?_); simp only [thenA_exit, inBlockA_exit, if_true, if_false, Nat.reduceEqDiff, thenA_normal, inBlockA_normal, reduceIte, thenA_ret, inBlockA_ret, endQ_ret, endR_ret, endG_ret, endQ_normal, endR_normal, endG_normal, endF_ret, endF_normal])))
          refine ⟨ls, ⟨by rw [hnd, hl, List.take_of_length_le (Nat.le_refl _)], hnp, hge⟩, ?_⟩
          have hin : ∀ U : Nat → Bool, ∀ e ∈ ls.map labL, ∀ c ∈ e, AV.In U c := fun U => labsE_in _
          exact (less_of (by simp [lessL, mkSt, slots, namesR, labsR, zeroN]) (by simp [upd, mkSt, rowsOf_cons, namesR, labsR, zeroN]) (by simp [upd, mkSt, usedOf_cons, namesR, labsR, zeroN]) (by first | exact rd_less (by omega) | simp [mkSt, namesR, labsR, zeroN]) (by simp [slots, in_any, in_int, in_bool, in_str, in_ptr, in_own, in_agg, in_vnil, in_rdr, usedOf_cons, usedOf_nil, strs_in, ints_in, nodes_in, in_tup, namesR, labsR, zeroN]) (by simp only [List.forall_mem_cons, List.not_mem_nil, false_implies, implies_true, and_true, true_and, namesR, labsR, zeroN]; (repeat (first | with_reducible exact trivial | with_reducible refine And.intro ?_ ?_ | with_reducible exact in_int | with_reducible exact in_str | with_reducible exact in_bool | with_reducible exact strs_in _ | with_reducible exact nodes_in _ | with_reducible exact items_in _ | with_reducible exact in_vnil | with_reducible exact in_any | exact hin _ | with_reducible refine take_in ?_ | with_reducible exact strsE_in _ | with_reducible exact nodesE_in _ | with_reducible exact nodeL_in _ | with_reducible exact itemsE_in _ | with_reducible exact itemL_in _ | with_reducible refine app_in ?_ ?_ | with_reducible refine sing_in ?_ | (focus (simp [in_any, in_int, in_bool, in_str, in_ptr, in_own, in_agg, in_vnil, in_rdr, usedOf_cons, usedOf_nil, strs_in, ints_in, nodes_in, namesR, labsR, zeroN]; done)))); done))
    · have hl0 : n.kids.length = 0 := by omega
      have he0 : n.kids = [] := List.length_eq_zero_iff.1 hl0
      refine AW.adoptB 3 4 34 30 5 ⟨_, tab30, rfl⟩ (by simp [mkSt, rowsOf_cons]; rfl) rfl rfl (by simp [mkSt, usedOf_cons, usedOf_nil]) ?_
      simp only [ASt.adoptB]
      (repeat (first | with_reducible refine AW.seq ?_ | ((first | refine arun_kn 4 rfl (fun C hC => ?_) | refine arunD_kn 4 rfl (fun C hC => ?_)); (repeat ((conv => whnf); simp [hl0])); refine hC _ ?_; clear hC C; simp only [List.drop, Nat.reduceAdd]) | ((first | refine arun_kn 1 rfl (fun C hC => ?_) | refine arunD_kn 1 rfl (fun C hC => ?_)); (repeat ((conv => whnf); simp [hl0])); refine hC _ ?_; clear hC C; simp only [List.drop, Nat.reduceAdd]) | (refine arun_skip ?_ ?_; (focus (simp [awant, hl0]; done))) | (refine AW.regionK [] (fun K hK => ?_)) | (refine AW.regionDK [] (pcs [] []) (by kernel_rfl) (by kernel_rfl) (fun K hK => ?_)) | (refine AW.condT ?_ ?_; (focus (simp [aev, hl0]; done))) | (refine AW.condF ?_ ?_; (focus (simp [aev, hl0]; done))) | with_reducible refine AW.block ?_ | ((first | ((first | refine arun_nil ?_ | refine arunD_nil ?_); refine hK _ ?_; clear hK K) | refine AW.skip ?_ | refine AW.exit ?_ | refine AW.ret ?_); simp only [thenA_exit, inBlockA_exit, if_true, if_false, Nat.reduceEqDiff, thenA_normal, inBlockA_normal, reduceIte, thenA_ret, inBlockA_ret, endQ_ret, endR_ret, endG_ret, endQ_normal, endR_normal, endG_normal, endF_ret, endF_normal])))
      refine ⟨[], ⟨by rw [he0]; rfl, List.nodup_nil, fun b hb => by cases hb⟩, ?_⟩
      exact (less_of (by simp [lessL, mkSt, slots, namesR, labsR, zeroN, he0]) (by simp [upd, mkSt, rowsOf_cons, namesR, labsR, zeroN, he0]) (by simp [upd, mkSt, usedOf_cons, namesR, labsR, zeroN, he0]) (by first | exact rd_less (by omega) | simp [mkSt, namesR, labsR, zeroN, he0]) (by simp [slots, in_any, in_int, in_bool, in_str, in_ptr, in_own, in_agg, in_vnil, in_rdr, usedOf_cons, usedOf_nil, strs_in, ints_in, nodes_in, in_tup, namesR, labsR, zeroN, he0]) (by simp only [List.forall_mem_cons, List.not_mem_nil, false_implies, implies_true, and_true, true_and, namesR, labsR, zeroN, he0]; (repeat (first | with_reducible exact trivial | with_reducible refine And.intro ?_ ?_ | with_reducible exact in_int | with_reducible exact in_str | with_reducible exact in_bool | with_reducible exact strs_in _ | with_reducible exact nodes_in _ | with_reducible exact items_in _ | with_reducible exact in_vnil | with_reducible exact in_any | exact hin _ | with_reducible refine take_in ?_ | with_reducible exact strsE_in _ | with_reducible exact nodesE_in _ | with_reducible exact nodeL_in _ | with_reducible exact itemsE_in _ | with_reducible exact itemL_in _ | with_reducible refine app_in ?_ ?_ | with_reducible refine sing_in ?_ | (focus (simp [in_any, in_int, in_bool, in_str, in_ptr, in_own, in_agg, in_vnil, in_rdr, usedOf_cons, usedOf_nil, strs_in, ints_in, nodes_in, namesR, labsR, zeroN, he0]; done)))); done))
  rintro ks s' ⟨hk1, hk2, hk3⟩ hls
  refine AW.less _ hls ?_
  clear hls s'
  have hlk : ks.length = n.kids.length := by rw [← hk1, List.length_map]
  refine AW.holdF 20 hN (fun g1 hg1 ht1 hr1 => ?_)
  have f1 := hr1 34 (labsR ks) (by simp [mkSt, rowsOf_cons])
  refine AW.holdF 34 hN (fun g2 hg2 ht2 hr2 => ?_)
  have f2 := hr2 34 (labsR ks) (by simp [mkSt, ASt.holdF, rowsOf_cons, upd, namesR, labsR, Row.sub, labsE_sub]; exact fun a _ => labL_sub a)
  have f3 := hr2 3 ⟨true, 30, 5, [[.int .i64 n.kind, .int .i64 n.num, .str n.text, .view (.fr g1) 1 (strsE n.names), .own 34 n.kids.length]]⟩ (by simp [mkSt, ASt.holdF, rowsOf_cons, upd, namesR, AV.subL, AV.sub, Row.sub, strsE_len])
  clear ht1 hr1 ht2 hr2
  (repeat (first | with_reducible refine AW.seq ?_ | ((first | refine arun_kn 4 rfl (fun C hC => ?_) | refine arunD_kn 4 rfl (fun C hC => ?_)); (repeat ((conv => whnf); simp [zeroN, ASt.holdF, namesR, labsR, AV.subL, AV.sub, Row.sub, rowsOf_cons, upd, labsE_sub, strsE_len, hlk])); refine hC _ ?_; clear hC C; simp only [List.drop, Nat.reduceAdd]) | ((first | refine arun_kn 1 rfl (fun C hC => ?_) | refine arunD_kn 1 rfl (fun C hC => ?_)); (repeat ((conv => whnf); simp [zeroN, ASt.holdF, namesR, labsR, AV.subL, AV.sub, Row.sub, rowsOf_cons, upd, labsE_sub, strsE_len, hlk])); refine hC _ ?_; clear hC C; simp only [List.drop, Nat.reduceAdd]) | (refine arun_skip ?_ ?_; (focus (simp [awant, zeroN, ASt.holdF, namesR, labsR, AV.subL, AV.sub, Row.sub, rowsOf_cons, upd, labsE_sub, strsE_len, hlk]; done))) | (refine AW.regionK [] (fun K hK => ?_)) | (refine AW.regionDK [] (pcs [] []) (by kernel_rfl) (by kernel_rfl) (fun K hK => ?_)) | (refine AW.condT ?_ ?_; (focus (simp [aev, zeroN, ASt.holdF, namesR, labsR, AV.subL, AV.sub, Row.sub, rowsOf_cons, upd, labsE_sub, strsE_len, hlk]; done))) | (refine AW.condF ?_ ?_; (focus (simp [aev, zeroN, ASt.holdF, namesR, labsR, AV.subL, AV.sub, Row.sub, rowsOf_cons, upd, labsE_sub, strsE_len, hlk]; done))) | with_reducible refine AW.block ?_ | ((first | ((first | refine arun_nil ?_ | refine arunD_nil ?_); refine hK _ ?_; clear hK K) | refine AW.skip ?_ | refine AW.exit ?_ | refine AW.ret ?_); simp only [thenA_exit, inBlockA_exit, if_true, if_false, Nat.reduceEqDiff, thenA_normal, inBlockA_normal, reduceIte, thenA_ret, inBlockA_ret, endQ_ret, endR_ret, endG_ret, endQ_normal, endR_normal, endG_normal, endF_ret, endF_normal])))
  have e2 : atE (labsR ks).es = ks.flatMap Lb.fp := atE_labs ks
  rw [e2] at f1 f2
  refine ⟨labA ⟨n.kind, n.num, n.text, n.names, g1, ks, g2⟩, by unfold labA; rw [labL_eq]; simp [ares, aresL, upd, rowsOf_cons, labL_sub], lab_pur _, fun b hb => ?_, rLab_X ⟨_, ?_, fp_nodup hk2 f1 f2 (fun h1 _ => f3 g1 ?_), rfl⟩⟩
  · rw [at_lab] at hb
    exact fp_ge (l := ⟨n.kind, n.num, n.text, n.names, g1, ks, g2⟩) hk3 hg1 hg2 b hb
  · rw [nd_eq]; dsimp only; rw [hk1]; cases n; rfl
  · dsimp only at h1
    have : (strsE n.names).isEmpty = false := by unfold strsE; cases hh : n.names with | nil => exact absurd hh h1 | cons _ _ => rfl
    simp [atE_cons, atE_nil, atL_cons, atL_nil, at_int, at_str, at_own, at_view, frB_fr, this]
theorem implCopyF_ACF : ∀ n, Sml n → ACF Try.prog 75 [nodeA n] 0 (rLabX n) :=
  sml_ind fun n hs ih => implCopyF_hold n hs ih
end Go.Proofs.Ytgfnmhfdmmnaoaa.Eng
namespace Go.Proofs.Ytgfnmhfdmmnaoaa.Eng
open Go Go.RowKit
abbrev LbI := ByteArray × Int × Lb
def itD (x : LbI) : Itm := (x.1, x.2.1, x.2.2.nd)
def itP (x : LbI) : List Nat := x.2.2.fp
def itF (x : LbI) : List AV := .str x.1 :: .int .i64 x.2.1 :: labL x.2.2
theorem itF_eq (x : LbI) : itF x = [.str x.1, .int .i64 x.2.1, .int .i64 x.2.2.kind, .int .i64 x.2.2.num, .str x.2.2.text, .view (.fr x.2.2.nb) 1 (strsE x.2.2.names), .view (.fr x.2.2.kb) 5 (x.2.2.kids.map labL)] := by unfold itF; rw [labL_eq]
theorem itF_len (x : LbI) : (itF x).length = 7 := by rw [itF_eq]; rfl
theorem itF_pur (x : LbI) : ∀ c ∈ itF x, Pur c := by
  intro c hc
  simp only [itF, List.mem_cons] at hc
  rcases hc with rfl | rfl | hc
  · exact pur_str
  · exact pur_int
  · exact labL_pur _ c hc
theorem itF_in {U : Nat → Bool} (x : LbI) : ∀ c ∈ itF x, AV.In U c := by
  intro c hc
  simp only [itF, List.mem_cons] at hc
  rcases hc with rfl | rfl | hc
  · exact in_str
  · exact in_int
  · exact labL_in _ c hc
theorem itFA_clo (x : LbI) : Clo (.agg (itF x)) := (pur_agg (itF_pur x)).clo
theorem itsF_pur (l : List LbI) : ∀ e ∈ l.map itF, ∀ c ∈ e, Pur c := fun e he c hc => by
  obtain ⟨k, _, rfl⟩ := List.mem_map.1 he
  exact itF_pur k c hc
theorem itsF_in {U : Nat → Bool} (l : List LbI) : ∀ e ∈ l.map itF, ∀ c ∈ e, AV.In U c := fun e he c hc => by
  obtain ⟨k, _, rfl⟩ := List.mem_map.1 he
  exact itF_in k c hc
theorem itF_sub {id m : Nat} {c : AV} (x : LbI) : AV.subL id m c (itF x) = itF x := by rw [itF_eq]; simp [AV.subL, AV.sub]
theorem itsF_sub {id m : Nat} {c : AV} (l : List LbI) : (l.map itF).map (AV.subL id m c) = l.map itF := by
  rw [List.map_map]; exact List.map_congr_left (fun k _ => itF_sub k)
theorem at_itF (x : LbI) : atL (itF x) = itP x := by
  unfold itF itP
  rw [atL_cons, atL_cons, at_str, at_int]; rfl
theorem atE_itsF : ∀ (l : List LbI), atE (l.map itF) = l.flatMap itP
  | [] => by rw [List.map_nil, atE_nil]; rfl
  | k :: ks => by rw [List.map_cons, atE_cons, atE_itsF ks, at_itF]; rfl
theorem itF_wk (x : LbI) : WkL (itF x) (itemL (itD x)) := .cons (Wk.refl _) (.cons (Wk.refl _) (labL_wk x.2.2))
theorem itsF_wk : ∀ l : List LbI, WkE (l.map itF) ((l.map itD).map itemL)
  | [] => .nil
  | x :: l => .cons (itF_wk x) (itsF_wk l)
def itsR (l : List LbI) : Row := ⟨false, 116, 7, l.map itF⟩
theorem itmRep_shutG {w : World} {x : Itm} {na : Option Addr} {nc : Nat} {ka : Option Addr} {kc : Nat} {fp : List Nat} (h1 : x.1.size ≤ big) (h2 : NodeF w x.2.2 na nc ka kc fp) : itmRep.F w x (itmL x na nc ka kc) fp :=
  ⟨[.string x.1], _, [], fp, rfl, rfl, ⟨rfl, h1, rfl⟩, [.int .i64 x.2.1], _, [], fp, rfl, rfl, ⟨rfl, rfl⟩, na, nc, ka, kc, rfl, h2⟩
section
variable {w : World} {ρ : Cx}
theorem rowF_of_rep {b : Nat} : ∀ {ks : List LbI} {o : Nat}, RepE w ρ b o (ks.map itF) → RowF itmRep w b o (ks.map itD) (ks.flatMap itP)
  | [], _, _ => by unfold RowF; rfl
  | k :: ks, o, h => by
    rw [List.map_cons] at h
    unfold RepE at h
    obtain ⟨h1, h2⟩ := h
    rw [itF_len] at h2
    rw [itF_eq] at h1
    obtain ⟨v0, p0, _, q0⟩ := h1.get (i := 0) rfl
    obtain ⟨v1, p1, _, q1⟩ := h1.get (i := 1) rfl
    obtain ⟨v2, p2, _, q2⟩ := h1.get (i := 2) rfl
    obtain ⟨v3, p3, _, q3⟩ := h1.get (i := 3) rfl
    obtain ⟨v4, p4, _, q4⟩ := h1.get (i := 4) rfl
    obtain ⟨v5, p5, _, q5⟩ := h1.get (i := 5) rfl
    obtain ⟨v6, p6, _, q6⟩ := h1.get (i := 6) rfl
    rw [rep_int] at q1 q2 q3
    obtain ⟨q0, q0'⟩ := rep_str.1 q0
    obtain ⟨q4, q4'⟩ := rep_str.1 q4
    obtain ⟨na, nc, r5, _⟩ := rep_view.1 q5
    obtain ⟨ka, kc, r6, _⟩ := rep_view.1 q6
    rw [strsE_len] at r5
    rw [List.length_map] at r6
    subst q0 q1 q2 q3 q4 r5 r6
    rw [List.map_cons, List.flatMap_cons]
    unfold RowF
    have hn := nodeF_of_rep k.2.2 ρ na nc ka kc q4' q5 q6
    have e := nd_eq k.2.2
    refine ⟨itP k, ks.flatMap itP, _, rfl, ?_, itmRep_shutG (x := itD k) q0' hn, rowF_of_rep (by rw [itmRep_n]; exact h2)⟩
    intro i v hv
    unfold itmL itD at hv
    rw [e] at hv
    dsimp only at hv
    rw [List.length_map] at hv
    rcases i with _ | _ | _ | _ | _ | _ | _ | i
    · cases hv; exact p0
    · cases hv; exact p1
    · cases hv; exact p2
    · cases hv; exact p3
    · cases hv; exact p4
    · cases hv; exact p5
    · cases hv; exact p6
    · simp at hv
def stoP (g : Nat) (ks : List LbI) : List Nat := frB (.fr g) ks.isEmpty ++ ks.flatMap itP
theorem fv_of_sto {g : Nat} {ks : List LbI} {z : Int} {v : Value} (h : Rep w ρ (.agg [.view (.fr g) 7 (ks.map itF), .int .i64 z]) v) : FV stoRep packA w (ks.map itD, z) v (stoP g ks) := by
  obtain ⟨vs, rfl, _, h2⟩ := rep_agg.1 h
  obtain ⟨v0, p0, q0⟩ := h2.get (i := 0) rfl
  obtain ⟨v1, p1, q1⟩ := h2.get (i := 1) rfl
  have hl := h2.length
  simp only [List.length_cons, List.length_nil] at hl
  have hus : vs = [v0, v1] := by
    apply List.ext_getElem?
    intro i
    rcases i with _ | _ | i
    · exact p0
    · exact p1
    · rw [List.getElem?_eq_none (by omega), List.getElem?_eq_none (by simp)]
  subst hus
  rw [rep_int] at q1
  subst q1
  obtain ⟨a, c, r0, _, g3, g4, g5, g6⟩ := rep_view.1 q0
  rw [List.length_map] at r0 g3 g4
  subst r0
  have hs : SlF itmRep w a c (ks.map itD) (stoP g ks) := by
    refine ⟨by rw [List.length_map]; exact g3, by rw [List.length_map]; exact g4, ?_⟩
    by_cases hne : ks = []
    · subst hne
      left
      exact ⟨rfl, rfl⟩
    · right
      rcases g6 with g6 | ⟨b, o, ha, hb, he⟩
      · exact absurd (List.map_eq_nil_iff.1 g6) hne
      · obtain ⟨_, rfl, _⟩ := hb
        refine ⟨_, o, ks.flatMap itP, fun h => hne (List.map_eq_nil_iff.1 h), ha, ?_, rowF_of_rep he⟩
        unfold stoP
        cases ks with
        | nil => exact absurd rfl hne
        | cons x xs => rfl
  have := sto_shutF (s := (ks.map itD, z)) hs
  unfold stoV at this
  dsimp only at this
  rw [List.length_map] at this
  exact this
end
theorem stoP_ge {g : Nat} {ks : List LbI} {B : Nat} (h : ∀ b ∈ ks.flatMap itP, B ≤ b) (hg : B ≤ g) : ∀ b ∈ stoP g ks, B ≤ b := by
  intro b hb
  unfold stoP at hb
  rw [frB_fr] at hb
  rcases List.mem_append.1 hb with hb | hb
  · split at hb <;> simp at hb
    rw [hb]; exact hg
  · exact h b hb
theorem stoP_nodup {g : Nat} {ks : List LbI} (h : (ks.flatMap itP).Nodup) (f : ∀ b ∈ ks.flatMap itP, g ≠ b) : (stoP g ks).Nodup := by
  unfold stoP
  rw [frB_fr]
  refine List.nodup_append.2 ⟨by split <;> simp, h, fun a ha b hb e => ?_⟩
  split at ha <;> simp at ha
  exact f b hb (by rw [← ha, e])
theorem at_sto (g : Nat) (ks : List LbI) (z : Int) (b : Bool) : atB (.tup [.agg [.view (.fr g) 7 (ks.map itF), .int .i64 z], .bool b]) = stoP g ks := by
  have e : (ks.map itF).isEmpty = ks.isEmpty := by cases ks <;> rfl
  unfold stoP
  rw [at_tup, atL_cons, at_agg, atL_cons, atL_cons, atL_nil, atL_cons, atL_nil, at_view, at_int, at_bool, atE_itsF, e]
  simp
def rSB (m : Sto) (b : Bool) (r : AV) : Prop := ∃ (g : Nat) (ks : List LbI), (ks.map itD, m.2) = m ∧ (stoP g ks).Nodup ∧ r = .tup [.agg [.view (.fr g) 7 (ks.map itF), .int .i64 m.2], .bool b]
theorem rSB_none {r : AV} (h : r = .tup [.agg [.view .tight 0 [], .int .i64 0], .bool false]) : Pur r ∧ (∀ B : Nat, ∀ b ∈ atB r, B ≤ b) ∧ ∃ r', Wk r r' ∧ (∀ b ∈ atB r', b ∈ atB r) ∧ rSB ([], 0) false r' := by
  subst h
  refine ⟨?_, ?_, .tup [.agg [.view (.fr 0) 7 [], .int .i64 0], .bool false], Wk.tup (.cons (.agg (.cons (Wk.nil (fun h => by cases h)) (.cons (Wk.refl _) .nil))) (.cons (Wk.refl _) .nil)), ?_, 0, [], rfl, by simp [stoP, frB_fr], rfl⟩
  · refine tup2_pur (pur_agg ?_) pur_bool
    simp only [List.forall_mem_cons, List.not_mem_nil, false_implies, implies_true, and_true]
    exact ⟨pur_view (by simp) (fun e he => by cases he), pur_int⟩
  · intro B b hb
    simp [at_tup, at_agg, atL_cons, atL_nil, at_int, at_bool, at_view, atE_nil, frB_tight] at hb
  · intro b hb
    simp [at_tup, at_agg, atL_cons, atL_nil, at_int, at_bool, at_view, atE_nil, frB_fr] at hb
theorem acf_sb {P : Program} {f : FuncId} {args : List AV} {m : Sto} {b : Bool} (h : ACF P f args 0 (rSB m b)) (w : World) (vs : List Value) (hargs : RepL w (pureC nil (fun k => k < w.heap.size) none) args vs) :
    Calls P f vs.toArray w fun e w' => ∃ v fp, e = .returned (.tuple #[v, .bool b]) ∧ Grow w w' ∧ FV stoRep packA w' m v fp ∧ Free w.heap.size w' fp := by
  refine (h.2 w nil (fun k => k < w.heap.size) none 0 vs (fun _ h => h.elim) (fun _ h => h) (fun _ h => by cases h) hargs).mono ?_
  rintro e w' ⟨v, r, S', rfl, hx, hS1, hS2, _, hr, ⟨g, ks, hm, hnp, rfl⟩, hb⟩
  rw [at_sto] at hb
  obtain ⟨us, rfl, h2⟩ := rep_tup.1 hr
  obtain ⟨v0, p0, q0⟩ := h2.get (i := 0) rfl
  obtain ⟨v1, p1, q1⟩ := h2.get (i := 1) rfl
  have hl := h2.length
  simp only [List.length_cons, List.length_nil] at hl
  have hus : us = [v0, v1] := by
    apply List.ext_getElem?
    intro i
    rcases i with _ | _ | i
    · exact p0
    · exact p1
    · rw [List.getElem?_eq_none (by omega), List.getElem?_eq_none (by simp)]
  subst hus
  rw [rep_bool] at q1
  subst q1
  have hg := Grow.ofNone hx
  have hfv := fv_of_sto q0
  rw [hm] at hfv
  refine ⟨v0, stoP g ks, rfl, hg, hfv, hnp, fun k hk => ?_⟩
  have hat := hr.at k (by rw [at_sto]; exact hk)
  refine ⟨hb k hk, ?_, hat.2⟩
  rcases hS2 k hat.1 with h | h
  · exact Nat.lt_of_lt_of_le h hg.size
  · exact h.2
end Go.Proofs.Ytgfnmhfdmmnaoaa.Eng
namespace Go.Proofs.Ytgfnmhfdmmnaoaa.Eng
open Go Go.RowKit
section
variable {P : Program} {w0 : W0} {S0 : Nat → Prop} {rd0 : Option Nat} {k0 : Nat} {w : World} {a : Act} {s : ASt} {ρ : Cx}
end
section
variable {P : Program} {T : Tab} {hT : Tab.Ok P T} {hm : P.follows .mixedOrders = true} {w0 : W0} {S0 : Nat → Prop} {rd0 : Option Nat} {k0 : Nat} {Q : Exit → ASt → Prop} {s : ASt} {code : Code}
end
section
variable {P : Program} {T : Tab} {k0 : Nat} {md : List Nat} {Av : Nat → Prop} {ops : Array Oper} {K : ASt → Prop} {o : Oper} {l : List Oper} {s : ASt}
end
end Go.Proofs.Ytgfnmhfdmmnaoaa.Eng
-- EV: fresh
namespace Go.Proofs.Ytgfnmhfdmmnaoaa
open Go.RowKit
theorem openV_node {w : World} {S : Nat → Prop} {x : Nd} {v : Value} (h : RV nodeRep packA w S x v) : ∃ na nc ka kc, v = nodeV x na nc ka kc := by
  obtain ⟨na, nc, ka, kc, hv, _⟩ := node_open h
  exact ⟨na, nc, ka, kc, hv⟩
namespace Eng
theorem ACF.weak {P : Program} {f : FuncId} {args : List AV} {c : Nat} {Q : AV → Prop} (h : ACF P f args c (fun r => ∃ r', Wk r r' ∧ (∀ b ∈ atB r', b ∈ atB r) ∧ Q r')) : ACF P f args c Q :=
  ⟨h.1, fun w L S rb k vs h0 h1 h2 h3 => (h.2 w L S rb k vs h0 h1 h2 h3).mono fun e w' ⟨v, r, S', k1, k2, k3, k4, k5, k6, ⟨r', q1, q2, q3⟩, k8⟩ => ⟨v, r', S', k1, k2, k3, k4, k5, q1 _ _ _ k6, q3, fun b hb => k8 b (q2 b hb)⟩⟩
theorem arg_node {w : World} {n : Nd} {v : Value} (h : RV nodeRep packA w Go.Proofs.Ytgfnmhfdmmnaoaa.any n v) : Rep w (pureC nil (fun k => k < w.heap.size) none) (nodeA n) v := rep_of_node (node_open h.under)
theorem args1 {w : World} {ρ : Cx} {a : AV} {v : Value} (h : Rep w ρ a v) : RepL w ρ [a] [v] := by unfold RepL; exact ⟨_, _, rfl, h, by unfold RepL; rfl⟩
theorem args2 {w : World} {ρ : Cx} {a b : AV} {v u : Value} (h : Rep w ρ a v) (k : Rep w ρ b u) : RepL w ρ [a, b] [v, u] := by unfold RepL; exact ⟨_, _, rfl, h, args1 k⟩
theorem args3 {w : World} {ρ : Cx} {a b c : AV} {v u x : Value} (h : Rep w ρ a v) (k : Rep w ρ b u) (j : Rep w ρ c x) : RepL w ρ [a, b, c] [v, u, x] := by unfold RepL; exact ⟨_, _, rfl, h, args2 k j⟩
end Eng
end Go.Proofs.Ytgfnmhfdmmnaoaa
namespace Go.Proofs.Ytgfnmhfdmmnaoaa.Eng
open Go Go.RowKit
attribute [local simp] big size_mk ASt.pay Option.map_map Function.comp_def awant aop acall ado aev ofVal ofVal0 ASt.put ASt.add ASt.turn ASt.kill abox aalloc astore aload aloadD astoreD idOf ASt.at cellsTo afieldAddr afield aindexAddr aindex alen abin aint acmp astr aun apick aextract anil aslice abound abuild afill abuildSlice asCells aps avCells over upd aappend asrc amax amin aconv mkSt slots rowsOf_cons rowsOf_nil usedOf_cons usedOf_nil ZK.av List.replicate ASt.back ASt.addL ASt.killL nodeA nodeT nodeTL_eq nodeL_eq strsE_get strsE_len intsE_get intsE_len strsE_at intsE_at tab2 tab3 tab4 tab5 tab6 tab7 tab8 tab9 tab10 tab11 tab12 tab13 tab14 tab15 tab16 tab17 tab18 tab19 tab21 tab22 tab23 tab24 tab25 tab26 tab27 tab28 tab29 tab30 tab39 tab40 tab41 tab42 tab43 tab47 tab48 tab55 tab56 tab57 tab60 tab61 tab62 tab73 tab74 tab75 tab85 tab92 tab115 tab116 tab143 tab144 tab145 tab154 tab155 tab170 tab175 tab182 tab197 tab198 tab203 tab204 tab205 tab207 tab208 tab209
end Go.Proofs.Ytgfnmhfdmmnaoaa.Eng
namespace Go.Proofs.Ytgfnmhfdmmnaoaa.Eng
open Go Go.RowKit
end Go.Proofs.Ytgfnmhfdmmnaoaa.Eng
namespace Go.Proofs.Ytgfnmhfdmmnaoaa.Eng
open Go Go.RowKit
attribute [local simp] big size_mk ASt.pay Option.map_map Function.comp_def awant aop acall ado aev ofVal ofVal0 ASt.put ASt.add ASt.turn ASt.kill abox aalloc astore aload aloadD astoreD idOf ASt.at cellsTo afieldAddr afield aindexAddr aindex alen abin aint acmp astr aun apick aextract anil aslice abound abuild afill abuildSlice asCells aps avCells over upd aappend asrc amax amin aconv mkSt slots rowsOf_cons rowsOf_nil usedOf_cons usedOf_nil ZK.av List.replicate ASt.back ASt.addL ASt.killL nodeA nodeT nodeTL_eq nodeL_eq strsE_get strsE_len intsE_get intsE_len strsE_at intsE_at tab2 tab3 tab4 tab5 tab6 tab7 tab8 tab9 tab10 tab11 tab12 tab13 tab14 tab15 tab16 tab17 tab18 tab19 tab21 tab22 tab23 tab24 tab25 tab26 tab27 tab28 tab29 tab30 tab39 tab40 tab41 tab42 tab43 tab47 tab48 tab55 tab56 tab57 tab60 tab61 tab62 tab73 tab74 tab75 tab85 tab92 tab115 tab116 tab143 tab144 tab145 tab154 tab155 tab170 tab175 tab182 tab197 tab198 tab203 tab204 tab205 tab207 tab208 tab209
theorem AC.args {P : Program} {f : FuncId} {args args' : List AV} {c : Nat} {Post : AV → Prop} (h : AC P f args c Post) (hw : ∀ w ρ vs, RepL w ρ args' vs → RepL w ρ args vs) : AC P f args' c Post :=
  ⟨h.1, fun w L S rb k vs h0 h1 h2 h3 => h.2 w L S rb k vs h0 h1 h2 (hw w _ vs h3)⟩
theorem ACR.args {P : Program} {f : FuncId} {args args' : List AV} {c : Nat} {Post0 : AV → Prop} {Post : (Nat → AV) → Row → Prop} (h : ACR P f args c Post0 Post) (hw : ∀ w ρ vs, RepL w ρ args' vs → RepL w ρ args vs) : ACR P f args' c Post0 Post :=
  ⟨h.1, fun w L S rb k vs h0 h1 h2 h3 => h.2 w L S rb k vs h0 h1 h2 (hw w _ vs h3)⟩
theorem Less.hold {s : ASt} (id : Nat) : Less s (s.hold id) := fun _ _ _ _ _ _ _ _ hs => by
  obtain ⟨ρ', h, _⟩ := SR.held hs id
  exact ⟨ρ', h⟩
end Go.Proofs.Ytgfnmhfdmmnaoaa.Eng
namespace Go.Proofs.Ytgfnmhfdmmnaoaa.Eng
open Go Go.RowKit
end Go.Proofs.Ytgfnmhfdmmnaoaa.Eng
namespace Go.Proofs.Ytgfnmhfdmmnaoaa.Eng
open Go Go.RowKit
end Go.Proofs.Ytgfnmhfdmmnaoaa.Eng
namespace Go.Proofs.Ytgfnmhfdmmnaoaa.Eng
open Go Go.RowKit
attribute [local simp] big size_mk ASt.pay Option.map_map Function.comp_def awant aop acall ado aev ofVal ofVal0 ASt.put ASt.add ASt.turn ASt.kill abox aalloc astore aload aloadD astoreD idOf ASt.at cellsTo afieldAddr afield aindexAddr aindex alen abin aint acmp astr aun apick aextract anil aslice abound abuild afill abuildSlice asCells aps avCells over upd aappend asrc amax amin aconv mkSt slots rowsOf_cons rowsOf_nil usedOf_cons usedOf_nil ZK.av List.replicate ASt.back ASt.addL ASt.killL nodeA nodeT nodeTL_eq nodeL_eq strsE_get strsE_len intsE_get intsE_len strsE_at intsE_at tab2 tab3 tab4 tab5 tab6 tab7 tab8 tab9 tab10 tab11 tab12 tab13 tab14 tab15 tab16 tab17 tab18 tab19 tab21 tab22 tab23 tab24 tab25 tab26 tab27 tab28 tab29 tab30 tab39 tab40 tab41 tab42 tab43 tab47 tab48 tab55 tab56 tab57 tab60 tab61 tab62 tab73 tab74 tab75 tab85 tab92 tab115 tab116 tab143 tab144 tab145 tab154 tab155 tab170 tab175 tab182 tab197 tab198 tab203 tab204 tab205 tab207 tab208 tab209
end Go.Proofs.Ytgfnmhfdmmnaoaa.Eng
namespace Go.Proofs.Ytgfnmhfdmmnaoaa.Eng
open Go Go.RowKit
end Go.Proofs.Ytgfnmhfdmmnaoaa.Eng
-- EV: fresh
namespace Go.Proofs.Ytgfnmhfdmmnaoaa.Eng
open Go Go.RowKit
attribute [local simp] big size_mk ASt.pay Option.map_map Function.comp_def awant aop acall ado aev ofVal ofVal0 ASt.put ASt.add ASt.turn ASt.kill abox aalloc astore aload aloadD astoreD idOf ASt.at cellsTo afieldAddr afield aindexAddr aindex alen abin aint acmp astr aun apick aextract anil aslice abound abuild afill abuildSlice asCells aps avCells over upd aappend asrc amax amin aconv mkSt slots rowsOf_cons rowsOf_nil usedOf_cons usedOf_nil ZK.av List.replicate ASt.back ASt.addL ASt.killL nodeA nodeT nodeTL_eq nodeL_eq strsE_get strsE_len intsE_get intsE_len strsE_at intsE_at tab2 tab3 tab4 tab5 tab6 tab7 tab8 tab9 tab10 tab11 tab12 tab13 tab14 tab15 tab16 tab17 tab18 tab19 tab21 tab22 tab23 tab24 tab25 tab26 tab27 tab28 tab29 tab30 tab39 tab40 tab41 tab42 tab43 tab47 tab48 tab55 tab56 tab57 tab60 tab61 tab62 tab73 tab74 tab75 tab85 tab92 tab115 tab116 tab143 tab144 tab145 tab154 tab155 tab170 tab175 tab182 tab197 tab198 tab203 tab204 tab205 tab207 tab208 tab209
end Go.Proofs.Ytgfnmhfdmmnaoaa.Eng
-- EV: store fresh
namespace Go.Proofs.Ytgfnmhfdmmnaoaa.Eng
open Go Go.RowKit
attribute [local simp] big size_mk ASt.pay Option.map_map Function.comp_def awant aop acall ado aev ofVal ofVal0 ASt.put ASt.add ASt.turn ASt.kill abox aalloc astore aload aloadD astoreD idOf ASt.at cellsTo afieldAddr afield aindexAddr aindex alen abin aint acmp astr aun apick aextract anil aslice abound abuild afill abuildSlice asCells aps avCells over upd aappend asrc amax amin aconv mkSt slots rowsOf_cons rowsOf_nil usedOf_cons usedOf_nil ZK.av List.replicate ASt.back ASt.addL ASt.killL nodeA nodeT nodeTL_eq nodeL_eq strsE_get strsE_len intsE_get intsE_len strsE_at intsE_at itemA itemL_eq storeA storeT storeO itemsRow tab2 tab3 tab4 tab5 tab6 tab7 tab8 tab9 tab10 tab11 tab12 tab13 tab14 tab15 tab16 tab17 tab18 tab19 tab21 tab22 tab23 tab24 tab25 tab26 tab27 tab28 tab29 tab30 tab39 tab40 tab41 tab42 tab43 tab47 tab48 tab55 tab56 tab57 tab60 tab61 tab62 tab73 tab74 tab75 tab85 tab92 tab115 tab116 tab143 tab144 tab145 tab154 tab155 tab170 tab175 tab182 tab197 tab198 tab203 tab204 tab205 tab207 tab208 tab209
def rItF (x : Itm) (r : AV) : Prop := ∃ l : LbI, itD l = x ∧ (itP l).Nodup ∧ r = .agg (itF l)
def rItX (x : Itm) (r : AV) : Prop := ∃ l : LbI, itD l = x ∧ (itP l).Nodup ∧ r = .agg [.str l.1, .int .i64 l.2.1, .int .i64 l.2.2.kind, .int .i64 l.2.2.num, .str l.2.2.text, .view (.fr l.2.2.nb) 1 (strsE l.2.2.names), .view (.fr l.2.2.kb) 5 (l.2.2.kids.map labL)]
theorem rItF_X {x : Itm} {r : AV} (h : rItF x r) : rItX x r := by
  obtain ⟨l, h1, h2, rfl⟩ := h
  exact ⟨l, h1, h2, by rw [itF_eq]⟩
theorem at_itA (l : LbI) : atB (.agg (itF l)) = itP l := by rw [at_agg, at_itF]
theorem rItX_ex (x : Itm) {A : Nat → Prop} {N : Nat} (hN : ∀ b, A b → b < N) : ∃ r, (rItX x r ∧ ∀ b ∈ atB r, ¬ A b) ∧ NoId r := by
  obtain ⟨l, M, h1, h2, _, h4⟩ := lab_ex x.2.2 N
  have hr : rItF x (.agg (itF (x.1, x.2.1, l))) := ⟨(x.1, x.2.1, l), by unfold itD; dsimp only; rw [h1], h2, rfl⟩
  exact ⟨_, ⟨rItF_X hr, fun b hb ha => by rw [at_itA] at hb; have := (h4 b hb).1; have := hN b ha; omega⟩, in_agg.2 (itF_in _)⟩
theorem tdSubJ {α : Type} (l : List α) (k : Nat) : (l.take k ++ l.drop (k + 1)).Sublist l := by
  conv => rhs; rw [← List.take_append_drop k l]
  refine (List.Sublist.refl _).append ?_
  rw [← List.drop_drop]
  exact List.drop_sublist _ _
def partJ (ls : List LbI) (m : Nat) : List (List AV) := ls.map itF ++ List.replicate (m - ls.length) zeroI
theorem partJ_len (ls : List LbI) (m : Nat) (h : ls.length ≤ m) : (partJ ls m).length = m := by unfold partJ; simp; omega
theorem partJ_get (ls : List LbI) (m : Nat) (h : ls.length < m) : ∀ h, (partJ ls m)[ls.length]'h = zeroI := by
  intro h'
  unfold partJ at h' ⊢
  rw [List.getElem_append_right (by simp)]
  exact List.getElem_replicate _
theorem partJ_set (ls : List LbI) (m : Nat) (h : ls.length < m) (l : LbI) : (partJ ls m).set ls.length (itF l) = partJ (ls ++ [l]) m := by
  unfold partJ
  rw [List.set_append_right _ _ (by simp), List.length_map, Nat.sub_self]
  have : m - ls.length = (m - (ls ++ [l]).length) + 1 := by rw [List.length_append, List.length_singleton]; omega
  rw [this, List.replicate_succ, List.set_cons_zero, List.map_append, List.append_assoc]
  rfl
theorem partJ_in {U : Nat → Bool} (ls : List LbI) (m : Nat) : ∀ e ∈ partJ ls m, ∀ c ∈ e, AV.In U c := by
  intro e he c hc
  unfold partJ at he
  rcases List.mem_append.1 he with he | he
  · exact itsF_in ls e he c hc
  · rw [List.eq_of_mem_replicate he] at hc
    simp only [zeroI, List.mem_cons, List.not_mem_nil, or_false] at hc
    rcases hc with rfl | rfl | rfl | rfl | rfl | rfl | rfl
    · exact in_str
    · exact in_int
    · exact in_int
    · exact in_int
    · exact in_str
    · exact in_vnil
    · exact in_vnil
theorem at_zeroI : atL zeroI = [] := by
  unfold zeroI
  simp only [atL_cons, atL_nil, at_int, at_str, at_view, atE_nil, frB_tight, List.append_nil]
theorem at_partJ (ls : List LbI) (m : Nat) : atE (partJ ls m) = ls.flatMap itP := by
  unfold partJ
  rw [atE_app, atE_itsF]
  have : ∀ k, atE (List.replicate k zeroI) = [] := fun k => by
    induction k with
    | zero => rw [List.replicate_zero, atE_nil]
    | succ k ih => rw [List.replicate_succ, atE_cons, ih, at_zeroI]; rfl
  rw [this, List.append_nil]
theorem nodup_snocI {ls : List LbI} {l : LbI} (h : (ls.flatMap itP).Nodup) (k : (itP l).Nodup) (ha : ∀ b ∈ itP l, ¬ b ∈ ls.flatMap itP) : ((ls ++ [l]).flatMap itP).Nodup := by
  rw [List.flatMap_append, List.flatMap_cons, List.flatMap_nil, List.append_nil]
  exact List.nodup_append.2 ⟨h, k, fun a h1 b h2 e => ha b h2 (e ▸ h1)⟩
theorem copyItem_ACF (x : Itm) (hx : Sml x.2.2) : ACF Try.prog 145 [itemA x] 0 (rItX x) := by
  have p1 := implCopyF_ACF x.2.2 hx
  unfold nodeA at p1
  rw [nodeL_eq] at p1
  unfold itemA
  rw [itemL_eq]
  refine ACF.of tab_ok mixed_ok Try.func145 (by rfl) (by kernel_rfl) ?_; rintro ⟨P, T, hT, hm, w0, S0, rd0, k0⟩ hP hTT hN; dsimp only at hP hTT hN; subst hP hTT; dsimp only; unfold initSt; rw [Try.ntmps145]
  refine AW.bound (fun N hNb => ?_)
  (repeat (first | with_reducible refine AW.seq ?_ | ((first | refine arun_kn 4 rfl (fun C hC => ?_) | refine arunD_kn 4 rfl (fun C hC => ?_)); (repeat ((conv => whnf); simp)); refine hC _ ?_; clear hC C; simp only [List.drop, Nat.reduceAdd]) | ((first | refine arun_kn 1 rfl (fun C hC => ?_) | refine arunD_kn 1 rfl (fun C hC => ?_)); (repeat ((conv => whnf); simp)); refine hC _ ?_; clear hC C; simp only [List.drop, Nat.reduceAdd]) | (refine arun_skip ?_ ?_; (focus (simp [awant]; done))) | (refine arun_cF (0) (p1) ?_; (rintro _ ⟨l, hl, hlp, rfl⟩ hA)) | (refine arunD_cF (0) (p1) (by exact rLabX_ex _ hNb) ?_; (rintro _ ⟨l, hl, hlp, rfl⟩ hA); intro _) | (refine AW.regionK [] (fun K hK => ?_)) | (refine AW.regionDK [] (pcs [(6, 0, fun r => rLabX x.2.2 r ∧ ∀ b ∈ atB r, ¬ w0.A b)] []) (by kernel_rfl) (by kernel_rfl) (fun K hK => ?_)) | (refine AW.condT ?_ ?_; (focus (simp [aev]; done))) | (refine AW.condF ?_ ?_; (focus (simp [aev]; done))) | with_reducible refine AW.block ?_ | ((first | ((first | refine arun_nil ?_ | refine arunD_nil ?_); refine hK _ ?_; clear hK K) | refine AW.skip ?_ | refine AW.exit ?_ | refine AW.ret ?_); simp only [thenA_exit, inBlockA_exit, if_true, if_false, Nat.reduceEqDiff, thenA_normal, inBlockA_normal, reduceIte, thenA_ret, inBlockA_ret, endQ_ret, endR_ret, endG_ret, endQ_normal, endR_normal, endG_normal, endF_ret, endF_normal])))
  have hA' : ∀ b ∈ l.fp, ¬ w0.A b := fun b hb => hA b (by rw [at_agg, ← labL_eq]; exact hb)
  exact ⟨.agg (itF (x.1, x.2.1, l)), by rw [itF_eq]; simp [ares, aresL, upd, rowsOf_cons], pur_agg (itF_pur _), fun b hb => by rw [at_itA] at hb; exact hN.ge (hA' b hb), rItF_X ⟨(x.1, x.2.1, l), by unfold itD; dsimp only; rw [hl], hlp, rfl⟩⟩
theorem implCopyStoreF_ACM (s : Sto) (hs : SmlS s) : ACM Try.prog 88 [storeA s] 0 (fun r l => ∃ ks : List LbI, ks.map itD = s.1 ∧ (ks.flatMap itP).Nodup ∧ r = .agg [.own 16 s.1.length, .int .i64 s.2] ∧ l = [(16, itsR ks)]) := by
  obtain ⟨hs1, hs2⟩ := hs
  unfold storeA storeT
  refine ACM.of tab_ok mixed_ok Try.func88 (by rfl) (by kernel_rfl) ?_; rintro ⟨P, T, hT, hm, w0, S0, rd0, k0⟩ hP hTT hN; dsimp only at hP hTT hN; subst hP hTT; dsimp only; unfold initStG; rw [Try.ntmps88]
  refine AW.seq ?_
  (refine AW.regionK [] (fun K hK => ?_); (repeat (refine arun_ks 4 rfl (fun C hC => ?_); (repeat ((conv => whnf); simp)); refine hC _ ?_; clear hC C; simp only [List.drop_succ_cons, List.drop_zero, List.drop_nil])); refine arun_nil ?_; refine hK _ ?_; clear hK K; simp only [thenA_normal, inBlockA_normal, endQ_normal, endR_normal])
  refine AW.seq ?_
  (refine AW.regionK [] (fun K hK => ?_); (repeat (refine arun_ks 4 rfl (fun C hC => ?_); (repeat ((conv => whnf); simp)); refine hC _ ?_; clear hC C; simp only [List.drop_succ_cons, List.drop_zero, List.drop_nil])); refine arun_nil ?_; refine hK _ ?_; clear hK K; simp only [thenA_normal, inBlockA_normal, endQ_normal, endR_normal])
  refine AW.seq ?_
  refine AW.cutN (fun (ks : List LbI) => mkSt (slots 0 34 [(2, .ptr true 2 1 2 0 0), (3, .ptr true 2 1 3 0 0)]) [(2, ⟨true, 62, 2, [[.view .tight 0 [], .int .i64 0]]⟩), (3, ⟨true, 62, 2, [[.own 16 s.1.length, .int .i64 s.2]]⟩), (16, itsR ks)] [2, 3, 16] (rd0.map fun _ => 0)) (fun ks => ks.map itD = s.1 ∧ (ks.flatMap itP).Nodup ∧ ∀ b ∈ ks.flatMap itP, w0.wd.heap.size ≤ b) ?_ ?_
  · by_cases hn0 : 0 < s.1.length
    · (repeat (first | with_reducible refine AW.seq ?_ | ((first | refine arun_kn 4 rfl (fun C hC => ?_) | refine arunD_kn 4 rfl (fun C hC => ?_)); (repeat ((conv => whnf); simp [hn0])); refine hC _ ?_; clear hC C; simp only [List.drop, Nat.reduceAdd]) | ((first | refine arun_kn 1 rfl (fun C hC => ?_) | refine arunD_kn 1 rfl (fun C hC => ?_)); (repeat ((conv => whnf); simp [hn0])); refine hC _ ?_; clear hC C; simp only [List.drop, Nat.reduceAdd]) | (refine arun_skip ?_ ?_; (focus (simp [awant, hn0]; done))) | (refine AW.regionK [] (fun K hK => ?_)) | (refine AW.regionDK [] (pcs [] []) (by kernel_rfl) (by kernel_rfl) (fun K hK => ?_)) | (refine AW.condT ?_ ?_; (focus (simp [aev, hn0]; done))) | (refine AW.condF ?_ ?_; (focus (simp [aev, hn0]; done))) | with_reducible refine AW.block ?_ | ((first | ((first | refine arun_nil ?_ | refine arunD_nil ?_); refine hK _ ?_; clear hK K) | refine AW.skip ?_ | refine AW.exit ?_ | refine AW.ret ?_); simp only [thenA_exit, inBlockA_exit, if_true, if_false, Nat.reduceEqDiff, thenA_normal, inBlockA_normal, reduceIte, thenA_ret, inBlockA_ret, endQ_ret, endR_ret, endG_ret, endQ_normal, endR_normal, endG_normal, endF_ret, endF_normal])))
      refine arun_make 16 rfl (by simp [awant]) rfl tab60 tab116 (by decide) rfl (by dsimp only; omega) (by unfold maxLen; omega) (by simp [upd]) ?_
      (repeat (first | with_reducible refine AW.seq ?_ | ((first | refine arun_kn 4 rfl (fun C hC => ?_) | refine arunD_kn 4 rfl (fun C hC => ?_)); (repeat ((conv => whnf); simp [hn0])); refine hC _ ?_; clear hC C; simp only [List.drop, Nat.reduceAdd]) | ((first | refine arun_kn 1 rfl (fun C hC => ?_) | refine arunD_kn 1 rfl (fun C hC => ?_)); (repeat ((conv => whnf); simp [hn0])); refine hC _ ?_; clear hC C; simp only [List.drop, Nat.reduceAdd]) | (refine arun_skip ?_ ?_; (focus (simp [awant, hn0]; done))) | (refine AW.regionK [] (fun K hK => ?_)) | (refine AW.regionDK [] (pcs [] []) (by kernel_rfl) (by kernel_rfl) (fun K hK => ?_)) | (refine AW.condT ?_ ?_; (focus (simp [aev, hn0]; done))) | (refine AW.condF ?_ ?_; (focus (simp [aev, hn0]; done))) | with_reducible refine AW.block ?_ | ((first | ((first | refine arun_nil ?_ | refine arunD_nil ?_); refine hK _ ?_; clear hK K) | refine AW.skip ?_ | refine AW.exit ?_ | refine AW.ret ?_); simp only [thenA_exit, inBlockA_exit, if_true, if_false, Nat.reduceEqDiff, thenA_normal, inBlockA_normal, reduceIte, thenA_ret, inBlockA_ret, endQ_ret, endR_ret, endG_ret, endQ_normal, endR_normal, endG_normal, endF_ret, endF_normal])))
      refine AW.loopS (fun (ls : List LbI) => mkSt (slots 0 34 [(1, .ptr true 2 1 1 0 0), (2, .ptr true 2 1 2 0 0), (3, .ptr true 2 1 3 0 0), (19, .view .loose 7 (s.1.map itemL)), (20, .int .i64 s.1.length), (21, .int .i64 ls.length)]) [(1, ⟨true, 62, 2, [[.view .loose 7 (s.1.map itemL), .int .i64 s.2]]⟩), (2, ⟨true, 62, 2, [[.view .tight 0 [], .int .i64 0]]⟩), (3, ⟨true, 62, 2, [[.own 16 s.1.length, .int .i64 s.2]]⟩), (16, ⟨false, 116, 7, partJ ls s.1.length⟩)] [1, 2, 3, 16] (rd0.map fun _ => 0)) (fun ls => s.1.length - ls.length) (fun ls => ls.map itD = s.1.take ls.length ∧ ls.length ≤ s.1.length ∧ (ls.flatMap itP).Nodup ∧ ∀ b ∈ ls.flatMap itP, w0.wd.heap.size ≤ b) [] ?_ ⟨rfl, Nat.zero_le _, List.nodup_nil, fun b hb => by cases hb⟩ ?_
      · have hin : ∀ U : Nat → Bool, ∀ e ∈ partJ [] s.1.length, ∀ c ∈ e, AV.In U c := fun U => partJ_in _ _
        have e0 : partJ [] s.1.length = List.replicate s.1.length zeroI := rfl
        rw [e0] at hin ⊢
        exact (less_of (by simp [lessL, mkSt, slots, zeroI, itemA, itemL_eq, storeA, storeT, storeO, itemsRow]) (by simp [upd, mkSt, rowsOf_cons, zeroI, itemA, itemL_eq, storeA, storeT, storeO, itemsRow]) (by simp [upd, mkSt, usedOf_cons, zeroI, itemA, itemL_eq, storeA, storeT, storeO, itemsRow]) (by first | exact rd_less (by omega) | simp [mkSt, zeroI, itemA, itemL_eq, storeA, storeT, storeO, itemsRow]) (by simp [slots, in_any, in_int, in_bool, in_str, in_ptr, in_own, in_agg, in_vnil, in_rdr, usedOf_cons, usedOf_nil, strs_in, ints_in, nodes_in, items_in, in_tup, zeroI, itemA, itemL_eq, storeA, storeT, storeO, itemsRow]) (by simp only [List.forall_mem_cons, List.not_mem_nil, false_implies, implies_true, and_true, true_and, zeroI, itemA, itemL_eq, storeA, storeT, storeO, itemsRow]; (repeat (first | with_reducible exact trivial | with_reducible refine And.intro ?_ ?_ | with_reducible exact in_int | with_reducible exact in_str | with_reducible exact in_bool | with_reducible exact strs_in _ | with_reducible exact nodes_in _ | with_reducible exact items_in _ | with_reducible exact in_vnil | with_reducible exact in_any | exact hin _ | with_reducible refine take_in ?_ | with_reducible exact strsE_in _ | with_reducible exact nodesE_in _ | with_reducible exact nodeL_in _ | with_reducible exact itemsE_in _ | with_reducible exact itemL_in _ | with_reducible refine app_in ?_ ?_ | with_reducible refine sing_in ?_ | (focus (simp [in_any, in_int, in_bool, in_str, in_ptr, in_own, in_agg, in_vnil, in_rdr, usedOf_cons, usedOf_nil, strs_in, ints_in, nodes_in, items_in, zeroI, itemA, itemL_eq, storeA, storeT, storeO, itemsRow]; done)))); done))
      · rintro ls ⟨hnd, hi, hnp, hge⟩
        have hpl := partJ_len ls s.1.length hi
        by_cases hlt : ls.length < s.1.length
        · have hw : IntKind.i64.wrap ((ls.length : Int) + 1) = ((ls.length + 1 : Nat) : Int) := by rw [i64_nat (by omega) (by omega)]; simp
          have hgd := partJ_get ls s.1.length hlt
          unfold zeroI at hgd
          have hik := copyItem_ACF s.1[ls.length] (hs2 _ (List.getElem_mem hlt))
          have hck := item_clo s.1[ls.length]
          unfold itemA at hik hck
          rw [itemL_eq s.1[ls.length]] at hik hck
          have x1 : (s.1.map itemL)[ls.length]? = some [.str s.1[ls.length].1, .int .i64 s.1[ls.length].2.1, .int .i64 s.1[ls.length].2.2.kind, .int .i64 s.1[ls.length].2.2.num, .str s.1[ls.length].2.2.text, .view .loose 1 (strsE s.1[ls.length].2.2.names), .view .loose 5 (s.1[ls.length].2.2.kids.map nodeL)] := by rw [List.getElem?_map, List.getElem?_eq_getElem hlt, ← itemL_eq]; rfl
          refine AW.noteR 16 (r := ⟨false, 116, 7, partJ ls s.1.length⟩) (by simp [mkSt, rowsOf_cons]) ?_
          refine AW.bound (fun N hNb => ?_)
          (repeat (first | with_reducible refine AW.seq ?_ | ((first | refine arun_kn 4 rfl (fun C hC => ?_) | refine arunD_kn 4 rfl (fun C hC => ?_)); (repeat ((conv => whnf); simp [hlt, hw, hpl, hgd, x1])); refine hC _ ?_; clear hC C; simp only [List.drop, Nat.reduceAdd]) | ((first | refine arun_kn 1 rfl (fun C hC => ?_) | refine arunD_kn 1 rfl (fun C hC => ?_)); (repeat ((conv => whnf); simp [hlt, hw, hpl, hgd, x1])); refine hC _ ?_; clear hC C; simp only [List.drop, Nat.reduceAdd]) | (refine arun_skip ?_ ?_; (focus (simp [awant, hlt, hw, hpl, hgd, x1]; done))) | (refine AW.regionK [] (fun K hK => ?_)) | (refine AW.condT ?_ ?_; (focus (simp [aev, hlt, hw, hpl, hgd, x1]; done))) | (refine AW.condF ?_ ?_; (focus (simp [aev, hlt, hw, hpl, hgd, x1]; done))) | with_reducible refine AW.block ?_ | ((first | ((first | refine arun_nil ?_ | refine arunD_nil ?_); refine hK _ ?_; clear hK K) | refine AW.skip ?_ | refine AW.exit ?_ | refine AW.ret ?_); simp only [thenA_exit, inBlockA_exit, if_true, if_false, Nat.reduceEqDiff, thenA_normal, inBlockA_normal, reduceIte, thenA_ret, inBlockA_ret, endQ_ret, endR_ret, endG_ret, endQ_normal, endR_normal, endG_normal, endF_ret, endF_normal])))
          refine AW.regionDK [] (pcs [(4, 0, fun r => rItX s.1[ls.length] r ∧ ∀ b ∈ atB r, ¬ (w0.note (atE (partJ ls s.1.length))).A b)] []) (by kernel_rfl) (by kernel_rfl) (fun K hK => ?_)
          (repeat (first | with_reducible refine AW.seq ?_ | ((first | refine arun_kn 4 rfl (fun C hC => ?_) | refine arunD_kn 4 rfl (fun C hC => ?_)); (repeat ((conv => whnf); simp [hlt, hw, hpl, hgd, x1])); refine hC _ ?_; clear hC C; simp only [List.drop, Nat.reduceAdd]) | ((first | refine arun_kn 1 rfl (fun C hC => ?_) | refine arunD_kn 1 rfl (fun C hC => ?_)); (repeat ((conv => whnf); simp [hlt, hw, hpl, hgd, x1])); refine hC _ ?_; clear hC C; simp only [List.drop, Nat.reduceAdd]) | (refine arun_skip ?_ ?_; (focus (simp [awant, hlt, hw, hpl, hgd, x1]; done))) | (refine arun_cF (0) (hik) ?_; (rintro _ ⟨l, hl, hlp, rfl⟩ hA)) | (refine arunD_cF (0) (hik) (by exact rItX_ex _ hNb) ?_; (rintro _ ⟨l, hl, hlp, rfl⟩ hA); intro _) | (refine AW.regionK [] (fun K hK => ?_)) | (refine AW.regionDK [] (pcs [] []) (by kernel_rfl) (by kernel_rfl) (fun K hK => ?_)) | (refine AW.condT ?_ ?_; (focus (simp [aev, hlt, hw, hpl, hgd, x1]; done))) | (refine AW.condF ?_ ?_; (focus (simp [aev, hlt, hw, hpl, hgd, x1]; done))) | with_reducible refine AW.block ?_ | ((first | ((first | refine arun_nil ?_ | refine arunD_nil ?_); refine hK _ ?_; clear hK K) | refine AW.skip ?_ | refine AW.exit ?_ | refine AW.ret ?_); simp only [thenA_exit, inBlockA_exit, if_true, if_false, Nat.reduceEqDiff, thenA_normal, inBlockA_normal, reduceIte, thenA_ret, inBlockA_ret, endQ_ret, endR_ret, endG_ret, endQ_normal, endR_normal, endG_normal, endF_ret, endF_normal])))
          have hA' : ∀ b ∈ itP l, ¬ (w0.A b ∨ b ∈ atE (partJ ls s.1.length)) := fun b hb => hA b (by rw [at_agg, ← itF_eq, at_itF]; exact hb)
          have hset := partJ_set ls s.1.length hlt l
          rw [itF_eq] at hset
          have hin : ∀ U : Nat → Bool, ∀ e ∈ partJ (ls ++ [l]) s.1.length, ∀ c ∈ e, AV.In U c := fun U => partJ_in _ _
          have hll : (ls ++ [l]).length = ls.length + 1 := by rw [List.length_append]; rfl
          refine ⟨ls ++ [l], by rw [hll]; omega, ⟨?_, by rw [hll]; omega, nodup_snocI hnp hlp (fun b hb hm => hA' b hb (.inr (by rw [at_partJ]; exact hm))), fun b hb => ?_⟩, ?_⟩
          · rw [hll, List.take_add_one, List.getElem?_eq_getElem hlt, List.map_append, hnd, List.map_cons, List.map_nil, hl]; rfl
          · rw [List.flatMap_append, List.flatMap_cons, List.flatMap_nil, List.append_nil] at hb
            rcases List.mem_append.1 hb with hb | hb
            · exact hge b hb
            · rcases Nat.lt_or_ge b w0.wd.heap.size with h | h
              · exact absurd (.inl (hN.A b h)) (hA' b hb)
              · exact h
          · rw [hll]
            exact (less_of (by simp [lessL, mkSt, slots, hset, itemA, itemL_eq, storeA, storeT, storeO, itemsRow]) (by simp [upd, mkSt, rowsOf_cons, hset, itemA, itemL_eq, storeA, storeT, storeO, itemsRow]) (by simp [upd, mkSt, usedOf_cons, hset, itemA, itemL_eq, storeA, storeT, storeO, itemsRow]) (by first | exact rd_less (by omega) | simp [mkSt, hset, itemA, itemL_eq, storeA, storeT, storeO, itemsRow]) (by simp [slots, in_any, in_int, in_bool, in_str, in_ptr, in_own, in_agg, in_vnil, in_rdr, usedOf_cons, usedOf_nil, strs_in, ints_in, nodes_in, items_in, in_tup, hset, itemA, itemL_eq, storeA, storeT, storeO, itemsRow]) (by simp only [List.forall_mem_cons, List.not_mem_nil, false_implies, implies_true, and_true, true_and, hset, itemA, itemL_eq, storeA, storeT, storeO, itemsRow]; (repeat (first | with_reducible exact trivial | with_reducible refine And.intro ?_ ?_ | with_reducible exact in_int | with_reducible exact in_str | with_reducible exact in_bool | with_reducible exact strs_in _ | with_reducible exact nodes_in _ | with_reducible exact items_in _ | with_reducible exact in_vnil | with_reducible exact in_any | exact hin _ | with_reducible refine take_in ?_ | with_reducible exact strsE_in _ | with_reducible exact nodesE_in _ | with_reducible exact nodeL_in _ | with_reducible exact itemsE_in _ | with_reducible exact itemL_in _ | with_reducible refine app_in ?_ ?_ | with_reducible refine sing_in ?_ | (focus (simp [in_any, in_int, in_bool, in_str, in_ptr, in_own, in_agg, in_vnil, in_rdr, usedOf_cons, usedOf_nil, strs_in, ints_in, nodes_in, items_in, hset, itemA, itemL_eq, storeA, storeT, storeO, itemsRow]; done)))); done))
        · have hl : ls.length = s.1.length := by omega
          have hpa : partJ ls s.1.length = ls.map itF := by unfold partJ; rw [hl, Nat.sub_self]; simp
          rw [hpa, hl]
          (repeat (first | with_reducible refine AW.seq ?_ | ((first | refine arun_kn 4 rfl (fun C hC => ?_) | refine arunD_kn 4 rfl (fun C hC => ?_)); (repeat ((conv => whnf); simp)); refine hC _ ?_; clear hC C; simp only [List.drop, Nat.reduceAdd]) | ((first | refine arun_kn 1 rfl (fun C hC => ?_) | refine arunD_kn 1 rfl (fun C hC => ?_)); (repeat ((conv => whnf); simp)); refine hC _ ?_; clear hC C; simp only [List.drop, Nat.reduceAdd]) | (refine arun_skip ?_ ?_; (focus (simp [awant]; done))) | (refine AW.regionK [] (fun K hK => ?_)) | (refine AW.regionDK [] (pcs [] []) (by kernel_rfl) (by kernel_rfl) (fun K hK => ?_)) | (refine AW.condT ?_ ?_; (focus (simp [aev]; done))) | (refine AW.condF ?_ ?_; (focus (simp [aev]; done))) | with_reducible refine AW.block ?_ | ((first | ((first | refine arun_nil ?_ | refine arunD_nil ?_); refine hK _ ?_; clear hK K) | refine AW.skip ?_ | refine AW.exit ?_ | refine AW.ret ?_); simp only [thenA_exit, inBlockA_exit, if_true, if_false, Nat.reduceEqDiff, thenA_normal, inBlockA_normal, reduceIte, thenA_ret, inBlockA_ret, endQ_ret, endR_ret, endG_ret, endQ_normal, endR_normal, endG_normal, endF_ret, endF_normal])))
          refine ⟨ls, ⟨by rw [hnd, hl, List.take_of_length_le (Nat.le_refl _)], hnp, hge⟩, ?_⟩
          have hin : ∀ U : Nat → Bool, ∀ e ∈ ls.map itF, ∀ c ∈ e, AV.In U c := fun U => itsF_in _
          exact (less_of (by simp [lessL, mkSt, slots, itsR, itemA, itemL_eq, storeA, storeT, storeO, itemsRow]) (by simp [upd, mkSt, rowsOf_cons, itsR, itemA, itemL_eq, storeA, storeT, storeO, itemsRow]) (by simp [upd, mkSt, usedOf_cons, itsR, itemA, itemL_eq, storeA, storeT, storeO, itemsRow]) (by first | exact rd_less (by omega) | simp [mkSt, itsR, itemA, itemL_eq, storeA, storeT, storeO, itemsRow]) (by simp [slots, in_any, in_int, in_bool, in_str, in_ptr, in_own, in_agg, in_vnil, in_rdr, usedOf_cons, usedOf_nil, strs_in, ints_in, nodes_in, items_in, in_tup, itsR, itemA, itemL_eq, storeA, storeT, storeO, itemsRow]) (by simp only [List.forall_mem_cons, List.not_mem_nil, false_implies, implies_true, and_true, true_and, itsR, itemA, itemL_eq, storeA, storeT, storeO, itemsRow]; (repeat (first | with_reducible exact trivial | with_reducible refine And.intro ?_ ?_ | with_reducible exact in_int | with_reducible exact in_str | with_reducible exact in_bool | with_reducible exact strs_in _ | with_reducible exact nodes_in _ | with_reducible exact items_in _ | with_reducible exact in_vnil | with_reducible exact in_any | exact hin _ | with_reducible refine take_in ?_ | with_reducible exact strsE_in _ | with_reducible exact nodesE_in _ | with_reducible exact nodeL_in _ | with_reducible exact itemsE_in _ | with_reducible exact itemL_in _ | with_reducible refine app_in ?_ ?_ | with_reducible refine sing_in ?_ | (focus (simp [in_any, in_int, in_bool, in_str, in_ptr, in_own, in_agg, in_vnil, in_rdr, usedOf_cons, usedOf_nil, strs_in, ints_in, nodes_in, items_in, itsR, itemA, itemL_eq, storeA, storeT, storeO, itemsRow]; done)))); done))
    · have hl0 : s.1.length = 0 := by omega
      have he0 : s.1 = [] := List.length_eq_zero_iff.1 hl0
      refine AW.adoptB 3 0 16 116 7 ⟨_, tab116, rfl⟩ (by simp [upd]; rfl) rfl rfl (by simp [upd]) ?_
      simp only [ASt.adoptB]
      (repeat (first | with_reducible refine AW.seq ?_ | ((first | refine arun_kn 4 rfl (fun C hC => ?_) | refine arunD_kn 4 rfl (fun C hC => ?_)); (repeat ((conv => whnf); simp [hl0])); refine hC _ ?_; clear hC C; simp only [List.drop, Nat.reduceAdd]) | ((first | refine arun_kn 1 rfl (fun C hC => ?_) | refine arunD_kn 1 rfl (fun C hC => ?_)); (repeat ((conv => whnf); simp [hl0])); refine hC _ ?_; clear hC C; simp only [List.drop, Nat.reduceAdd]) | (refine arun_skip ?_ ?_; (focus (simp [awant, hl0]; done))) | (refine AW.regionK [] (fun K hK => ?_)) | (refine AW.regionDK [] (pcs [] []) (by kernel_rfl) (by kernel_rfl) (fun K hK => ?_)) | (refine AW.condT ?_ ?_; (focus (simp [aev, hl0]; done))) | (refine AW.condF ?_ ?_; (focus (simp [aev, hl0]; done))) | with_reducible refine AW.block ?_ | ((first | ((first | refine arun_nil ?_ | refine arunD_nil ?_); refine hK _ ?_; clear hK K) | refine AW.skip ?_ | refine AW.exit ?_ | refine AW.ret ?_); simp only [thenA_exit, inBlockA_exit, if_true, if_false, Nat.reduceEqDiff, thenA_normal, inBlockA_normal, reduceIte, thenA_ret, inBlockA_ret, endQ_ret, endR_ret, endG_ret, endQ_normal, endR_normal, endG_normal, endF_ret, endF_normal])))
      exact ⟨[], ⟨by rw [he0]; rfl, List.nodup_nil, fun b hb => by cases hb⟩, (less_of (by simp [lessL, mkSt, slots, itsR, he0, itemA, itemL_eq, storeA, storeT, storeO, itemsRow]) (by simp [upd, mkSt, rowsOf_cons, itsR, he0, itemA, itemL_eq, storeA, storeT, storeO, itemsRow]) (by simp [upd, mkSt, usedOf_cons, itsR, he0, itemA, itemL_eq, storeA, storeT, storeO, itemsRow]) (by first | exact rd_less (by omega) | simp [mkSt, itsR, he0, itemA, itemL_eq, storeA, storeT, storeO, itemsRow]) (by simp [slots, in_any, in_int, in_bool, in_str, in_ptr, in_own, in_agg, in_vnil, in_rdr, usedOf_cons, usedOf_nil, strs_in, ints_in, nodes_in, items_in, in_tup, itsR, he0, itemA, itemL_eq, storeA, storeT, storeO, itemsRow]) (by simp only [List.forall_mem_cons, List.not_mem_nil, false_implies, implies_true, and_true, true_and, itsR, he0, itemA, itemL_eq, storeA, storeT, storeO, itemsRow]; (repeat (first | with_reducible exact trivial | with_reducible refine And.intro ?_ ?_ | with_reducible exact in_int | with_reducible exact in_str | with_reducible exact in_bool | with_reducible exact strs_in _ | with_reducible exact nodes_in _ | with_reducible exact items_in _ | with_reducible exact in_vnil | with_reducible exact in_any | exact hin _ | with_reducible refine take_in ?_ | with_reducible exact strsE_in _ | with_reducible exact nodesE_in _ | with_reducible exact nodeL_in _ | with_reducible exact itemsE_in _ | with_reducible exact itemL_in _ | with_reducible refine app_in ?_ ?_ | with_reducible refine sing_in ?_ | (focus (simp [in_any, in_int, in_bool, in_str, in_ptr, in_own, in_agg, in_vnil, in_rdr, usedOf_cons, usedOf_nil, strs_in, ints_in, nodes_in, items_in, itsR, he0, itemA, itemL_eq, storeA, storeT, storeO, itemsRow]; done)))); done))⟩
  rintro ks s' ⟨hk1, hk2, hk3⟩ hls
  refine AW.less _ hls ?_
  clear hls s'
  (repeat (first | with_reducible refine AW.seq ?_ | ((first | refine arun_kn 4 rfl (fun C hC => ?_) | refine arunD_kn 4 rfl (fun C hC => ?_)); (repeat ((conv => whnf); simp)); refine hC _ ?_; clear hC C; simp only [List.drop, Nat.reduceAdd]) | ((first | refine arun_kn 1 rfl (fun C hC => ?_) | refine arunD_kn 1 rfl (fun C hC => ?_)); (repeat ((conv => whnf); simp)); refine hC _ ?_; clear hC C; simp only [List.drop, Nat.reduceAdd]) | (refine arun_skip ?_ ?_; (focus (simp [awant]; done))) | (refine AW.regionK [] (fun K hK => ?_)) | (refine AW.regionDK [] (pcs [] []) (by kernel_rfl) (by kernel_rfl) (fun K hK => ?_)) | (refine AW.condT ?_ ?_; (focus (simp [aev]; done))) | (refine AW.condF ?_ ?_; (focus (simp [aev]; done))) | with_reducible refine AW.block ?_ | ((first | ((first | refine arun_nil ?_ | refine arunD_nil ?_); refine hK _ ?_; clear hK K) | refine AW.skip ?_ | refine AW.exit ?_ | refine AW.ret ?_); simp only [thenA_exit, inBlockA_exit, if_true, if_false, Nat.reduceEqDiff, thenA_normal, inBlockA_normal, reduceIte, thenA_ret, inBlockA_ret, endQ_ret, endR_ret, endG_ret, endQ_normal, endR_normal, endG_normal, endF_ret, endF_normal])))
  refine ⟨.agg [.own 16 s.1.length, .int .i64 s.2], [(16, itsR ks)], by simp [ares, aresL, upd, rowsOf_cons], by simp [mkSt, upd, rowsOf_cons], ?_, ?_, ?_, ⟨ks, hk1, hk2, rfl, rfl⟩, ?_⟩
  · refine purR_agg ?_
    simp only [List.forall_mem_cons, List.not_mem_nil, false_implies, implies_true, and_true]
    exact ⟨purR_own, pur_int.purR⟩
  · simp only [List.forall_mem_cons, List.not_mem_nil, false_implies, implies_true, and_true]
    exact fun e he c hc => (itsF_pur _ e he c hc).purR
  · refine ⟨by simp [in_agg, in_int, in_own, rowsOf_cons], ?_⟩
    simp only [List.forall_mem_cons, List.not_mem_nil, false_implies, implies_true, and_true]
    exact fun e he c hc => itsF_in _ e he c hc
  · intro b hb
    rcases hb with hb | ⟨p, hp, hb⟩
    · simp [at_agg, atL_cons, atL_nil, at_int, at_own] at hb
    · rw [List.mem_singleton.1 hp] at hb
      refine hk3 b ?_
      rw [← atE_itsF]; exact hb
theorem Wk.viewS {t : VC} {sz : Nat} {es ds : List (List AV)} (he : WkE es ds) : Wk (.view t sz es) (.view t sz ds) := fun _ ρ _ hr => by
  obtain ⟨a, c, h1, h2, h3, h4, h5, h6⟩ := rep_view.1 hr
  refine rep_view.2 ⟨a, c, by rw [he.length]; exact h1, by rw [he.length]; exact h2, by rw [he.length]; exact h3, by rw [he.length]; exact h4, he.sz h5, ?_⟩
  rcases h6 with rfl | ⟨b, o, k1, k2, k3⟩
  · cases he; exact .inl rfl
  · exact .inr ⟨b, o, k1, k2, he.rows k3⟩
theorem findItemF_AC (l : List LbI) (t : VC) (nm : ByteArray) (hasc : Asc (nmL (l.map itD))) (hb : l.length ≤ 1000000) : AC Try.prog 116 [.view t 7 (l.map itF), .str nm] 0 (fun r => r = .tup [.int .i64 (lbound (nmL (l.map itD)) nm : Nat), .bool (mem (nmL (l.map itD)) nm)]) :=
  AC.arg (findItem_AC (l.map itD) t nm hasc (by rw [List.length_map]; exact hb)) (.cons (Wk.viewS (itsF_wk l)) (.cons (Wk.refl _) .nil))
theorem nmD_len (l : List LbI) : (nmL (l.map itD)).length = l.length := by rw [nmL_len, List.length_map]
def putJ (l : List LbI) (it : LbI) : List LbI := if mem (nmL (l.map itD)) it.1 then l.set (lbound (nmL (l.map itD)) it.1) it else l.take (lbound (nmL (l.map itD)) it.1) ++ (it :: l.drop (lbound (nmL (l.map itD)) it.1))
theorem putJ_D (l : List LbI) (it : LbI) : (putJ l it).map itD = putI (l.map itD) (itD it) := by
  unfold putJ putI
  show _ = if mem (nmL (l.map itD)) it.1 = true then _ else _
  split
  · rw [List.map_set]; rfl
  · rw [List.map_append, List.map_cons, List.map_take, List.map_drop]; rfl
theorem fpSubI {ks ks' : List LbI} (h : ks'.Sublist ks) : (ks'.flatMap itP).Sublist (ks.flatMap itP) := by
  induction h with
  | slnil => exact List.Sublist.refl _
  | cons a _ ih => rw [List.flatMap_cons]; exact ih.trans (List.sublist_append_right _ _)
  | cons_cons a _ ih => rw [List.flatMap_cons, List.flatMap_cons]; exact (List.Sublist.refl _).append ih
theorem fp_insI {ks : List LbI} {l : LbI} (k : Nat) : ((ks.take k ++ (l :: ks.drop k)).flatMap itP).Perm (itP l ++ ks.flatMap itP) := by
  have h : (ks.take k ++ (l :: ks.drop k)).Perm (l :: ks) := by
    have := List.perm_middle (a := l) (l₁ := ks.take k) (l₂ := ks.drop k)
    rwa [List.take_append_drop] at this
  have := h.flatMap_right itP
  rwa [List.flatMap_cons] at this
theorem fp_setI {ks : List LbI} {l : LbI} (k : Nat) (h : (ks.flatMap itP).Nodup) (hl : (itP l).Nodup) (ha : ∀ b ∈ itP l, ¬ b ∈ ks.flatMap itP) : ((ks.set k l).flatMap itP).Nodup := by
  rcases Nat.lt_or_ge k ks.length with hk | hk
  · rw [List.set_eq_take_append_cons_drop, if_pos hk]
    have hs := fpSubI (tdSubJ ks k)
    have hp : ((ks.take k ++ (l :: ks.drop (k + 1))).flatMap itP).Perm (itP l ++ (ks.take k ++ ks.drop (k + 1)).flatMap itP) := by
      have h : (ks.take k ++ (l :: ks.drop (k + 1))).Perm (l :: (ks.take k ++ ks.drop (k + 1))) := List.perm_middle
      have := h.flatMap_right itP
      rwa [List.flatMap_cons] at this
    rw [hp.nodup_iff]
    exact List.nodup_append.2 ⟨hl, h.sublist hs, fun a h1 b h2 e => ha a h1 (hs.subset (e ▸ h2))⟩
  · rw [List.set_eq_of_length_le hk]; exact h
theorem putJ_fp {l : List LbI} {it : LbI} (h : (l.flatMap itP).Nodup) (hv : (itP it).Nodup) (ha : ∀ b ∈ itP it, ¬ b ∈ l.flatMap itP) : ((putJ l it).flatMap itP).Nodup := by
  unfold putJ
  split
  · exact fp_setI _ h hv ha
  · rw [(fp_insI _).nodup_iff]
    exact List.nodup_append.2 ⟨hv, h, fun a h1 b h2 e => ha a h1 (e ▸ h2)⟩
theorem putJ_mem {l : List LbI} {it : LbI} {b : Nat} (h : b ∈ (putJ l it).flatMap itP) : b ∈ l.flatMap itP ∨ b ∈ itP it := by
  unfold putJ at h
  split at h
  · obtain ⟨y, hy, hb⟩ := List.mem_flatMap.1 h
    rcases List.mem_or_eq_of_mem_set hy with hy | rfl
    · exact .inl (List.mem_flatMap.2 ⟨y, hy, hb⟩)
    · exact .inr hb
  · rw [(fp_insI _).mem_iff, List.mem_append] at h
    exact h.symm
theorem putAtF_ACG (l : List LbI) (it : LbI) (hasc : Asc (nmL (l.map itD))) (hb : l.length ≤ 1000) : ACG Try.prog 89 [.own 1000 l.length, .agg (itF it)] [(1000, itsR l)] 0 (Post1 (fun k => .own k (putJ l it).length) (itsR (putJ l it))) := by
  have hml : (l.map itF).length = l.length := List.length_map _
  unfold itsR
  rw [itF_eq]
  refine ACG.of tab_ok mixed_ok Try.func89 (by rfl) (by kernel_rfl) (by simp) ?_; rintro ⟨P, T, hT, hm, w0, S0, rd0, k0⟩ hP hTT; dsimp only at hP hTT; subst hP hTT; unfold initStG; rw [Try.ntmps89]
  have hle := lb_le (nmL (l.map itD)) it.1
  rw [nmD_len] at hle
  have pf := findItemF_AC l .lent it.1 hasc (by omega)
  have hcl : ∀ e ∈ l.map itF, ∀ c ∈ e, Clo c := fun e he c hc => (itsF_pur l e he c hc).clo
  cases hm : mem (nmL (l.map itD)) it.1 with
  | true =>
    have hlt := lb_lt hm
    rw [nmD_len] at hlt
    have hput : putJ l it = l.set (lbound (nmL (l.map itD)) it.1) it := by unfold putJ; rw [hm]; rfl
    rw [hput]
    have hset : (l.map itF).set (lbound (nmL (l.map itD)) it.1) (itF it) = (l.set (lbound (nmL (l.map itD)) it.1) it).map itF := by rw [List.map_set]
    rw [itF_eq it] at hset
    rw [hm] at pf
    generalize lbound (nmL (l.map itD)) it.1 = lb at *
    have hdr : ∀ x : LbI, (itF x).drop 7 = [] := fun x => List.drop_of_length_le (by rw [itF_len]; exact Nat.le_refl _)
    (repeat (first | with_reducible refine AW.seq ?_ | ((first | refine arun_kn 4 rfl (fun C hC => ?_) | refine arunD_kn 4 rfl (fun C hC => ?_)); (repeat ((conv => whnf); simp [hml, hlt, hdr])); refine hC _ ?_; clear hC C; simp only [List.drop, Nat.reduceAdd]) | ((first | refine arun_kn 1 rfl (fun C hC => ?_) | refine arunD_kn 1 rfl (fun C hC => ?_)); (repeat ((conv => whnf); simp [hml, hlt, hdr])); refine hC _ ?_; clear hC C; simp only [List.drop, Nat.reduceAdd]) | (refine arun_skip ?_ ?_; (focus (simp [awant, hml, hlt, hdr]; done))) | (refine arun_cL (0) (pf) ?_; rintro _ rfl) | (refine AW.regionK [] (fun K hK => ?_)) | (refine AW.regionDK [] (pcs [] []) (by kernel_rfl) (by kernel_rfl) (fun K hK => ?_)) | (refine AW.condT ?_ ?_; (focus (simp [aev, hml, hlt, hdr]; done))) | (refine AW.condF ?_ ?_; (focus (simp [aev, hml, hlt, hdr]; done))) | with_reducible refine AW.block ?_ | ((first | ((first | refine arun_nil ?_ | refine arunD_nil ?_); refine hK _ ?_; clear hK K) | refine AW.skip ?_ | refine AW.exit ?_ | refine AW.ret ?_); simp only [thenA_exit, inBlockA_exit, if_true, if_false, Nat.reduceEqDiff, thenA_normal, inBlockA_normal, reduceIte, thenA_ret, inBlockA_ret, endQ_ret, endR_ret, endG_ret, endQ_normal, endR_normal, endG_normal, endF_ret, endF_normal])))
    refine ⟨.own 1000 l.length, [(1000, ⟨false, 116, 7, (l.set lb it).map itF⟩)], rfl, (fun p hp => by rw [List.mem_singleton.1 hp]; dsimp only; rw [upd_same, hset]), purR_own, ?_, ?_, 1000, by rw [List.length_set], rfl⟩
    · simp only [List.forall_mem_cons, List.not_mem_nil, false_implies, implies_true, and_true]
      exact fun e he c hc => (itsF_pur _ e he c hc).purR
    · refine ⟨by simp [in_own, rowsOf_cons], ?_⟩
      simp only [List.forall_mem_cons, List.not_mem_nil, false_implies, implies_true, and_true]
      exact fun e he c hc => itsF_in _ e he c hc
  | false =>
    have hput : putJ l it = l.take (lbound (nmL (l.map itD)) it.1) ++ (it :: l.drop (lbound (nmL (l.map itD)) it.1)) := by unfold putJ; rw [hm]; rfl
    rw [hput]
    rw [hm] at pf
    generalize lbound (nmL (l.map itD)) it.1 = lb at *
    (repeat (first | with_reducible refine AW.seq ?_ | ((first | refine arun_knb 4 rfl (fun C hC => ?_) | refine arunD_kn 4 rfl (fun C hC => ?_)); (repeat ((conv => whnf); simp [hml])); refine hC _ ?_; clear hC C; simp only [List.drop, Nat.reduceAdd]) | ((first | refine arun_knb 1 rfl (fun C hC => ?_) | refine arunD_kn 1 rfl (fun C hC => ?_)); (repeat ((conv => whnf); simp [hml])); refine hC _ ?_; clear hC C; simp only [List.drop, Nat.reduceAdd]) | (refine arun_skip ?_ ?_; (focus (simp [awant, hml]; done))) | (refine arun_cL (0) (pf) ?_; rintro _ rfl) | (refine AW.regionK [] (fun K hK => ?_)) | (refine AW.regionDK [] (pcs [] []) (by kernel_rfl) (by kernel_rfl) (fun K hK => ?_)) | (refine AW.condT ?_ ?_; (focus (simp [aev, hml]; done))) | (refine AW.condF ?_ ?_; (focus (simp [aev, hml]; done))) | with_reducible refine AW.block ?_ | ((first | ((first | refine arun_nil ?_ | refine arunD_nil ?_); refine hK _ ?_; clear hK K) | refine AW.skip ?_ | refine AW.exit ?_ | refine AW.ret ?_); simp only [thenA_exit, inBlockA_exit, if_true, if_false, Nat.reduceEqDiff, thenA_normal, inBlockA_normal, reduceIte, thenA_ret, inBlockA_ret, endQ_ret, endR_ret, endG_ret, endQ_normal, endR_normal, endG_normal, endF_ret, endF_normal])))
    refine arun_ownSlice 23 rfl (by simp [awant]) tab60 (by simp; exact ⟨rfl, rfl⟩) (by simp [upd]) ?_
    have hins := insI_ACG (l.map itF) (itF it) lb (by rw [hml]; exact hle) (by rw [hml]; omega) (itsF_pur l) (itF_pur it)
    rw [hml] at hins
    have hes : (l.map itF).take lb ++ (itF it :: (l.map itF).drop lb) = (l.take lb ++ (it :: l.drop lb)).map itF := by rw [List.map_append, List.map_cons, List.map_take, List.map_drop]
    have hln : (l.take lb ++ (it :: l.drop lb)).length = l.length + 1 := by rw [List.length_append, List.length_cons, List.length_take, List.length_drop]; omega
    rw [hes] at hins
    refine arun_callG1 (g := fun k => .own k (l.length + 1)) (R := itsR (l.take lb ++ (it :: l.drop lb))) [(1000, ⟨false, 116, 7, l.map itF⟩), (1001, ⟨false, 116, 7, [itF it]⟩)] (fun k => if k = 1000 then 1000 else 23) 24 (by simp [awant]) rfl (hins.mono (fun r b h => ⟨1, h⟩)) (by simp) ?_ ?_ (can_of (Nat.le_refl _)) (by simp [upd]) (itsF_pur _) (fun k => .base (.base (.own (by simp) rfl))) ?_
    · refine MvR.same (by simp [upd, rowsOf_cons]) (fun e he c hc => (itsF_pur l e he c hc).clo) (MvR.same (by simp [upd, itF_eq]) (fun e he c hc => ?_) MvR.nil)
      rw [List.mem_singleton.1 he] at hc
      exact (itF_pur it c hc).clo
    · exact .cons (.base (.own (by simp) (by simp))) (.cons (.base (.clo (Clo.cloTo clo_int))) (.cons (.base (.own (by simp) (by simp))) .nil))
    (repeat (first | with_reducible refine AW.seq ?_ | ((first | refine arun_kn 4 rfl (fun C hC => ?_) | refine arunD_kn 4 rfl (fun C hC => ?_)); (repeat ((conv => whnf); simp)); refine hC _ ?_; clear hC C; simp only [List.drop, Nat.reduceAdd]) | ((first | refine arun_kn 1 rfl (fun C hC => ?_) | refine arunD_kn 1 rfl (fun C hC => ?_)); (repeat ((conv => whnf); simp)); refine hC _ ?_; clear hC C; simp only [List.drop, Nat.reduceAdd]) | (refine arun_skip ?_ ?_; (focus (simp [awant]; done))) | (refine AW.regionK [] (fun K hK => ?_)) | (refine AW.regionDK [] (pcs [] []) (by kernel_rfl) (by kernel_rfl) (fun K hK => ?_)) | (refine AW.condT ?_ ?_; (focus (simp [aev]; done))) | (refine AW.condF ?_ ?_; (focus (simp [aev]; done))) | with_reducible refine AW.block ?_ | ((first | ((first | refine arun_nil ?_ | refine arunD_nil ?_); refine hK _ ?_; clear hK K) | refine AW.skip ?_ | refine AW.exit ?_ | refine AW.ret ?_); simp only [thenA_exit, inBlockA_exit, if_true, if_false, Nat.reduceEqDiff, thenA_normal, inBlockA_normal, reduceIte, thenA_ret, inBlockA_ret, endQ_ret, endR_ret, endG_ret, endQ_normal, endR_normal, endG_normal, endF_ret, endF_normal])))
    refine ⟨.own 24 (l.length + 1), [(24, itsR (l.take lb ++ (it :: l.drop lb)))], rfl, (fun p hp => by rw [List.mem_singleton.1 hp]; simp [upd]), purR_own, ?_, ?_, 24, by rw [hln], rfl⟩
    · simp only [List.forall_mem_cons, List.not_mem_nil, false_implies, implies_true, and_true]
      exact fun e he c hc => (itsF_pur _ e he c hc).purR
    · refine ⟨by simp [in_own, rowsOf_cons], ?_⟩
      simp only [List.forall_mem_cons, List.not_mem_nil, false_implies, implies_true, and_true]
      exact fun e he c hc => itsF_in _ e he c hc
theorem back_itsF {s : ASt} {ks : List LbI} {n : Nat} {z : Int} {A : Nat} (uA : s.used A = false) : Back s [] (fun _ => 0) (fun _ => A) [(16, itsR ks)] [(A, itsR ks)] (.agg [.own 16 n, .int .i64 z]) (.agg [.own A n, .int .i64 z]) := by
  refine ⟨?_, ?_, ?_, ?_⟩
  · intro k hk k' hk'
    simp only [List.map_cons, List.map_nil, List.mem_cons, List.not_mem_nil, or_false] at hk hk'
    rw [hk, hk']; exact fun _ => rfl
  · intro k R hk
    right
    exact uA
  · exact .cons (es := (itsR ks).es) rfl (.refl (itsF_pur _)) .nil
  · exact .base (.agg (.cons (.own (by simp) rfl) (.cons (.pur pur_int) .nil)))
theorem implDrop_ACF (s : Sto) (nm : ByteArray) : ACF Try.prog 52 [storeA s, .str nm] 0 (rSB (okS (dropOk s nm) (dropS s nm)) (dropOk s nm)) := by
  refine ACF.weak ?_
  unfold storeA storeT
  refine ACF.of tab_ok mixed_ok Try.func52 (by rfl) (by kernel_rfl) ?_; rintro ⟨P, T, hT, hm, w0, S0, rd0, k0⟩ hP hTT hN; dsimp only at hP hTT hN; subst hP hTT; dsimp only; unfold initSt; rw [Try.ntmps52]
  cases h1 : storeB s
  · have e : dropOk s nm = false := by simp [dropOk, h1]
    rw [e]
    (repeat (first | with_reducible refine AW.seq ?_ | ((first | refine arun_kn 4 rfl (fun C hC => ?_) | refine arunD_kn 4 rfl (fun C hC => ?_)); (repeat ((conv => whnf); simp [h1])); refine hC _ ?_; clear hC C; simp only [List.drop, Nat.reduceAdd]) | ((first | refine arun_kn 1 rfl (fun C hC => ?_) | refine arunD_kn 1 rfl (fun C hC => ?_)); (repeat ((conv => whnf); simp [h1])); refine hC _ ?_; clear hC C; simp only [List.drop, Nat.reduceAdd]) | (refine arun_skip ?_ ?_; (focus (simp [awant, h1]; done))) | (refine arun_c0 (ValidStore_AC s .loose) ?_; rintro _ rfl) | (refine AW.regionK [] (fun K hK => ?_)) | (refine AW.regionDK [] (pcs [] []) (by kernel_rfl) (by kernel_rfl) (fun K hK => ?_)) | (refine AW.condT ?_ ?_; (focus (simp [aev, h1]; done))) | (refine AW.condF ?_ ?_; (focus (simp [aev, h1]; done))) | with_reducible refine AW.block ?_ | ((first | ((first | refine arun_nil ?_ | refine arunD_nil ?_); refine hK _ ?_; clear hK K) | refine AW.skip ?_ | refine AW.exit ?_ | refine AW.ret ?_); simp only [thenA_exit, inBlockA_exit, if_true, if_false, Nat.reduceEqDiff, thenA_normal, inBlockA_normal, reduceIte, thenA_ret, inBlockA_ret, endQ_ret, endR_ret, endG_ret, endQ_normal, endR_normal, endG_normal, endF_ret, endF_normal])))
    obtain ⟨z1, z2, z3⟩ := rSB_none (r := .tup [.agg [.view .tight 0 [], .int .i64 0], .bool false]) rfl
    exact ⟨.tup [.agg [.view .tight 0 [], .int .i64 0], .bool false], by simp [ares, aresL, upd, rowsOf_cons], z1, z2 _, z3⟩
  obtain ⟨q0, q1, q2, _⟩ := storeB_parts h1
  have hasc := storeB_asc h1
  cases h2 : s.2 == 999
  rotate_left
  · have he : s.2 = 999 := by simpa using h2
    have e : dropOk s nm = false := by simp [dropOk, h2]
    rw [e]
    (repeat (first | with_reducible refine AW.seq ?_ | ((first | refine arun_kn 4 rfl (fun C hC => ?_) | refine arunD_kn 4 rfl (fun C hC => ?_)); (repeat ((conv => whnf); simp [h1, h2, he])); refine hC _ ?_; clear hC C; simp only [List.drop, Nat.reduceAdd]) | ((first | refine arun_kn 1 rfl (fun C hC => ?_) | refine arunD_kn 1 rfl (fun C hC => ?_)); (repeat ((conv => whnf); simp [h1, h2, he])); refine hC _ ?_; clear hC C; simp only [List.drop, Nat.reduceAdd]) | (refine arun_skip ?_ ?_; (focus (simp [awant, h1, h2, he]; done))) | (refine arun_c0 (hx := by (simp [h1, h2, he] <;> fail)) (ValidStore_AC s .loose) ?_; rintro _ rfl) | (refine AW.regionK [] (fun K hK => ?_)) | (refine AW.regionDK [] (pcs [] []) (by kernel_rfl) (by kernel_rfl) (fun K hK => ?_)) | (refine AW.condT ?_ ?_; (focus (simp [aev, h1, h2, he]; done))) | (refine AW.condF ?_ ?_; (focus (simp [aev, h1, h2, he]; done))) | with_reducible refine AW.block ?_ | ((first | ((first | refine arun_nil ?_ | refine arunD_nil ?_); refine hK _ ?_; clear hK K) | refine AW.skip ?_ | refine AW.exit ?_ | refine AW.ret ?_); simp only [thenA_exit, inBlockA_exit, if_true, if_false, Nat.reduceEqDiff, thenA_normal, inBlockA_normal, reduceIte, thenA_ret, inBlockA_ret, endQ_ret, endR_ret, endG_ret, endQ_normal, endR_normal, endG_normal, endF_ret, endF_normal])))
    obtain ⟨z1, z2, z3⟩ := rSB_none (r := .tup [.agg [.view .tight 0 [], .int .i64 0], .bool false]) rfl
    exact ⟨.tup [.agg [.view .tight 0 [], .int .i64 0], .bool false], by simp [ares, aresL, upd, rowsOf_cons], z1, z2 _, z3⟩
  have hne : ¬ s.2 = 999 := by simpa using h2
  have hf := findI_mem s nm
  cases h3 : mem (nmL s.1) nm
  · rw [h3] at hf
    have e : dropOk s nm = false := by simp only [dropOk, h1, hf]; rfl
    rw [e]
    (repeat (first | with_reducible refine AW.seq ?_ | ((first | refine arun_kn 4 rfl (fun C hC => ?_) | refine arunD_kn 4 rfl (fun C hC => ?_)); (repeat ((conv => whnf); simp [h1, h2, hne, h3])); refine hC _ ?_; clear hC C; simp only [List.drop, Nat.reduceAdd]) | ((first | refine arun_kn 1 rfl (fun C hC => ?_) | refine arunD_kn 1 rfl (fun C hC => ?_)); (repeat ((conv => whnf); simp [h1, h2, hne, h3])); refine hC _ ?_; clear hC C; simp only [List.drop, Nat.reduceAdd]) | (refine arun_skip ?_ ?_; (focus (simp [awant, h1, h2, hne, h3]; done))) | (refine arun_c0 (ValidStore_AC s .loose) ?_; rintro _ rfl) | (refine arun_c0 (findItem_AC s.1 .loose nm hasc (by omega)) ?_; rintro _ rfl) | (refine AW.regionK [] (fun K hK => ?_)) | (refine AW.regionDK [] (pcs [] []) (by kernel_rfl) (by kernel_rfl) (fun K hK => ?_)) | (refine AW.condT ?_ ?_; (focus (simp [aev, h1, h2, hne, h3]; done))) | (refine AW.condF ?_ ?_; (focus (simp [aev, h1, h2, hne, h3]; done))) | with_reducible refine AW.block ?_ | ((first | ((first | refine arun_nil ?_ | refine arunD_nil ?_); refine hK _ ?_; clear hK K) | refine AW.skip ?_ | refine AW.exit ?_ | refine AW.ret ?_); simp only [thenA_exit, inBlockA_exit, if_true, if_false, Nat.reduceEqDiff, thenA_normal, inBlockA_normal, reduceIte, thenA_ret, inBlockA_ret, endQ_ret, endR_ret, endG_ret, endQ_normal, endR_normal, endG_normal, endF_ret, endF_normal])))
    obtain ⟨z1, z2, z3⟩ := rSB_none (r := .tup [.agg [.view .tight 0 [], .int .i64 0], .bool false]) rfl
    exact ⟨.tup [.agg [.view .tight 0 [], .int .i64 0], .bool false], by simp [ares, aresL, upd, rowsOf_cons], z1, z2 _, z3⟩
  rw [h3] at hf
  have e : dropOk s nm = true := by simp only [dropOk, h1, hf, h2]; rfl
  rw [e]
  have hlt := lb_lt h3
  rw [nmL_len] at hlt
  have hw : IntKind.i64.wrap (s.2 + 1) = s.2 + 1 := by rw [IntKind.wrap_i64]; omega
  have hw2 : IntKind.i64.wrap ((lbound (nmL s.1) nm : Int) + 1) = (lbound (nmL s.1) nm : Int) + 1 := i64_nat (by omega) (by omega)
  (repeat (first | with_reducible refine AW.seq ?_ | ((first | refine arun_kn 4 rfl (fun C hC => ?_) | refine arunD_kn 4 rfl (fun C hC => ?_)); (repeat ((conv => whnf); simp [h1, h2, hne, h3])); refine hC _ ?_; clear hC C; simp only [List.drop, Nat.reduceAdd]) | ((first | refine arun_kn 1 rfl (fun C hC => ?_) | refine arunD_kn 1 rfl (fun C hC => ?_)); (repeat ((conv => whnf); simp [h1, h2, hne, h3])); refine hC _ ?_; clear hC C; simp only [List.drop, Nat.reduceAdd]) | (refine arun_skip ?_ ?_; (focus (simp [awant, h1, h2, hne, h3]; done))) | (refine arun_c0 (ValidStore_AC s .loose) ?_; rintro _ rfl) | (refine arun_c0 (findItem_AC s.1 .loose nm hasc (by omega)) ?_; rintro _ rfl) | (refine AW.regionK [] (fun K hK => ?_)) | (refine AW.regionDK [] (pcs [] []) (by kernel_rfl) (by kernel_rfl) (fun K hK => ?_)) | (refine AW.condT ?_ ?_; (focus (simp [aev, h1, h2, hne, h3]; done))) | (refine AW.condF ?_ ?_; (focus (simp [aev, h1, h2, hne, h3]; done))) | with_reducible refine AW.block ?_ | ((first | ((first | refine arun_nil ?_ | refine arunD_nil ?_); refine hK _ ?_; clear hK K) | refine AW.skip ?_ | refine AW.exit ?_ | refine AW.ret ?_); simp only [thenA_exit, inBlockA_exit, if_true, if_false, Nat.reduceEqDiff, thenA_normal, inBlockA_normal, reduceIte, thenA_ret, inBlockA_ret, endQ_ret, endR_ret, endG_ret, endQ_normal, endR_normal, endG_normal, endF_ret, endF_normal])))
  refine arun_callM (hw := by simp [awant]) (ha := rfl) (implCopyStoreF_ACM s (storeB_smlS h1)) (hargs := .cons (.base (.clo (Clo.cloTo (storeA_clo s)))) .nil) (hcan := can_of (Nat.le_refl _)) ?_
  rintro r l' ⟨ks, hks, hkn, rfl, rfl⟩ hA2
  refine ⟨_, _, _, back_itsF (A := 29) (by simp [usedOf_cons, usedOf_nil, upd]), ?_⟩
  have hA4 : ∀ b ∈ ks.flatMap itP, w0.wd.heap.size ≤ b := fun b hb => hN.ge (fun h => hA2 b (.inr ⟨(16, itsR ks), by simp, by rw [show (itsR ks).es = ks.map itF from rfl, atE_itsF]; exact hb⟩) h)
  have hlk : ks.length = s.1.length := by rw [← hks, List.length_map]
  unfold itsR
  (repeat (first | with_reducible refine AW.seq ?_ | ((first | refine arun_kn 4 rfl (fun C hC => ?_) | refine arunD_kn 4 rfl (fun C hC => ?_)); (repeat ((conv => whnf); simp [hw, hw2])); refine hC _ ?_; clear hC C; simp only [List.drop, Nat.reduceAdd]) | ((first | refine arun_kn 1 rfl (fun C hC => ?_) | refine arunD_kn 1 rfl (fun C hC => ?_)); (repeat ((conv => whnf); simp [hw, hw2])); refine hC _ ?_; clear hC C; simp only [List.drop, Nat.reduceAdd]) | (refine arun_skip ?_ ?_; (focus (simp [awant, hw, hw2]; done))) | (refine AW.regionK [] (fun K hK => ?_)) | (refine AW.regionDK [] (pcs [] []) (by kernel_rfl) (by kernel_rfl) (fun K hK => ?_)) | (refine AW.condT ?_ ?_; (focus (simp [aev, hw, hw2]; done))) | (refine AW.condF ?_ ?_; (focus (simp [aev, hw, hw2]; done))) | with_reducible refine AW.block ?_ | ((first | ((first | refine arun_nil ?_ | refine arunD_nil ?_); refine hK _ ?_; clear hK K) | refine AW.skip ?_ | refine AW.exit ?_ | refine AW.ret ?_); simp only [thenA_exit, inBlockA_exit, if_true, if_false, Nat.reduceEqDiff, thenA_normal, inBlockA_normal, reduceIte, thenA_ret, inBlockA_ret, endQ_ret, endR_ret, endG_ret, endQ_normal, endR_normal, endG_normal, endF_ret, endF_normal])))
  obtain ⟨ks', hks'⟩ : ∃ ks', ks' = ks.take (lbound (nmL s.1) nm) ++ ks.drop (lbound (nmL s.1) nm + 1) := ⟨_, rfl⟩
  have hml : (ks.map itF).length = s.1.length := by rw [List.length_map, hlk]
  have hdel := delI_ACG (ks.map itF) (lbound (nmL s.1) nm) (by rw [hml]; exact hlt) (itsF_pur ks)
  rw [hml] at hdel
  have hes : (ks.map itF).take (lbound (nmL s.1) nm) ++ (ks.map itF).drop (lbound (nmL s.1) nm + 1) = ks'.map itF := by
    rw [hks', List.map_append, List.map_take, List.map_drop]
  have hln : ks'.length = s.1.length - 1 := by rw [hks', List.length_append, List.length_take, List.length_drop]; omega
  have hD : ks'.map itD = (dropS s nm).1 := by
    unfold dropS
    dsimp only
    rw [← dropI_eq hasc nm h3, hks', List.map_append, List.map_take, List.map_drop, hks]
    rfl
  rw [hes, ← hln] at hdel
  refine arun_callG1 (g := fun k => .own k ks'.length) (R := itsR ks') [(1000, itsR ks)] (fun _ => 29) 39 (by simp [awant]) rfl (hdel.mono (fun r b h => ⟨1, h⟩)) (by simp) (MvR.same (by simp [upd, itsR]) (fun e he c hc => (itsF_pur ks e he c hc).clo) MvR.nil)
    (.cons (.base (.own (by simp) rfl)) (.cons (.base (.clo (Clo.cloTo clo_int))) (.cons (.base (.clo (Clo.cloTo clo_int))) .nil))) (can_of (Nat.le_refl _)) (by simp [upd]) (itsF_pur _) (fun k => .base (.base (.own (by simp) rfl))) ?_
  unfold itsR
  (repeat (first | with_reducible refine AW.seq ?_ | ((first | refine arun_kn 4 rfl (fun C hC => ?_) | refine arunD_kn 4 rfl (fun C hC => ?_)); (repeat ((conv => whnf); simp [hw])); refine hC _ ?_; clear hC C; simp only [List.drop, Nat.reduceAdd]) | ((first | refine arun_kn 1 rfl (fun C hC => ?_) | refine arunD_kn 1 rfl (fun C hC => ?_)); (repeat ((conv => whnf); simp [hw])); refine hC _ ?_; clear hC C; simp only [List.drop, Nat.reduceAdd]) | (refine arun_skip ?_ ?_; (focus (simp [awant, hw]; done))) | (refine AW.condT ?_ ?_; (focus (simp [aev, hw]; done))) | (refine AW.condF ?_ ?_; (focus (simp [aev, hw]; done))) | with_reducible refine AW.block ?_ | ((first | ((first | refine arun_nil ?_ | refine arunD_nil ?_); refine hK _ ?_; clear hK K) | refine AW.skip ?_ | refine AW.exit ?_ | refine AW.ret ?_); simp only [thenA_exit, inBlockA_exit, if_true, if_false, Nat.reduceEqDiff, thenA_normal, inBlockA_normal, reduceIte, thenA_ret, inBlockA_ret, endQ_ret, endR_ret, endG_ret, endQ_normal, endR_normal, endG_normal, endF_ret, endF_normal])))
  refine AW.holdF 39 hN (fun g hg ht hr => ?_)
  have f1 := hr 39 ⟨false, 116, 7, ks'.map itF⟩ (by simp [upd, rowsOf_cons])
  clear ht hr
  (repeat (first | with_reducible refine AW.seq ?_ | ((first | refine arun_kn 4 rfl (fun C hC => ?_) | refine arunD_kn 4 rfl (fun C hC => ?_)); (repeat ((conv => whnf); simp [ASt.holdF, AV.subL, AV.sub, Row.sub, rowsOf_cons, upd, itsF_sub, hln])); refine hC _ ?_; clear hC C; simp only [List.drop, Nat.reduceAdd]) | ((first | refine arun_kn 1 rfl (fun C hC => ?_) | refine arunD_kn 1 rfl (fun C hC => ?_)); (repeat ((conv => whnf); simp [ASt.holdF, AV.subL, AV.sub, Row.sub, rowsOf_cons, upd, itsF_sub, hln])); refine hC _ ?_; clear hC C; simp only [List.drop, Nat.reduceAdd]) | (refine arun_skip ?_ ?_; (focus (simp [awant, ASt.holdF, AV.subL, AV.sub, Row.sub, rowsOf_cons, upd, itsF_sub, hln]; done))) | (refine AW.regionK [] (fun K hK => ?_)) | (refine AW.regionDK [] (pcs [] []) (by kernel_rfl) (by kernel_rfl) (fun K hK => ?_)) | (refine AW.condT ?_ ?_; (focus (simp [aev, ASt.holdF, AV.subL, AV.sub, Row.sub, rowsOf_cons, upd, itsF_sub, hln]; done))) | (refine AW.condF ?_ ?_; (focus (simp [aev, ASt.holdF, AV.subL, AV.sub, Row.sub, rowsOf_cons, upd, itsF_sub, hln]; done))) | with_reducible refine AW.block ?_ | ((first | ((first | refine arun_nil ?_ | refine arunD_nil ?_); refine hK _ ?_; clear hK K) | refine AW.skip ?_ | refine AW.exit ?_ | refine AW.ret ?_); simp only [thenA_exit, inBlockA_exit, if_true, if_false, Nat.reduceEqDiff, thenA_normal, inBlockA_normal, reduceIte, thenA_ret, inBlockA_ret, endQ_ret, endR_ret, endG_ret, endQ_normal, endR_normal, endG_normal, endF_ret, endF_normal])))
  rw [atE_itsF] at f1
  have hgeK : ∀ b ∈ ks'.flatMap itP, w0.wd.heap.size ≤ b := fun b hb => by
    rw [hks'] at hb
    exact hA4 b ((fpSubI (tdSubJ ks _)).subset hb)
  have hnk : (ks'.flatMap itP).Nodup := by rw [hks']; exact hkn.sublist (fpSubI (tdSubJ ks _))
  refine ⟨.tup [.agg [.view (.fr g) 7 (ks'.map itF), .int .i64 (s.2 + 1)], .bool true], by simp [ares, aresL, upd, rowsOf_cons], tup2_pur (pur_agg ?_) pur_bool, fun b hb => ?_, _, Wk.refl _, fun _ h => h, g, ks', ?_, stoP_nodup hnk f1, ?_⟩
  · simp only [List.forall_mem_cons, List.not_mem_nil, false_implies, implies_true, and_true]
    exact ⟨pur_view (by simp) (itsF_pur _), pur_int⟩
  · rw [at_sto] at hb
    exact stoP_ge hgeK hg b hb
  · rw [hD]; rfl
  · rfl
end Go.Proofs.Ytgfnmhfdmmnaoaa.Eng
