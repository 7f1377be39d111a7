/-
  Texts of this claim, joined: InsI, EStoI, EPutThy, EGetS, EEqN, ELawGet, ELawGetA, ENew, EPutI, EPutLaw, ELawP, ELawPut, ELawPutO, ELawPutS.
-/
import Derived.Shelf.RegionOpenPlain
import Derived.Test.YtmeobmegnneegaaPjH

set_option linter.unusedSimpArgs false
set_option linter.unusedVariables false
namespace Go.Proofs.Ytmeobmegnneegaa
open Go Go.RowKit Go.Proofs.Ytmeobmegnneegaa.Eng
set_option maxHeartbeats 4000000 in
set_option maxRecDepth 100000 in
theorem insI_grow (w : World) (b n i vb vc : Nat) (L M : List Value) (e1 : TypeId) (xs : List Value) (hb : Row0 w b L 62) (hv : Row0 w vb M e1) (hL : n * 7 ≤ L.length) (hM : M.take 7 = xs) (hxl : xs.length = 7) (hi : i < n) (hn : n ≤ 1000000) (h1 : ∀ u ∈ L, u.oneCell' = true) (h2 : ∀ u ∈ xs, u.oneCell' = true) :
    Calls Try.prog 116 #[.slice (some ⟨b, 0, none⟩) n n, .int .i64 i, .slice (some ⟨vb, 0, none⟩) 1 vc] w fun e w' =>
      ∃ g G Z, e = .returned (.slice (some ⟨g, 0, none⟩) (n + 1 : Nat) G) ∧ Grow w w' ∧ w.heap.size ≤ g ∧ Row0 w' g (L.take (i * 7) ++ (xs ++ ((L.take (n * 7)).drop (i * 7) ++ Z))) 62 ∧ Z.length = (G - (n + 1)) * 7 ∧ n + 1 ≤ G ∧ G ≤ maxLen := by
  obtain ⟨d, j, hs⟩ := TI.says (tab_ok _ _ tab62)
  obtain ⟨j', zv, zs, k1, k2, k3, k3', k3'', k4, k5, k6⟩ := zero_ok (w := w) (ρ := pureC nil nil none) (tab_ok _ _ tab62) (by decide)
  rw [hs.inf] at k1; cases k1
  have hjs := hs.sz
  have hjb := hs.by'
  have hinf := hs.inf
  dsimp only at hjs hjb k6
  have hzs : zv.cells.size = j.size := by rw [k3, hjs]; simpa using k6
  have hsz : (Try.prog.info? 62).map (·.size) = some 7 := by rw [hinf]; simp [hjs]
  have mixed := mixed_ok
  have hz1 : ¬ ((1 : Int) = 0) := by omega
  have hz2 : ¬ ((i : Int) = (n : Int)) := by omega
  have hz3 : (n : Int) < (n : Int) + 1 := by omega
  have hw1 : IntKind.i64.wrap ((n : Int) + 1) = (n : Int) + 1 := by rw [IntKind.wrap_i64]; omega
  have hw2 : IntKind.i64.wrap ((n : Int) + 1 - (i : Int)) = ((n + 1 - i : Nat) : Int) := by rw [IntKind.wrap_i64]; omega
  have hw3 : IntKind.i64.wrap ((i : Int) + 1) = (i : Int) + 1 := by rw [IntKind.wrap_i64]; omega
  have hb1 : (0 : Int) ≤ (i : Int) + 1 := by omega
  have hb2 : (0 : Int) ≤ (i : Int) := by omega
  have hin : i ≤ n := by omega
  have hni : ¬ (n = i) := by omega
  have htn : ((i : Int) + 1).toNat = i + 1 := by omega
  have hb3 : (i : Int) ≤ (n : Int) := by omega
  have hbn : b ≠ w.heap.size := by have := hb.lt; omega
  obtain ⟨X, hX⟩ : ∃ X, X = (L.take (n * 7)).drop (i * 7) := ⟨_, rfl⟩
  have hXl : X.length = (n - i) * 7 := by rw [hX, List.length_drop, List.length_take, Nat.sub_mul]; omega
  have hXs : X = (L.drop (i * 7)).take X.length := by rw [hXl, hX, List.drop_take, Nat.sub_mul]
  have hX1 : ∀ v ∈ X, v.oneCell' = true := fun v hv => h1 v (by rw [hX] at hv; exact List.mem_of_mem_take (List.mem_of_mem_drop hv))
  have HB := Lib.hid hb
  have HV := Lib.hid hv
  clear hb hv
  go_enter Try.func116, Try.ntmps116
  go_wp2_with (first
    | (at_builtin; refine wpList_appendZ rfl _ _ 31 3 rfl 62 j zv .i64 .i64 Try.underlying31 Try.underlying3 hinf k2 hzs b i n (n + 1 - i) rfl rfl L HB.out (by rw [hjs]; omega) (by omega) (by rw [hjs]; omega) (by omega) (by unfold maxLen; omega) (by rw [hjb]; omega) ?_; intro G w1 Z R1 Z1 G1 G2 E1; have B1 := HB.out.ext E1 (fun h => h); have V1 := HV.out.ext E1 (fun h => h); have G3 : ¬ (G = i) := (by omega); have G4 : ¬ (G = i + 1) := (by omega); have G5 : i + (n + 1 - i) = n + 1 := (by omega))
    | (refine wpList_copyN rfl (.tmp 43) (.tmp 44) 31 31 rfl 62 7 Try.underlying31 hsz w.heap.size _ _ _ vb 0 1 vc rfl rfl (L.take (i * j.size) ++ Z) M 62 e1 R1 V1 xs (by rw [hxl]; simp only [Nat.min_def]; split <;> omega) (by rw [hxl, List.drop_zero, hM]) (by simp only [List.length_append, List.length_take, Z1, hxl, hjs]; omega) h2 ?_; intro x2 w2 R2 E2; have B2 := B1.ext E2 (fun h => hbn h)))
  go_region_law_o (refine step_copyN rfl (.tmp 50) (.tmp 53) 31 31 rfl 62 7 Try.underlying31 hsz w.heap.size ((i + 1) * 7) (n + 1 - (i + 1)) (G - (i + 1)) b (i * 7) (n - i) (n - i) (by simp [Act.eval, Act.put]) (by simp [Act.eval, Act.put]) _ L 62 62 R2 B2 X (by rw [hXl, show Nat.min (n - i) (n + 1 - (i + 1)) = n - i from by rw [show n + 1 - (i + 1) = n - i by omega]; exact Nat.min_self _]) hXs (by rw [length_splice _ _ _ (by simp only [List.length_append, List.length_take, Z1, hxl, hjs]; omega)]; simp only [List.length_append, List.length_take, Z1, hXl, hjs]; omega) hX1 ?_; intro x3 w3 R3 E3)
  go_wp2
  go_ret
  have hZ : xs.length + X.length ≤ Z.length := by rw [hxl, hXl, Z1, hjs]; omega
  rw [hjs] at R3
  rw [splice_two _ _ _ _ _ _ (by rw [List.length_take]; omega) (by rw [hxl]; omega) hZ] at R3
  refine ⟨w.heap.size, G, Z.drop (xs.length + X.length), by simp, ?_, Nat.le_refl _, by rw [← hX]; exact R3, by rw [List.length_drop, hxl, hXl, Z1, hjs]; omega, by omega, G2⟩
  exact Grow.inner (Ext.drew (E1.inner E2 (fun k hk => Nat.le_of_eq (Eq.symm hk)))) E3 (fun k hk => Nat.le_of_eq (Eq.symm hk))
set_option maxHeartbeats 4000000 in
set_option maxRecDepth 100000 in
theorem insI_room (w : World) (b n c i vb vc : Nat) (L M : List Value) (e1 : TypeId) (xs : List Value) (hb : Row0 w b L 62) (hv : Row0 w vb M e1) (hbv : vb ≠ b) (hL : L.length = c * 7) (hM : M.take 7 = xs) (hxl : xs.length = 7) (hi : i < n) (hroom : n + 1 ≤ c) (hc : c ≤ maxLen) (h1 : ∀ u ∈ L.take (n * 7), u.oneCell' = true) (h2 : ∀ u ∈ xs, u.oneCell' = true) :
    Calls Try.prog 116 #[.slice (some ⟨b, 0, none⟩) n c, .int .i64 i, .slice (some ⟨vb, 0, none⟩) 1 vc] w fun e w' =>
      e = .returned (.slice (some ⟨b, 0, none⟩) (n + 1 : Nat) c) ∧ Ext (fun k => k = b) w w' ∧ Row0 w' b (L.take (i * 7) ++ (xs ++ ((L.take (n * 7)).drop (i * 7) ++ L.drop ((n + 1) * 7)))) 62 := by
  obtain ⟨d, j, hs⟩ := TI.says (tab_ok _ _ tab62)
  have hjs := hs.sz
  have hinf := hs.inf
  dsimp only at hjs
  have hsz : (Try.prog.info? 62).map (·.size) = some 7 := by rw [hinf]; simp [hjs]
  have hc63 : c ≤ 9223372036854775807 := by unfold maxLen at hc; exact hc
  have mixed := mixed_ok
  have hz1 : ¬ ((1 : Int) = 0) := by omega
  have hz2 : ¬ ((i : Int) = (n : Int)) := by omega
  have hz3 : ¬ ((c : Int) < (n : Int) + 1) := by omega
  have hw1 : IntKind.i64.wrap ((n : Int) + 1) = (n : Int) + 1 := by rw [IntKind.wrap_i64]; omega
  have hw3 : IntKind.i64.wrap ((i : Int) + 1) = (i : Int) + 1 := by rw [IntKind.wrap_i64]; omega
  have hb1 : (0 : Int) ≤ (i : Int) + 1 := by omega
  have hb2 : (0 : Int) ≤ (i : Int) := by omega
  have hb4 : (0 : Int) ≤ (n : Int) + 1 := by omega
  have hin : i ≤ n := by omega
  have hni : ¬ (c = i) := by omega
  have hni2 : ¬ (c = i + 1) := by omega
  have htn : ((i : Int) + 1).toNat = i + 1 := by omega
  have htn2 : ((n : Int) + 1).toNat = n + 1 := by omega
  have hb3 : (i : Int) ≤ (n : Int) := by omega
  have hb5 : (i : Int) + 1 ≤ (n : Int) + 1 := by omega
  have hb6 : (n : Int) + 1 ≤ (c : Int) := by omega
  have hb7 : (i : Int) ≤ (n : Int) + 1 := by omega
  obtain ⟨X, hX⟩ : ∃ X, X = (L.take (n * 7)).drop (i * 7) := ⟨_, rfl⟩
  have hXl : X.length = (n - i) * 7 := by rw [hX, List.length_drop, List.length_take, Nat.sub_mul, hL]; omega
  have hXs : X = (L.drop (i * 7)).take X.length := by rw [hXl, hX, List.drop_take, Nat.sub_mul]
  have hX1 : ∀ v ∈ X, v.oneCell' = true := fun v hv => h1 v (by rw [hX] at hv; exact List.mem_of_mem_drop hv)
  have hov : ∀ lb cb, (callFunc 131 #[.slice (some ⟨vb, 0, none⟩) 1 vc, .slice (some ⟨b, (i + 1) * 7, none⟩) lb cb]).run Try.prog w = .ok (.value (.bool false)) w := fun lb cb => by
    rw [run_callFunc_extern (P := Try.prog) (f := 131) (fn := Try.f131) (e := Extern.SlicesOverlaps.overlaps #[31, 31] #[4]) (by kernel_rfl) (by kernel_rfl) (by kernel_rfl) (by kernel_rfl) (by kernel_rfl)]
    rw [run_overlaps_rows (P := Try.prog) w 31 4 62 Try.underlying31 7 (fun w => hs.sizeOf w) vb 0 b ((i + 1) * 7) 1 vc lb cb M L e1 62 hv hb hbv (by rw [hL]; omega)]
    rfl
  have HB := Lib.hid hb
  have HV := Lib.hid hv
  clear hb hv
  go_enter Try.func116, Try.ntmps116
  go_wp2_with (simp only [hov])
  go_region_law_o (refine step_copyN rfl (.tmp 73) (.tmp 76) 31 31 rfl 62 7 Try.underlying31 hsz b ((i + 1) * 7) (n + 1 - (i + 1)) (c - (i + 1)) b (i * 7) (n + 1 - i) (c - i) (by simp [Act.eval, Act.put]) (by simp [Act.eval, Act.put]) L L 62 62 HB.out HB.out X (by rw [hXl, show Nat.min (n + 1 - i) (n + 1 - (i + 1)) = n - i from by rw [show n + 1 - (i + 1) = n - i by omega]; exact Nat.min_eq_right (by omega)]) hXs (by rw [hXl, hL]; omega) hX1 ?_; intro x2 w2 R2 E2)
  have V2 := HV.out.ext (Ext.trans (Ext.drew (Ext.refl _ w)) E2) (fun h => hbv h)
  go_wp2_with (refine wpList_copyN rfl (.tmp 80) (.tmp 81) 31 31 rfl 62 7 Try.underlying31 hsz b _ _ _ vb 0 1 vc rfl rfl (splice L ((i + 1) * 7) X) M 62 e1 R2 V2 xs (by rw [hxl]; simp only [Nat.min_def]; split <;> omega) (by rw [hxl, List.drop_zero, hM]) (by rw [length_splice _ _ _ (by rw [hXl, hL]; omega), hxl, hL]; omega) h2 ?_; intro x3 w3 R3 E3)
  go_ret
  rw [show (i + 1) * 7 = i * 7 + 7 by omega, splice_shift _ _ _ _ _ hxl (by rw [hXl, hL]; omega)] at R3
  refine ⟨by simp, Ext.trans (Ext.trans (Ext.drew (Ext.refl _ w)) E2) E3, ?_⟩
  rw [← hX, show (n + 1) * 7 = i * 7 + 7 + X.length by rw [hXl]; omega]
  exact R3
set_option maxHeartbeats 4000000 in
set_option maxRecDepth 100000 in
theorem delI_last (w : World) (b i : Nat) (L : List Value) (hb : Row0 w b L 62) (hL : L.length = (i + 1) * 7) (hc : i + 1 ≤ maxLen) :
    Calls Try.prog 106 #[.slice (some ⟨b, 0, none⟩) (i + 1) (i + 1), .int .i64 i, .int .i64 ((i : Int) + 1)] w fun e w' =>
      ∃ L', e = .returned (.slice (some ⟨b, 0, none⟩) i (i + 1)) ∧ Ext (fun k => k = b) w w' ∧ Row0 w' b L' 62 ∧ L'.length = (i + 1) * 7 ∧ L'.take (i * 7) = L.take (i * 7) := by
  obtain ⟨d, j, hs⟩ := TI.says (tab_ok _ _ tab62)
  obtain ⟨j', zv, zs, k1, k2, k3, k3', k3'', k4, k5, k6⟩ := zero_ok (w := w) (ρ := pureC nil nil none) (tab_ok _ _ tab62) (by decide)
  rw [hs.inf] at k1; cases k1
  have hjs := hs.sz
  have hinf := hs.inf
  dsimp only at hjs k6
  have hzs : zv.cells.size = j.size := by rw [k3, hjs]; simpa using k6
  have hz1c : ∀ u ∈ zv.cells.toList, u.oneCell' = true := by rw [k3]; simpa using k5
  have hc63 : i + 1 ≤ 9223372036854775807 := by unfold maxLen at hc; exact hc
  have mixed := mixed_ok
  have hz1 : ¬ ((i : Int) = (i : Int) + 1) := by omega
  have hb1 : (0 : Int) ≤ (i : Int) + 1 := by omega
  have hb2 : (0 : Int) ≤ (i : Int) := by omega
  have hb3 : (i : Int) ≤ (i : Int) + 1 := by omega
  have htn : ((i : Int) + 1).toNat = i + 1 := by omega
  have hni : ¬ (i + 1 = i) := by omega
  have hll : i + 1 - i = 1 := by omega
  have hX1 : ∀ v ∈ ([] : List Value), v.oneCell' = true := fun v hv => by cases hv
  have HB := Lib.hid hb
  clear hb
  go_enter Try.func106, Try.ntmps106
  go_wp2_with fail
  go_region_law_o (refine step_appendN rfl (.tmp 22) (.tmp 25) 31 62 rfl j Try.underlying31 hinf b i (i + 1) b 0 0 0 (by simp [Act.eval, Act.put]) (by simp [Act.eval, Act.put]) L L 62 HB.out HB.out [] (by simp) (by simp) (by omega) (by rw [hjs, hL]; simp only [List.length_nil]; omega) hX1 ?_; intro w2 R2 E2)
  have hsp : splice L (i * j.size) [] = L := by unfold splice; simp
  rw [hsp] at R2
  go_wp2_with (refine wpList_clearN rfl (.tmp 31) 31 62 rfl j zv Try.underlying31 hinf k2 hzs hz1c b _ _ _ rfl (by omega) _ R2 (by rw [hjs, hL]; omega) ?_; intro v3 w3 Z R3 Zl Z1 E3)
  go_ret
  refine ⟨_, by simp, Ext.trans (Ext.trans (Ext.drew (Ext.refl _ w)) E2) E3, R3, by rw [length_splice _ _ _ (by rw [hL, Zl, hjs]; omega), hL], ?_⟩
  unfold splice
  rw [List.take_append_of_le_length (by rw [List.length_take, hL]; omega), List.take_take]
  simp
set_option maxHeartbeats 4000000 in
set_option maxRecDepth 100000 in
theorem delI_mid (w : World) (b n c i : Nat) (L : List Value) (hb : Row0 w b L 62) (hL : L.length = c * 7) (hi : i < n) (hnc : n ≤ c) (hc : c ≤ maxLen) (hci : ¬ c = i + 1) (h1 : ∀ u ∈ L.take (n * 7), u.oneCell' = true) :
    Calls Try.prog 106 #[.slice (some ⟨b, 0, none⟩) n c, .int .i64 i, .int .i64 ((i : Int) + 1)] w fun e w' =>
      ∃ L', e = .returned (.slice (some ⟨b, 0, none⟩) (n - 1 : Nat) c) ∧ Ext (fun k => k = b) w w' ∧ Row0 w' b L' 62 ∧ L'.length = c * 7 ∧ L'.take ((n - 1) * 7) = L.take (i * 7) ++ (L.take (n * 7)).drop ((i + 1) * 7) := by
  obtain ⟨d, j, hs⟩ := TI.says (tab_ok _ _ tab62)
  obtain ⟨j', zv, zs, k1, k2, k3, k3', k3'', k4, k5, k6⟩ := zero_ok (w := w) (ρ := pureC nil nil none) (tab_ok _ _ tab62) (by decide)
  rw [hs.inf] at k1; cases k1
  have hjs := hs.sz
  have hinf := hs.inf
  dsimp only at hjs k6
  have hzs : zv.cells.size = j.size := by rw [k3, hjs]; simpa using k6
  have hz1c : ∀ u ∈ zv.cells.toList, u.oneCell' = true := by rw [k3]; simpa using k5
  have hc63 : c ≤ 9223372036854775807 := by unfold maxLen at hc; exact hc
  have mixed := mixed_ok
  have hz1 : ¬ ((i : Int) = (i : Int) + 1) := by omega
  have hb1 : (0 : Int) ≤ (i : Int) + 1 := by omega
  have hb2 : (0 : Int) ≤ (i : Int) := by omega
  have hb3 : (i : Int) ≤ (i : Int) + 1 := by omega
  have hb4 : (i : Int) + 1 ≤ (n : Int) := by omega
  have hb5 : (n : Int) ≤ (c : Int) := by omega
  have hb6 : (i : Int) ≤ (n : Int) := by omega
  have hb7 : (i : Int) ≤ (c : Int) := by omega
  have htn : ((i : Int) + 1).toNat = i + 1 := by omega
  have hni : ¬ (c = i) := by omega
  have hni3 : ¬ (n = i) := by omega
  obtain ⟨X, hX⟩ : ∃ X, X = (L.take (n * 7)).drop ((i + 1) * 7) := ⟨_, rfl⟩
  have hXl : X.length = (n - (i + 1)) * 7 := by rw [hX, List.length_drop, List.length_take, Nat.sub_mul, hL]; omega
  have hX1 : ∀ v ∈ X, v.oneCell' = true := fun v hv => h1 v (by rw [hX] at hv; exact List.mem_of_mem_drop hv)
  have hm : i + (n - (i + 1)) = n - 1 := by omega
  have hlast : n - (i + (n - (i + 1))) = 1 := by omega
  have hlc : (((n - 1 : Nat) : Int)) ≤ (n : Int) := by omega
  have hl0 : (0 : Int) ≤ ((n - 1 : Nat) : Int) := by omega
  have hnl : ¬ (c = n - 1) := by omega
  have hln : (splice L (i * j.size) X).length = c * 7 := by rw [length_splice _ _ _ (by rw [hXl, hjs, hL]; omega), hL]
  have HB := Lib.hid hb
  clear hb
  go_enter Try.func106, Try.ntmps106
  go_wp2_with fail
  go_region_law_o (refine step_appendN rfl (.tmp 22) (.tmp 25) 31 62 rfl j Try.underlying31 hinf b i c b ((i + 1) * 7) (n - (i + 1)) (c - (i + 1)) (by simp [Act.eval, Act.put]) (by simp [Act.eval, Act.put]) L L 62 HB.out HB.out X (by rw [hXl, hjs]) (by rw [hXl, hX]; rw [List.drop_take, Nat.sub_mul]) (by omega) (by rw [hjs, hXl, hL]; omega) hX1 ?_; intro w2 R2 E2)
  go_wp2_with (refine wpList_clearN rfl (.tmp 31) 31 62 rfl j zv Try.underlying31 hinf k2 hzs hz1c b _ _ _ rfl (by omega) _ R2 (by rw [hln, hjs]; omega) ?_; intro v3 w3 Z R3 Zl Z1 E3)
  go_ret
  refine ⟨_, by simp, Ext.trans (Ext.trans (Ext.drew (Ext.refl _ w)) E2) E3, R3, by rw [length_splice _ _ _ (by rw [hln, Zl, hjs]; omega), hln], ?_⟩
  rw [← hX]
  have e1 : splice L (i * j.size) X = L.take (i * 7) ++ X ++ L.drop ((n - 1) * 7) := by
    unfold splice
    rw [hXl, hjs, show i * 7 + (n - (i + 1)) * 7 = (n - 1) * 7 by omega, List.append_assoc]
  have e2 : (L.take (i * 7) ++ X).length = (n - 1) * 7 := by rw [List.length_append, List.length_take, hXl, hL]; omega
  unfold splice at e1 hln ⊢
  rw [List.take_append_of_le_length (by rw [List.length_take, hln]; omega), List.take_take, Nat.min_eq_left (by omega), e1, List.take_append_of_le_length (by omega), List.take_of_length_le (by omega)]
theorem wp_appRI {w : World} {ops : Array Oper} {rest : List Oper} {o : Oper} {a : Act} {Q : Exit → Act → World → Prop} (hgd : o.guard = none) (ho : o.op = .call { callee := .builtin .append, args := #[.tmp 23, .tmp 24], argTypes := #[31, 31] })
    (u : Value) (hx : a.eval (.tmp 23) = u) (n : Nat) (olds : List Value) (hat : Hid (Eng.RowAt w 0 62 7 u n olds)) (vb vc : Nat) (hy : a.eval (.tmp 24) = .slice (some ⟨vb, 0, none⟩) 1 vc) (M : List Value) (e1 : TypeId) (hv : Row0 w vb M e1) (xs : List Value) (hM : M.take 7 = xs) (hxl : xs.length = 7) (h2 : ∀ u ∈ xs, u.oneCell' = true) (hn : n ≤ 1000000)
    (h : ∀ v' w', Eng.RowAt w' 0 62 7 v' (n + 1) (olds ++ xs) → Ext (fun k => blk u = some k) w w' → (∀ g, blk v' = some g → blk u = some g ∨ w.heap.size ≤ g) → wpList Try.prog ops Q rest (a.put o.dst v') w') : wpList Try.prog ops Q (o :: rest) a w := by
  obtain ⟨d, j, hs⟩ := TI.says (tab_ok _ _ tab62)
  obtain ⟨j', zv, zs, k1, k2, k3, k3', k3'', k4, k5, k6⟩ := zero_ok (w := w) (ρ := pureC nil nil none) (tab_ok _ _ tab62) (by decide)
  rw [hs.inf] at k1; cases k1
  have hjs := hs.sz
  have hjb := hs.by'
  dsimp only at hjs hjb k6
  have hsrc : Eng.Src w (some ⟨vb, 0, none⟩) 1 xs := .inr ⟨_, rfl, fun q v hq => by
    rw [addr_plus, Nat.zero_add]
    refine hv.cell ?_
    rw [← hM] at hq
    have hl := (List.getElem?_eq_some_iff.1 hq).1
    rw [List.length_take] at hl
    rwa [List.getElem?_take_of_lt (by omega)] at hq⟩
  obtain ⟨v', w', m1, m2, m3, m4, _⟩ := run_append_row (P := Try.prog) (B := 0) 31 o.type 62 j zv Try.underlying31 hs.inf k2 (by rw [k3, hjs]; simpa using k6) (by rw [hjs]; exact hat.out) (Nat.zero_le _) (some ⟨vb, 0, none⟩) 1 vc xs (by rw [hxl, hjs]) hsrc h2 (by rw [hjb]; omega) (by unfold maxLen; omega)
  refine wpList_plain hgd fun K hK => ?_
  unfold Oper.wp
  simp only [execOp, ho, resolve, invoke, builtin, Sem.run_bind, Sem.run_pure, Result.andThen_ok, List.map_toArray, List.map_cons, List.map_nil, hx, hy, m1]
  exact hK _ _ (h v' w' (by rw [hjs] at m2; exact m2) m3 m4)
set_option maxHeartbeats 4000000 in
set_option maxRecDepth 100000 in
theorem insI_end (w : World) (b n c vb vc : Nat) (M : List Value) (e1 : TypeId) (xs olds : List Value) (hat : Eng.RowAt w 0 62 7 (.slice (some ⟨b, 0, none⟩) n c) n olds) (hv : Row0 w vb M e1) (hM : M.take 7 = xs) (hxl : xs.length = 7) (h2 : ∀ u ∈ xs, u.oneCell' = true) (hn : n ≤ 1000000) (hnc : n ≤ c) (hc : c ≤ maxLen) :
    Calls Try.prog 116 #[.slice (some ⟨b, 0, none⟩) n c, .int .i64 n, .slice (some ⟨vb, 0, none⟩) 1 vc] w fun e w' =>
      ∃ v', e = .returned v' ∧ Eng.RowAt w' 0 62 7 v' (n + 1) (olds ++ xs) ∧ Ext (fun k => blk (.slice (some ⟨b, 0, none⟩) n c) = some k) w w' ∧ ∀ g, blk v' = some g → blk (.slice (some ⟨b, 0, none⟩) n c) = some g ∨ w.heap.size ≤ g := by
  have hc63 : c ≤ 9223372036854775807 := by unfold maxLen at hc; exact hc
  have hz1 : ¬ ((1 : Int) = 0) := by omega
  have hb2 : (0 : Int) ≤ (n : Int) := by omega
  have hb3 : (n : Int) ≤ (c : Int) := by omega
  have HA := Lib.hid hat
  have HV := Lib.hid hv
  clear hat hv
  by_cases hcn : c = n
  · go_enter Try.func116, Try.ntmps116
    go_wp2_with (at_builtin; refine wp_appRI rfl rfl (.slice (some ⟨b, 0, none⟩) n c) (by simp [Act.eval, Act.put, hcn]) n olds HA vb vc rfl M e1 HV.out xs hM hxl h2 hn ?_; intro v4 w4 R4 E4 B4)
    go_ret
    exact ⟨_, by simp, R4, E4, B4⟩
  · go_enter Try.func116, Try.ntmps116
    go_wp2_with (at_builtin; refine wp_appRI rfl rfl (.slice (some ⟨b, 0, none⟩) n c) (by simp [Act.eval, Act.put]) n olds HA vb vc rfl M e1 HV.out xs hM hxl h2 hn ?_; intro v4 w4 R4 E4 B4)
    go_ret
    exact ⟨_, by simp, R4, E4, B4⟩
set_option maxHeartbeats 4000000 in
set_option maxRecDepth 100000 in
theorem insI_nil (w : World) (ad : Option Addr) (vb vc : Nat) (M : List Value) (e1 : TypeId) (xs : List Value) (hv : Row0 w vb M e1) (hM : M.take 7 = xs) (hxl : xs.length = 7) (h2 : ∀ u ∈ xs, u.oneCell' = true) :
    Calls Try.prog 116 #[.slice ad 0 0, .int .i64 0, .slice (some ⟨vb, 0, none⟩) 1 vc] w fun e w' =>
      ∃ v', e = .returned v' ∧ Eng.RowAt w' 0 62 7 v' 1 xs ∧ Grow w w' ∧ ∀ g, blk v' = some g → w.heap.size ≤ g := by
  have hat : Eng.RowAt w 0 62 7 (.slice ad 0 0) 0 [] := .inl ⟨rfl, rfl, ad, rfl⟩
  have hnb : ∀ k, ¬ blk (.slice ad 0 0) = some k := fun k hk => by cases ad <;> simp [blk] at hk
  have hz1 : ¬ ((1 : Int) = 0) := by omega
  have HA := Lib.hid hat
  have HV := Lib.hid hv
  clear hat hv
  cases ad with
  | none =>
    go_enter Try.func116, Try.ntmps116
    go_wp2_with (at_builtin; refine wp_appRI rfl rfl (.slice none 0 0) (by simp [Act.eval, Act.put]) 0 [] HA vb vc rfl M e1 HV.out xs hM hxl h2 (by omega) ?_; intro v4 w4 R4 E4 B4)
    go_ret
    exact ⟨v4, by simp, by simpa using R4, E4.mono (fun k hk => hnb k hk), fun g hg => (B4 g (by simpa using hg)).resolve_left (hnb g)⟩
  | some ad =>
    go_enter Try.func116, Try.ntmps116
    go_wp2_with (at_builtin; refine wp_appRI rfl rfl (.slice (some ad) 0 0) (by simp [Act.eval, Act.put]) 0 [] HA vb vc rfl M e1 HV.out xs hM hxl h2 (by omega) ?_; intro v4 w4 R4 E4 B4)
    go_ret
    exact ⟨v4, by simp, by simpa using R4, E4.mono (fun k hk => hnb k hk), fun g hg => (B4 g (by simpa using hg)).resolve_left (hnb g)⟩
theorem insI_at (w : World) (u : Value) (n i : Nat) (olds : List Value) (vb vc : Nat) (M : List Value) (e1 : TypeId) (xs : List Value) (hat : Eng.RowAt w 0 62 7 u n olds) (hone : ∀ u ∈ olds, u.oneCell' = true) (hv : Row0 w vb M e1) (hne : blk u ≠ some vb) (hM : M.take 7 = xs) (hxl : xs.length = 7) (h2 : ∀ u ∈ xs, u.oneCell' = true) (hi : i ≤ n) (hn : n ≤ 1000000) :
    Calls Try.prog 116 #[u, .int .i64 i, .slice (some ⟨vb, 0, none⟩) 1 vc] w fun e w' =>
      ∃ v', e = .returned v' ∧ Eng.RowAt w' 0 62 7 v' (n + 1) (olds.take (i * 7) ++ (xs ++ olds.drop (i * 7))) ∧ Ext (fun k => blk u = some k) w w' ∧ ∀ g, blk v' = some g → blk u = some g ∨ w.heap.size ≤ g := by
  have hat0 := hat
  rcases hat with ⟨rfl, rfl, ad, rfl⟩ | ⟨g, cap, cur, rfl, hp, _, hg, hnc, hcm, hcs, htk, hol⟩
  · have : i = 0 := by omega
    subst this
    refine (insI_nil w ad vb vc M e1 xs hv hM hxl h2).mono ?_
    rintro e w' ⟨v', rfl, q1, q2, q3⟩
    exact ⟨v', rfl, by simpa using q1, q2.mono (fun _ h => h.elim), fun g hg => .inr (q3 g hg)⟩
  · have hbl : blk (.slice (some ⟨g, 0, none⟩) n cap) = some g := blk_slice _ _ _ hp
    have hG : Row0 w g cur.toList 62 := by show _ = _; rw [hg]
    rcases Nat.lt_or_ge i n with hlt | hge
    · have hcl : cur.toList.length = cap * 7 := by rw [Array.length_toList, hcs]
      have hcut : (cur.toList.take (n * 7)).take (i * 7) = cur.toList.take (i * 7) := by rw [List.take_take, Nat.min_eq_left (by omega)]
      rcases Nat.lt_or_ge n cap with hroom | hfull
      · refine (insI_room w g n cap i vb vc cur.toList M e1 xs hG hv (fun e => hne (by rw [hbl, e])) hcl hM hxl hlt hroom hcm (by rw [htk]; exact hone) h2).mono ?_
        rintro e w' ⟨rfl, q1, q2⟩
        refine ⟨_, rfl, .inr ⟨g, cap, _, rfl, hp, Nat.zero_le _, q2.out, hroom, hcm, ?_, ?_, ?_⟩, q1.mono (fun k hk => by rw [hk]; exact hbl), fun g' hg' => by rw [blk_slice _ _ _ hp] at hg'; exact .inl (by rw [hbl]; exact hg')⟩
        · simp only [List.size_toArray, List.length_append, List.length_take, List.length_drop, hcl, hxl, Nat.add_mul]; omega
        · simp only [List.append_assoc]
          rw [htk, ← hcut, htk, ← List.append_assoc xs, ← List.append_assoc, ← List.append_assoc]
          exact List.take_left' (by simp only [List.length_append, List.length_take, List.length_drop, hol, hxl, Nat.add_mul]; omega)
        · simp only [List.length_append, List.length_take, List.length_drop, hol, hxl, Nat.add_mul]; omega
      · have hce : cap = n := by omega
        subst hce
        refine (insI_grow w g cap i vb vc cur.toList M e1 xs hG hv (by omega) hM hxl hlt hn ?_ h2).mono ?_
        · rw [← List.take_of_length_le (l := cur.toList) (i := cap * 7) (by omega), htk]; exact hone
        · rintro e w' ⟨g', G, Z, rfl, q1, q2, q3, q4, q5, q6⟩
          refine ⟨_, rfl, .inr ⟨g', G, _, rfl, by omega, Nat.zero_le _, q3.out, q5, q6, ?_, ?_, ?_⟩, q1.mono (fun _ h => h.elim), fun g'' hg' => by rw [blk_slice _ _ _ (by omega)] at hg'; cases hg'; exact .inr q2⟩
          · simp only [List.size_toArray, List.length_append, List.length_take, List.length_drop, hcl, hxl, q4, Nat.add_mul, Nat.sub_mul]; omega
          · rw [htk, ← hcut, htk, ← List.append_assoc xs, ← List.append_assoc]
            exact List.take_left' (by simp only [List.length_append, List.length_take, List.length_drop, hol, hxl, Nat.add_mul]; omega)
          · simp only [List.length_append, List.length_take, List.length_drop, hol, hxl, Nat.add_mul]; omega
    · have : i = n := by omega
      subst this
      refine (insI_end w g i cap vb vc M e1 xs olds hat0 hv hM hxl h2 hn hnc hcm).mono ?_
      rintro e w' ⟨v', rfl, q1, q2, q3⟩
      refine ⟨v', rfl, ?_, q2, q3⟩
      rw [List.take_of_length_le (by omega), List.drop_of_length_le (by omega), List.append_nil]
      exact q1
theorem insI_inv3 {w : World} {ρ : Cx} {a b c : AV} {vs : List Value} (h : RepL w ρ [a, b, c] vs) : ∃ x y z, vs = [x, y, z] ∧ Eng.Rep w ρ a x ∧ Eng.Rep w ρ b y ∧ Eng.Rep w ρ c z := by
  unfold RepL at h
  obtain ⟨x, _, rfl, h1, h⟩ := h
  unfold RepL at h
  obtain ⟨y, _, rfl, h2, h⟩ := h
  unfold RepL at h
  obtain ⟨z, _, rfl, h3, h⟩ := h
  unfold RepL at h
  subst h
  exact ⟨x, y, z, rfl, h1, h2, h3⟩
theorem insI_ACG (es : List (List AV)) (x : List AV) (i : Nat) (hi : i ≤ es.length) (hn : es.length ≤ 1000000) (hes : ∀ e ∈ es, ∀ c ∈ e, Pur c) (hx : ∀ c ∈ x, Pur c) :
    ACG Try.prog 116 [.own 1000 es.length, .int .i64 i, .own 1001 1] [(1000, ⟨false, 62, 7, es⟩), (1001, ⟨false, 62, 7, [x]⟩)] 0 (fun r l => r = .own 1 (es.length + 1) ∧ l = [(1, ⟨false, 62, 7, es.take i ++ (x :: es.drop i)⟩)]) := by
  refine ⟨Go.Proofs.Ytmeobmegnneegaa.Eng.enters_of Try.func116 (by kernel_rfl) (by kernel_rfl), by simp, fun w ρ k vs hL hS hrd hU hR hargs => ?_⟩
  obtain ⟨v0, v1, v2, rfl, a0, a1, a2⟩ := insI_inv3 hargs
  obtain ⟨u0, p1, p2, ⟨p3, _⟩, p4, p5, xs0, p6, p7, p8⟩ := hR.rw 1000 _ rfl
  obtain ⟨u1, q1, q2, _, q4, q5, xs1, q6, q7, q8⟩ := hR.rw 1001 _ rfl
  dsimp only at p2 p4 p6 p7 q2 q4 q6 q7
  obtain ⟨_, _, _, hv0⟩ := rep_own.1 a0
  obtain ⟨_, _, _, hv2⟩ := rep_own.1 a2
  have := hv0 u0 p1 p2.symm
  subst this
  have := hv2 u1 q1 q2.symm
  subst this
  rw [rep_int] at a1
  subst a1
  rcases q6 with ⟨h0, _⟩ | ⟨g, cap, cur, rfl, hp, _, hg, hnc, hcm, hcs, htk, hol⟩
  · simp at h0
  have hG : Row0 w g cur.toList 62 := by show _ = _; rw [hg]
  have hbl : blk (.slice (some ⟨g, 0, none⟩) [x].length cap) = some g := blk_slice _ _ _ hp
  have htk' : cur.toList.take 7 = xs1 := by rw [← htk]; simp
  refine (insI_at w v0 es.length i xs0 g cap cur.toList 62 xs1 p6 p8 hG (fun e => ?_) htk' (by simpa using hol) q8 hi hn).mono ?_
  · have := hR.dj 1000 1001 _ _ g p1 q1 e hbl
    omega
  · rintro e w' ⟨v', rfl, m1, m2, m3⟩
    have hfl : (es.take i ++ (x :: es.drop i)).flatten = (es.take i).flatten ++ (x ++ (es.drop i).flatten) := by simp
    have hlt : (es.take i).flatten.length = i * 7 := by rw [flat_len (fun e he => p4 e (List.mem_of_mem_take he)), List.length_take, Nat.min_eq_left hi]
    have hsp : es.flatten = (es.take i).flatten ++ (es.drop i).flatten := by rw [← List.flatten_append, List.take_append_drop]
    have hl2 : (es.take i ++ (x :: es.drop i)).length = es.length + 1 := by simp; omega
    obtain ⟨ρ', r1, r2, r3, r4, r5, r6, r7, r8, r9⟩ := acg_one (k := k) (c := 0) hL hS hrd hR (m2.mono (fun b hb => ⟨1000, v0, p1, hb⟩)) ⟨false, 62, 7, es.take i ++ (x :: es.drop i)⟩ v' _ rfl p3 (fun y hy => by
      rcases List.mem_append.1 hy with hy | hy
      · exact p4 y (List.mem_of_mem_take hy)
      · rcases List.mem_cons.1 hy with rfl | hy
        · exact q4 _ (by simp)
        · exact p4 y (List.mem_of_mem_drop hy)) (by dsimp only; rw [hl2]; exact m1) (fun g hg => (m3 g hg).imp (fun h => ⟨1000, v0, p1, h⟩) (fun h => h)) (by
        dsimp only
        rw [hfl]
        rw [hsp] at p7
        have t1 := p7.take (i * 7)
        have t2 := p7.drop (i * 7)
        rw [← hlt, List.take_left] at t1
        rw [← hlt, List.drop_left] at t2
        rw [hlt] at t1 t2
        exact t1.append ((by simpa using q7 : RepL w ρ x xs1).append t2)) (fun e he c hc => by
        rcases List.mem_append.1 he with he | he
        · exact hes e (List.mem_of_mem_take he) c hc
        · rcases List.mem_cons.1 he with rfl | he
          · exact hx c hc
          · exact hes e (List.mem_of_mem_drop he) c hc) (fun u hu => by
        rcases List.mem_append.1 hu with hu | hu
        · exact p8 u (List.mem_of_mem_take hu)
        · rcases List.mem_append.1 hu with hu | hu
          · exact q8 u hu
          · exact p8 u (List.mem_of_mem_drop hu))
    exact ⟨v', _, _, ρ', rfl, r1, r2, r3, r4, r5, r6, r7, (fun id r h1 h2 u h3 => by rw [r8 id (by have := rowsOf_key h1; simp at this; omega)] at h3; cases h3), by rw [hl2] at r9; exact r9, rfl, rfl⟩
theorem delI_ACG (es : List (List AV)) (i : Nat) (hi : i < es.length) (hes : ∀ e ∈ es, ∀ c ∈ e, Pur c) :
    ACG Try.prog 106 [.own 1000 es.length, .int .i64 i, .int .i64 ((i : Int) + 1)] [(1000, ⟨false, 62, 7, es⟩)] 0 (fun r l => r = .own 1 (es.length - 1) ∧ l = [(1, ⟨false, 62, 7, es.take i ++ es.drop (i + 1)⟩)]) := by
  refine ⟨Go.Proofs.Ytmeobmegnneegaa.Eng.enters_of Try.func106 (by kernel_rfl) (by kernel_rfl), by simp, fun w ρ k vs hL hS hrd hU hR hargs => ?_⟩
  obtain ⟨v0, v1, v2, rfl, a0, a1, a2⟩ := insI_inv3 hargs
  obtain ⟨u0, p1, p2, ⟨p3, _⟩, p4, p5, xs0, p6, p7, p8⟩ := hR.rw 1000 _ rfl
  dsimp only at p2 p4 p6 p7
  obtain ⟨_, _, _, hv0⟩ := rep_own.1 a0
  have := hv0 u0 p1 p2.symm
  subst this
  rw [rep_int] at a1 a2
  subst a1 a2
  rcases p6 with ⟨h0, _⟩ | ⟨g, cap, cur, rfl, hp, _, hg, hnc, hcm, hcs, htk, hol⟩
  · omega
  have hG : Row0 w g cur.toList 62 := by show _ = _; rw [hg]
  have hbl : blk (.slice (some ⟨g, 0, none⟩) es.length cap) = some g := blk_slice _ _ _ hp
  have hcl : cur.toList.length = cap * 7 := by rw [Array.length_toList, hcs]
  have hl2 : (es.take i ++ es.drop (i + 1)).length = es.length - 1 := by simp; omega
  have hsp : es.flatten = (es.take i).flatten ++ (es.drop i).flatten := by rw [← List.flatten_append, List.take_append_drop]
  have hlt : (es.take i).flatten.length = i * 7 := by rw [flat_len (fun e he => p4 e (List.mem_of_mem_take he)), List.length_take, Nat.min_eq_left (by omega)]
  have hlt2 : (es.take (i + 1)).flatten.length = (i + 1) * 7 := by rw [flat_len (fun e he => p4 e (List.mem_of_mem_take he)), List.length_take, Nat.min_eq_left (by omega)]
  have hsp2 : es.flatten = (es.take (i + 1)).flatten ++ (es.drop (i + 1)).flatten := by rw [← List.flatten_append, List.take_append_drop]
  have key : Calls Try.prog 106 #[.slice (some ⟨g, 0, none⟩) es.length cap, .int .i64 i, .int .i64 ((i : Int) + 1)] w fun e w' =>
      ∃ L', e = .returned (.slice (some ⟨g, 0, none⟩) (es.length - 1 : Nat) cap) ∧ Ext (fun k => k = g) w w' ∧ Row0 w' g L' 62 ∧ L'.length = cap * 7 ∧ L'.take ((es.length - 1) * 7) = xs0.take (i * 7) ++ xs0.drop ((i + 1) * 7) := by
    have hcut : cur.toList.take (i * 7) = xs0.take (i * 7) := by rw [← htk, List.take_take, Nat.min_eq_left (by omega)]
    by_cases hci : cap = i + 1
    · subst hci
      have : es.length = i + 1 := by omega
      rw [this]
      refine (delI_last w g i cur.toList hG hcl hcm).mono ?_
      rintro e w' ⟨L', rfl, m1, m2, m3, m4⟩
      refine ⟨L', by simp, m1, m2, m3, ?_⟩
      rw [Nat.add_sub_cancel, m4, hcut, List.drop_of_length_le (by rw [hol, this]; exact Nat.le_refl _), List.append_nil]
    · refine (delI_mid w g es.length cap i cur.toList hG hcl hi hnc hcm hci (by rw [htk]; exact p8)).mono ?_
      rintro e w' ⟨L', rfl, m1, m2, m3, m4⟩
      exact ⟨L', rfl, m1, m2, m3, by rw [m4, hcut, htk]⟩
  refine key.mono ?_
  rintro e w' ⟨L', rfl, m1, m2, m3, m4⟩
  have hat : Eng.RowAt w' 0 62 7 (.slice (some ⟨g, 0, none⟩) (es.length - 1) cap) (es.length - 1) (xs0.take (i * 7) ++ xs0.drop ((i + 1) * 7)) :=
    .inr ⟨g, cap, _, rfl, hp, Nat.zero_le _, m2.out, by omega, hcm, by rw [List.size_toArray, m3], by rw [← m4], by simp only [List.length_append, List.length_take, List.length_drop, hol, Nat.sub_mul, Nat.add_mul]; omega⟩
  obtain ⟨ρ', r1, r2, r3, r4, r5, r6, r7, r8, r9⟩ := acg_one (k := k) (c := 0) hL hS hrd hR (m1.mono (fun b hb => ⟨1000, _, p1, by rw [hbl, hb]⟩)) ⟨false, 62, 7, es.take i ++ es.drop (i + 1)⟩ _ _ rfl p3 (fun y hy => by
    rcases List.mem_append.1 hy with hy | hy
    · exact p4 y (List.mem_of_mem_take hy)
    · exact p4 y (List.mem_of_mem_drop hy)) (by dsimp only; rw [hl2]; exact hat) (fun g' hg' => .inl ⟨1000, _, p1, by rw [hbl]; rw [blk_slice _ _ _ hp] at hg'; exact hg'⟩) (by
      dsimp only
      rw [List.flatten_append]
      have t1 := p7
      have t2 := p7
      rw [hsp] at t1
      rw [hsp2] at t2
      have t1 := t1.take (i * 7)
      have t2 := t2.drop ((i + 1) * 7)
      rw [← hlt, List.take_left] at t1
      rw [← hlt2, List.drop_left] at t2
      rw [hlt] at t1
      rw [hlt2] at t2
      exact t1.append t2) (fun e he c hc => by
      rcases List.mem_append.1 he with he | he
      · exact hes e (List.mem_of_mem_take he) c hc
      · exact hes e (List.mem_of_mem_drop he) c hc) (fun u hu => by
      rcases List.mem_append.1 hu with hu | hu
      · exact p8 u (List.mem_of_mem_take hu)
      · exact p8 u (List.mem_of_mem_drop hu))
  exact ⟨_, _, _, ρ', rfl, r1, r2, r3, r4, r5, r6, r7, (fun id r h1 h2 u h3 => by rw [r8 id (by have := rowsOf_key h1; simp at this; omega)] at h3; cases h3), by rw [hl2] at r9; exact r9, rfl, rfl⟩
end Go.Proofs.Ytmeobmegnneegaa
-- EV: store
namespace Go.Proofs.Ytmeobmegnneegaa.Eng
open Go Go.RowKit
attribute [local simp] big size_mk ASt.pay Option.map_map Function.comp_def awant aop acall ado aev ofVal ofVal0 ASt.put ASt.add ASt.turn ASt.kill abox aalloc astore aload ASt.at cellsTo afieldAddr afield aindexAddr aindex alen abin aint acmp astr aun apick aextract anil aslice abound abuild afill abuildSlice asCells aps avCells over upd aappend asrc amax amin aconv mkSt slots rowsOf_cons rowsOf_nil usedOf_cons usedOf_nil ZK.av List.replicate ASt.back ASt.addL ASt.killL nodeA nodeT nodeTL_eq nodeL_eq strsE_get strsE_len intsE_get intsE_len strsE_at intsE_at itemA itemL_eq storeA storeT storeO itemsRow tab2 tab3 tab4 tab5 tab6 tab7 tab8 tab9 tab10 tab11 tab12 tab13 tab14 tab15 tab16 tab17 tab18 tab19 tab21 tab22 tab23 tab24 tab25 tab26 tab27 tab28 tab31 tab32 tab33 tab37 tab38 tab39 tab46 tab53 tab61 tab62 tab69 tab70 tab98 tab116 tab117 tab125 tab126 tab128 tab136 tab145 tab146 tab151 tab152 tab153 tab155 tab156 tab157
set_option linter.unusedSimpArgs false
set_option maxRecDepth 100000 in
set_option maxHeartbeats 8000000 in
theorem copyItem_AC (x : Itm) (hx : Sml x.2.2) : AC Try.prog 98 [itemA x] 0 (fun r => r = itemA x) := by
  unfold itemA
  rw [itemL_eq]
  refine AC.of tab_ok mixed_ok Try.func98 (by rfl) (by kernel_rfl) ?_; rintro ⟨P, T, hT, hm, w0, S0, rd0, k0⟩ hP hTT; dsimp only at hP hTT; subst hP hTT; unfold initSt; rw [Try.ntmps98]
  (repeat (first | with_reducible refine AW.seq ?_ | ((first | refine arun_kn 4 rfl (fun C hC => ?_) | refine arunD_kn 4 rfl (fun C hC => ?_)); (repeat ((conv => whnf); simp)); refine hC _ ?_; clear hC C; simp only [List.drop, Nat.reduceAdd]) | ((first | refine arun_kn 1 rfl (fun C hC => ?_) | refine arunD_kn 1 rfl (fun C hC => ?_)); (repeat ((conv => whnf); simp)); refine hC _ ?_; clear hC C; simp only [List.drop, Nat.reduceAdd]) | (refine arun_skip ?_ ?_; (focus (simp [awant]; done))) | (refine arun_c0 (implCopy_AC x.2.2 hx) ?_; rintro _ rfl) | (refine arunD_skip ?_ ?_; (focus (simp [awant]; done))) | (refine arunD_c (0) (implCopy_AC x.2.2 hx) ?_; rintro _ rfl; intro _) | (refine AW.regionK [] (fun K hK => ?_)) | (refine AW.regionDK [] (pcs [(6, 0, fun r => r = nodeA x.2.2)] []) (by kernel_rfl) (by kernel_rfl) (fun K hK => ?_)) | (refine AW.condT ?_ ?_; (focus (simp [aev]; done))) | (refine AW.condF ?_ ?_; (focus (simp [aev]; done))) | with_reducible refine AW.block ?_ | ((first | ((first | refine arun_nil ?_ | refine arunD_nil ?_); refine hK _ ?_; clear hK K) | refine AW.skip ?_ | refine AW.exit ?_ | refine AW.ret ?_); simp only [thenA_exit, inBlockA_exit, if_true, if_false, Nat.reduceEqDiff, thenA_normal, inBlockA_normal, reduceIte, thenA_ret, inBlockA_ret, endQ_ret, endR_ret, endG_ret, endQ_normal, endR_normal, endG_normal])))
  exact ⟨itemA x, by simp [ares, aresL, upd, rowsOf_cons], item_pur x, by rw [itemA, itemL_eq]⟩
def zeroI : List AV := [.str ⟨#[]⟩, .int .i64 0, .int .i64 0, .int .i64 0, .str ⟨#[]⟩, .view .tight 0 [], .view .tight 0 []]
def partI (ks : List Itm) (i : Nat) : List (List AV) := (ks.take i).map itemL ++ List.replicate (ks.length - i) zeroI
theorem partI_len (ks : List Itm) (i : Nat) (h : i ≤ ks.length) : (partI ks i).length = ks.length := by unfold partI; simp only [List.length_append, List.length_map, List.length_take, List.length_replicate]; omega
theorem partI_zero (ks : List Itm) : partI ks 0 = List.replicate ks.length zeroI := by unfold partI; rfl
theorem partI_all (ks : List Itm) : partI ks ks.length = ks.map itemL := by unfold partI; rw [List.take_length, Nat.sub_self, List.replicate_zero, List.append_nil]
theorem partI_get (ks : List Itm) (i : Nat) (h : i < ks.length) : ∀ h, (partI ks i)[i]'h = zeroI := by
  intro h'
  have hl : ((ks.take i).map itemL).length = i := by rw [List.length_map, List.length_take]; omega
  unfold partI at h' ⊢
  rw [List.getElem_append_right (by omega)]
  exact List.getElem_replicate _
theorem partI_set (ks : List Itm) (i : Nat) (h : i < ks.length) : (partI ks i).set i (itemL ks[i]) = partI ks (i + 1) := by
  unfold partI
  have hl : ((ks.take i).map itemL).length = i := by rw [List.length_map, List.length_take]; omega
  rw [List.set_append_right _ _ (by omega), hl, Nat.sub_self, List.take_add_one, List.getElem?_eq_getElem h]
  have : ks.length - i = (ks.length - (i + 1)) + 1 := by omega
  rw [this, List.replicate_succ, List.set_cons_zero, List.map_append, List.append_assoc]
  rfl
theorem partI_in {U : Nat → Bool} (ks : List Itm) (i : Nat) : ∀ e ∈ partI ks i, ∀ c ∈ e, AV.In U c := by
  intro e he c hc
  unfold partI at he
  rcases List.mem_append.1 he with he | he
  · exact itemsE_in (ks.take i) e he c hc
  · rw [List.eq_of_mem_replicate he] at hc
    simp only [zeroI, List.mem_cons, List.not_mem_nil, or_false] at hc
    rcases hc with rfl | rfl | rfl | rfl | rfl | rfl | rfl
    · exact in_str
    · exact in_int
    · exact in_int
    · exact in_int
    · exact in_str
    · exact in_vnil
    · exact in_vnil
set_option maxRecDepth 100000 in
set_option maxHeartbeats 8000000 in
theorem implCopyStore_ACG (s : Sto) (hs : SmlS s) : ACG Try.prog 79 [storeA s] [] 0 (Post1 (storeO s) (itemsRow s)) := by
  obtain ⟨hs1, hs2⟩ := hs
  unfold storeA storeT
  refine ACG.of tab_ok mixed_ok Try.func79 (by rfl) (by kernel_rfl) (by simp) ?_; rintro ⟨P, T, hT, hm, w0, S0, rd0, k0⟩ hP hTT; dsimp only at hP hTT; subst hP hTT; unfold initStG; rw [Try.ntmps79]
  refine AW.seq ?_
  (refine AW.regionK [] (fun K hK => ?_); (repeat (refine arun_ks 4 rfl (fun C hC => ?_); (repeat ((conv => whnf); simp)); refine hC _ ?_; clear hC C; simp only [List.drop_succ_cons, List.drop_zero, List.drop_nil])); refine arun_nil ?_; refine hK _ ?_; clear hK K; simp only [thenA_normal, inBlockA_normal, endQ_normal, endR_normal])
  refine AW.seq ?_
  (refine AW.regionK [] (fun K hK => ?_); (repeat (refine arun_ks 4 rfl (fun C hC => ?_); (repeat ((conv => whnf); simp)); refine hC _ ?_; clear hC C; simp only [List.drop_succ_cons, List.drop_zero, List.drop_nil])); refine arun_nil ?_; refine hK _ ?_; clear hK K; simp only [thenA_normal, inBlockA_normal, endQ_normal, endR_normal])
  refine AW.seq ?_
  refine AW.cutN (fun (_ : Unit) => mkSt (slots 0 34 [(2, .ptr true 2 1 2 0 0), (3, .ptr true 2 1 3 0 0)]) [(2, ⟨true, 33, 2, [[.view .tight 0 [], .int .i64 0]]⟩), (3, ⟨true, 33, 2, [[.own 16 s.1.length, .int .i64 s.2]]⟩), (16, itemsRow s)] [2, 3, 16] (rd0.map fun _ => 0)) (fun _ => True) ?_ ?_
  · by_cases hn0 : 0 < s.1.length
    · (repeat (first | with_reducible refine AW.seq ?_ | ((first | refine arun_kn 4 rfl (fun C hC => ?_) | refine arunD_kn 4 rfl (fun C hC => ?_)); (repeat ((conv => whnf); simp [hn0])); refine hC _ ?_; clear hC C; simp only [List.drop, Nat.reduceAdd]) | ((first | refine arun_kn 1 rfl (fun C hC => ?_) | refine arunD_kn 1 rfl (fun C hC => ?_)); (repeat ((conv => whnf); simp [hn0])); refine hC _ ?_; clear hC C; simp only [List.drop, Nat.reduceAdd]) | (refine arun_skip ?_ ?_; (focus (simp [awant, hn0]; done))) | (refine arunD_skip ?_ ?_; (focus (simp [awant, hn0]; done))) | (refine AW.regionK [] (fun K hK => ?_)) | (refine AW.regionDK [] (pcs [] []) (by kernel_rfl) (by kernel_rfl) (fun K hK => ?_)) | (refine AW.condT ?_ ?_; (focus (simp [aev, hn0]; done))) | (refine AW.condF ?_ ?_; (focus (simp [aev, hn0]; done))) | with_reducible refine AW.block ?_ | ((first | ((first | refine arun_nil ?_ | refine arunD_nil ?_); refine hK _ ?_; clear hK K) | refine AW.skip ?_ | refine AW.exit ?_ | refine AW.ret ?_); simp only [thenA_exit, inBlockA_exit, if_true, if_false, Nat.reduceEqDiff, thenA_normal, inBlockA_normal, reduceIte, thenA_ret, inBlockA_ret, endQ_ret, endR_ret, endG_ret, endQ_normal, endR_normal, endG_normal])))
      refine arun_make 16 rfl (by simp [awant]) rfl tab31 tab62 (by decide) rfl (by dsimp only; omega) (by unfold maxLen; omega) (by simp [upd]) ?_
      (repeat (first | with_reducible refine AW.seq ?_ | ((first | refine arun_kn 4 rfl (fun C hC => ?_) | refine arunD_kn 4 rfl (fun C hC => ?_)); (repeat ((conv => whnf); simp [hn0])); refine hC _ ?_; clear hC C; simp only [List.drop, Nat.reduceAdd]) | ((first | refine arun_kn 1 rfl (fun C hC => ?_) | refine arunD_kn 1 rfl (fun C hC => ?_)); (repeat ((conv => whnf); simp [hn0])); refine hC _ ?_; clear hC C; simp only [List.drop, Nat.reduceAdd]) | (refine arun_skip ?_ ?_; (focus (simp [awant, hn0]; done))) | (refine arunD_skip ?_ ?_; (focus (simp [awant, hn0]; done))) | (refine AW.regionK [] (fun K hK => ?_)) | (refine AW.regionDK [] (pcs [] []) (by kernel_rfl) (by kernel_rfl) (fun K hK => ?_)) | (refine AW.condT ?_ ?_; (focus (simp [aev, hn0]; done))) | (refine AW.condF ?_ ?_; (focus (simp [aev, hn0]; done))) | with_reducible refine AW.block ?_ | ((first | ((first | refine arun_nil ?_ | refine arunD_nil ?_); refine hK _ ?_; clear hK K) | refine AW.skip ?_ | refine AW.exit ?_ | refine AW.ret ?_); simp only [thenA_exit, inBlockA_exit, if_true, if_false, Nat.reduceEqDiff, thenA_normal, inBlockA_normal, reduceIte, thenA_ret, inBlockA_ret, endQ_ret, endR_ret, endG_ret, endQ_normal, endR_normal, endG_normal])))
      refine AW.loopS (fun (i : Nat) => mkSt (slots 0 34 [(1, .ptr true 2 1 1 0 0), (2, .ptr true 2 1 2 0 0), (3, .ptr true 2 1 3 0 0), (19, .view .loose 7 (s.1.map itemL)), (20, .int .i64 s.1.length), (21, .int .i64 i)]) [(1, ⟨true, 33, 2, [[.view .loose 7 (s.1.map itemL), .int .i64 s.2]]⟩), (2, ⟨true, 33, 2, [[.view .tight 0 [], .int .i64 0]]⟩), (3, ⟨true, 33, 2, [[.own 16 s.1.length, .int .i64 s.2]]⟩), (16, ⟨false, 62, 7, partI s.1 i⟩)] [1, 2, 3, 16] (rd0.map fun _ => 0)) (fun i => s.1.length - i) (fun i => i ≤ s.1.length) 0 ?_ (Nat.zero_le _) ?_
      · have hin : ∀ U : Nat → Bool, ∀ e ∈ partI s.1 0, ∀ c ∈ e, AV.In U c := fun U => partI_in _ _
        rw [partI_zero] at hin ⊢
        exact (less_of (by simp [lessL, mkSt, slots, zeroI, itemA, itemL_eq, storeA, storeT, storeO, itemsRow]) (by simp [upd, mkSt, rowsOf_cons, zeroI, itemA, itemL_eq, storeA, storeT, storeO, itemsRow]) (by simp [upd, mkSt, usedOf_cons, zeroI, itemA, itemL_eq, storeA, storeT, storeO, itemsRow]) (by first | exact rd_less (by omega) | simp [mkSt, zeroI, itemA, itemL_eq, storeA, storeT, storeO, itemsRow]) (by simp [slots, in_any, in_int, in_bool, in_str, in_ptr, in_own, in_agg, in_vnil, in_rdr, usedOf_cons, usedOf_nil, strs_in, ints_in, nodes_in, items_in, in_tup, zeroI, itemA, itemL_eq, storeA, storeT, storeO, itemsRow]) (by simp only [List.forall_mem_cons, List.not_mem_nil, false_implies, implies_true, and_true, true_and, zeroI, itemA, itemL_eq, storeA, storeT, storeO, itemsRow]; (repeat (first | with_reducible exact trivial | with_reducible refine And.intro ?_ ?_ | with_reducible exact in_int | with_reducible exact in_str | with_reducible exact in_bool | with_reducible exact strs_in _ | with_reducible exact nodes_in _ | with_reducible exact items_in _ | with_reducible exact in_vnil | with_reducible exact in_any | exact hin _ | with_reducible refine take_in ?_ | with_reducible exact strsE_in _ | with_reducible exact nodesE_in _ | with_reducible exact nodeL_in _ | with_reducible exact itemsE_in _ | with_reducible exact itemL_in _ | with_reducible refine app_in ?_ ?_ | with_reducible refine sing_in ?_ | (focus (simp [in_any, in_int, in_bool, in_str, in_ptr, in_own, in_agg, in_vnil, in_rdr, usedOf_cons, usedOf_nil, strs_in, ints_in, nodes_in, items_in, zeroI, itemA, itemL_eq, storeA, storeT, storeO, itemsRow]; done)))); done))
      · intro i hi
        have hpl := partI_len s.1 i hi
        by_cases hlt : i < s.1.length
        · have hw : IntKind.i64.wrap ((i : Int) + 1) = (i : Int) + 1 := i64_nat (by omega) (by omega)
          have hgd := partI_get s.1 i hlt
          unfold zeroI at hgd
          have hset := partI_set s.1 i hlt
          rw [itemL_eq] at hset
          have hin : ∀ U : Nat → Bool, ∀ e ∈ partI s.1 (i + 1), ∀ c ∈ e, AV.In U c := fun U => partI_in _ _
          (repeat (first | with_reducible refine AW.seq ?_ | ((first | refine arun_kn 4 rfl (fun C hC => ?_) | refine arunD_kn 4 rfl (fun C hC => ?_)); (repeat ((conv => whnf); simp [hlt, hw, hpl, hgd])); refine hC _ ?_; clear hC C; simp only [List.drop, Nat.reduceAdd]) | ((first | refine arun_kn 1 rfl (fun C hC => ?_) | refine arunD_kn 1 rfl (fun C hC => ?_)); (repeat ((conv => whnf); simp [hlt, hw, hpl, hgd])); refine hC _ ?_; clear hC C; simp only [List.drop, Nat.reduceAdd]) | (refine arun_skip ?_ ?_; (focus (simp [awant, hlt, hw, hpl, hgd]; done))) | (refine arun_c0 (copyItem_AC s.1[i] (hs2 _ (List.getElem_mem hlt))) ?_; rintro _ rfl) | (refine arunD_skip ?_ ?_; (focus (simp [awant, hlt, hw, hpl, hgd]; done))) | (refine arunD_c (0) (copyItem_AC s.1[i] (hs2 _ (List.getElem_mem hlt))) ?_; rintro _ rfl; intro _) | (refine AW.regionK [] (fun K hK => ?_)) | (refine AW.regionDK [] (pcs [(4, 0, fun r => r = itemA s.1[i])] []) (by kernel_rfl) (by kernel_rfl) (fun K hK => ?_)) | (refine AW.condT ?_ ?_; (focus (simp [aev, hlt, hw, hpl, hgd]; done))) | (refine AW.condF ?_ ?_; (focus (simp [aev, hlt, hw, hpl, hgd]; done))) | with_reducible refine AW.block ?_ | ((first | ((first | refine arun_nil ?_ | refine arunD_nil ?_); refine hK _ ?_; clear hK K) | refine AW.skip ?_ | refine AW.exit ?_ | refine AW.ret ?_); simp only [thenA_exit, inBlockA_exit, if_true, if_false, Nat.reduceEqDiff, thenA_normal, inBlockA_normal, reduceIte, thenA_ret, inBlockA_ret, endQ_ret, endR_ret, endG_ret, endQ_normal, endR_normal, endG_normal])))
          refine ⟨i + 1, by omega, by omega, ?_⟩
          exact (less_of (by simp [lessL, mkSt, slots, hset, itemA, itemL_eq, storeA, storeT, storeO, itemsRow]) (by simp [upd, mkSt, rowsOf_cons, hset, itemA, itemL_eq, storeA, storeT, storeO, itemsRow]) (by simp [upd, mkSt, usedOf_cons, hset, itemA, itemL_eq, storeA, storeT, storeO, itemsRow]) (by first | exact rd_less (by omega) | simp [mkSt, hset, itemA, itemL_eq, storeA, storeT, storeO, itemsRow]) (by simp [slots, in_any, in_int, in_bool, in_str, in_ptr, in_own, in_agg, in_vnil, in_rdr, usedOf_cons, usedOf_nil, strs_in, ints_in, nodes_in, items_in, in_tup, hset, itemA, itemL_eq, storeA, storeT, storeO, itemsRow]) (by simp only [List.forall_mem_cons, List.not_mem_nil, false_implies, implies_true, and_true, true_and, hset, itemA, itemL_eq, storeA, storeT, storeO, itemsRow]; (repeat (first | with_reducible exact trivial | with_reducible refine And.intro ?_ ?_ | with_reducible exact in_int | with_reducible exact in_str | with_reducible exact in_bool | with_reducible exact strs_in _ | with_reducible exact nodes_in _ | with_reducible exact items_in _ | with_reducible exact in_vnil | with_reducible exact in_any | exact hin _ | with_reducible refine take_in ?_ | with_reducible exact strsE_in _ | with_reducible exact nodesE_in _ | with_reducible exact nodeL_in _ | with_reducible exact itemsE_in _ | with_reducible exact itemL_in _ | with_reducible refine app_in ?_ ?_ | with_reducible refine sing_in ?_ | (focus (simp [in_any, in_int, in_bool, in_str, in_ptr, in_own, in_agg, in_vnil, in_rdr, usedOf_cons, usedOf_nil, strs_in, ints_in, nodes_in, items_in, hset, itemA, itemL_eq, storeA, storeT, storeO, itemsRow]; done)))); done))
        · obtain rfl : i = s.1.length := by omega
          (repeat (first | with_reducible refine AW.seq ?_ | ((first | refine arun_kn 4 rfl (fun C hC => ?_) | refine arunD_kn 4 rfl (fun C hC => ?_)); (repeat ((conv => whnf); simp)); refine hC _ ?_; clear hC C; simp only [List.drop, Nat.reduceAdd]) | ((first | refine arun_kn 1 rfl (fun C hC => ?_) | refine arunD_kn 1 rfl (fun C hC => ?_)); (repeat ((conv => whnf); simp)); refine hC _ ?_; clear hC C; simp only [List.drop, Nat.reduceAdd]) | (refine arun_skip ?_ ?_; (focus (simp [awant]; done))) | (refine arunD_skip ?_ ?_; (focus (simp [awant]; done))) | (refine AW.regionK [] (fun K hK => ?_)) | (refine AW.regionDK [] (pcs [] []) (by kernel_rfl) (by kernel_rfl) (fun K hK => ?_)) | (refine AW.condT ?_ ?_; (focus (simp [aev]; done))) | (refine AW.condF ?_ ?_; (focus (simp [aev]; done))) | with_reducible refine AW.block ?_ | ((first | ((first | refine arun_nil ?_ | refine arunD_nil ?_); refine hK _ ?_; clear hK K) | refine AW.skip ?_ | refine AW.exit ?_ | refine AW.ret ?_); simp only [thenA_exit, inBlockA_exit, if_true, if_false, Nat.reduceEqDiff, thenA_normal, inBlockA_normal, reduceIte, thenA_ret, inBlockA_ret, endQ_ret, endR_ret, endG_ret, endQ_normal, endR_normal, endG_normal])))
          refine ⟨(), trivial, ?_⟩
          rw [partI_all]
          exact less_s
    · have hl0 : s.1.length = 0 := by omega
      have he0 : s.1 = [] := List.length_eq_zero_iff.1 hl0
      refine AW.adoptB 3 0 16 62 7 ⟨_, tab62, rfl⟩ (by simp [upd]; rfl) rfl rfl (by simp [upd]) ?_
      simp only [ASt.adoptB]
      (repeat (first | with_reducible refine AW.seq ?_ | ((first | refine arun_kn 4 rfl (fun C hC => ?_) | refine arunD_kn 4 rfl (fun C hC => ?_)); (repeat ((conv => whnf); simp [hl0])); refine hC _ ?_; clear hC C; simp only [List.drop, Nat.reduceAdd]) | ((first | refine arun_kn 1 rfl (fun C hC => ?_) | refine arunD_kn 1 rfl (fun C hC => ?_)); (repeat ((conv => whnf); simp [hl0])); refine hC _ ?_; clear hC C; simp only [List.drop, Nat.reduceAdd]) | (refine arun_skip ?_ ?_; (focus (simp [awant, hl0]; done))) | (refine arunD_skip ?_ ?_; (focus (simp [awant, hl0]; done))) | (refine AW.regionK [] (fun K hK => ?_)) | (refine AW.regionDK [] (pcs [] []) (by kernel_rfl) (by kernel_rfl) (fun K hK => ?_)) | (refine AW.condT ?_ ?_; (focus (simp [aev, hl0]; done))) | (refine AW.condF ?_ ?_; (focus (simp [aev, hl0]; done))) | with_reducible refine AW.block ?_ | ((first | ((first | refine arun_nil ?_ | refine arunD_nil ?_); refine hK _ ?_; clear hK K) | refine AW.skip ?_ | refine AW.exit ?_ | refine AW.ret ?_); simp only [thenA_exit, inBlockA_exit, if_true, if_false, Nat.reduceEqDiff, thenA_normal, inBlockA_normal, reduceIte, thenA_ret, inBlockA_ret, endQ_ret, endR_ret, endG_ret, endQ_normal, endR_normal, endG_normal])))
      exact ⟨(), trivial, (less_of (by simp [lessL, mkSt, slots, he0, itemA, itemL_eq, storeA, storeT, storeO, itemsRow]) (by simp [upd, mkSt, rowsOf_cons, he0, itemA, itemL_eq, storeA, storeT, storeO, itemsRow]) (by simp [upd, mkSt, usedOf_cons, he0, itemA, itemL_eq, storeA, storeT, storeO, itemsRow]) (by first | exact rd_less (by omega) | simp [mkSt, he0, itemA, itemL_eq, storeA, storeT, storeO, itemsRow]) (by simp [slots, in_any, in_int, in_bool, in_str, in_ptr, in_own, in_agg, in_vnil, in_rdr, usedOf_cons, usedOf_nil, strs_in, ints_in, nodes_in, items_in, in_tup, he0, itemA, itemL_eq, storeA, storeT, storeO, itemsRow]) (by simp only [List.forall_mem_cons, List.not_mem_nil, false_implies, implies_true, and_true, true_and, he0, itemA, itemL_eq, storeA, storeT, storeO, itemsRow]; (repeat (first | with_reducible exact trivial | with_reducible refine And.intro ?_ ?_ | with_reducible exact in_int | with_reducible exact in_str | with_reducible exact in_bool | with_reducible exact strs_in _ | with_reducible exact nodes_in _ | with_reducible exact items_in _ | with_reducible exact in_vnil | with_reducible exact in_any | exact hin _ | with_reducible refine take_in ?_ | with_reducible exact strsE_in _ | with_reducible exact nodesE_in _ | with_reducible exact nodeL_in _ | with_reducible exact itemsE_in _ | with_reducible exact itemL_in _ | with_reducible refine app_in ?_ ?_ | with_reducible refine sing_in ?_ | (focus (simp [in_any, in_int, in_bool, in_str, in_ptr, in_own, in_agg, in_vnil, in_rdr, usedOf_cons, usedOf_nil, strs_in, ints_in, nodes_in, items_in, he0, itemA, itemL_eq, storeA, storeT, storeO, itemsRow]; done)))); done))⟩
  rintro ⟨⟩ s' - hls
  refine AW.less _ hls ?_
  clear hls s'
  (repeat (first | with_reducible refine AW.seq ?_ | ((first | refine arun_kn 4 rfl (fun C hC => ?_) | refine arunD_kn 4 rfl (fun C hC => ?_)); (repeat ((conv => whnf); simp)); refine hC _ ?_; clear hC C; simp only [List.drop, Nat.reduceAdd]) | ((first | refine arun_kn 1 rfl (fun C hC => ?_) | refine arunD_kn 1 rfl (fun C hC => ?_)); (repeat ((conv => whnf); simp)); refine hC _ ?_; clear hC C; simp only [List.drop, Nat.reduceAdd]) | (refine arun_skip ?_ ?_; (focus (simp [awant]; done))) | (refine arunD_skip ?_ ?_; (focus (simp [awant]; done))) | (refine AW.regionK [] (fun K hK => ?_)) | (refine AW.regionDK [] (pcs [] []) (by kernel_rfl) (by kernel_rfl) (fun K hK => ?_)) | (refine AW.condT ?_ ?_; (focus (simp [aev]; done))) | (refine AW.condF ?_ ?_; (focus (simp [aev]; done))) | with_reducible refine AW.block ?_ | ((first | ((first | refine arun_nil ?_ | refine arunD_nil ?_); refine hK _ ?_; clear hK K) | refine AW.skip ?_ | refine AW.exit ?_ | refine AW.ret ?_); simp only [thenA_exit, inBlockA_exit, if_true, if_false, Nat.reduceEqDiff, thenA_normal, inBlockA_normal, reduceIte, thenA_ret, inBlockA_ret, endQ_ret, endR_ret, endG_ret, endQ_normal, endR_normal, endG_normal])))
  refine ⟨storeO s 16, [(16, itemsRow s)], by simp [ares, aresL, upd, rowsOf_cons], by simp [mkSt, upd, rowsOf_cons], ?_, ?_, ?_, 16, rfl, rfl⟩
  · refine purR_agg ?_
    simp only [List.forall_mem_cons, List.not_mem_nil, false_implies, implies_true, and_true]
    exact ⟨purR_own, pur_int.purR⟩
  · simp only [List.forall_mem_cons, List.not_mem_nil, false_implies, implies_true, and_true]
    exact fun e he c hc => (itemsE_pur _ e he c hc).purR
  · refine ⟨by simp [storeO, in_agg, in_int, in_own, rowsOf_cons], ?_⟩
    simp only [List.forall_mem_cons, List.not_mem_nil, false_implies, implies_true, and_true]
    exact fun e he c hc => itemsE_in _ e he c hc
theorem findItem_AC (l : List Itm) (t : VC) (nm : ByteArray) (hasc : Asc (nmL l)) (hb : l.length ≤ 1000000) : AC Try.prog 97 [.view t 7 (l.map itemL), .str nm] 0 (fun r => r = .tup [.int .i64 (lbound (nmL l) nm : Nat), .bool (mem (nmL l) nm)]) := by
  refine AC.ofNew (enters_of Try.func97 (by kernel_rfl) (by kernel_rfl)) (fun w L S rb vs hargs => ?_)
  obtain ⟨v0, v1, rfl, a0, a1⟩ := repL2_inv hargs
  obtain ⟨a, c, rfl, hs⟩ := items_of_rep a0
  obtain ⟨rfl, _⟩ := rep_str.1 a1
  refine (findItem_ok l a c nm w hs hasc hb).mono ?_
  rintro e w' ⟨rfl, hg⟩
  exact ⟨_, _, rfl, hg, rep_tup.2 ⟨[_, _], rfl, repL2 (rep_int.2 rfl) (rep_bool.2 rfl)⟩, rfl⟩
def putI (l : List Itm) (it : Itm) : List Itm := if mem (nmL l) it.1 then l.set (lbound (nmL l) it.1) it else l.take (lbound (nmL l) it.1) ++ (it :: l.drop (lbound (nmL l) it.1))
end Go.Proofs.Ytmeobmegnneegaa.Eng
-- EV: store
namespace Go.Proofs.Ytmeobmegnneegaa.Eng
open Go Go.RowKit
theorem asc_head {x : ByteArray} {xs : List ByteArray} (h : Asc (x :: xs)) : (∀ y ∈ xs, lt x y = true) ∧ Asc xs := by
  refine ⟨fun y hy => ?_, fun i j hi hj hij => ?_⟩
  · obtain ⟨i, hi, rfl⟩ := List.getElem_of_mem hy
    have := h 0 (i + 1) (by simp) (by simpa using hi) (by omega)
    simpa using this
  · have := h (i + 1) (j + 1) (by simpa using hi) (by simpa using hj) (by omega)
    simpa using this
theorem putL_true {nm : ByteArray} {nx : Itm} : ∀ {l : List Itm}, (∀ y ∈ l, eqs y.1 nm = false) → putL nm nx true l = l
  | [], _ => rfl
  | x :: l, h => by
    unfold putL
    rw [h x (by simp)]
    simp only [Bool.not_true, Bool.false_and, Bool.false_eq_true, if_false, List.nil_append, List.singleton_append, Bool.true_or]
    rw [putL_true (fun y hy => h y (by simp [hy]))]
theorem dropL_none {nm : ByteArray} : ∀ {l : List Itm}, (∀ y ∈ l, eqs y.1 nm = false) → dropL nm l = l
  | [], _ => rfl
  | x :: l, h => by
    unfold dropL
    rw [h x (by simp), dropL_none (fun y hy => h y (by simp [hy]))]
    rfl
theorem nmL_cons (x : Itm) (l : List Itm) : nmL (x :: l) = x.1 :: nmL l := rfl
theorem lb_zero {nm x : ByteArray} {xs : List ByteArray} (h : lt x nm = false) (ha : ∀ y ∈ xs, lt x y = true) : lbound xs nm = 0 := by
  unfold lbound
  rw [List.countP_eq_zero]
  intro y hy hl
  have := ha y hy
  have h3 : lt x nm = true := bl_trans _ _ _ this hl
  rw [h] at h3; cases h3
theorem lts_false_of {x nm y : ByteArray} (h : lt x nm = false) (hy : lt x y = true) : eqs y nm = false := by
  rw [eqs_false]
  rintro rfl
  rw [h] at hy; cases hy
theorem putI_eq : ∀ {l : List Itm} (_ : Asc (nmL l)) (it : Itm), putI l it = putL it.1 it false l
  | [], _, it => by simp [putI, putL, nmL, mem, lbound]
  | x :: l, ha, it => by
    rw [nmL_cons] at ha
    obtain ⟨h1, h2⟩ := asc_head ha
    have h1' : ∀ y ∈ l, lt x.1 y.1 = true := fun y hy => h1 y.1 (List.mem_map.2 ⟨y, hy, rfl⟩)
    have ih := putI_eq h2 it
    unfold putL
    unfold putI at ih ⊢
    rw [nmL_cons]
    have hlb : lbound (x.1 :: nmL l) it.1 = lbound (nmL l) it.1 + if lt x.1 it.1 then 1 else 0 := by unfold lbound; rw [List.countP_cons]
    have hme : mem (x.1 :: nmL l) it.1 = (decide (x.1 = it.1) || mem (nmL l) it.1) := by unfold mem; rw [List.any_cons]
    rw [hlb, hme, lts_lt]
    cases hl : lt x.1 it.1 with
    | true =>
      have hne : eqs x.1 it.1 = false := by
        rw [eqs_false]
        intro e
        rw [e, lt_irr] at hl; cases hl
      have hd : decide (x.1 = it.1) = false := by rw [eqs_false] at hne; simpa using hne
      rw [hne, hd]
      simp only [Bool.false_or, if_true, Bool.not_true, Bool.and_false, Bool.false_eq_true, if_false, List.nil_append, List.singleton_append, Bool.or_false]
      rw [← ih]
      split
      · rfl
      · rfl
    | false =>
      have hz := lb_zero hl h1
      rw [hz]
      have hrest : putL it.1 it true l = l := putL_true (fun y hy => lts_false_of hl (h1' y hy))
      simp only [Bool.false_eq_true, if_false, Nat.add_zero, Bool.not_false, Bool.and_self, if_true, Bool.or_true, hrest]
      cases he : eqs x.1 it.1 with
      | true =>
        have hx : x.1 = it.1 := eqs_iff.1 he
        simp [hx]
      | false =>
        have hd : decide (x.1 = it.1) = false := by rw [eqs_false] at he; simpa using he
        have hm : mem (nmL l) it.1 = false := mem_no (fun hm => by
          have h3 := h1 _ hm
          rw [hl] at h3; cases h3)
        rw [hd, hm]
        simp
def dropI (l : List Itm) (nm : ByteArray) : List Itm := l.take (lbound (nmL l) nm) ++ l.drop (lbound (nmL l) nm + 1)
theorem dropI_eq : ∀ {l : List Itm} (_ : Asc (nmL l)) (nm : ByteArray), mem (nmL l) nm = true → dropI l nm = dropL nm l
  | [], _, nm, h => by simp [nmL, mem] at h
  | x :: l, ha, nm, h => by
    rw [nmL_cons] at ha h
    obtain ⟨h1, h2⟩ := asc_head ha
    have h1' : ∀ y ∈ l, lt x.1 y.1 = true := fun y hy => h1 y.1 (List.mem_map.2 ⟨y, hy, rfl⟩)
    unfold dropL
    unfold dropI
    rw [nmL_cons]
    have hlb : lbound (x.1 :: nmL l) nm = lbound (nmL l) nm + if lt x.1 nm then 1 else 0 := by unfold lbound; rw [List.countP_cons]
    have hme : mem (x.1 :: nmL l) nm = (decide (x.1 = nm) || mem (nmL l) nm) := by unfold mem; rw [List.any_cons]
    rw [hme] at h
    rw [hlb]
    cases hl : lt x.1 nm with
    | true =>
      have hne : eqs x.1 nm = false := by
        rw [eqs_false]
        intro e
        rw [e, lt_irr] at hl; cases hl
      have hd : decide (x.1 = nm) = false := by rw [eqs_false] at hne; simpa using hne
      rw [hd, Bool.false_or] at h
      have ih := dropI_eq h2 nm h
      unfold dropI at ih
      rw [hne]
      simp only [if_true, Bool.false_eq_true, if_false, List.singleton_append]
      rw [← ih]
      rfl
    | false =>
      have hz := lb_zero hl h1
      rw [hz]
      cases he : eqs x.1 nm with
      | true =>
        rw [dropL_none (fun y hy => lts_false_of hl (h1' y hy))]
        simp
      | false =>
        exfalso
        have hd : decide (x.1 = nm) = false := by rw [eqs_false] at he; simpa using he
        rw [hd, Bool.false_or, mem_iff] at h
        have h3 := h1 _ h
        rw [hl] at h3; cases h3
theorem lb_lt : ∀ {xs : List ByteArray} {nm : ByteArray}, mem xs nm = true → lbound xs nm < xs.length := fun {xs nm} h => by
  unfold lbound
  rw [Nat.lt_iff_le_and_ne]
  refine ⟨List.countP_le_length, fun e => ?_⟩
  rw [List.countP_eq_length] at e
  have := e nm (mem_iff.1 h)
  rw [lt_irr] at this; cases this
theorem lb_le (xs : List ByteArray) (nm : ByteArray) : lbound xs nm ≤ xs.length := List.countP_le_length
end Go.Proofs.Ytmeobmegnneegaa.Eng
-- EV: store
namespace Go.Proofs.Ytmeobmegnneegaa.Eng
open Go Go.RowKit
attribute [local simp] big size_mk ASt.pay Option.map_map Function.comp_def awant aop acall ado aev ofVal ofVal0 ASt.put ASt.add ASt.turn ASt.kill abox aalloc astore aload ASt.at cellsTo afieldAddr afield aindexAddr aindex alen abin aint acmp astr aun apick aextract anil aslice abound abuild afill abuildSlice asCells aps avCells over upd aappend asrc amax amin aconv mkSt slots rowsOf_cons rowsOf_nil usedOf_cons usedOf_nil ZK.av List.replicate ASt.back ASt.addL ASt.killL nodeA nodeT nodeTL_eq nodeL_eq strsE_get strsE_len intsE_get intsE_len strsE_at intsE_at itemA itemL_eq storeA storeT storeO itemsRow tab2 tab3 tab4 tab5 tab6 tab7 tab8 tab9 tab10 tab11 tab12 tab13 tab14 tab15 tab16 tab17 tab18 tab19 tab21 tab22 tab23 tab24 tab25 tab26 tab27 tab28 tab31 tab32 tab33 tab37 tab38 tab39 tab46 tab53 tab61 tab62 tab69 tab70 tab98 tab116 tab117 tab125 tab126 tab128 tab136 tab145 tab146 tab151 tab152 tab153 tab155 tab156 tab157
set_option linter.unusedSimpArgs false
end Go.Proofs.Ytmeobmegnneegaa.Eng
-- EV: store
namespace Go.Proofs.Ytmeobmegnneegaa.Eng
open Go Go.RowKit
attribute [local simp] big size_mk ASt.pay Option.map_map Function.comp_def awant aop acall ado aev ofVal ofVal0 ASt.put ASt.add ASt.turn ASt.kill abox aalloc astore aload ASt.at cellsTo afieldAddr afield aindexAddr aindex alen abin aint acmp astr aun apick aextract anil aslice abound abuild afill abuildSlice asCells aps avCells over upd aappend asrc amax amin aconv mkSt slots rowsOf_cons rowsOf_nil usedOf_cons usedOf_nil ZK.av List.replicate ASt.back ASt.addL ASt.killL nodeA nodeT nodeTL_eq nodeL_eq strsE_get strsE_len intsE_get intsE_len strsE_at intsE_at itemA itemL_eq storeA storeT storeO itemsRow tab2 tab3 tab4 tab5 tab6 tab7 tab8 tab9 tab10 tab11 tab12 tab13 tab14 tab15 tab16 tab17 tab18 tab19 tab21 tab22 tab23 tab24 tab25 tab26 tab27 tab28 tab31 tab32 tab33 tab37 tab38 tab39 tab46 tab53 tab61 tab62 tab69 tab70 tab98 tab116 tab117 tab125 tab126 tab128 tab136 tab145 tab146 tab151 tab152 tab153 tab155 tab156 tab157
theorem eqs_self' (a : ByteArray) : eqs a a = true := eqs_iff.2 rfl
set_option linter.unusedSimpArgs false
set_option maxRecDepth 100000 in
set_option maxHeartbeats 16000000 in
theorem equalNodes_step (t t' : VC) (ks : List Nd) (hn : ks.length ≤ 1000000) (ih : ∀ k ∈ ks, AC Try.prog 51 [nodeA k, nodeA k] 0 (fun r => r = .bool true)) : AC Try.prog 101 [.view t 5 (ks.map nodeL), .view t' 5 (ks.map nodeL)] 0 (fun r => r = .bool true) := by
  refine AC.of tab_ok mixed_ok Try.func101 (by rfl) (by kernel_rfl) ?_; rintro ⟨P, T, hT, hm, w0, S0, rd0, k0⟩ hP hTT; dsimp only at hP hTT; subst hP hTT; unfold initSt; rw [Try.ntmps101]
  (repeat (first | with_reducible refine AW.seq ?_ | ((first | refine arun_kn 4 rfl (fun C hC => ?_) | refine arunD_kn 4 rfl (fun C hC => ?_)); (repeat ((conv => whnf); simp [List.length_map])); refine hC _ ?_; clear hC C; simp only [List.drop, Nat.reduceAdd]) | ((first | refine arun_kn 1 rfl (fun C hC => ?_) | refine arunD_kn 1 rfl (fun C hC => ?_)); (repeat ((conv => whnf); simp [List.length_map])); refine hC _ ?_; clear hC C; simp only [List.drop, Nat.reduceAdd]) | (refine arun_skip ?_ ?_; (focus (simp [awant, List.length_map]; done))) | (refine arunD_skip ?_ ?_; (focus (simp [awant, List.length_map]; done))) | (refine AW.regionK [] (fun K hK => ?_)) | (refine AW.regionDK [] (pcs [] []) (by kernel_rfl) (by kernel_rfl) (fun K hK => ?_)) | (refine AW.condT ?_ ?_; (focus (simp [aev, List.length_map]; done))) | (refine AW.condF ?_ ?_; (focus (simp [aev, List.length_map]; done))) | with_reducible refine AW.block ?_ | ((first | ((first | refine arun_nil ?_ | refine arunD_nil ?_); refine hK _ ?_; clear hK K) | refine AW.skip ?_ | refine AW.exit ?_ | refine AW.ret ?_); simp only [thenA_exit, inBlockA_exit, if_true, if_false, Nat.reduceEqDiff, thenA_normal, inBlockA_normal, reduceIte, thenA_ret, inBlockA_ret, endQ_ret, endR_ret, endG_ret, endQ_normal, endR_normal, endG_normal])))
  refine AW.loopS (fun (i : Nat) => mkSt (slots 0 27 [(0, .view t 5 (ks.map nodeL)), (1, .view t' 5 (ks.map nodeL)), (5, .int .i64 i)]) [] [] (rd0.map fun _ => 0)) (fun i => ks.length - i) (fun i => i ≤ ks.length) 0 ?_ (Nat.zero_le _) ?_
  · exact less_s
  · intro i hi
    by_cases hlt : i < ks.length
    · have hw : IntKind.i64.wrap ((i : Int) + 1) = (i : Int) + 1 := i64_nat (by omega) (by omega)
      have hik := ih ks[i] (List.getElem_mem hlt)
      (repeat (first | with_reducible refine AW.seq ?_ | ((first | refine arun_kn 4 rfl (fun C hC => ?_) | refine arunD_kn 4 rfl (fun C hC => ?_)); (repeat ((conv => whnf); simp [hlt, hw, List.length_map])); refine hC _ ?_; clear hC C; simp only [List.drop, Nat.reduceAdd]) | ((first | refine arun_kn 1 rfl (fun C hC => ?_) | refine arunD_kn 1 rfl (fun C hC => ?_)); (repeat ((conv => whnf); simp [hlt, hw, List.length_map])); refine hC _ ?_; clear hC C; simp only [List.drop, Nat.reduceAdd]) | (refine arun_skip ?_ ?_; (focus (simp [awant, hlt, hw, List.length_map]; done))) | (refine arun_c0 (hik) ?_; rintro _ rfl) | (refine arunD_skip ?_ ?_; (focus (simp [awant, hlt, hw, List.length_map]; done))) | (refine arunD_c (0) (hik) ?_; rintro _ rfl; intro _) | (refine AW.regionK [] (fun K hK => ?_)) | (refine AW.regionDK [] (pcs [(8, 0, fun r => r = .bool true)] []) (by kernel_rfl) (by kernel_rfl) (fun K hK => ?_)) | (refine AW.condT ?_ ?_; (focus (simp [aev, hlt, hw, List.length_map]; done))) | (refine AW.condF ?_ ?_; (focus (simp [aev, hlt, hw, List.length_map]; done))) | with_reducible refine AW.block ?_ | ((first | ((first | refine arun_nil ?_ | refine arunD_nil ?_); refine hK _ ?_; clear hK K) | refine AW.skip ?_ | refine AW.exit ?_ | refine AW.ret ?_); simp only [thenA_exit, inBlockA_exit, if_true, if_false, Nat.reduceEqDiff, thenA_normal, inBlockA_normal, reduceIte, thenA_ret, inBlockA_ret, endQ_ret, endR_ret, endG_ret, endQ_normal, endR_normal, endG_normal])))
      exact ⟨i + 1, by omega, by omega, less_s⟩
    · (repeat (first | with_reducible refine AW.seq ?_ | ((first | refine arun_kn 4 rfl (fun C hC => ?_) | refine arunD_kn 4 rfl (fun C hC => ?_)); (repeat ((conv => whnf); simp [hlt, List.length_map])); refine hC _ ?_; clear hC C; simp only [List.drop, Nat.reduceAdd]) | ((first | refine arun_kn 1 rfl (fun C hC => ?_) | refine arunD_kn 1 rfl (fun C hC => ?_)); (repeat ((conv => whnf); simp [hlt, List.length_map])); refine hC _ ?_; clear hC C; simp only [List.drop, Nat.reduceAdd]) | (refine arun_skip ?_ ?_; (focus (simp [awant, hlt, List.length_map]; done))) | (refine arunD_skip ?_ ?_; (focus (simp [awant, hlt, List.length_map]; done))) | (refine AW.regionK [] (fun K hK => ?_)) | (refine AW.regionDK [] (pcs [] []) (by kernel_rfl) (by kernel_rfl) (fun K hK => ?_)) | (refine AW.condT ?_ ?_; (focus (simp [aev, hlt, List.length_map]; done))) | (refine AW.condF ?_ ?_; (focus (simp [aev, hlt, List.length_map]; done))) | with_reducible refine AW.block ?_ | ((first | ((first | refine arun_nil ?_ | refine arunD_nil ?_); refine hK _ ?_; clear hK K) | refine AW.skip ?_ | refine AW.exit ?_ | refine AW.ret ?_); simp only [thenA_exit, inBlockA_exit, if_true, if_false, Nat.reduceEqDiff, thenA_normal, inBlockA_normal, reduceIte, thenA_ret, inBlockA_ret, endQ_ret, endR_ret, endG_ret, endQ_normal, endR_normal, endG_normal])))
      exact ⟨.bool true, by simp [ares, aresL], pur_bool, rfl⟩
set_option maxRecDepth 100000 in
set_option maxHeartbeats 16000000 in
theorem equalNode_step (n : Nd) (hs : Sml n) (t t' : VC) (ih : ∀ k ∈ n.kids, AC Try.prog 51 [nodeA k, nodeA k] 0 (fun r => r = .bool true)) : AC Try.prog 51 [nodeT t n, nodeT t' n] 0 (fun r => r = .bool true) := by
  have hs1 := hs.names
  have hs2 := hs.kids
  have p1 := equalTexts_AC t t' n.names n.names (by omega)
  have p2 := equalNodes_step .loose .loose n.kids (by omega) ih
  rw [eqT_refl] at p1
  refine AC.of tab_ok mixed_ok Try.func51 (by rfl) (by kernel_rfl) ?_; rintro ⟨P, T, hT, hm, w0, S0, rd0, k0⟩ hP hTT; dsimp only at hP hTT; subst hP hTT; unfold initSt; rw [Try.ntmps51]
  unfold nodeT
  rw [nodeTL_eq, nodeTL_eq]
  (repeat (first | with_reducible refine AW.seq ?_ | ((first | refine arun_kn 4 rfl (fun C hC => ?_) | refine arunD_kn 4 rfl (fun C hC => ?_)); (repeat ((conv => whnf); simp [eqs_self', nodeTL_eq])); refine hC _ ?_; clear hC C; simp only [List.drop, Nat.reduceAdd]) | ((first | refine arun_kn 1 rfl (fun C hC => ?_) | refine arunD_kn 1 rfl (fun C hC => ?_)); (repeat ((conv => whnf); simp [eqs_self', nodeTL_eq])); refine hC _ ?_; clear hC C; simp only [List.drop, Nat.reduceAdd]) | (refine arun_skip ?_ ?_; (focus (simp [awant, eqs_self', nodeTL_eq]; done))) | (refine arun_c0 (p1) ?_; rintro _ rfl) | (refine arun_c0 (p2) ?_; rintro _ rfl) | (refine arunD_skip ?_ ?_; (focus (simp [awant, eqs_self', nodeTL_eq]; done))) | (refine AW.regionK [] (fun K hK => ?_)) | (refine AW.regionDK [] (pcs [] []) (by kernel_rfl) (by kernel_rfl) (fun K hK => ?_)) | (refine AW.condT ?_ ?_; (focus (simp [aev, eqs_self', nodeTL_eq]; done))) | (refine AW.condF ?_ ?_; (focus (simp [aev, eqs_self', nodeTL_eq]; done))) | with_reducible refine AW.block ?_ | ((first | ((first | refine arun_nil ?_ | refine arunD_nil ?_); refine hK _ ?_; clear hK K) | refine AW.skip ?_ | refine AW.exit ?_ | refine AW.ret ?_); simp only [thenA_exit, inBlockA_exit, if_true, if_false, Nat.reduceEqDiff, thenA_normal, inBlockA_normal, reduceIte, thenA_ret, inBlockA_ret, endQ_ret, endR_ret, endG_ret, endQ_normal, endR_normal, endG_normal])))
  exact ⟨.bool true, by simp [ares, aresL], pur_bool, rfl⟩
theorem equalNode_AC : ∀ n, Sml n → ∀ t t', AC Try.prog 51 [nodeT t n, nodeT t' n] 0 (fun r => r = .bool true) := Nd.ind' _ (fun n ih hs t t' =>
  equalNode_step n hs t t' (fun k hk => by have := ih k hk (hs.kid hk) .loose .loose; rwa [nodeT_loose] at this))
end Go.Proofs.Ytmeobmegnneegaa.Eng
-- EV: store
namespace Go.Proofs.Ytmeobmegnneegaa.Eng
open Go Go.RowKit
attribute [local simp] big size_mk ASt.pay Option.map_map Function.comp_def awant aop acall ado aev ofVal ofVal0 ASt.put ASt.add ASt.turn ASt.kill abox aalloc astore aload ASt.at cellsTo afieldAddr afield aindexAddr aindex alen abin aint acmp astr aun apick aextract anil aslice abound abuild afill abuildSlice asCells aps avCells over upd aappend asrc amax amin aconv mkSt slots rowsOf_cons rowsOf_nil usedOf_cons usedOf_nil ZK.av List.replicate ASt.back ASt.addL ASt.killL nodeA nodeT nodeTL_eq nodeL_eq strsE_get strsE_len intsE_get intsE_len strsE_at intsE_at itemA itemL_eq storeA storeT storeO itemsRow tab2 tab3 tab4 tab5 tab6 tab7 tab8 tab9 tab10 tab11 tab12 tab13 tab14 tab15 tab16 tab17 tab18 tab19 tab21 tab22 tab23 tab24 tab25 tab26 tab27 tab28 tab31 tab32 tab33 tab37 tab38 tab39 tab46 tab53 tab61 tab62 tab69 tab70 tab98 tab116 tab117 tab125 tab126 tab128 tab136 tab145 tab146 tab151 tab152 tab153 tab155 tab156 tab157
set_option linter.unusedSimpArgs false
end Go.Proofs.Ytmeobmegnneegaa.Eng
-- EV: store
namespace Go.Proofs.Ytmeobmegnneegaa.Eng
open Go Go.RowKit
attribute [local simp] big size_mk ASt.pay Option.map_map Function.comp_def awant aop acall ado aev ofVal ofVal0 ASt.put ASt.add ASt.turn ASt.kill abox aalloc astore aload ASt.at cellsTo afieldAddr afield aindexAddr aindex alen abin aint acmp astr aun apick aextract anil aslice abound abuild afill abuildSlice asCells aps avCells over upd aappend asrc amax amin aconv mkSt slots rowsOf_cons rowsOf_nil usedOf_cons usedOf_nil ZK.av List.replicate ASt.back ASt.addL ASt.killL nodeA nodeT nodeTL_eq nodeL_eq strsE_get strsE_len intsE_get intsE_len strsE_at intsE_at itemA itemL_eq storeA storeT storeO itemsRow tab2 tab3 tab4 tab5 tab6 tab7 tab8 tab9 tab10 tab11 tab12 tab13 tab14 tab15 tab16 tab17 tab18 tab19 tab21 tab22 tab23 tab24 tab25 tab26 tab27 tab28 tab31 tab32 tab33 tab37 tab38 tab39 tab46 tab53 tab61 tab62 tab69 tab70 tab98 tab116 tab117 tab125 tab126 tab128 tab136 tab145 tab146 tab151 tab152 tab153 tab155 tab156 tab157
theorem gt_at {s : Sto} (h : storeB s = true) (i : Nat) (hi : i < s.1.length) : gtB s s.1[i].1 = true ∧ gtI s s.1[i].1 = s.1[i] := by
  have hm : mem (nmL s.1) s.1[i].1 = true := mem_iff.2 (List.mem_map.2 ⟨s.1[i], List.getElem_mem hi, rfl⟩)
  obtain ⟨e0, hl, e1, e2⟩ := gt_yes h hm
  refine ⟨e0, ?_⟩
  rw [e1]
  have hp := (storeB_parts h).2.2.2.2
  have key : ∀ a b (ha : a < s.1.length) (hb : b < s.1.length), a < b → s.1[a].1 ≠ s.1[b].1 := fun a b ha hb hab e => by
    have := List.pairwise_iff_getElem.1 hp a b (by simpa using ha) (by simpa using hb) hab
    simp only [List.getElem_map] at this
    rw [e] at this
    rw [show lt s.1[b].1 s.1[b].1 = false from bl_irrefl _] at this; cases this
  rcases Nat.lt_trichotomy (lbound (nmL s.1) s.1[i].1) i with hlt | heq | hgt
  · exact absurd e2 (key _ _ hl hi hlt)
  · simp only [heq]
  · exact absurd e2.symm (key _ _ hi hl hgt)
set_option linter.unusedSimpArgs false
set_option maxRecDepth 100000 in
set_option maxHeartbeats 16000000 in
theorem equalItems_AC (t t' : VC) (xs : List Itm) (hn : xs.length ≤ 1000000) (hs : ∀ x ∈ xs, Sml x.2.2) : AC Try.prog 48 [.view t 7 (xs.map itemL), .view t' 7 (xs.map itemL)] 0 (fun r => r = .bool true) := by
  refine AC.of tab_ok mixed_ok Try.func48 (by rfl) (by kernel_rfl) ?_; rintro ⟨P, T, hT, hm, w0, S0, rd0, k0⟩ hP hTT; dsimp only at hP hTT; subst hP hTT; unfold initSt; rw [Try.ntmps48]
  (repeat (first | with_reducible refine AW.seq ?_ | ((first | refine arun_kn 4 rfl (fun C hC => ?_) | refine arunD_kn 4 rfl (fun C hC => ?_)); (repeat ((conv => whnf); simp [List.length_map])); refine hC _ ?_; clear hC C; simp only [List.drop, Nat.reduceAdd]) | ((first | refine arun_kn 1 rfl (fun C hC => ?_) | refine arunD_kn 1 rfl (fun C hC => ?_)); (repeat ((conv => whnf); simp [List.length_map])); refine hC _ ?_; clear hC C; simp only [List.drop, Nat.reduceAdd]) | (refine arun_skip ?_ ?_; (focus (simp [awant, List.length_map]; done))) | (refine arunD_skip ?_ ?_; (focus (simp [awant, List.length_map]; done))) | (refine AW.regionK [] (fun K hK => ?_)) | (refine AW.regionDK [] (pcs [] []) (by kernel_rfl) (by kernel_rfl) (fun K hK => ?_)) | (refine AW.condT ?_ ?_; (focus (simp [aev, List.length_map]; done))) | (refine AW.condF ?_ ?_; (focus (simp [aev, List.length_map]; done))) | with_reducible refine AW.block ?_ | ((first | ((first | refine arun_nil ?_ | refine arunD_nil ?_); refine hK _ ?_; clear hK K) | refine AW.skip ?_ | refine AW.exit ?_ | refine AW.ret ?_); simp only [thenA_exit, inBlockA_exit, if_true, if_false, Nat.reduceEqDiff, thenA_normal, inBlockA_normal, reduceIte, thenA_ret, inBlockA_ret, endQ_ret, endR_ret, endG_ret, endQ_normal, endR_normal, endG_normal])))
  refine AW.loopS (fun (i : Nat) => mkSt (slots 0 55 [(0, .view t 7 (xs.map itemL)), (1, .view t' 7 (xs.map itemL)), (5, .int .i64 i)]) [] [] (rd0.map fun _ => 0)) (fun i => xs.length - i) (fun i => i ≤ xs.length) 0 ?_ (Nat.zero_le _) ?_
  · exact less_s
  · intro i hi
    by_cases hlt : i < xs.length
    · have hw : IntKind.i64.wrap ((i : Int) + 1) = (i : Int) + 1 := i64_nat (by omega) (by omega)
      have hik := equalNode_AC xs[i].2.2 (hs _ (List.getElem_mem hlt)) .loose .loose
      (repeat (first | with_reducible refine AW.seq ?_ | ((first | refine arun_kn 4 rfl (fun C hC => ?_) | refine arunD_kn 4 rfl (fun C hC => ?_)); (repeat ((conv => whnf); simp [hlt, hw, eqs_self', List.length_map])); refine hC _ ?_; clear hC C; simp only [List.drop, Nat.reduceAdd]) | ((first | refine arun_kn 1 rfl (fun C hC => ?_) | refine arunD_kn 1 rfl (fun C hC => ?_)); (repeat ((conv => whnf); simp [hlt, hw, eqs_self', List.length_map])); refine hC _ ?_; clear hC C; simp only [List.drop, Nat.reduceAdd]) | (refine arun_skip ?_ ?_; (focus (simp [awant, hlt, hw, eqs_self', List.length_map]; done))) | (refine arun_c0 (hik) ?_; rintro _ rfl) | (refine arunD_skip ?_ ?_; (focus (simp [awant, hlt, hw, eqs_self', List.length_map]; done))) | (refine arunD_c (0) (hik) ?_; rintro _ rfl; intro _) | (refine AW.regionK [] (fun K hK => ?_)) | (refine AW.regionDK [] (pcs [(35, 0, fun r => r = .bool true)] []) (by kernel_rfl) (by kernel_rfl) (fun K hK => ?_)) | (refine AW.condT ?_ ?_; (focus (simp [aev, hlt, hw, eqs_self', List.length_map]; done))) | (refine AW.condF ?_ ?_; (focus (simp [aev, hlt, hw, eqs_self', List.length_map]; done))) | with_reducible refine AW.block ?_ | ((first | ((first | refine arun_nil ?_ | refine arunD_nil ?_); refine hK _ ?_; clear hK K) | refine AW.skip ?_ | refine AW.exit ?_ | refine AW.ret ?_); simp only [thenA_exit, inBlockA_exit, if_true, if_false, Nat.reduceEqDiff, thenA_normal, inBlockA_normal, reduceIte, thenA_ret, inBlockA_ret, endQ_ret, endR_ret, endG_ret, endQ_normal, endR_normal, endG_normal])))
      exact ⟨i + 1, by omega, by omega, less_s⟩
    · (repeat (first | with_reducible refine AW.seq ?_ | ((first | refine arun_kn 4 rfl (fun C hC => ?_) | refine arunD_kn 4 rfl (fun C hC => ?_)); (repeat ((conv => whnf); simp [hlt, List.length_map])); refine hC _ ?_; clear hC C; simp only [List.drop, Nat.reduceAdd]) | ((first | refine arun_kn 1 rfl (fun C hC => ?_) | refine arunD_kn 1 rfl (fun C hC => ?_)); (repeat ((conv => whnf); simp [hlt, List.length_map])); refine hC _ ?_; clear hC C; simp only [List.drop, Nat.reduceAdd]) | (refine arun_skip ?_ ?_; (focus (simp [awant, hlt, List.length_map]; done))) | (refine arunD_skip ?_ ?_; (focus (simp [awant, hlt, List.length_map]; done))) | (refine AW.regionK [] (fun K hK => ?_)) | (refine AW.regionDK [] (pcs [] []) (by kernel_rfl) (by kernel_rfl) (fun K hK => ?_)) | (refine AW.condT ?_ ?_; (focus (simp [aev, hlt, List.length_map]; done))) | (refine AW.condF ?_ ?_; (focus (simp [aev, hlt, List.length_map]; done))) | with_reducible refine AW.block ?_ | ((first | ((first | refine arun_nil ?_ | refine arunD_nil ?_); refine hK _ ?_; clear hK K) | refine AW.skip ?_ | refine AW.exit ?_ | refine AW.ret ?_); simp only [thenA_exit, inBlockA_exit, if_true, if_false, Nat.reduceEqDiff, thenA_normal, inBlockA_normal, reduceIte, thenA_ret, inBlockA_ret, endQ_ret, endR_ret, endG_ret, endQ_normal, endR_normal, endG_normal])))
      exact ⟨.bool true, by simp [ares, aresL], pur_bool, rfl⟩
end Go.Proofs.Ytmeobmegnneegaa.Eng
-- EV: store
namespace Go.Proofs.Ytmeobmegnneegaa.Eng
open Go Go.RowKit
attribute [local simp] big size_mk ASt.pay Option.map_map Function.comp_def awant aop acall ado aev ofVal ofVal0 ASt.put ASt.add ASt.turn ASt.kill abox aalloc astore aload ASt.at cellsTo afieldAddr afield aindexAddr aindex alen abin aint acmp astr aun apick aextract anil aslice abound abuild afill abuildSlice asCells aps avCells over upd aappend asrc amax amin aconv mkSt slots rowsOf_cons rowsOf_nil usedOf_cons usedOf_nil ZK.av List.replicate ASt.back ASt.addL ASt.killL nodeA nodeT nodeTL_eq nodeL_eq strsE_get strsE_len intsE_get intsE_len strsE_at intsE_at itemA itemL_eq storeA storeT storeO itemsRow tab2 tab3 tab4 tab5 tab6 tab7 tab8 tab9 tab10 tab11 tab12 tab13 tab14 tab15 tab16 tab17 tab18 tab19 tab21 tab22 tab23 tab24 tab25 tab26 tab27 tab28 tab31 tab32 tab33 tab37 tab38 tab39 tab46 tab53 tab61 tab62 tab69 tab70 tab98 tab116 tab117 tab125 tab126 tab128 tab136 tab145 tab146 tab151 tab152 tab153 tab155 tab156 tab157
set_option linter.unusedSimpArgs false
end Go.Proofs.Ytmeobmegnneegaa.Eng
-- EV: store
namespace Go.Proofs.Ytmeobmegnneegaa.Eng
open Go Go.RowKit
attribute [local simp] big size_mk ASt.pay Option.map_map Function.comp_def awant aop acall ado aev ofVal ofVal0 ASt.put ASt.add ASt.turn ASt.kill abox aalloc astore aload ASt.at cellsTo afieldAddr afield aindexAddr aindex alen abin aint acmp astr aun apick aextract anil aslice abound abuild afill abuildSlice asCells aps avCells over upd aappend asrc amax amin aconv mkSt slots rowsOf_cons rowsOf_nil usedOf_cons usedOf_nil ZK.av List.replicate ASt.back ASt.addL ASt.killL nodeA nodeT nodeTL_eq nodeL_eq strsE_get strsE_len intsE_get intsE_len strsE_at intsE_at itemA itemL_eq storeA storeT storeO itemsRow tab2 tab3 tab4 tab5 tab6 tab7 tab8 tab9 tab10 tab11 tab12 tab13 tab14 tab15 tab16 tab17 tab18 tab19 tab21 tab22 tab23 tab24 tab25 tab26 tab27 tab28 tab31 tab32 tab33 tab37 tab38 tab39 tab46 tab53 tab61 tab62 tab69 tab70 tab98 tab116 tab117 tab125 tab126 tab128 tab136 tab145 tab146 tab151 tab152 tab153 tab155 tab156 tab157
def itemsR (l : List Itm) : Row := ⟨false, 62, 7, l.map itemL⟩
set_option linter.unusedSimpArgs false
set_option maxRecDepth 100000 in
set_option maxHeartbeats 8000000 in
theorem putAt_ACG (l : List Itm) (it : Itm) (hasc : Asc (nmL l)) (hb : l.length ≤ 1000) : ACG Try.prog 80 [.own 1000 l.length, itemA it] [(1000, itemsR l)] 0 (Post1 (fun k => .own k (putI l it).length) (itemsR (putI l it))) := by
  have hml : (l.map itemL).length = l.length := List.length_map _
  unfold itemA itemsR
  rw [itemL_eq]
  refine ACG.of tab_ok mixed_ok Try.func80 (by rfl) (by kernel_rfl) (by simp) ?_; rintro ⟨P, T, hT, hm, w0, S0, rd0, k0⟩ hP hTT; dsimp only at hP hTT; subst hP hTT; unfold initStG; rw [Try.ntmps80]
  have hle := lb_le (nmL l) it.1
  rw [nmL_len] at hle
  cases hm : mem (nmL l) it.1 with
  | true =>
    have hlt := lb_lt hm
    rw [nmL_len] at hlt
    have hput : putI l it = l.set (lbound (nmL l) it.1) it := by unfold putI; rw [hm]; rfl
    rw [hput]
    have hset : (l.map itemL).set (lbound (nmL l) it.1) (itemL it) = (l.set (lbound (nmL l) it.1) it).map itemL := by rw [List.map_set]
    rw [itemL_eq it] at hset
    (repeat (first | with_reducible refine AW.seq ?_ | ((first | refine arun_kn 4 rfl (fun C hC => ?_) | refine arunD_kn 4 rfl (fun C hC => ?_)); (repeat ((conv => whnf); simp [hm, hml, hlt])); refine hC _ ?_; clear hC C; simp only [List.drop, Nat.reduceAdd]) | ((first | refine arun_kn 1 rfl (fun C hC => ?_) | refine arunD_kn 1 rfl (fun C hC => ?_)); (repeat ((conv => whnf); simp [hm, hml, hlt])); refine hC _ ?_; clear hC C; simp only [List.drop, Nat.reduceAdd]) | (refine arun_skip ?_ ?_; (focus (simp [awant, hm, hml, hlt]; done))) | (refine arun_cL (0) (findItem_AC l .lent it.1 hasc (by omega)) ?_; rintro _ rfl) | (refine arunD_skip ?_ ?_; (focus (simp [awant, hm, hml, hlt]; done))) | (refine AW.regionK [] (fun K hK => ?_)) | (refine AW.regionDK [] (pcs [] []) (by kernel_rfl) (by kernel_rfl) (fun K hK => ?_)) | (refine AW.condT ?_ ?_; (focus (simp [aev, hm, hml, hlt]; done))) | (refine AW.condF ?_ ?_; (focus (simp [aev, hm, hml, hlt]; done))) | with_reducible refine AW.block ?_ | ((first | ((first | refine arun_nil ?_ | refine arunD_nil ?_); refine hK _ ?_; clear hK K) | refine AW.skip ?_ | refine AW.exit ?_ | refine AW.ret ?_); simp only [thenA_exit, inBlockA_exit, if_true, if_false, Nat.reduceEqDiff, thenA_normal, inBlockA_normal, reduceIte, thenA_ret, inBlockA_ret, endQ_ret, endR_ret, endG_ret, endQ_normal, endR_normal, endG_normal])))
    refine ⟨.own 1000 l.length, [(1000, ⟨false, 62, 7, (l.set (lbound (nmL l) it.1) it).map itemL⟩)], rfl, (fun p hp => by rw [List.mem_singleton.1 hp]; dsimp only; rw [upd_same, hset]), purR_own, ?_, ?_, 1000, by rw [List.length_set], rfl⟩
    · simp only [List.forall_mem_cons, List.not_mem_nil, false_implies, implies_true, and_true]
      exact fun e he c hc => (itemsE_pur _ e he c hc).purR
    · refine ⟨by simp [in_own, rowsOf_cons], ?_⟩
      simp only [List.forall_mem_cons, List.not_mem_nil, false_implies, implies_true, and_true]
      exact fun e he c hc => itemsE_in _ e he c hc
  | false =>
    have hput : putI l it = l.take (lbound (nmL l) it.1) ++ (it :: l.drop (lbound (nmL l) it.1)) := by unfold putI; rw [hm]; rfl
    rw [hput]
    (repeat (first | with_reducible refine AW.seq ?_ | ((first | refine arun_knb 4 rfl (fun C hC => ?_) | refine arunD_kn 4 rfl (fun C hC => ?_)); (repeat ((conv => whnf); simp [hm, hml])); refine hC _ ?_; clear hC C; simp only [List.drop, Nat.reduceAdd]) | ((first | refine arun_knb 1 rfl (fun C hC => ?_) | refine arunD_kn 1 rfl (fun C hC => ?_)); (repeat ((conv => whnf); simp [hm, hml])); refine hC _ ?_; clear hC C; simp only [List.drop, Nat.reduceAdd]) | (refine arun_skip ?_ ?_; (focus (simp [awant, hm, hml]; done))) | (refine arun_cL (0) (findItem_AC l .lent it.1 hasc (by omega)) ?_; rintro _ rfl) | (refine arunD_skip ?_ ?_; (focus (simp [awant, hm, hml]; done))) | (refine AW.regionK [] (fun K hK => ?_)) | (refine AW.regionDK [] (pcs [] []) (by kernel_rfl) (by kernel_rfl) (fun K hK => ?_)) | (refine AW.condT ?_ ?_; (focus (simp [aev, hm, hml]; done))) | (refine AW.condF ?_ ?_; (focus (simp [aev, hm, hml]; done))) | with_reducible refine AW.block ?_ | ((first | ((first | refine arun_nil ?_ | refine arunD_nil ?_); refine hK _ ?_; clear hK K) | refine AW.skip ?_ | refine AW.exit ?_ | refine AW.ret ?_); simp only [thenA_exit, inBlockA_exit, if_true, if_false, Nat.reduceEqDiff, thenA_normal, inBlockA_normal, reduceIte, thenA_ret, inBlockA_ret, endQ_ret, endR_ret, endG_ret, endQ_normal, endR_normal, endG_normal])))
    refine arun_ownSlice 23 rfl (by simp [awant]) tab31 (by simp; exact ⟨rfl, rfl⟩) (by simp [upd]) ?_
    have hins := insI_ACG (l.map itemL) (itemL it) (lbound (nmL l) it.1) (by rw [hml]; exact hle) (by rw [hml]; omega) (itemsE_pur l) (itemL_pur it)
    rw [hml] at hins
    have hes : (l.map itemL).take (lbound (nmL l) it.1) ++ (itemL it :: (l.map itemL).drop (lbound (nmL l) it.1)) = (l.take (lbound (nmL l) it.1) ++ (it :: l.drop (lbound (nmL l) it.1))).map itemL := by rw [List.map_append, List.map_cons, List.map_take, List.map_drop]
    have hln : (l.take (lbound (nmL l) it.1) ++ (it :: l.drop (lbound (nmL l) it.1))).length = l.length + 1 := by rw [List.length_append, List.length_cons, List.length_take, List.length_drop]; omega
    rw [hes] at hins
    refine arun_callG1 (g := fun k => .own k (l.length + 1)) (R := itemsR (l.take (lbound (nmL l) it.1) ++ (it :: l.drop (lbound (nmL l) it.1)))) [(1000, ⟨false, 62, 7, l.map itemL⟩), (1001, ⟨false, 62, 7, [itemL it]⟩)] (fun k => if k = 1000 then 1000 else 23) 24 (by simp [awant]) rfl (hins.mono (fun r b h => ⟨1, h⟩)) (by simp) ?_ ?_ (can_of (Nat.le_refl _)) (by simp [upd]) (itemsE_pur _) (fun k => .base (.base (.own (by simp) rfl))) ?_
    · refine MvR.same (by simp [upd, rowsOf_cons]) (fun e he c hc => (itemsE_pur l e he c hc).clo) (MvR.same (by simp [upd, itemL_eq]) (fun e he c hc => ?_) MvR.nil)
      rw [List.mem_singleton.1 he] at hc
      exact (itemL_pur it c hc).clo
    · exact .cons (.base (.own (by simp) (by simp))) (.cons (.base (.clo (Clo.cloTo clo_int))) (.cons (.base (.own (by simp) (by simp))) .nil))
    (repeat (first | with_reducible refine AW.seq ?_ | ((first | refine arun_kn 4 rfl (fun C hC => ?_) | refine arunD_kn 4 rfl (fun C hC => ?_)); (repeat ((conv => whnf); simp)); refine hC _ ?_; clear hC C; simp only [List.drop, Nat.reduceAdd]) | ((first | refine arun_kn 1 rfl (fun C hC => ?_) | refine arunD_kn 1 rfl (fun C hC => ?_)); (repeat ((conv => whnf); simp)); refine hC _ ?_; clear hC C; simp only [List.drop, Nat.reduceAdd]) | (refine arun_skip ?_ ?_; (focus (simp [awant]; done))) | (refine arunD_skip ?_ ?_; (focus (simp [awant]; done))) | (refine AW.regionK [] (fun K hK => ?_)) | (refine AW.regionDK [] (pcs [] []) (by kernel_rfl) (by kernel_rfl) (fun K hK => ?_)) | (refine AW.condT ?_ ?_; (focus (simp [aev]; done))) | (refine AW.condF ?_ ?_; (focus (simp [aev]; done))) | with_reducible refine AW.block ?_ | ((first | ((first | refine arun_nil ?_ | refine arunD_nil ?_); refine hK _ ?_; clear hK K) | refine AW.skip ?_ | refine AW.exit ?_ | refine AW.ret ?_); simp only [thenA_exit, inBlockA_exit, if_true, if_false, Nat.reduceEqDiff, thenA_normal, inBlockA_normal, reduceIte, thenA_ret, inBlockA_ret, endQ_ret, endR_ret, endG_ret, endQ_normal, endR_normal, endG_normal])))
    refine ⟨.own 24 (l.length + 1), [(24, itemsR (l.take (lbound (nmL l) it.1) ++ (it :: l.drop (lbound (nmL l) it.1))))], rfl, (fun p hp => by rw [List.mem_singleton.1 hp]; simp [upd]), purR_own, ?_, ?_, 24, by rw [hln], rfl⟩
    · simp only [List.forall_mem_cons, List.not_mem_nil, false_implies, implies_true, and_true]
      exact fun e he c hc => (itemsE_pur _ e he c hc).purR
    · refine ⟨by simp [in_own, rowsOf_cons], ?_⟩
      simp only [List.forall_mem_cons, List.not_mem_nil, false_implies, implies_true, and_true]
      exact fun e he c hc => itemsE_in _ e he c hc
theorem putI_S (s : Sto) (nm : ByteArray) (n : Nd) (h : storeB s = true) : (putI s.1 (nm, s.2 + 1, n), s.2 + 1) = putS s nm n := by
  unfold putS
  rw [putI_eq (storeB_asc h)]
set_option maxRecDepth 100000 in
set_option maxHeartbeats 16000000 in
theorem implPut_ACR0 (s : Sto) (nm : ByteArray) (n : Nd) : ACR Try.prog 27 [storeA s, .str nm, nodeA n] 0 (Res0 (putOk s nm n)) (Res (putOk s nm n) (putS s nm n)) := by
  unfold storeA storeT nodeA
  rw [nodeL_eq]
  refine ACR.of tab_ok mixed_ok Try.func27 (by rfl) (by kernel_rfl) ?_; rintro ⟨P, T, hT, hm, w0, S0, rd0, k0⟩ hP hTT; dsimp only at hP hTT; subst hP hTT; unfold initSt; rw [Try.ntmps27]
  cases h1 : storeB s
  · (repeat (first | with_reducible refine AW.seq ?_ | ((first | refine arun_kn 4 rfl (fun C hC => ?_) | refine arunD_kn 4 rfl (fun C hC => ?_)); (repeat ((conv => whnf); simp [h1])); refine hC _ ?_; clear hC C; simp only [List.drop, Nat.reduceAdd]) | ((first | refine arun_kn 1 rfl (fun C hC => ?_) | refine arunD_kn 1 rfl (fun C hC => ?_)); (repeat ((conv => whnf); simp [h1])); refine hC _ ?_; clear hC C; simp only [List.drop, Nat.reduceAdd]) | (refine arun_skip ?_ ?_; (focus (simp [awant, h1]; done))) | (refine arun_c0 (ValidStore_AC s .loose) ?_; rintro _ rfl) | (refine arunD_skip ?_ ?_; (focus (simp [awant, h1]; done))) | (refine AW.regionK [] (fun K hK => ?_)) | (refine AW.regionDK [] (pcs [] []) (by kernel_rfl) (by kernel_rfl) (fun K hK => ?_)) | (refine AW.condT ?_ ?_; (focus (simp [aev, h1]; done))) | (refine AW.condF ?_ ?_; (focus (simp [aev, h1]; done))) | with_reducible refine AW.block ?_ | ((first | ((first | refine arun_nil ?_ | refine arunD_nil ?_); refine hK _ ?_; clear hK K) | refine AW.skip ?_ | refine AW.exit ?_ | refine AW.ret ?_); simp only [thenA_exit, inBlockA_exit, if_true, if_false, Nat.reduceEqDiff, thenA_normal, inBlockA_normal, reduceIte, thenA_ret, inBlockA_ret, endQ_ret, endR_ret, endG_ret, endQ_normal, endR_normal, endG_normal])))
    exact ⟨_, by simp [ares, aresL, upd, rowsOf_cons]; rfl, .inl ⟨storeZ_pur, by simp [putOk, h1], rfl⟩⟩
  cases h2 : nameB nm
  · (repeat (first | with_reducible refine AW.seq ?_ | ((first | refine arun_kn 4 rfl (fun C hC => ?_) | refine arunD_kn 4 rfl (fun C hC => ?_)); (repeat ((conv => whnf); simp [h1, h2])); refine hC _ ?_; clear hC C; simp only [List.drop, Nat.reduceAdd]) | ((first | refine arun_kn 1 rfl (fun C hC => ?_) | refine arunD_kn 1 rfl (fun C hC => ?_)); (repeat ((conv => whnf); simp [h1, h2])); refine hC _ ?_; clear hC C; simp only [List.drop, Nat.reduceAdd]) | (refine arun_skip ?_ ?_; (focus (simp [awant, h1, h2]; done))) | (refine arun_c0 (ValidStore_AC s .loose) ?_; rintro _ rfl) | (refine arun_c0 (isName_AC nm) ?_; rintro _ rfl) | (refine arunD_skip ?_ ?_; (focus (simp [awant, h1, h2]; done))) | (refine AW.regionK [] (fun K hK => ?_)) | (refine AW.regionDK [] (pcs [] []) (by kernel_rfl) (by kernel_rfl) (fun K hK => ?_)) | (refine AW.condT ?_ ?_; (focus (simp [aev, h1, h2]; done))) | (refine AW.condF ?_ ?_; (focus (simp [aev, h1, h2]; done))) | with_reducible refine AW.block ?_ | ((first | ((first | refine arun_nil ?_ | refine arunD_nil ?_); refine hK _ ?_; clear hK K) | refine AW.skip ?_ | refine AW.exit ?_ | refine AW.ret ?_); simp only [thenA_exit, inBlockA_exit, if_true, if_false, Nat.reduceEqDiff, thenA_normal, inBlockA_normal, reduceIte, thenA_ret, inBlockA_ret, endQ_ret, endR_ret, endG_ret, endQ_normal, endR_normal, endG_normal])))
    exact ⟨_, by simp [ares, aresL, upd, rowsOf_cons]; rfl, .inl ⟨storeZ_pur, by simp [putOk, h1, h2], rfl⟩⟩
  cases h3 : validB n
  · (repeat (first | with_reducible refine AW.seq ?_ | ((first | refine arun_kn 4 rfl (fun C hC => ?_) | refine arunD_kn 4 rfl (fun C hC => ?_)); (repeat ((conv => whnf); simp [h1, h2, h3])); refine hC _ ?_; clear hC C; simp only [List.drop, Nat.reduceAdd]) | ((first | refine arun_kn 1 rfl (fun C hC => ?_) | refine arunD_kn 1 rfl (fun C hC => ?_)); (repeat ((conv => whnf); simp [h1, h2, h3])); refine hC _ ?_; clear hC C; simp only [List.drop, Nat.reduceAdd]) | (refine arun_skip ?_ ?_; (focus (simp [awant, h1, h2, h3]; done))) | (refine arun_c0 (ValidStore_AC s .loose) ?_; rintro _ rfl) | (refine arun_c0 (isName_AC nm) ?_; rintro _ rfl) | (refine arun_c0 (ValidNode_AC n .loose) ?_; rintro _ rfl) | (refine arunD_skip ?_ ?_; (focus (simp [awant, h1, h2, h3]; done))) | (refine AW.regionK [] (fun K hK => ?_)) | (refine AW.regionDK [] (pcs [] []) (by kernel_rfl) (by kernel_rfl) (fun K hK => ?_)) | (refine AW.condT ?_ ?_; (focus (simp [aev, h1, h2, h3]; done))) | (refine AW.condF ?_ ?_; (focus (simp [aev, h1, h2, h3]; done))) | with_reducible refine AW.block ?_ | ((first | ((first | refine arun_nil ?_ | refine arunD_nil ?_); refine hK _ ?_; clear hK K) | refine AW.skip ?_ | refine AW.exit ?_ | refine AW.ret ?_); simp only [thenA_exit, inBlockA_exit, if_true, if_false, Nat.reduceEqDiff, thenA_normal, inBlockA_normal, reduceIte, thenA_ret, inBlockA_ret, endQ_ret, endR_ret, endG_ret, endQ_normal, endR_normal, endG_normal])))
    exact ⟨_, by simp [ares, aresL, upd, rowsOf_cons]; rfl, .inl ⟨storeZ_pur, by simp [putOk, h1, h2, h3], rfl⟩⟩
  obtain ⟨q0, q1, q2, _⟩ := storeB_parts h1
  have hw : IntKind.i64.wrap (s.2 + 1) = s.2 + 1 := by rw [IntKind.wrap_i64]; omega
  (repeat (first | with_reducible refine AW.seq ?_ | ((first | refine arun_kn 4 rfl (fun C hC => ?_) | refine arunD_kn 4 rfl (fun C hC => ?_)); (repeat ((conv => whnf); simp [h1, h2, h3])); refine hC _ ?_; clear hC C; simp only [List.drop, Nat.reduceAdd]) | ((first | refine arun_kn 1 rfl (fun C hC => ?_) | refine arunD_kn 1 rfl (fun C hC => ?_)); (repeat ((conv => whnf); simp [h1, h2, h3])); refine hC _ ?_; clear hC C; simp only [List.drop, Nat.reduceAdd]) | (refine arun_skip ?_ ?_; (focus (simp [awant, h1, h2, h3]; done))) | (refine arun_c0 (ValidStore_AC s .loose) ?_; rintro _ rfl) | (refine arun_c0 (isName_AC nm) ?_; rintro _ rfl) | (refine arun_c0 (ValidNode_AC n .loose) ?_; rintro _ rfl) | (refine arunD_skip ?_ ?_; (focus (simp [awant, h1, h2, h3]; done))) | (refine AW.regionK [] (fun K hK => ?_)) | (refine AW.regionDK [] (pcs [] []) (by kernel_rfl) (by kernel_rfl) (fun K hK => ?_)) | (refine AW.condT ?_ ?_; (focus (simp [aev, h1, h2, h3]; done))) | (refine AW.condF ?_ ?_; (focus (simp [aev, h1, h2, h3]; done))) | with_reducible refine AW.block ?_ | ((first | ((first | refine arun_nil ?_ | refine arunD_nil ?_); refine hK _ ?_; clear hK K) | refine AW.skip ?_ | refine AW.exit ?_ | refine AW.ret ?_); simp only [thenA_exit, inBlockA_exit, if_true, if_false, Nat.reduceEqDiff, thenA_normal, inBlockA_normal, reduceIte, thenA_ret, inBlockA_ret, endQ_ret, endR_ret, endG_ret, endQ_normal, endR_normal, endG_normal])))
  refine arun_callG1 (g := storeO s) (R := itemsRow s) [] (fun _ => 0) 24 (by simp [awant]) rfl (implCopyStore_ACG s (storeB_smlS h1)) (by simp) MvR.nil (.cons (.base (.clo (Clo.cloTo (storeA_clo s)))) .nil) (can_of (Nat.le_refl _)) (by simp [upd]) (itemsE_pur _) (fun k => .base (.agg (.cons (.own (by simp) rfl) (.cons (.pur pur_int) .nil)))) ?_
  unfold storeO itemsRow
  (repeat (first | with_reducible refine AW.seq ?_ | ((first | refine arun_kn 4 rfl (fun C hC => ?_) | refine arunD_kn 4 rfl (fun C hC => ?_)); (repeat ((conv => whnf); simp [hw])); refine hC _ ?_; clear hC C; simp only [List.drop, Nat.reduceAdd]) | ((first | refine arun_kn 1 rfl (fun C hC => ?_) | refine arunD_kn 1 rfl (fun C hC => ?_)); (repeat ((conv => whnf); simp [hw])); refine hC _ ?_; clear hC C; simp only [List.drop, Nat.reduceAdd]) | (refine arun_skip ?_ ?_; (focus (simp [awant, hw]; done))) | (refine arun_c0 (implCopy_AC n (valid_sml h3)) ?_; rintro _ rfl) | (refine arunD_skip ?_ ?_; (focus (simp [awant, hw]; done))) | (refine arunD_c (0) (implCopy_AC n (valid_sml h3)) ?_; rintro _ rfl; intro _) | (refine AW.regionK [] (fun K hK => ?_)) | (refine AW.regionDK [] (pcs [(6, 0, fun r => r = nodeA n)] [1008]) (by kernel_rfl) (by kernel_rfl) (fun K hK => ?_)) | (refine AW.condT ?_ ?_; (focus (simp [aev, hw]; done))) | (refine AW.condF ?_ ?_; (focus (simp [aev, hw]; done))) | with_reducible refine AW.block ?_ | ((first | ((first | refine arun_nil ?_ | refine arunD_nil ?_); refine hK _ ?_; clear hK K) | refine AW.skip ?_ | refine AW.exit ?_ | refine AW.ret ?_); simp only [thenA_exit, inBlockA_exit, if_true, if_false, Nat.reduceEqDiff, thenA_normal, inBlockA_normal, reduceIte, thenA_ret, inBlockA_ret, endQ_ret, endR_ret, endG_ret, endQ_normal, endR_normal, endG_normal])))
  have hpt := putAt_ACG s.1 (nm, s.2 + 1, n) (storeB_asc h1) (by omega)
  have hps := putI_S s nm n h1
  have hp1 : putI s.1 (nm, s.2 + 1, n) = (putS s nm n).1 := by rw [← hps]
  have hp2 : s.2 + 1 = (putS s nm n).2 := by rw [← hps]
  have hit : itemA (nm, s.2 + 1, n) = AV.agg [AV.str nm, AV.int .i64 (s.2 + 1), AV.int .i64 n.kind, AV.int .i64 n.num, AV.str n.text, AV.view .loose 1 (strsE n.names), AV.view .loose 5 (n.kids.map nodeL)] := by rw [itemA, itemL_eq]
  have hcl := item_clo (nm, s.2 + 1, n)
  rw [hit] at hcl hpt
  rw [hp1] at hpt
  refine arunD_callG1 (g := fun k => .own k (putS s nm n).1.length) (R := itemsR (putS s nm n).1) [(1000, itemsR s.1)] (fun _ => 24) 37 rfl (by simp [awant]) rfl hpt (by simp) (MvR.same (by simp [upd, itemsR]) (fun e he c hc => (itemsE_pur s.1 e he c hc).clo) MvR.nil)
    (.cons (.base (.own (by simp) rfl)) (.cons (.base (.clo (Clo.cloTo hcl))) .nil)) (can_of (Nat.le_refl _)) (by simp [upd]) (itemsE_pur _) (fun e he c hc => itemsE_in _ e he c hc) (fun k => .base (.base (.own (by simp) rfl))) (in_own.2 (by simp)) ?_
  unfold itemsR
  rw [hp2]
  cases h4 : storeB (putS s nm n)
  · (repeat (first | with_reducible refine AW.seq ?_ | ((first | refine arun_kn 4 rfl (fun C hC => ?_) | refine arunD_kn 4 rfl (fun C hC => ?_)); (repeat ((conv => whnf); simp [h4])); refine hC _ ?_; clear hC C; simp only [List.drop, Nat.reduceAdd]) | ((first | refine arun_kn 1 rfl (fun C hC => ?_) | refine arunD_kn 1 rfl (fun C hC => ?_)); (repeat ((conv => whnf); simp [h4])); refine hC _ ?_; clear hC C; simp only [List.drop, Nat.reduceAdd]) | (refine arun_skip ?_ ?_; (focus (simp [awant, h4]; done))) | (refine arun_cL (0) (ValidStore_AC (putS s nm n) .lent) ?_; rintro _ rfl) | (refine arunD_skip ?_ ?_; (focus (simp [awant, h4]; done))) | (refine AW.regionK [] (fun K hK => ?_)) | (refine AW.regionDK [] (pcs [] []) (by kernel_rfl) (by kernel_rfl) (fun K hK => ?_)) | (refine AW.condT ?_ ?_; (focus (simp [aev, h4]; done))) | (refine AW.condF ?_ ?_; (focus (simp [aev, h4]; done))) | with_reducible refine AW.block ?_ | ((first | ((first | refine arun_nil ?_ | refine arunD_nil ?_); refine hK _ ?_; clear hK K) | refine AW.skip ?_ | refine AW.exit ?_ | refine AW.ret ?_); simp only [thenA_exit, inBlockA_exit, if_true, if_false, Nat.reduceEqDiff, thenA_normal, inBlockA_normal, reduceIte, thenA_ret, inBlockA_ret, endQ_ret, endR_ret, endG_ret, endQ_normal, endR_normal, endG_normal])))
    exact ⟨_, by simp [ares, aresL, upd, rowsOf_cons]; rfl, .inl ⟨storeZ_pur, by simp [putOk, h1, h2, h3, h4], rfl⟩⟩
  · (repeat (first | with_reducible refine AW.seq ?_ | ((first | refine arun_kn 4 rfl (fun C hC => ?_) | refine arunD_kn 4 rfl (fun C hC => ?_)); (repeat ((conv => whnf); simp [h4])); refine hC _ ?_; clear hC C; simp only [List.drop, Nat.reduceAdd]) | ((first | refine arun_kn 1 rfl (fun C hC => ?_) | refine arunD_kn 1 rfl (fun C hC => ?_)); (repeat ((conv => whnf); simp [h4])); refine hC _ ?_; clear hC C; simp only [List.drop, Nat.reduceAdd]) | (refine arun_skip ?_ ?_; (focus (simp [awant, h4]; done))) | (refine arun_cL (0) (ValidStore_AC (putS s nm n) .lent) ?_; rintro _ rfl) | (refine arunD_skip ?_ ?_; (focus (simp [awant, h4]; done))) | (refine AW.regionK [] (fun K hK => ?_)) | (refine AW.regionDK [] (pcs [] []) (by kernel_rfl) (by kernel_rfl) (fun K hK => ?_)) | (refine AW.condT ?_ ?_; (focus (simp [aev, h4]; done))) | (refine AW.condF ?_ ?_; (focus (simp [aev, h4]; done))) | with_reducible refine AW.block ?_ | ((first | ((first | refine arun_nil ?_ | refine arunD_nil ?_); refine hK _ ?_; clear hK K) | refine AW.skip ?_ | refine AW.exit ?_ | refine AW.ret ?_); simp only [thenA_exit, inBlockA_exit, if_true, if_false, Nat.reduceEqDiff, thenA_normal, inBlockA_normal, reduceIte, thenA_ret, inBlockA_ret, endQ_ret, endR_ret, endG_ret, endQ_normal, endR_normal, endG_normal])))
    exact ⟨.tup [storeO (putS s nm n) 37, .bool true], by simp [ares, aresL, upd, rowsOf_cons], .inr ⟨fun id => .tup [storeO (putS s nm n) id, .bool true], 37, itemsRow (putS s nm n), rfl, by simp [upd, itemsRow], tup_res _ true 37, itemsE_pur _, by simp [putOk, h1, h2, h3, h4], rfl, rfl⟩⟩
theorem implPut_ACR (s : Sto) (nm : ByteArray) (n : Nd) : ACR Try.prog 27 [storeA s, .str nm, nodeA n] 0 (fun _ => False) (ResS (putOk s nm n) (putS s nm n)) := (implPut_ACR0 s nm n).rowS
theorem implPut_AC (s : Sto) (nm : ByteArray) (n : Nd) : AC Try.prog 27 [storeA s, .str nm, nodeA n] 0 (fun r => r = .tup [storeA (okS (putOk s nm n) (putS s nm n)), .bool (putOk s nm n)]) := AC.ofRes (implPut_ACR s nm n)
theorem findF_mem (nm : ByteArray) : ∀ (l : List Itm) (k : Nat), decide (findF nm l k < 0) = !(mem (nmL l) nm)
  | [], k => by simp [findF, nmL, mem]
  | x :: l, k => by
    have ih := findF_mem nm l (k + 1)
    have hme : mem (nmL (x :: l)) nm = (decide (x.1 = nm) || mem (nmL l) nm) := by unfold mem nmL; rw [List.map_cons, List.any_cons]
    unfold findF
    rw [hme]
    cases he : eqs x.1 nm with
    | true =>
      have hx : x.1 = nm := eqs_iff.1 he
      simp [hx]
    | false =>
      have hd : decide (x.1 = nm) = false := by rw [eqs_false] at he; simpa using he
      rw [hd, Bool.false_or, ← ih]
      simp
theorem findI_mem (s : Sto) (nm : ByteArray) : decide (findI s nm < 0) = !(mem (nmL s.1) nm) := findF_mem nm s.1 0
set_option maxRecDepth 100000 in
set_option maxHeartbeats 16000000 in
theorem implDrop_ACR0 (s : Sto) (nm : ByteArray) : ACR Try.prog 56 [storeA s, .str nm] 0 (Res0 (dropOk s nm)) (Res (dropOk s nm) (dropS s nm)) := by
  unfold storeA storeT
  refine ACR.of tab_ok mixed_ok Try.func56 (by rfl) (by kernel_rfl) ?_; rintro ⟨P, T, hT, hm, w0, S0, rd0, k0⟩ hP hTT; dsimp only at hP hTT; subst hP hTT; unfold initSt; rw [Try.ntmps56]
  cases h1 : storeB s
  · (repeat (first | with_reducible refine AW.seq ?_ | ((first | refine arun_kn 4 rfl (fun C hC => ?_) | refine arunD_kn 4 rfl (fun C hC => ?_)); (repeat ((conv => whnf); simp [h1])); refine hC _ ?_; clear hC C; simp only [List.drop, Nat.reduceAdd]) | ((first | refine arun_kn 1 rfl (fun C hC => ?_) | refine arunD_kn 1 rfl (fun C hC => ?_)); (repeat ((conv => whnf); simp [h1])); refine hC _ ?_; clear hC C; simp only [List.drop, Nat.reduceAdd]) | (refine arun_skip ?_ ?_; (focus (simp [awant, h1]; done))) | (refine arun_c0 (ValidStore_AC s .loose) ?_; rintro _ rfl) | (refine arunD_skip ?_ ?_; (focus (simp [awant, h1]; done))) | (refine AW.regionK [] (fun K hK => ?_)) | (refine AW.regionDK [] (pcs [] []) (by kernel_rfl) (by kernel_rfl) (fun K hK => ?_)) | (refine AW.condT ?_ ?_; (focus (simp [aev, h1]; done))) | (refine AW.condF ?_ ?_; (focus (simp [aev, h1]; done))) | with_reducible refine AW.block ?_ | ((first | ((first | refine arun_nil ?_ | refine arunD_nil ?_); refine hK _ ?_; clear hK K) | refine AW.skip ?_ | refine AW.exit ?_ | refine AW.ret ?_); simp only [thenA_exit, inBlockA_exit, if_true, if_false, Nat.reduceEqDiff, thenA_normal, inBlockA_normal, reduceIte, thenA_ret, inBlockA_ret, endQ_ret, endR_ret, endG_ret, endQ_normal, endR_normal, endG_normal])))
    exact ⟨_, by simp [ares, aresL, upd, rowsOf_cons]; rfl, .inl ⟨storeZ_pur, by simp [dropOk, h1], rfl⟩⟩
  obtain ⟨q0, q1, q2, _⟩ := storeB_parts h1
  have hasc := storeB_asc h1
  cases h2 : s.2 == 999
  · have hne : ¬ s.2 = 999 := by simpa using h2
    have hf := findI_mem s nm
    cases h3 : mem (nmL s.1) nm
    · rw [h3] at hf
      (repeat (first | with_reducible refine AW.seq ?_ | ((first | refine arun_kn 4 rfl (fun C hC => ?_) | refine arunD_kn 4 rfl (fun C hC => ?_)); (repeat ((conv => whnf); simp [h1, h2, hne, h3])); refine hC _ ?_; clear hC C; simp only [List.drop, Nat.reduceAdd]) | ((first | refine arun_kn 1 rfl (fun C hC => ?_) | refine arunD_kn 1 rfl (fun C hC => ?_)); (repeat ((conv => whnf); simp [h1, h2, hne, h3])); refine hC _ ?_; clear hC C; simp only [List.drop, Nat.reduceAdd]) | (refine arun_skip ?_ ?_; (focus (simp [awant, h1, h2, hne, h3]; done))) | (refine arun_c0 (ValidStore_AC s .loose) ?_; rintro _ rfl) | (refine arun_c0 (findItem_AC s.1 .loose nm hasc (by omega)) ?_; rintro _ rfl) | (refine arunD_skip ?_ ?_; (focus (simp [awant, h1, h2, hne, h3]; done))) | (refine AW.regionK [] (fun K hK => ?_)) | (refine AW.regionDK [] (pcs [] []) (by kernel_rfl) (by kernel_rfl) (fun K hK => ?_)) | (refine AW.condT ?_ ?_; (focus (simp [aev, h1, h2, hne, h3]; done))) | (refine AW.condF ?_ ?_; (focus (simp [aev, h1, h2, hne, h3]; done))) | with_reducible refine AW.block ?_ | ((first | ((first | refine arun_nil ?_ | refine arunD_nil ?_); refine hK _ ?_; clear hK K) | refine AW.skip ?_ | refine AW.exit ?_ | refine AW.ret ?_); simp only [thenA_exit, inBlockA_exit, if_true, if_false, Nat.reduceEqDiff, thenA_normal, inBlockA_normal, reduceIte, thenA_ret, inBlockA_ret, endQ_ret, endR_ret, endG_ret, endQ_normal, endR_normal, endG_normal])))
      exact ⟨_, by simp [ares, aresL, upd, rowsOf_cons]; rfl, .inl ⟨storeZ_pur, by simp only [dropOk, h1, hf]; rfl, rfl⟩⟩
    · rw [h3] at hf
      have hlt := lb_lt h3
      rw [nmL_len] at hlt
      have hml : (s.1.map itemL).length = s.1.length := List.length_map _
      have hw : IntKind.i64.wrap (s.2 + 1) = s.2 + 1 := by rw [IntKind.wrap_i64]; omega
      have hw2 : IntKind.i64.wrap ((lbound (nmL s.1) nm : Int) + 1) = (lbound (nmL s.1) nm : Int) + 1 := i64_nat (by omega) (by omega)
      (repeat (first | with_reducible refine AW.seq ?_ | ((first | refine arun_kn 4 rfl (fun C hC => ?_) | refine arunD_kn 4 rfl (fun C hC => ?_)); (repeat ((conv => whnf); simp [h1, h2, hne, h3])); refine hC _ ?_; clear hC C; simp only [List.drop, Nat.reduceAdd]) | ((first | refine arun_kn 1 rfl (fun C hC => ?_) | refine arunD_kn 1 rfl (fun C hC => ?_)); (repeat ((conv => whnf); simp [h1, h2, hne, h3])); refine hC _ ?_; clear hC C; simp only [List.drop, Nat.reduceAdd]) | (refine arun_skip ?_ ?_; (focus (simp [awant, h1, h2, hne, h3]; done))) | (refine arun_c0 (ValidStore_AC s .loose) ?_; rintro _ rfl) | (refine arun_c0 (findItem_AC s.1 .loose nm hasc (by omega)) ?_; rintro _ rfl) | (refine arunD_skip ?_ ?_; (focus (simp [awant, h1, h2, hne, h3]; done))) | (refine AW.regionK [] (fun K hK => ?_)) | (refine AW.regionDK [] (pcs [] []) (by kernel_rfl) (by kernel_rfl) (fun K hK => ?_)) | (refine AW.condT ?_ ?_; (focus (simp [aev, h1, h2, hne, h3]; done))) | (refine AW.condF ?_ ?_; (focus (simp [aev, h1, h2, hne, h3]; done))) | with_reducible refine AW.block ?_ | ((first | ((first | refine arun_nil ?_ | refine arunD_nil ?_); refine hK _ ?_; clear hK K) | refine AW.skip ?_ | refine AW.exit ?_ | refine AW.ret ?_); simp only [thenA_exit, inBlockA_exit, if_true, if_false, Nat.reduceEqDiff, thenA_normal, inBlockA_normal, reduceIte, thenA_ret, inBlockA_ret, endQ_ret, endR_ret, endG_ret, endQ_normal, endR_normal, endG_normal])))
      refine arun_callG1 (g := storeO s) (R := itemsRow s) [] (fun _ => 0) 29 (by simp [awant]) rfl (implCopyStore_ACG s (storeB_smlS h1)) (by simp) MvR.nil (.cons (.base (.clo (Clo.cloTo (storeA_clo s)))) .nil) (can_of (Nat.le_refl _)) (by simp [upd]) (itemsE_pur _) (fun k => .base (.agg (.cons (.own (by simp) rfl) (.cons (.pur pur_int) .nil)))) ?_
      unfold storeO itemsRow
      (repeat (first | with_reducible refine AW.seq ?_ | ((first | refine arun_kn 4 rfl (fun C hC => ?_) | refine arunD_kn 4 rfl (fun C hC => ?_)); (repeat ((conv => whnf); simp [hw, hw2])); refine hC _ ?_; clear hC C; simp only [List.drop, Nat.reduceAdd]) | ((first | refine arun_kn 1 rfl (fun C hC => ?_) | refine arunD_kn 1 rfl (fun C hC => ?_)); (repeat ((conv => whnf); simp [hw, hw2])); refine hC _ ?_; clear hC C; simp only [List.drop, Nat.reduceAdd]) | (refine arun_skip ?_ ?_; (focus (simp [awant, hw, hw2]; done))) | (refine arunD_skip ?_ ?_; (focus (simp [awant, hw, hw2]; done))) | (refine AW.regionK [] (fun K hK => ?_)) | (refine AW.regionDK [] (pcs [] []) (by kernel_rfl) (by kernel_rfl) (fun K hK => ?_)) | (refine AW.condT ?_ ?_; (focus (simp [aev, hw, hw2]; done))) | (refine AW.condF ?_ ?_; (focus (simp [aev, hw, hw2]; done))) | with_reducible refine AW.block ?_ | ((first | ((first | refine arun_nil ?_ | refine arunD_nil ?_); refine hK _ ?_; clear hK K) | refine AW.skip ?_ | refine AW.exit ?_ | refine AW.ret ?_); simp only [thenA_exit, inBlockA_exit, if_true, if_false, Nat.reduceEqDiff, thenA_normal, inBlockA_normal, reduceIte, thenA_ret, inBlockA_ret, endQ_ret, endR_ret, endG_ret, endQ_normal, endR_normal, endG_normal])))
      have hdel := delI_ACG (s.1.map itemL) (lbound (nmL s.1) nm) (by rw [hml]; exact hlt) (itemsE_pur s.1)
      rw [hml] at hdel
      have hes : (s.1.map itemL).take (lbound (nmL s.1) nm) ++ (s.1.map itemL).drop (lbound (nmL s.1) nm + 1) = (dropS s nm).1.map itemL := by
        unfold dropS
        rw [← dropI_eq hasc nm h3]
        unfold dropI
        rw [List.map_append, List.map_take, List.map_drop]
      have hln : (dropS s nm).1.length = s.1.length - 1 := by
        have := congrArg List.length hes
        rw [List.length_append, List.length_take, List.length_drop, List.length_map, List.length_map] at this
        omega
      rw [hes, ← hln] at hdel
      refine arun_callG1 (g := fun k => .own k (dropS s nm).1.length) (R := itemsR (dropS s nm).1) [(1000, itemsR s.1)] (fun _ => 29) 39 (by simp [awant]) rfl (hdel.mono (fun r b h => ⟨1, h⟩)) (by simp) (MvR.same (by simp [upd, itemsR]) (fun e he c hc => (itemsE_pur s.1 e he c hc).clo) MvR.nil)
        (.cons (.base (.own (by simp) rfl)) (.cons (.base (.clo (Clo.cloTo clo_int))) (.cons (.base (.clo (Clo.cloTo clo_int))) .nil))) (can_of (Nat.le_refl _)) (by simp [upd]) (itemsE_pur _) (fun k => .base (.base (.own (by simp) rfl))) ?_
      unfold itemsR
      have hp2 : s.2 + 1 = (dropS s nm).2 := rfl
      rw [hp2]
      (repeat (first | with_reducible refine AW.seq ?_ | ((first | refine arun_kn 4 rfl (fun C hC => ?_) | refine arunD_kn 4 rfl (fun C hC => ?_)); (repeat ((conv => whnf); simp)); refine hC _ ?_; clear hC C; simp only [List.drop, Nat.reduceAdd]) | ((first | refine arun_kn 1 rfl (fun C hC => ?_) | refine arunD_kn 1 rfl (fun C hC => ?_)); (repeat ((conv => whnf); simp)); refine hC _ ?_; clear hC C; simp only [List.drop, Nat.reduceAdd]) | (refine arun_skip ?_ ?_; (focus (simp [awant]; done))) | (refine arunD_skip ?_ ?_; (focus (simp [awant]; done))) | (refine AW.regionK [] (fun K hK => ?_)) | (refine AW.regionDK [] (pcs [] []) (by kernel_rfl) (by kernel_rfl) (fun K hK => ?_)) | (refine AW.condT ?_ ?_; (focus (simp [aev]; done))) | (refine AW.condF ?_ ?_; (focus (simp [aev]; done))) | with_reducible refine AW.block ?_ | ((first | ((first | refine arun_nil ?_ | refine arunD_nil ?_); refine hK _ ?_; clear hK K) | refine AW.skip ?_ | refine AW.exit ?_ | refine AW.ret ?_); simp only [thenA_exit, inBlockA_exit, if_true, if_false, Nat.reduceEqDiff, thenA_normal, inBlockA_normal, reduceIte, thenA_ret, inBlockA_ret, endQ_ret, endR_ret, endG_ret, endQ_normal, endR_normal, endG_normal])))
      exact ⟨.tup [storeO (dropS s nm) 39, .bool true], by simp [ares, aresL, upd, rowsOf_cons], .inr ⟨fun id => .tup [storeO (dropS s nm) id, .bool true], 39, itemsRow (dropS s nm), rfl, by simp [upd, itemsRow], tup_res _ true 39, itemsE_pur _, by simp only [dropOk, h1, hf, h2]; rfl, rfl, rfl⟩⟩
  · have he : s.2 = 999 := by simpa using h2
    (repeat (first | with_reducible refine AW.seq ?_ | ((first | refine arun_kn 4 rfl (fun C hC => ?_) | refine arunD_kn 4 rfl (fun C hC => ?_)); (repeat ((conv => whnf); simp [h1, h2, he])); refine hC _ ?_; clear hC C; simp only [List.drop, Nat.reduceAdd]) | ((first | refine arun_kn 1 rfl (fun C hC => ?_) | refine arunD_kn 1 rfl (fun C hC => ?_)); (repeat ((conv => whnf); simp [h1, h2, he])); refine hC _ ?_; clear hC C; simp only [List.drop, Nat.reduceAdd]) | (refine arun_skip ?_ ?_; (focus (simp [awant, h1, h2, he]; done))) | (refine arun_c0 (hx := by (simp [h1, h2, he] <;> fail)) (ValidStore_AC s .loose) ?_; rintro _ rfl) | (refine arunD_skip ?_ ?_; (focus (simp [awant, h1, h2, he]; done))) | (refine AW.regionK [] (fun K hK => ?_)) | (refine AW.regionDK [] (pcs [] []) (by kernel_rfl) (by kernel_rfl) (fun K hK => ?_)) | (refine AW.condT ?_ ?_; (focus (simp [aev, h1, h2, he]; done))) | (refine AW.condF ?_ ?_; (focus (simp [aev, h1, h2, he]; done))) | with_reducible refine AW.block ?_ | ((first | ((first | refine arun_nil ?_ | refine arunD_nil ?_); refine hK _ ?_; clear hK K) | refine AW.skip ?_ | refine AW.exit ?_ | refine AW.ret ?_); simp only [thenA_exit, inBlockA_exit, if_true, if_false, Nat.reduceEqDiff, thenA_normal, inBlockA_normal, reduceIte, thenA_ret, inBlockA_ret, endQ_ret, endR_ret, endG_ret, endQ_normal, endR_normal, endG_normal])))
    exact ⟨_, by simp [ares, aresL, upd, rowsOf_cons]; rfl, .inl ⟨storeZ_pur, by simp only [dropOk, h1, h2]; simp, rfl⟩⟩
theorem implDrop_ACR (s : Sto) (nm : ByteArray) : ACR Try.prog 56 [storeA s, .str nm] 0 (fun _ => False) (ResS (dropOk s nm) (dropS s nm)) := (implDrop_ACR0 s nm).rowS
theorem implDrop_AC (s : Sto) (nm : ByteArray) : AC Try.prog 56 [storeA s, .str nm] 0 (fun r => r = .tup [storeA (okS (dropOk s nm) (dropS s nm)), .bool (dropOk s nm)]) := AC.ofRes (implDrop_ACR s nm)
end Go.Proofs.Ytmeobmegnneegaa.Eng
namespace Go.Proofs.Ytmeobmegnneegaa.Eng
open Go Go.RowKit
theorem storeB_of {s : Sto} (h1 : s.1.length ≤ 10) (h2 : 0 ≤ s.2) (h3 : s.2 ≤ 999) (h4 : ∀ x ∈ s.1, itmB s.2 x = true) (h5 : (s.1.map (·.1)).Pairwise (fun a b => lt a b = true)) : storeB s = true := by
  have key : ∀ (l : List Itm) (p : Option ByteArray), (∀ x ∈ l, itmB s.2 x = true) → (l.map (·.1)).Pairwise (fun a b => lt a b = true) → (∀ y, p = some y → ∀ x ∈ l, lt y x.1 = true) → itmsFrom s.2 p l = true := by
    intro l
    induction l with
    | nil => intros; rfl
    | cons x l ih =>
      intro p ha hb hc
      unfold itmsFrom
      rw [List.map_cons, List.pairwise_cons] at hb
      rw [ha x (by simp), ih _ (fun y hy => ha y (by simp [hy])) hb.2 (fun y hy z hz => by
        cases hy
        exact hb.1 z.1 (List.mem_map.2 ⟨z, hz, rfl⟩))]
      cases p with
      | none => rfl
      | some y => simp [hc y rfl x (by simp)]
  unfold storeB inR itmsB
  rw [key s.1 none h4 h5 (fun y hy => by cases hy)]
  simp [h1, h2, h3]
theorem gt_in {s : Sto} (h : storeB s = true) {x : Itm} (hx : x ∈ s.1) : gtB s x.1 = true ∧ gtI s x.1 = x := by
  obtain ⟨i, hi, rfl⟩ := List.getElem_of_mem hx
  exact gt_at h i hi
theorem gt_out {s : Sto} {nm : ByteArray} (h : ∀ x ∈ s.1, x.1 ≠ nm) : gtB s nm = false := by
  unfold gtB
  have : mem (nmL s.1) nm = false := by
    cases hm : mem (nmL s.1) nm
    · rfl
    · rw [mem_iff] at hm
      obtain ⟨x, hx, e⟩ := List.mem_map.1 hm
      exact absurd e (h x hx)
  rw [this, Bool.and_false]
theorem gt_mem {s : Sto} {nm : ByteArray} (h : storeB s = true) : gtB s nm = mem (nmL s.1) nm := by unfold gtB; rw [h, Bool.true_and]
theorem not_mem_names {l : List Itm} {nm : ByteArray} (h : mem (nmL l) nm = false) : ∀ x ∈ l, eqs x.1 nm = false := fun x hx => by
  rw [eqs_false]
  rintro rfl
  rw [show mem (nmL l) x.1 = true from mem_iff.2 (List.mem_map.2 ⟨x, hx, rfl⟩)] at h; cases h
theorem putL_has {nm : ByteArray} {nx : Itm} : ∀ {l : List Itm}, nx ∈ putL nm nx false l
  | [] => by unfold putL; simp
  | x :: l => by
    unfold putL
    simp only [List.mem_append]
    cases lts x.1 nm
    · left; left; simp
    · right; exact putL_has
theorem putL_keeps {nm : ByteArray} {nx y : Itm} (h : eqs y.1 nm = false) : ∀ {d : Bool} {l : List Itm}, y ∈ l → y ∈ putL nm nx d l
  | _, [], hy => by cases hy
  | d, x :: l, hy => by
    unfold putL
    simp only [List.mem_append]
    rcases List.mem_cons.1 hy with rfl | hy
    · left; right; rw [h]; simp
    · right; exact putL_keeps h hy
theorem putI_len (l : List Itm) (it : Itm) : (putI l it).length = l.length + if mem (nmL l) it.1 then 0 else 1 := by
  unfold putI
  split
  · simp
  · have := lb_le (nmL l) it.1
    rw [nmL_len] at this
    simp only [List.length_append, List.length_take, List.length_cons, List.length_drop]
    omega
theorem putS_len {s : Sto} (h : storeB s = true) (nm : ByteArray) (n : Nd) : (putS s nm n).1.length = s.1.length + if mem (nmL s.1) nm then 0 else 1 := by
  unfold putS
  rw [← putI_eq (storeB_asc h) (nm, s.2 + 1, n), putI_len]
theorem putOk_parts {s : Sto} {nm : ByteArray} {n : Nd} (h : putOk s nm n = true) : storeB s = true ∧ nameB nm = true ∧ validB n = true ∧ storeB (putS s nm n) = true := by
  unfold putOk at h
  simp only [Bool.and_eq_true] at h
  exact ⟨h.1.1.1, h.1.1.2, h.1.2, h.2⟩
theorem put_get {s : Sto} {nm : ByteArray} {n : Nd} (h : putOk s nm n = true) : gtB (putS s nm n) nm = true ∧ gtI (putS s nm n) nm = (nm, s.2 + 1, n) :=
  gt_in (putOk_parts h).2.2.2 (x := (nm, s.2 + 1, n)) putL_has
theorem put_old {s : Sto} {nm : ByteArray} {n : Nd} (h : putOk s nm n = true) {x : Itm} (hx : x ∈ s.1) : gtB (putS s nm n) x.1 = true ∧ (eqs x.1 nm = false → gtI (putS s nm n) x.1 = x) := by
  cases he : eqs x.1 nm
  · have := gt_in (putOk_parts h).2.2.2 (x := x) (putL_keeps he hx)
    exact ⟨this.1, fun _ => this.2⟩
  · rw [eqs_iff.1 he]
    exact ⟨(put_get h).1, fun h => by cases h⟩
theorem itmB_mono {c c' : Int} (h : c ≤ c') {x : Itm} (hx : itmB c x = true) : itmB c' x = true := by
  unfold itmB inR at *
  simp only [Bool.and_eq_true, decide_eq_true_eq] at *
  exact ⟨⟨hx.1.1, hx.1.2.1, by omega⟩, hx.2⟩
theorem nmL_map (l : List Itm) : nmL l = l.map (·.1) := rfl
theorem putI_same {l : List Itm} {nm : ByteArray} {v : Int} {n : Nd} (ha : Asc (nmL l)) (hm : mem (nmL l) nm = true) : nmL (putI l (nm, v, n)) = nmL l := by
  unfold putI
  dsimp only
  rw [if_pos hm]
  obtain ⟨hl, he⟩ := Go.Proofs.Ytmeobmegnneegaa.lb_lt ha hm
  rw [nmL_map, nmL_map, List.map_set, ← nmL_map]
  have h2 : (nmL l).set (lbound (nmL l) nm) ((nmL l)[lbound (nmL l) nm]'hl) = nmL l := List.set_getElem_self _
  rw [he] at h2
  exact h2
theorem put_again {s : Sto} {nm : ByteArray} {n : Nd} (h : putOk s nm n = true) (h9 : s.2 + 1 ≠ 999) : putOk (putS s nm n) nm n = true ∧ (putS (putS s nm n) nm n).1.length = (putS s nm n).1.length := by
  obtain ⟨p1, p2, p3, p4⟩ := putOk_parts h
  have hm : mem (nmL (putS s nm n).1) nm = true := by rw [← gt_mem p4]; exact (put_get h).1
  have h2 : (putS s nm n).2 = s.2 + 1 := rfl
  generalize putS s nm n = t at *
  have hlen : (putS t nm n).1.length = t.1.length := by rw [putS_len p4, hm]; rfl
  refine ⟨?_, hlen⟩
  obtain ⟨q1, q2, q3, q4, q5⟩ := storeB_parts p4
  unfold putOk
  rw [p4, p2, p3]
  simp only [Bool.and_self, Bool.true_and]
  have e2 : (putS t nm n).2 = t.2 + 1 := rfl
  refine storeB_of (by rw [hlen]; exact q1) (by rw [e2]; omega) (by rw [e2]; omega) ?_ ?_
  · intro x hx
    rw [e2]
    rcases putL_mem _ _ _ _ x hx with rfl | hx
    · unfold itmB inR
      simp only [Bool.and_eq_true, decide_eq_true_eq]
      exact ⟨⟨p2, by omega, by omega⟩, p3⟩
    · exact itmB_mono (by omega) (q4 x hx)
  · have : (putS t nm n).1.map (·.1) = t.1.map (·.1) := by
      have := putI_same (v := t.2 + 1) (n := n) (storeB_asc p4) hm
      rw [putI_eq (storeB_asc p4)] at this
      exact this
    rw [this]
    exact q5
theorem dropL_keeps {nm : ByteArray} {y : Itm} (h : eqs y.1 nm = false) : ∀ {l : List Itm}, y ∈ l → y ∈ dropL nm l
  | [], hy => by cases hy
  | x :: l, hy => by
    unfold dropL
    rw [List.mem_append]
    rcases List.mem_cons.1 hy with rfl | hy
    · left; rw [h]; simp
    · right; exact dropL_keeps h hy
theorem dropL_not {nm : ByteArray} : ∀ {l : List Itm}, ∀ y ∈ dropL nm l, eqs y.1 nm = false
  | [], y, hy => by simp [dropL] at hy
  | x :: l, y, hy => by
    unfold dropL at hy
    rw [List.mem_append] at hy
    rcases hy with hy | hy
    · cases he : eqs x.1 nm <;> rw [he] at hy
      · simp at hy; subst hy; exact he
      · simp at hy
    · exact dropL_not y hy
theorem dropL_sub (nm : ByteArray) : ∀ (l : List Itm), ((dropL nm l).map (·.1)).Sublist (l.map (·.1))
  | [] => by simp [dropL]
  | x :: l => by
    unfold dropL
    rw [List.map_append, List.map_cons]
    split
    · simp only [List.map_nil, List.nil_append]
      exact (dropL_sub nm l).cons _
    · simp only [List.map_cons, List.map_nil, List.singleton_append]
      exact (dropL_sub nm l).cons_cons _
theorem dropOk_parts {s : Sto} {nm : ByteArray} (h : dropOk s nm = true) : storeB s = true ∧ mem (nmL s.1) nm = true ∧ s.2 ≠ 999 := by
  unfold dropOk at h
  rw [findI_mem] at h
  simp only [Bool.and_eq_true, Bool.not_not, Bool.not_eq_true', beq_eq_false_iff_ne] at h
  exact ⟨h.1.1, h.1.2, h.2⟩
theorem drop_store {s : Sto} {nm : ByteArray} (h : dropOk s nm = true) : storeB (dropS s nm) = true := by
  obtain ⟨p1, p2, p3⟩ := dropOk_parts h
  obtain ⟨q1, q2, q3, q4, q5⟩ := storeB_parts p1
  have e2 : (dropS s nm).2 = s.2 + 1 := rfl
  refine storeB_of (by have := dropL_len nm s.1; unfold dropS; dsimp only; omega) (by rw [e2]; omega) (by rw [e2]; omega) ?_ ?_
  · intro x hx
    rw [e2]
    exact itmB_mono (by omega) (q4 x (dropL_mem nm s.1 x hx))
  · exact q5.sublist (dropL_sub nm s.1)
theorem drop_len {s : Sto} {nm : ByteArray} (h : dropOk s nm = true) : ((dropS s nm).1.length : Int) = (s.1.length : Int) - 1 := by
  obtain ⟨p1, p2, p3⟩ := dropOk_parts h
  have hl := lb_lt p2
  rw [nmL_len] at hl
  have : (dropS s nm).1.length + 1 = s.1.length := by
    unfold dropS
    rw [← dropI_eq (storeB_asc p1) nm p2]
    unfold dropI
    simp only [List.length_append, List.length_take, List.length_drop]
    omega
  omega
theorem drop_old {s : Sto} {nm : ByteArray} (h : dropOk s nm = true) {x : Itm} (hx : x ∈ s.1) : gtB (dropS s nm) x.1 = !(eqs x.1 nm) ∧ (eqs x.1 nm = false → gtI (dropS s nm) x.1 = x) := by
  cases he : eqs x.1 nm
  · have := gt_in (drop_store h) (x := x) (dropL_keeps he hx)
    exact ⟨this.1, fun _ => this.2⟩
  · rw [eqs_iff.1 he]
    exact ⟨gt_out (fun y hy => by
      have := dropL_not y hy
      rw [eqs_false] at this; exact this), fun h => by cases h⟩
theorem drop_again (s : Sto) (nm : ByteArray) : dropOk (okS (dropOk s nm) (dropS s nm)) nm = false := by
  cases h : dropOk (okS (dropOk s nm) (dropS s nm)) nm
  · rfl
  · obtain ⟨p1, p2, -⟩ := dropOk_parts h
    exfalso
    have hno : ∀ y ∈ (okS (dropOk s nm) (dropS s nm)).1, y.1 ≠ nm := by
      intro y hy
      cases hb : dropOk s nm <;> rw [hb] at hy <;> unfold okS at hy
      · simp at hy
      · have := dropL_not y hy
        rw [eqs_false] at this; exact this
    rw [mem_iff] at p2
    obtain ⟨x, hx, e⟩ := List.mem_map.1 p2
    exact hno x hx e
theorem drop_put {s : Sto} {nm : ByteArray} {n : Nd} (hm : mem (nmL s.1) nm = false) : (dropS (putS s nm n) nm).1 = s.1 := by
  have key : ∀ (d : Bool) (nx : Itm) (l : List Itm), nx.1 = nm → (∀ y ∈ l, eqs y.1 nm = false) → dropL nm (putL nm nx d l) = l := by
    intro d nx l hx
    have e1 : dropL nm [nx] = [] := by simp [dropL, eqs_iff.2 hx]
    have app : ∀ a b : List Itm, dropL nm (a ++ b) = dropL nm a ++ dropL nm b := by
      intro a b
      induction a with
      | nil => simp [dropL]
      | cons x a ih => rw [List.cons_append, dropL, dropL, ih, List.append_assoc]
    induction l generalizing d with
    | nil => intro _; unfold putL; cases d <;> simp [e1, dropL]
    | cons x l ih =>
      intro h
      unfold putL
      rw [h x (by simp), app, app, ih _ (fun y hy => h y (by simp [hy]))]
      have e2 : dropL nm [x] = [x] := by simp [dropL, h x (by simp)]
      cases d <;> cases lts x.1 nm <;> simp [e1, e2, dropL] <;> simp [h x (by simp)]
  exact key false _ s.1 rfl (not_mem_names hm)
end Go.Proofs.Ytmeobmegnneegaa.Eng
-- EV: store
namespace Go.Proofs.Ytmeobmegnneegaa.Eng
open Go Go.RowKit
attribute [local simp] big size_mk ASt.pay Option.map_map Function.comp_def awant aop acall ado aev ofVal ofVal0 ASt.put ASt.add ASt.turn ASt.kill abox aalloc astore aload ASt.at cellsTo afieldAddr afield aindexAddr aindex alen abin aint acmp astr aun apick aextract anil aslice abound abuild afill abuildSlice asCells aps avCells over upd aappend asrc amax amin aconv mkSt slots rowsOf_cons rowsOf_nil usedOf_cons usedOf_nil ZK.av List.replicate ASt.back ASt.addL ASt.killL nodeA nodeT nodeTL_eq nodeL_eq strsE_get strsE_len intsE_get intsE_len strsE_at intsE_at itemA itemL_eq storeA storeT storeO itemsRow tab2 tab3 tab4 tab5 tab6 tab7 tab8 tab9 tab10 tab11 tab12 tab13 tab14 tab15 tab16 tab17 tab18 tab19 tab21 tab22 tab23 tab24 tab25 tab26 tab27 tab28 tab31 tab32 tab33 tab37 tab38 tab39 tab46 tab53 tab61 tab62 tab69 tab70 tab98 tab116 tab117 tab125 tab126 tab128 tab136 tab145 tab146 tab151 tab152 tab153 tab155 tab156 tab157
set_option linter.unusedSimpArgs false
set_option maxRecDepth 100000 in
set_option maxHeartbeats 16000000 in
theorem equalStore_AC (t t' : VC) (s : Sto) (hs : SmlS s) : AC Try.prog 55 [storeT t s, storeT t' s] 0 (fun r => r = .bool true) := by
  have p := equalItems_AC t t' s.1 (by have := hs.1; omega) hs.2
  unfold storeT
  refine AC.of tab_ok mixed_ok Try.func55 (by rfl) (by kernel_rfl) ?_; rintro ⟨P, T, hT, hm, w0, S0, rd0, k0⟩ hP hTT; dsimp only at hP hTT; subst hP hTT; unfold initSt; rw [Try.ntmps55]
  (repeat (first | with_reducible refine AW.seq ?_ | ((first | refine arun_kn 4 rfl (fun C hC => ?_) | refine arunD_kn 4 rfl (fun C hC => ?_)); (repeat ((conv => whnf); simp)); refine hC _ ?_; clear hC C; simp only [List.drop, Nat.reduceAdd]) | ((first | refine arun_kn 1 rfl (fun C hC => ?_) | refine arunD_kn 1 rfl (fun C hC => ?_)); (repeat ((conv => whnf); simp)); refine hC _ ?_; clear hC C; simp only [List.drop, Nat.reduceAdd]) | (refine arun_skip ?_ ?_; (focus (simp [awant]; done))) | (refine arun_c0 (p) ?_; rintro _ rfl) | (refine arunD_skip ?_ ?_; (focus (simp [awant]; done))) | (refine AW.regionK [] (fun K hK => ?_)) | (refine AW.regionDK [] (pcs [] []) (by kernel_rfl) (by kernel_rfl) (fun K hK => ?_)) | (refine AW.condT ?_ ?_; (focus (simp [aev]; done))) | (refine AW.condF ?_ ?_; (focus (simp [aev]; done))) | with_reducible refine AW.block ?_ | ((first | ((first | refine arun_nil ?_ | refine arunD_nil ?_); refine hK _ ?_; clear hK K) | refine AW.skip ?_ | refine AW.exit ?_ | refine AW.ret ?_); simp only [thenA_exit, inBlockA_exit, if_true, if_false, Nat.reduceEqDiff, thenA_normal, inBlockA_normal, reduceIte, thenA_ret, inBlockA_ret, endQ_ret, endR_ret, endG_ret, endQ_normal, endR_normal, endG_normal])))
  exact ⟨.bool true, by simp [ares, aresL], pur_bool, rfl⟩
theorem okS_sml {b : Bool} {s : Sto} (h : b = true → storeB s = true) : SmlS (okS b s) := by
  cases b
  · exact ⟨by simp [okS], fun x hx => by simp [okS] at hx⟩
  · exact storeB_smlS (h rfl)
end Go.Proofs.Ytmeobmegnneegaa.Eng
-- EV: store skip
namespace Go.Proofs.Ytmeobmegnneegaa.Eng
open Go Go.RowKit
attribute [local simp] big size_mk ASt.pay Option.map_map Function.comp_def awant aop acall ado aev ofVal ofVal0 ASt.put ASt.add ASt.turn ASt.kill abox aalloc astore aload ASt.at cellsTo afieldAddr afield aindexAddr aindex alen abin aint acmp astr aun apick aextract anil aslice abound abuild afill abuildSlice asCells aps avCells over upd aappend asrc amax amin aconv mkSt slots rowsOf_cons rowsOf_nil usedOf_cons usedOf_nil ZK.av List.replicate ASt.back ASt.addL ASt.killL nodeA nodeT nodeTL_eq nodeL_eq strsE_get strsE_len intsE_get intsE_len strsE_at intsE_at itemA itemL_eq storeA storeT storeO itemsRow tab2 tab3 tab4 tab5 tab6 tab7 tab8 tab9 tab10 tab11 tab12 tab13 tab14 tab15 tab16 tab17 tab18 tab19 tab21 tab22 tab23 tab24 tab25 tab26 tab27 tab28 tab31 tab32 tab33 tab37 tab38 tab39 tab46 tab53 tab61 tab62 tab69 tab70 tab98 tab116 tab117 tab125 tab126 tab128 tab136 tab145 tab146 tab151 tab152 tab153 tab155 tab156 tab157
set_option linter.unusedSimpArgs false
set_option maxRecDepth 100000 in
set_option maxHeartbeats 16000000 in
theorem lawPutItem_AC0 (zs : List Int) (hb : ByteL zs) : AC0 Try.prog 18 [.view .loose 1 (bytesE zs)] (fun r => r = .bool true) := by
  refine AC0.of tab_ok mixed_ok Try.func18 (by rfl) (by kernel_rfl) ?_; rintro ⟨P, T, hT, hm, w0, S0, rd0, k0⟩ hP hTT hk0; dsimp only at hP hTT hk0; subst hP hTT hk0; unfold initSt; rw [Try.ntmps18]
  by_cases hl : zs.length ≤ 1048576
  · have hl' : ¬ ((1048576 : Int) < (zs.length : Int)) := by omega
    (repeat (first | with_reducible refine AW.seq ?_ | ((first | refine arun_kn 4 rfl (fun C hC => ?_) | refine arunD_kn 4 rfl (fun C hC => ?_)); (repeat ((conv => whnf); simp [bytesE_len, hl'])); refine hC _ ?_; clear hC C; simp only [List.drop, Nat.reduceAdd]) | ((first | refine arun_kn 1 rfl (fun C hC => ?_) | refine arunD_kn 1 rfl (fun C hC => ?_)); (repeat ((conv => whnf); simp [bytesE_len, hl'])); refine hC _ ?_; clear hC C; simp only [List.drop, Nat.reduceAdd]) | (refine arun_skip ?_ ?_; (focus (simp [awant, bytesE_len, hl']; done))) | (refine arun_cZ (drawPutItem_AC0 zs hl hb) ?_; (rintro _ ⟨s, nm, n, hs, hn, rfl⟩)) | (refine arunD_skip ?_ ?_; (focus (simp [awant, bytesE_len, hl']; done))) | (refine AW.regionK [] (fun K hK => ?_)) | (refine AW.regionDK [] (pcs [] []) (by kernel_rfl) (by kernel_rfl) (fun K hK => ?_)) | (refine AW.condT ?_ ?_; (focus (simp [aev, bytesE_len, hl']; done))) | (refine AW.condF ?_ ?_; (focus (simp [aev, bytesE_len, hl']; done))) | with_reducible refine AW.block ?_ | ((first | ((first | refine arun_nil ?_ | refine arunD_nil ?_); refine hK _ ?_; clear hK K) | refine AW.skip ?_ | refine AW.exit ?_ | refine AW.ret ?_); simp only [thenA_exit, inBlockA_exit, if_true, if_false, Nat.reduceEqDiff, thenA_normal, inBlockA_normal, reduceIte, thenA_ret, inBlockA_ret, endQ_ret, endR_ret, endG_ret, endQ_normal, endR_normal, endG_normal])))
    have p1 := implPut_AC s nm n
    have p2 := specPut_AC .loose .loose s nm n
    have p3 := equalStore_AC .loose .loose (okS (putOk s nm n) (putS s nm n)) (okS_sml (fun h => (putOk_parts h).2.2.2))
    cases hk : putOk s nm n <;> rw [hk] at p1 p2 p3
    · generalize okS false (putS s nm n) = t at *
      (repeat (first | with_reducible refine AW.seq ?_ | ((first | refine arun_kn 4 rfl (fun C hC => ?_) | refine arunD_kn 4 rfl (fun C hC => ?_)); (repeat ((conv => whnf); simp)); refine hC _ ?_; clear hC C; simp only [List.drop, Nat.reduceAdd]) | ((first | refine arun_kn 1 rfl (fun C hC => ?_) | refine arunD_kn 1 rfl (fun C hC => ?_)); (repeat ((conv => whnf); simp)); refine hC _ ?_; clear hC C; simp only [List.drop, Nat.reduceAdd]) | (refine arun_skip ?_ ?_; (focus (simp [awant]; done))) | (refine arun_c0 (p1) ?_; rintro _ rfl) | (refine arun_c0 (p2) ?_; rintro _ rfl) | (refine arun_c0 (p3) ?_; rintro _ rfl) | (refine arunD_skip ?_ ?_; (focus (simp [awant]; done))) | (refine AW.regionK [] (fun K hK => ?_)) | (refine AW.regionDK [] (pcs [] []) (by kernel_rfl) (by kernel_rfl) (fun K hK => ?_)) | (refine AW.condT ?_ ?_; (focus (simp [aev]; done))) | (refine AW.condF ?_ ?_; (focus (simp [aev]; done))) | with_reducible refine AW.block ?_ | ((first | ((first | refine arun_nil ?_ | refine arunD_nil ?_); refine hK _ ?_; clear hK K) | refine AW.skip ?_ | refine AW.exit ?_ | refine AW.ret ?_); simp only [thenA_exit, inBlockA_exit, if_true, if_false, Nat.reduceEqDiff, thenA_normal, inBlockA_normal, reduceIte, thenA_ret, inBlockA_ret, endQ_ret, endR_ret, endG_ret, endQ_normal, endR_normal, endG_normal])))
      exact ⟨.bool true, by simp [ares, aresL], pur_bool, rfl⟩
    · have e : okS true (putS s nm n) = putS s nm n := rfl
      rw [e] at p1 p2 p3
      have hold := fun x hx => put_old hk (x := x) hx
      have hget := put_get hk
      have hst := (putOk_parts hk).2.2.2
      have hsm := storeB_sml (putOk_parts hk).1
      have hs2 := storeB_parts (putOk_parts hk).1
      have ht2 : (putS s nm n).2 = s.2 + 1 := rfl
      generalize putS s nm n = t at *
      (repeat (first | with_reducible refine AW.seq ?_ | ((first | refine arun_kn 4 rfl (fun C hC => ?_) | refine arunD_kn 4 rfl (fun C hC => ?_)); (repeat ((conv => whnf); simp)); refine hC _ ?_; clear hC C; simp only [List.drop, Nat.reduceAdd]) | ((first | refine arun_kn 1 rfl (fun C hC => ?_) | refine arunD_kn 1 rfl (fun C hC => ?_)); (repeat ((conv => whnf); simp)); refine hC _ ?_; clear hC C; simp only [List.drop, Nat.reduceAdd]) | (refine arun_skip ?_ ?_; (focus (simp [awant]; done))) | (refine arun_c0 (p1) ?_; rintro _ rfl) | (refine arun_c0 (p2) ?_; rintro _ rfl) | (refine arun_c0 (p3) ?_; rintro _ rfl) | (refine arunD_skip ?_ ?_; (focus (simp [awant]; done))) | (refine AW.regionK [] (fun K hK => ?_)) | (refine AW.regionDK [] (pcs [] []) (by kernel_rfl) (by kernel_rfl) (fun K hK => ?_)) | (refine AW.condT ?_ ?_; (focus (simp [aev]; done))) | (refine AW.condF ?_ ?_; (focus (simp [aev]; done))) | with_reducible refine AW.block ?_ | ((first | ((first | refine arun_nil ?_ | refine arunD_nil ?_); refine hK _ ?_; clear hK K) | refine AW.skip ?_ | refine AW.exit ?_ | refine AW.ret ?_); simp only [thenA_exit, inBlockA_exit, if_true, if_false, Nat.reduceEqDiff, thenA_normal, inBlockA_normal, reduceIte, thenA_ret, inBlockA_ret, endQ_ret, endR_ret, endG_ret, endQ_normal, endR_normal, endG_normal])))
      refine AW.loopS (fun (i : Nat) => mkSt (slots 0 145 [(3, .ptr true 2 1 3 0 0), (4, .str nm), (5, .ptr true 5 1 5 0 0), (6, .ptr true 2 1 6 0 0), (10, .int .i64 i)]) [(3, ⟨true, 33, 2, [[.view .loose 7 (s.1.map itemL), .int .i64 s.2]]⟩), (5, ⟨true, 39, 5, [nodeL n]⟩), (6, ⟨true, 33, 2, [[.view .loose 7 (t.1.map itemL), .int .i64 t.2]]⟩)] [3, 5, 6] none) (fun i => s.1.length - i) (fun i => i ≤ s.1.length) 0 ?_ (Nat.zero_le _) ?_
      · exact less_s
      · intro i hi
        by_cases hlt : i < s.1.length
        · have hw : IntKind.i64.wrap ((i : Int) + 1) = (i : Int) + 1 := i64_nat (by omega) (by omega)
          obtain ⟨g1, g2⟩ := hold s.1[i] (List.getElem_mem hlt)
          have p4 := GetItem_AC t .loose s.1[i].1
          rw [g1] at p4
          cases he : eqs s.1[i].1 nm
          · rw [g2 he] at p4
            have p5 := equalNode_AC _ (hsm.2 _ (List.getElem_mem hlt)) .loose .loose
            (repeat (first | with_reducible refine AW.seq ?_ | ((first | refine arun_kn 4 rfl (fun C hC => ?_) | refine arunD_kn 4 rfl (fun C hC => ?_)); (repeat ((conv => whnf); simp [hlt, hw, he, List.length_map])); refine hC _ ?_; clear hC C; simp only [List.drop, Nat.reduceAdd]) | ((first | refine arun_kn 1 rfl (fun C hC => ?_) | refine arunD_kn 1 rfl (fun C hC => ?_)); (repeat ((conv => whnf); simp [hlt, hw, he, List.length_map])); refine hC _ ?_; clear hC C; simp only [List.drop, Nat.reduceAdd]) | (refine arun_skip ?_ ?_; (focus (simp [awant, hlt, hw, he, List.length_map]; done))) | (refine arun_c0 (p4) ?_; rintro _ rfl) | (refine arun_c0 (p5) ?_; rintro _ rfl) | (refine arunD_skip ?_ ?_; (focus (simp [awant, hlt, hw, he, List.length_map]; done))) | (refine arunD_c (0) (p4) ?_; rintro _ rfl; intro _) | (refine arunD_c (0) (p5) ?_; rintro _ rfl; intro _) | (refine AW.regionK [] (fun K hK => ?_)) | (refine AW.regionDK [] (pcs [(7, 0, fun r => r = .tup [itemA s.1[i], .bool true]), (30, 0, fun r => r = .bool true)] []) (by kernel_rfl) (by kernel_rfl) (fun K hK => ?_)) | (refine AW.condT ?_ ?_; (focus (simp [aev, hlt, hw, he, List.length_map]; done))) | (refine AW.condF ?_ ?_; (focus (simp [aev, hlt, hw, he, List.length_map]; done))) | with_reducible refine AW.block ?_ | ((first | ((first | refine arun_nil ?_ | refine arunD_nil ?_); refine hK _ ?_; clear hK K) | refine AW.skip ?_ | refine AW.exit ?_ | refine AW.ret ?_); simp only [thenA_exit, inBlockA_exit, if_true, if_false, Nat.reduceEqDiff, thenA_normal, inBlockA_normal, reduceIte, thenA_ret, inBlockA_ret, endQ_ret, endR_ret, endG_ret, endQ_normal, endR_normal, endG_normal])))
            exact ⟨i + 1, by omega, by omega, less_s⟩
          · generalize gtI t s.1[i].1 = g at *
            (repeat (first | with_reducible refine AW.seq ?_ | ((first | refine arun_kn 4 rfl (fun C hC => ?_) | refine arunD_kn 4 rfl (fun C hC => ?_)); (repeat ((conv => whnf); simp [hlt, hw, he, List.length_map])); refine hC _ ?_; clear hC C; simp only [List.drop, Nat.reduceAdd]) | ((first | refine arun_kn 1 rfl (fun C hC => ?_) | refine arunD_kn 1 rfl (fun C hC => ?_)); (repeat ((conv => whnf); simp [hlt, hw, he, List.length_map])); refine hC _ ?_; clear hC C; simp only [List.drop, Nat.reduceAdd]) | (refine arun_skip ?_ ?_; (focus (simp [awant, hlt, hw, he, List.length_map]; done))) | (refine arun_c0 (p4) ?_; rintro _ rfl) | (refine arunD_skip ?_ ?_; (focus (simp [awant, hlt, hw, he, List.length_map]; done))) | (refine arunD_c (0) (p4) ?_; rintro _ rfl; intro _) | (refine AW.regionK [] (fun K hK => ?_)) | (refine AW.regionDK [] (pcs [(7, 0, fun r => r = .tup [itemA g, .bool true]), (30, 0, fun r => r = .bool true)] []) (by kernel_rfl) (by kernel_rfl) (fun K hK => ?_)) | (refine AW.condT ?_ ?_; (focus (simp [aev, hlt, hw, he, List.length_map]; done))) | (refine AW.condF ?_ ?_; (focus (simp [aev, hlt, hw, he, List.length_map]; done))) | with_reducible refine AW.block ?_ | ((first | ((first | refine arun_nil ?_ | refine arunD_nil ?_); refine hK _ ?_; clear hK K) | refine AW.skip ?_ | refine AW.exit ?_ | refine AW.ret ?_); simp only [thenA_exit, inBlockA_exit, if_true, if_false, Nat.reduceEqDiff, thenA_normal, inBlockA_normal, reduceIte, thenA_ret, inBlockA_ret, endQ_ret, endR_ret, endG_ret, endQ_normal, endR_normal, endG_normal])))
            exact ⟨i + 1, by omega, by omega, less_s⟩
        · have p4 := GetItem_AC t .loose nm
          rw [hget.1, hget.2] at p4
          have p5 := equalNode_AC n hn .loose .loose
          have p6 := ValidStore_AC t .loose
          rw [hst] at p6
          have hw : IntKind.i64.wrap (s.2 + 1) = s.2 + 1 := i64_nat (by omega) (by omega)
          (repeat (first | with_reducible refine AW.seq ?_ | ((first | refine arun_kn 4 rfl (fun C hC => ?_) | refine arunD_kn 4 rfl (fun C hC => ?_)); (repeat ((conv => whnf); simp [hlt, hw, ht2])); refine hC _ ?_; clear hC C; simp only [List.drop, Nat.reduceAdd]) | ((first | refine arun_kn 1 rfl (fun C hC => ?_) | refine arunD_kn 1 rfl (fun C hC => ?_)); (repeat ((conv => whnf); simp [hlt, hw, ht2])); refine hC _ ?_; clear hC C; simp only [List.drop, Nat.reduceAdd]) | (refine arun_skip ?_ ?_; (focus (simp [awant, hlt, hw, ht2]; done))) | (refine arun_c0 (hx := by (simp [hlt, hw, ht2] <;> fail)) (p4) ?_; rintro _ rfl) | (refine arun_c0 (p5) ?_; rintro _ rfl) | (refine arun_c0 (hx := by (simp [hlt, hw, ht2] <;> fail)) (p6) ?_; rintro _ rfl) | (refine arunD_skip ?_ ?_; (focus (simp [awant, hlt, hw, ht2]; done))) | (refine AW.regionK [] (fun K hK => ?_)) | (refine AW.regionDK [] (pcs [] []) (by kernel_rfl) (by kernel_rfl) (fun K hK => ?_)) | (refine AW.condT ?_ ?_; (focus (simp [aev, hlt, hw, ht2]; done))) | (refine AW.condF ?_ ?_; (focus (simp [aev, hlt, hw, ht2]; done))) | with_reducible refine AW.block ?_ | ((first | ((first | refine arun_nil ?_ | refine arunD_nil ?_); refine hK _ ?_; clear hK K) | refine AW.skip ?_ | refine AW.exit ?_ | refine AW.ret ?_); simp only [thenA_exit, inBlockA_exit, if_true, if_false, Nat.reduceEqDiff, thenA_normal, inBlockA_normal, reduceIte, thenA_ret, inBlockA_ret, endQ_ret, endR_ret, endG_ret, endQ_normal, endR_normal, endG_normal])))
          exact ⟨.bool true, by simp [ares, aresL], pur_bool, rfl⟩
  · have hl' : (1048576 : Int) < (zs.length : Int) := by omega
    (repeat (first | with_reducible refine AW.seq ?_ | ((first | refine arun_kn 4 rfl (fun C hC => ?_) | refine arunD_kn 4 rfl (fun C hC => ?_)); (repeat ((conv => whnf); simp [bytesE_len, hl'])); refine hC _ ?_; clear hC C; simp only [List.drop, Nat.reduceAdd]) | ((first | refine arun_kn 1 rfl (fun C hC => ?_) | refine arunD_kn 1 rfl (fun C hC => ?_)); (repeat ((conv => whnf); simp [bytesE_len, hl'])); refine hC _ ?_; clear hC C; simp only [List.drop, Nat.reduceAdd]) | (refine arun_skip ?_ ?_; (focus (simp [awant, bytesE_len, hl']; done))) | (refine arunD_skip ?_ ?_; (focus (simp [awant, bytesE_len, hl']; done))) | (refine AW.regionK [] (fun K hK => ?_)) | (refine AW.regionDK [] (pcs [] []) (by kernel_rfl) (by kernel_rfl) (fun K hK => ?_)) | (refine AW.condT ?_ ?_; (focus (simp [aev, bytesE_len, hl']; done))) | (refine AW.condF ?_ ?_; (focus (simp [aev, bytesE_len, hl']; done))) | with_reducible refine AW.block ?_ | ((first | ((first | refine arun_nil ?_ | refine arunD_nil ?_); refine hK _ ?_; clear hK K) | refine AW.skip ?_ | refine AW.exit ?_ | refine AW.ret ?_); simp only [thenA_exit, inBlockA_exit, if_true, if_false, Nat.reduceEqDiff, thenA_normal, inBlockA_normal, reduceIte, thenA_ret, inBlockA_ret, endQ_ret, endR_ret, endG_ret, endQ_normal, endR_normal, endG_normal])))
    exact ⟨.bool true, by simp [ares, aresL], pur_bool, rfl⟩
end Go.Proofs.Ytmeobmegnneegaa.Eng
-- EV: store skip
namespace Go.Proofs.Ytmeobmegnneegaa.Eng
open Go Go.RowKit
attribute [local simp] big size_mk ASt.pay Option.map_map Function.comp_def awant aop acall ado aev ofVal ofVal0 ASt.put ASt.add ASt.turn ASt.kill abox aalloc astore aload ASt.at cellsTo afieldAddr afield aindexAddr aindex alen abin aint acmp astr aun apick aextract anil aslice abound abuild afill abuildSlice asCells aps avCells over upd aappend asrc amax amin aconv mkSt slots rowsOf_cons rowsOf_nil usedOf_cons usedOf_nil ZK.av List.replicate ASt.back ASt.addL ASt.killL nodeA nodeT nodeTL_eq nodeL_eq strsE_get strsE_len intsE_get intsE_len strsE_at intsE_at itemA itemL_eq storeA storeT storeO itemsRow tab2 tab3 tab4 tab5 tab6 tab7 tab8 tab9 tab10 tab11 tab12 tab13 tab14 tab15 tab16 tab17 tab18 tab19 tab21 tab22 tab23 tab24 tab25 tab26 tab27 tab28 tab31 tab32 tab33 tab37 tab38 tab39 tab46 tab53 tab61 tab62 tab69 tab70 tab98 tab116 tab117 tab125 tab126 tab128 tab136 tab145 tab146 tab151 tab152 tab153 tab155 tab156 tab157
set_option linter.unusedSimpArgs false
set_option maxRecDepth 100000 in
set_option maxHeartbeats 16000000 in
theorem lawPutItemOnce_AC0 (zs : List Int) (hb : ByteL zs) : AC0 Try.prog 19 [.view .loose 1 (bytesE zs)] (fun r => r = .bool true) := by
  refine AC0.of tab_ok mixed_ok Try.func19 (by rfl) (by kernel_rfl) ?_; rintro ⟨P, T, hT, hm, w0, S0, rd0, k0⟩ hP hTT hk0; dsimp only at hP hTT hk0; subst hP hTT hk0; unfold initSt; rw [Try.ntmps19]
  by_cases hl : zs.length ≤ 1048576
  · have hl' : ¬ ((1048576 : Int) < (zs.length : Int)) := by omega
    (repeat (first | with_reducible refine AW.seq ?_ | ((first | refine arun_kn 4 rfl (fun C hC => ?_) | refine arunD_kn 4 rfl (fun C hC => ?_)); (repeat ((conv => whnf); simp [bytesE_len, hl'])); refine hC _ ?_; clear hC C; simp only [List.drop, Nat.reduceAdd]) | ((first | refine arun_kn 1 rfl (fun C hC => ?_) | refine arunD_kn 1 rfl (fun C hC => ?_)); (repeat ((conv => whnf); simp [bytesE_len, hl'])); refine hC _ ?_; clear hC C; simp only [List.drop, Nat.reduceAdd]) | (refine arun_skip ?_ ?_; (focus (simp [awant, bytesE_len, hl']; done))) | (refine arun_cZ (drawPutItem_AC0 zs hl hb) ?_; (rintro _ ⟨s, nm, n, hs, hn, rfl⟩)) | (refine arunD_skip ?_ ?_; (focus (simp [awant, bytesE_len, hl']; done))) | (refine AW.regionK [] (fun K hK => ?_)) | (refine AW.regionDK [] (pcs [] []) (by kernel_rfl) (by kernel_rfl) (fun K hK => ?_)) | (refine AW.condT ?_ ?_; (focus (simp [aev, bytesE_len, hl']; done))) | (refine AW.condF ?_ ?_; (focus (simp [aev, bytesE_len, hl']; done))) | with_reducible refine AW.block ?_ | ((first | ((first | refine arun_nil ?_ | refine arunD_nil ?_); refine hK _ ?_; clear hK K) | refine AW.skip ?_ | refine AW.exit ?_ | refine AW.ret ?_); simp only [thenA_exit, inBlockA_exit, if_true, if_false, Nat.reduceEqDiff, thenA_normal, inBlockA_normal, reduceIte, thenA_ret, inBlockA_ret, endQ_ret, endR_ret, endG_ret, endQ_normal, endR_normal, endG_normal])))
    have p1 := implPut_AC s nm n
    have p2 := specPut_AC .loose .loose s nm n
    have p3 := equalStore_AC .loose .loose (okS (putOk s nm n) (putS s nm n)) (okS_sml (fun h => (putOk_parts h).2.2.2))
    cases hk : putOk s nm n <;> rw [hk] at p1 p2 p3
    · generalize okS false (putS s nm n) = t at *
      (repeat (first | with_reducible refine AW.seq ?_ | ((first | refine arun_kn 4 rfl (fun C hC => ?_) | refine arunD_kn 4 rfl (fun C hC => ?_)); (repeat ((conv => whnf); simp)); refine hC _ ?_; clear hC C; simp only [List.drop, Nat.reduceAdd]) | ((first | refine arun_kn 1 rfl (fun C hC => ?_) | refine arunD_kn 1 rfl (fun C hC => ?_)); (repeat ((conv => whnf); simp)); refine hC _ ?_; clear hC C; simp only [List.drop, Nat.reduceAdd]) | (refine arun_skip ?_ ?_; (focus (simp [awant]; done))) | (refine arun_c0 (p1) ?_; rintro _ rfl) | (refine arun_c0 (p2) ?_; rintro _ rfl) | (refine arun_c0 (p3) ?_; rintro _ rfl) | (refine arunD_skip ?_ ?_; (focus (simp [awant]; done))) | (refine AW.regionK [] (fun K hK => ?_)) | (refine AW.regionDK [] (pcs [] []) (by kernel_rfl) (by kernel_rfl) (fun K hK => ?_)) | (refine AW.condT ?_ ?_; (focus (simp [aev]; done))) | (refine AW.condF ?_ ?_; (focus (simp [aev]; done))) | with_reducible refine AW.block ?_ | ((first | ((first | refine arun_nil ?_ | refine arunD_nil ?_); refine hK _ ?_; clear hK K) | refine AW.skip ?_ | refine AW.exit ?_ | refine AW.ret ?_); simp only [thenA_exit, inBlockA_exit, if_true, if_false, Nat.reduceEqDiff, thenA_normal, inBlockA_normal, reduceIte, thenA_ret, inBlockA_ret, endQ_ret, endR_ret, endG_ret, endQ_normal, endR_normal, endG_normal])))
      exact ⟨.bool true, by simp [ares, aresL], pur_bool, rfl⟩
    · have e : okS true (putS s nm n) = putS s nm n := rfl
      rw [e] at p1 p2 p3
      have hst := (putOk_parts hk).2.2.2
      have hs1 := (putOk_parts hk).1
      have hs2 := storeB_parts hs1
      have ht2 : (putS s nm n).2 = s.2 + 1 := rfl
      have hlen := putS_len hs1 nm n
      have p4 := GetItem_AC s .loose nm
      rw [gt_mem hs1] at p4
      have ht10 := (storeB_parts hst).1
      generalize putS s nm n = t at *
      generalize gtI s nm = g at *
      cases hm : mem (nmL s.1) nm <;> rw [hm] at p4 hlen
      · have hw : IntKind.i64.wrap ((s.1.length : Int) + 1) = (s.1.length : Int) + 1 := i64_nat (by omega) (by omega)
        have hl2 : (t.1.length : Int) = (s.1.length : Int) + 1 := by rw [hlen]; simp
        (repeat (first | with_reducible refine AW.seq ?_ | ((first | refine arun_kn 4 rfl (fun C hC => ?_) | refine arunD_kn 4 rfl (fun C hC => ?_)); (repeat ((conv => whnf); simp [hw, hl2, List.length_map])); refine hC _ ?_; clear hC C; simp only [List.drop, Nat.reduceAdd]) | ((first | refine arun_kn 1 rfl (fun C hC => ?_) | refine arunD_kn 1 rfl (fun C hC => ?_)); (repeat ((conv => whnf); simp [hw, hl2, List.length_map])); refine hC _ ?_; clear hC C; simp only [List.drop, Nat.reduceAdd]) | (refine arun_skip ?_ ?_; (focus (simp [awant, hw, hl2, List.length_map]; done))) | (refine arun_c0 (p1) ?_; rintro _ rfl) | (refine arun_c0 (p2) ?_; rintro _ rfl) | (refine arun_c0 (p3) ?_; rintro _ rfl) | (refine arun_c0 (p4) ?_; rintro _ rfl) | (refine arunD_skip ?_ ?_; (focus (simp [awant, hw, hl2, List.length_map]; done))) | (refine AW.regionK [] (fun K hK => ?_)) | (refine AW.regionDK [] (pcs [] []) (by kernel_rfl) (by kernel_rfl) (fun K hK => ?_)) | (refine AW.condT ?_ ?_; (focus (simp [aev, hw, hl2, List.length_map]; done))) | (refine AW.condF ?_ ?_; (focus (simp [aev, hw, hl2, List.length_map]; done))) | with_reducible refine AW.block ?_ | ((first | ((first | refine arun_nil ?_ | refine arunD_nil ?_); refine hK _ ?_; clear hK K) | refine AW.skip ?_ | refine AW.exit ?_ | refine AW.ret ?_); simp only [thenA_exit, inBlockA_exit, if_true, if_false, Nat.reduceEqDiff, thenA_normal, inBlockA_normal, reduceIte, thenA_ret, inBlockA_ret, endQ_ret, endR_ret, endG_ret, endQ_normal, endR_normal, endG_normal])))
        exact ⟨.bool true, by simp [ares, aresL], pur_bool, rfl⟩
      · have hw : IntKind.i64.wrap (s.1.length : Int) = (s.1.length : Int) := i64_nat (by omega) (by omega)
        have hl2 : t.1.length = s.1.length := by rw [hlen]; rfl
        (repeat (first | with_reducible refine AW.seq ?_ | ((first | refine arun_kn 4 rfl (fun C hC => ?_) | refine arunD_kn 4 rfl (fun C hC => ?_)); (repeat ((conv => whnf); simp [hw, hl2, List.length_map])); refine hC _ ?_; clear hC C; simp only [List.drop, Nat.reduceAdd]) | ((first | refine arun_kn 1 rfl (fun C hC => ?_) | refine arunD_kn 1 rfl (fun C hC => ?_)); (repeat ((conv => whnf); simp [hw, hl2, List.length_map])); refine hC _ ?_; clear hC C; simp only [List.drop, Nat.reduceAdd]) | (refine arun_skip ?_ ?_; (focus (simp [awant, hw, hl2, List.length_map]; done))) | (refine arun_c0 (p1) ?_; rintro _ rfl) | (refine arun_c0 (p2) ?_; rintro _ rfl) | (refine arun_c0 (p3) ?_; rintro _ rfl) | (refine arun_c0 (p4) ?_; rintro _ rfl) | (refine arunD_skip ?_ ?_; (focus (simp [awant, hw, hl2, List.length_map]; done))) | (refine AW.regionK [] (fun K hK => ?_)) | (refine AW.regionDK [] (pcs [] []) (by kernel_rfl) (by kernel_rfl) (fun K hK => ?_)) | (refine AW.condT ?_ ?_; (focus (simp [aev, hw, hl2, List.length_map]; done))) | (refine AW.condF ?_ ?_; (focus (simp [aev, hw, hl2, List.length_map]; done))) | with_reducible refine AW.block ?_ | ((first | ((first | refine arun_nil ?_ | refine arunD_nil ?_); refine hK _ ?_; clear hK K) | refine AW.skip ?_ | refine AW.exit ?_ | refine AW.ret ?_); simp only [thenA_exit, inBlockA_exit, if_true, if_false, Nat.reduceEqDiff, thenA_normal, inBlockA_normal, reduceIte, thenA_ret, inBlockA_ret, endQ_ret, endR_ret, endG_ret, endQ_normal, endR_normal, endG_normal])))
        exact ⟨.bool true, by simp [ares, aresL], pur_bool, rfl⟩
  · have hl' : (1048576 : Int) < (zs.length : Int) := by omega
    (repeat (first | with_reducible refine AW.seq ?_ | ((first | refine arun_kn 4 rfl (fun C hC => ?_) | refine arunD_kn 4 rfl (fun C hC => ?_)); (repeat ((conv => whnf); simp [bytesE_len, hl'])); refine hC _ ?_; clear hC C; simp only [List.drop, Nat.reduceAdd]) | ((first | refine arun_kn 1 rfl (fun C hC => ?_) | refine arunD_kn 1 rfl (fun C hC => ?_)); (repeat ((conv => whnf); simp [bytesE_len, hl'])); refine hC _ ?_; clear hC C; simp only [List.drop, Nat.reduceAdd]) | (refine arun_skip ?_ ?_; (focus (simp [awant, bytesE_len, hl']; done))) | (refine arunD_skip ?_ ?_; (focus (simp [awant, bytesE_len, hl']; done))) | (refine AW.regionK [] (fun K hK => ?_)) | (refine AW.regionDK [] (pcs [] []) (by kernel_rfl) (by kernel_rfl) (fun K hK => ?_)) | (refine AW.condT ?_ ?_; (focus (simp [aev, bytesE_len, hl']; done))) | (refine AW.condF ?_ ?_; (focus (simp [aev, bytesE_len, hl']; done))) | with_reducible refine AW.block ?_ | ((first | ((first | refine arun_nil ?_ | refine arunD_nil ?_); refine hK _ ?_; clear hK K) | refine AW.skip ?_ | refine AW.exit ?_ | refine AW.ret ?_); simp only [thenA_exit, inBlockA_exit, if_true, if_false, Nat.reduceEqDiff, thenA_normal, inBlockA_normal, reduceIte, thenA_ret, inBlockA_ret, endQ_ret, endR_ret, endG_ret, endQ_normal, endR_normal, endG_normal])))
    exact ⟨.bool true, by simp [ares, aresL], pur_bool, rfl⟩
end Go.Proofs.Ytmeobmegnneegaa.Eng
-- EV: store skip
namespace Go.Proofs.Ytmeobmegnneegaa.Eng
open Go Go.RowKit
attribute [local simp] big size_mk ASt.pay Option.map_map Function.comp_def awant aop acall ado aev ofVal ofVal0 ASt.put ASt.add ASt.turn ASt.kill abox aalloc astore aload ASt.at cellsTo afieldAddr afield aindexAddr aindex alen abin aint acmp astr aun apick aextract anil aslice abound abuild afill abuildSlice asCells aps avCells over upd aappend asrc amax amin aconv mkSt slots rowsOf_cons rowsOf_nil usedOf_cons usedOf_nil ZK.av List.replicate ASt.back ASt.addL ASt.killL nodeA nodeT nodeTL_eq nodeL_eq strsE_get strsE_len intsE_get intsE_len strsE_at intsE_at itemA itemL_eq storeA storeT storeO itemsRow tab2 tab3 tab4 tab5 tab6 tab7 tab8 tab9 tab10 tab11 tab12 tab13 tab14 tab15 tab16 tab17 tab18 tab19 tab21 tab22 tab23 tab24 tab25 tab26 tab27 tab28 tab31 tab32 tab33 tab37 tab38 tab39 tab46 tab53 tab61 tab62 tab69 tab70 tab98 tab116 tab117 tab125 tab126 tab128 tab136 tab145 tab146 tab151 tab152 tab153 tab155 tab156 tab157
set_option linter.unusedSimpArgs false
set_option maxRecDepth 100000 in
set_option maxHeartbeats 16000000 in
theorem lawPutItemSame_AC0 (zs : List Int) (hb : ByteL zs) : AC0 Try.prog 20 [.view .loose 1 (bytesE zs)] (fun r => r = .bool true) := by
  refine AC0.of tab_ok mixed_ok Try.func20 (by rfl) (by kernel_rfl) ?_; rintro ⟨P, T, hT, hm, w0, S0, rd0, k0⟩ hP hTT hk0; dsimp only at hP hTT hk0; subst hP hTT hk0; unfold initSt; rw [Try.ntmps20]
  by_cases hl : zs.length ≤ 1048576
  · have hl' : ¬ ((1048576 : Int) < (zs.length : Int)) := by omega
    (repeat (first | with_reducible refine AW.seq ?_ | ((first | refine arun_kn 4 rfl (fun C hC => ?_) | refine arunD_kn 4 rfl (fun C hC => ?_)); (repeat ((conv => whnf); simp [bytesE_len, hl'])); refine hC _ ?_; clear hC C; simp only [List.drop, Nat.reduceAdd]) | ((first | refine arun_kn 1 rfl (fun C hC => ?_) | refine arunD_kn 1 rfl (fun C hC => ?_)); (repeat ((conv => whnf); simp [bytesE_len, hl'])); refine hC _ ?_; clear hC C; simp only [List.drop, Nat.reduceAdd]) | (refine arun_skip ?_ ?_; (focus (simp [awant, bytesE_len, hl']; done))) | (refine arun_cZ (drawPutItem_AC0 zs hl hb) ?_; (rintro _ ⟨s, nm, n, hs, hn, rfl⟩)) | (refine arunD_skip ?_ ?_; (focus (simp [awant, bytesE_len, hl']; done))) | (refine AW.regionK [] (fun K hK => ?_)) | (refine AW.regionDK [] (pcs [] []) (by kernel_rfl) (by kernel_rfl) (fun K hK => ?_)) | (refine AW.condT ?_ ?_; (focus (simp [aev, bytesE_len, hl']; done))) | (refine AW.condF ?_ ?_; (focus (simp [aev, bytesE_len, hl']; done))) | with_reducible refine AW.block ?_ | ((first | ((first | refine arun_nil ?_ | refine arunD_nil ?_); refine hK _ ?_; clear hK K) | refine AW.skip ?_ | refine AW.exit ?_ | refine AW.ret ?_); simp only [thenA_exit, inBlockA_exit, if_true, if_false, Nat.reduceEqDiff, thenA_normal, inBlockA_normal, reduceIte, thenA_ret, inBlockA_ret, endQ_ret, endR_ret, endG_ret, endQ_normal, endR_normal, endG_normal])))
    have p1 := implPut_AC s nm n
    have p2 := specPut_AC .loose .loose s nm n
    have p3 := equalStore_AC .loose .loose (okS (putOk s nm n) (putS s nm n)) (okS_sml (fun h => (putOk_parts h).2.2.2))
    cases hk : putOk s nm n <;> rw [hk] at p1 p2 p3
    · generalize okS false (putS s nm n) = t at *
      (repeat (first | with_reducible refine AW.seq ?_ | ((first | refine arun_kn 4 rfl (fun C hC => ?_) | refine arunD_kn 4 rfl (fun C hC => ?_)); (repeat ((conv => whnf); simp)); refine hC _ ?_; clear hC C; simp only [List.drop, Nat.reduceAdd]) | ((first | refine arun_kn 1 rfl (fun C hC => ?_) | refine arunD_kn 1 rfl (fun C hC => ?_)); (repeat ((conv => whnf); simp)); refine hC _ ?_; clear hC C; simp only [List.drop, Nat.reduceAdd]) | (refine arun_skip ?_ ?_; (focus (simp [awant]; done))) | (refine arun_c0 (p1) ?_; rintro _ rfl) | (refine arun_c0 (p2) ?_; rintro _ rfl) | (refine arun_c0 (p3) ?_; rintro _ rfl) | (refine arunD_skip ?_ ?_; (focus (simp [awant]; done))) | (refine AW.regionK [] (fun K hK => ?_)) | (refine AW.regionDK [] (pcs [] []) (by kernel_rfl) (by kernel_rfl) (fun K hK => ?_)) | (refine AW.condT ?_ ?_; (focus (simp [aev]; done))) | (refine AW.condF ?_ ?_; (focus (simp [aev]; done))) | with_reducible refine AW.block ?_ | ((first | ((first | refine arun_nil ?_ | refine arunD_nil ?_); refine hK _ ?_; clear hK K) | refine AW.skip ?_ | refine AW.exit ?_ | refine AW.ret ?_); simp only [thenA_exit, inBlockA_exit, if_true, if_false, Nat.reduceEqDiff, thenA_normal, inBlockA_normal, reduceIte, thenA_ret, inBlockA_ret, endQ_ret, endR_ret, endG_ret, endQ_normal, endR_normal, endG_normal])))
      exact ⟨.bool true, by simp [ares, aresL], pur_bool, rfl⟩
    · have e : okS true (putS s nm n) = putS s nm n := rfl
      rw [e] at p1 p2 p3
      have hst := (putOk_parts hk).2.2.2
      have hs1 := (putOk_parts hk).1
      have hs2 := storeB_parts hs1
      have ht2 : (putS s nm n).2 = s.2 + 1 := rfl
      cases h9 : (s.2 + 1 == 999)
      · have h9' : s.2 + 1 ≠ 999 := by simpa using h9
        obtain ⟨a1, a2⟩ := put_again hk h9'
        have a3 := put_get a1
        have hst2 := (putOk_parts a1).2.2.2
        have p4 := implPut_AC (putS s nm n) nm n
        rw [a1] at p4
        have e2 : okS true (putS (putS s nm n) nm n) = putS (putS s nm n) nm n := rfl
        rw [e2] at p4
        generalize putS s nm n = t at *
        generalize putS t nm n = u at *
        have p5 := GetItem_AC u .loose nm
        rw [a3.1, a3.2] at p5
        have p6 := equalNode_AC n hn .loose .loose
        rw [← ht2] at h9
        have ht999 : t.2 ≠ 999 := by simpa using h9
        have ht10 := storeB_parts hst
        have hw : IntKind.i64.wrap (t.2 + 1) = t.2 + 1 := i64_nat (by omega) (by omega)
        (repeat (first | with_reducible refine AW.seq ?_ | ((first | refine arun_kn 4 rfl (fun C hC => ?_) | refine arunD_kn 4 rfl (fun C hC => ?_)); (repeat ((conv => whnf); simp [hw, h9, ht999, a2, List.length_map])); refine hC _ ?_; clear hC C; simp only [List.drop, Nat.reduceAdd]) | ((first | refine arun_kn 1 rfl (fun C hC => ?_) | refine arunD_kn 1 rfl (fun C hC => ?_)); (repeat ((conv => whnf); simp [hw, h9, ht999, a2, List.length_map])); refine hC _ ?_; clear hC C; simp only [List.drop, Nat.reduceAdd]) | (refine arun_skip ?_ ?_; (focus (simp [awant, hw, h9, ht999, a2, List.length_map]; done))) | (refine arun_c0 (p1) ?_; rintro _ rfl) | (refine arun_c0 (p2) ?_; rintro _ rfl) | (refine arun_c0 (p3) ?_; rintro _ rfl) | (refine arun_c0 (p4) ?_; rintro _ rfl) | (refine arun_c0 (p5) ?_; rintro _ rfl) | (refine arun_c0 (p6) ?_; rintro _ rfl) | (refine arunD_skip ?_ ?_; (focus (simp [awant, hw, h9, ht999, a2, List.length_map]; done))) | (refine AW.regionK [] (fun K hK => ?_)) | (refine AW.regionDK [] (pcs [] []) (by kernel_rfl) (by kernel_rfl) (fun K hK => ?_)) | (refine AW.condT ?_ ?_; (focus (simp [aev, hw, h9, ht999, a2, List.length_map]; done))) | (refine AW.condF ?_ ?_; (focus (simp [aev, hw, h9, ht999, a2, List.length_map]; done))) | with_reducible refine AW.block ?_ | ((first | ((first | refine arun_nil ?_ | refine arunD_nil ?_); refine hK _ ?_; clear hK K) | refine AW.skip ?_ | refine AW.exit ?_ | refine AW.ret ?_); simp only [thenA_exit, inBlockA_exit, if_true, if_false, Nat.reduceEqDiff, thenA_normal, inBlockA_normal, reduceIte, thenA_ret, inBlockA_ret, endQ_ret, endR_ret, endG_ret, endQ_normal, endR_normal, endG_normal])))
        exact ⟨.bool true, by simp [ares, aresL], pur_bool, rfl⟩
      · rw [← ht2] at h9
        have h9' : (putS s nm n).2 = 999 := by simpa using h9
        generalize putS s nm n = t at *
        (repeat (first | with_reducible refine AW.seq ?_ | ((first | refine arun_kn 4 rfl (fun C hC => ?_) | refine arunD_kn 4 rfl (fun C hC => ?_)); (repeat ((conv => whnf); simp [h9, h9'])); refine hC _ ?_; clear hC C; simp only [List.drop, Nat.reduceAdd]) | ((first | refine arun_kn 1 rfl (fun C hC => ?_) | refine arunD_kn 1 rfl (fun C hC => ?_)); (repeat ((conv => whnf); simp [h9, h9'])); refine hC _ ?_; clear hC C; simp only [List.drop, Nat.reduceAdd]) | (refine arun_skip ?_ ?_; (focus (simp [awant, h9, h9']; done))) | (refine arun_c0 (p1) ?_; rintro _ rfl) | (refine arun_c0 (p2) ?_; rintro _ rfl) | (refine arun_c0 (hx := by (simp [h9, h9'] <;> fail)) (p3) ?_; rintro _ rfl) | (refine arunD_skip ?_ ?_; (focus (simp [awant, h9, h9']; done))) | (refine AW.regionK [] (fun K hK => ?_)) | (refine AW.regionDK [] (pcs [] []) (by kernel_rfl) (by kernel_rfl) (fun K hK => ?_)) | (refine AW.condT ?_ ?_; (focus (simp [aev, h9, h9']; done))) | (refine AW.condF ?_ ?_; (focus (simp [aev, h9, h9']; done))) | with_reducible refine AW.block ?_ | ((first | ((first | refine arun_nil ?_ | refine arunD_nil ?_); refine hK _ ?_; clear hK K) | refine AW.skip ?_ | refine AW.exit ?_ | refine AW.ret ?_); simp only [thenA_exit, inBlockA_exit, if_true, if_false, Nat.reduceEqDiff, thenA_normal, inBlockA_normal, reduceIte, thenA_ret, inBlockA_ret, endQ_ret, endR_ret, endG_ret, endQ_normal, endR_normal, endG_normal])))
        exact ⟨.bool true, by simp [ares, aresL], pur_bool, rfl⟩
  · have hl' : (1048576 : Int) < (zs.length : Int) := by omega
    (repeat (first | with_reducible refine AW.seq ?_ | ((first | refine arun_kn 4 rfl (fun C hC => ?_) | refine arunD_kn 4 rfl (fun C hC => ?_)); (repeat ((conv => whnf); simp [bytesE_len, hl'])); refine hC _ ?_; clear hC C; simp only [List.drop, Nat.reduceAdd]) | ((first | refine arun_kn 1 rfl (fun C hC => ?_) | refine arunD_kn 1 rfl (fun C hC => ?_)); (repeat ((conv => whnf); simp [bytesE_len, hl'])); refine hC _ ?_; clear hC C; simp only [List.drop, Nat.reduceAdd]) | (refine arun_skip ?_ ?_; (focus (simp [awant, bytesE_len, hl']; done))) | (refine arunD_skip ?_ ?_; (focus (simp [awant, bytesE_len, hl']; done))) | (refine AW.regionK [] (fun K hK => ?_)) | (refine AW.regionDK [] (pcs [] []) (by kernel_rfl) (by kernel_rfl) (fun K hK => ?_)) | (refine AW.condT ?_ ?_; (focus (simp [aev, bytesE_len, hl']; done))) | (refine AW.condF ?_ ?_; (focus (simp [aev, bytesE_len, hl']; done))) | with_reducible refine AW.block ?_ | ((first | ((first | refine arun_nil ?_ | refine arunD_nil ?_); refine hK _ ?_; clear hK K) | refine AW.skip ?_ | refine AW.exit ?_ | refine AW.ret ?_); simp only [thenA_exit, inBlockA_exit, if_true, if_false, Nat.reduceEqDiff, thenA_normal, inBlockA_normal, reduceIte, thenA_ret, inBlockA_ret, endQ_ret, endR_ret, endG_ret, endQ_normal, endR_normal, endG_normal])))
    exact ⟨.bool true, by simp [ares, aresL], pur_bool, rfl⟩
end Go.Proofs.Ytmeobmegnneegaa.Eng
