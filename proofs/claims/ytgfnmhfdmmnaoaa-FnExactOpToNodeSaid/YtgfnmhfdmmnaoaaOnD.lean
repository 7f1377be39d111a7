/-
  Texts of this claim, joined.
-/
import Derived.Test.YtgfnmhfdmmnaoaaProg
import Derived.WalkKit
import Derived.WalkSpells
import Derived.WalkLawsBesides
import Derived.BigQuiet
import Derived.Test.YtgfnmhfdmmnaoaaRows
import Derived.Deep.LoopGhost
import Derived.Laws.IdiomStrings
import Derived.Test.YtgfnmhfdmmnaoaaOnC

set_option linter.unusedSimpArgs false
set_option linter.unusedVariables false
set_option linter.unnecessarySimpa false
set_option maxRecDepth 100000
set_option maxHeartbeats 16000000
namespace Go.Proofs.Ytgfnmhfdmmnaoaa.Eng
open Go Go.RowKit
section
variable {P : Program} {T : Tab} {k0 : Nat} {md : List Nat} {Av : Nat → Prop} {ops : Array Oper} {K : ASt → Prop} {o : Oper} {l : List Oper} {s : ASt}
theorem arun_c0 {f : FuncId} {xs : List Operand} {args : List AV} {Post : AV → Prop} (hac : AC P f args 0 Post) (h : ∀ r, Post r → ARun P T k0 Av md ops K l (s.put o.dst r)) (hw : awant ops o s = some true := by (simp [awant] <;> fail)) (ha : acall o.op = some (f, xs) := by rfl)
    (hx : xs.map (aev s) = args := by (simp [ASt.put, ASt.pay, ASt.add, Option.map_map, Function.comp_def, List.set_cons_succ, List.set_cons_zero, aev, ofVal, ofVal0, big, size_mk, nodeA, nodeT, nodeTL_eq, nodeL_eq] <;> fail))
    (hclo : cloL args := by (simp only [cloL] <;> (repeat (first | exact trivial | refine And.intro ?_ ?_ | exact clo_int | exact clo_str | exact clo_bool | exact clo_rdr | exact node_clo _ | exact nodeT_clo _ _ | exact strs_clo _ | exact ints_clo _ | exact nodes_clo _ | exact clo_vnil | exact bytes_clo _ | exact clo_lit _ rfl | assumption | exact item_clo _ | exact items_clo _ | exact store_clo _ _ | exact storeA_clo _ | exact change_clo _ _ _)) <;> fail)) : ARun P T k0 Av md ops K (o :: l) s := arun_call0 hw ha hx hac hclo h
end
theorem arunD_cE {P : Program} {T : Tab} {md : List Nat} {Av : Nat → Prop} {pc : Pc} {ops : Array Oper} {K : ASt → Prop} {o : Oper} {l : List Oper} {k : Nat} {s : ASt} {f : FuncId} {xs : List Operand} {args : List AV} (c : Nat) {Post : AV → Prop} (hac : AC P f args c Post) (hne : ∃ r, Post r ∧ NoId r)
    (h : ∀ r, Post r → NoId r → ARunD P T md Av pc ops K l (k + 1) ((s.pay c).put o.dst r)) (hl : (pc.2.contains k || pc.2.contains (1000 + k)) = false := by rfl) (hw : awant ops o s = some true := by (simp [awant] <;> fail)) (ha : acall o.op = some (f, xs) := by rfl)
    (hx : xs.map (aev s) = args := by (simp [ASt.put, ASt.pay, ASt.add, Option.map_map, Function.comp_def, List.set_cons_succ, List.set_cons_zero, aev, ofVal, ofVal0, big, size_mk, nodeA, nodeT, nodeTL_eq, nodeL_eq] <;> fail))
    (hpc : pc.1 k args = (some c, Post) := by rfl)
    (hclo : ∀ x ∈ args, Clo x := by (simp only [List.forall_mem_cons, List.not_mem_nil, false_implies, implies_true, and_true] <;> (repeat (first | exact trivial | refine And.intro ?_ ?_ | exact clo_int | exact clo_str | exact clo_bool | exact clo_rdr | exact node_clo _ | exact nodeT_clo _ _ | exact strs_clo _ | exact ints_clo _ | exact nodes_clo _ | exact clo_vnil | exact bytes_clo _ | exact clo_lit _ rfl | assumption | exact item_clo _ | exact items_clo _ | exact store_clo _ _ | exact storeA_clo _ | exact change_clo _ _ _)) <;> fail))
    (hcan : s.can c := by (first | with_reducible exact can_none | (simp only [ASt.put, ASt.pay, ASt.add, Option.map_none]; exact can_none) | ((first | with_reducible refine can_some ?_ | refine can_of ?_ | (simp only [ASt.put, ASt.pay, ASt.add, Option.map_map, Function.comp_def, Option.map_some]; first | refine can_some ?_ | refine can_of ?_)); (first | exact Nat.le_refl _ | (simp <;> fail) | omega)))) : ARunD P T md Av pc ops K (o :: l) k s := arunD_call hl hw ha hx hac hpc hclo hcan hne h
theorem arunD_c {P : Program} {T : Tab} {md : List Nat} {Av : Nat → Prop} {pc : Pc} {ops : Array Oper} {K : ASt → Prop} {o : Oper} {l : List Oper} {k : Nat} {s : ASt} {f : FuncId} {xs : List Operand} {args : List AV} (c : Nat) {Post : AV → Prop} (hac : AC P f args c Post)
    (h : ∀ r, Post r → NoId r → ARunD P T md Av pc ops K l (k + 1) ((s.pay c).put o.dst r)) (hl : (pc.2.contains k || pc.2.contains (1000 + k)) = false := by rfl) (hw : awant ops o s = some true := by (simp [awant] <;> fail)) (ha : acall o.op = some (f, xs) := by rfl)
    (hx : xs.map (aev s) = args := by (simp [ASt.put, ASt.pay, ASt.add, Option.map_map, Function.comp_def, List.set_cons_succ, List.set_cons_zero, aev, ofVal, ofVal0, big, size_mk, nodeA, nodeT, nodeTL_eq, nodeL_eq] <;> fail))
    (hpc : pc.1 k args = (some c, Post) := by rfl)
    (hclo : ∀ x ∈ args, Clo x := by (simp only [List.forall_mem_cons, List.not_mem_nil, false_implies, implies_true, and_true] <;> (repeat (first | exact trivial | refine And.intro ?_ ?_ | exact clo_int | exact clo_str | exact clo_bool | exact clo_rdr | exact node_clo _ | exact nodeT_clo _ _ | exact strs_clo _ | exact ints_clo _ | exact nodes_clo _ | exact clo_vnil | exact bytes_clo _ | exact clo_lit _ rfl | assumption | exact item_clo _ | exact items_clo _ | exact store_clo _ _ | exact storeA_clo _ | exact change_clo _ _ _)) <;> fail))
    (hcan : s.can c := by (first | with_reducible exact can_none | (simp only [ASt.put, ASt.pay, ASt.add, Option.map_none]; exact can_none) | ((first | with_reducible refine can_some ?_ | refine can_of ?_ | (simp only [ASt.put, ASt.pay, ASt.add, Option.map_map, Function.comp_def, Option.map_some]; first | refine can_some ?_ | refine can_of ?_)); (first | exact Nat.le_refl _ | (simp <;> fail) | omega))))
    (hne : ∃ r, Post r ∧ NoId r := by (refine ⟨_, rfl, ?_⟩; first | exact node_in _ | exact storeA_in _ | exact item_in _ | exact in_int | exact in_bool | exact in_str | (simp [NoId, in_tup, in_agg, in_int, in_bool, in_str, node_in, nodes_in, strs_in] <;> fail))) : ARunD P T md Av pc ops K (o :: l) k s := arunD_call hl hw ha hx hac hpc hclo hcan hne h
theorem less_a {s : ASt} {tm : List AV} {rl : List (Nat × Row)} {us : List Nat} {rd : Option Nat} (h1 : lessL s.tmps tm := by (simp [lessL, mkSt, slots] <;> fail)) (h2 : ∀ p ∈ rl, s.rows p.1 = some p.2 := by (simp [upd, mkSt, rowsOf_cons] <;> fail)) (h3 : ∀ id ∈ us, s.used id = true := by (simp [upd, mkSt, usedOf_cons] <;> fail))
    (h4 : rd = s.rd ∨ ∃ j j', s.rd = some j ∧ rd = some j' ∧ j' ≤ j := by first | exact rd_less (by omega) | (simp [mkSt] <;> fail))
    (h5 : ∀ c ∈ tm, AV.In (usedOf us) c := by (simp [slots, in_any, in_int, in_bool, in_str, in_ptr, in_own, in_agg, in_vnil, in_rdr, usedOf_cons, usedOf_nil, strs_in, ints_in, nodes_in, in_tup] <;> fail))
    (h6 : ∀ p ∈ rl, usedOf us p.1 = true ∧ ∀ e ∈ p.2.es, ∀ c ∈ e, AV.In (usedOf us) c := by (simp only [List.forall_mem_cons, List.not_mem_nil, false_implies, implies_true, and_true, true_and] <;> (repeat (first | with_reducible exact trivial | with_reducible refine And.intro ?_ ?_ | with_reducible exact in_int | with_reducible exact in_str | with_reducible exact in_bool | with_reducible exact strs_in _ | with_reducible exact nodes_in _ | with_reducible exact items_in _ | with_reducible exact in_vnil | with_reducible exact in_any | exact hin _ | with_reducible refine take_in ?_ | with_reducible exact strsE_in _ | with_reducible exact nodesE_in _ | with_reducible exact nodeL_in _ | with_reducible exact itemsE_in _ | with_reducible exact itemL_in _ | with_reducible refine app_in ?_ ?_ | with_reducible refine sing_in ?_ | (focus (simp [in_any, in_int, in_bool, in_str, in_ptr, in_own, in_agg, in_vnil, in_rdr, usedOf_cons, usedOf_nil, strs_in, ints_in, nodes_in] <;> fail)))) <;> fail)) : Less s (mkSt tm rl us rd) := less_of h1 h2 h3 h4 h5 h6
theorem arunD_skip {P : Program} {T : Tab} {md : List Nat} {Av : Nat → Prop} {pc : Pc} {ops : Array Oper} {K : ASt → Prop} {o : Oper} {l : List Oper} {k : Nat} {s : ASt} (hw : awant ops o s = some false)
    (h : ARunD P T md Av pc ops K l (k + 1) (s.put o.dst (.tup []))) (hl : (pc.2.contains k || pc.2.contains (1000 + k)) = false := by rfl) : ARunD P T md Av pc ops K (o :: l) k s := by
  refine ARunD.mk ?_
  rw [Bool.or_eq_false_iff] at hl
  unfold arunD astp astp0
  rw [if_neg (by rw [hl.2]; simp), if_neg (by rw [hl.1]; simp), hw]
  exact h.out
end Go.Proofs.Ytgfnmhfdmmnaoaa.Eng
namespace Go.Proofs.Ytgfnmhfdmmnaoaa.Eng
open Go Go.RowKit
def tyRows : List (TypeId × TI) := [
  (2, ⟨1, 8, .int .i64, [.int .i64]⟩),
  (3, ⟨1, 8, .int .i64, [.int .i64]⟩),
  (4, ⟨1, 1, .bool, [.bool]⟩),
  (5, ⟨1, 1, .int .u8, [.int .u8]⟩),
  (6, ⟨1, 1, .int .u8, [.int .u8]⟩),
  (7, ⟨4, 24, .struct [(0, 2), (1, 3), (2, 4), (3, 6)], [.int .i64, .int .i64, .bool, .int .u8]⟩),
  (8, ⟨4, 24, .struct [(0, 2), (1, 3), (2, 4), (3, 6)], [.int .i64, .int .i64, .bool, .int .u8]⟩),
  (9, ⟨1, 16, .str, [.str]⟩),
  (10, ⟨1, 16, .str, [.str]⟩),
  (11, ⟨1, 16, .str, [.str]⟩),
  (12, ⟨1, 8, .int .u64, [.int .u64]⟩),
  (13, ⟨2, 24, .struct [(0, 9), (1, 12)], [.str, .int .u64]⟩),
  (14, ⟨2, 24, .struct [(0, 9), (1, 12)], [.str, .int .u64]⟩),
  (15, ⟨1, 8, .other, [.other]⟩),
  (16, ⟨1, 8, .other, [.other]⟩),
  (17, ⟨1, 8, .other, [.other]⟩),
  (18, ⟨1, 8, .struct [(0, 17)], [.other]⟩),
  (19, ⟨1, 8, .struct [(0, 17)], [.other]⟩),
  (21, ⟨1, 4, .int .i32, [.int .i32]⟩),
  (22, ⟨1, 24, .slice 5, [.slice]⟩),
  (23, ⟨1, 24, .slice 9, [.slice]⟩),
  (24, ⟨1, 24, .slice 4, [.slice]⟩),
  (25, ⟨1, 24, .slice 27, [.slice]⟩),
  (26, ⟨4, 80, .struct [(0, 3), (1, 23), (2, 24), (3, 25)], [.int .i64, .slice, .slice, .slice]⟩),
  (27, ⟨4, 80, .struct [(0, 3), (1, 23), (2, 24), (3, 25)], [.int .i64, .slice, .slice, .slice]⟩),
  (28, ⟨1, 24, .slice 30, [.slice]⟩),
  (29, ⟨5, 80, .struct [(0, 3), (1, 3), (2, 9), (3, 23), (4, 28)], [.int .i64, .int .i64, .str, .slice, .slice]⟩),
  (30, ⟨5, 80, .struct [(0, 3), (1, 3), (2, 9), (3, 23), (4, 28)], [.int .i64, .int .i64, .str, .slice, .slice]⟩),
  (39, ⟨1, 24, .slice 41, [.slice]⟩),
  (40, ⟨5, 80, .struct [(0, 3), (1, 3), (2, 9), (3, 23), (4, 39)], [.int .i64, .int .i64, .str, .slice, .slice]⟩),
  (41, ⟨5, 80, .struct [(0, 3), (1, 3), (2, 9), (3, 23), (4, 39)], [.int .i64, .int .i64, .str, .slice, .slice]⟩),
  (42, ⟨8, 136, .struct [(0, 3), (1, 23), (2, 23), (3, 41)], [.int .i64, .slice, .slice, .int .i64, .int .i64, .str, .slice, .slice]⟩),
  (43, ⟨8, 136, .struct [(0, 3), (1, 23), (2, 23), (3, 41)], [.int .i64, .slice, .slice, .int .i64, .int .i64, .str, .slice, .slice]⟩),
  (47, ⟨8, 136, .struct [(0, 3), (1, 23), (2, 23), (3, 30)], [.int .i64, .slice, .slice, .int .i64, .int .i64, .str, .slice, .slice]⟩),
  (48, ⟨8, 136, .struct [(0, 3), (1, 23), (2, 23), (3, 30)], [.int .i64, .slice, .slice, .int .i64, .int .i64, .str, .slice, .slice]⟩),
  (55, ⟨1, 24, .slice 155, [.slice]⟩),
  (56, ⟨2, 32, .struct [(0, 55), (1, 3)], [.slice, .int .i64]⟩),
  (57, ⟨2, 32, .struct [(0, 55), (1, 3)], [.slice, .int .i64]⟩),
  (60, ⟨1, 24, .slice 116, [.slice]⟩),
  (61, ⟨2, 32, .struct [(0, 60), (1, 3)], [.slice, .int .i64]⟩),
  (62, ⟨2, 32, .struct [(0, 60), (1, 3)], [.slice, .int .i64]⟩),
  (73, ⟨1, 24, .slice 75, [.slice]⟩),
  (74, ⟨4, 80, .struct [(0, 3), (1, 23), (2, 24), (3, 73)], [.int .i64, .slice, .slice, .slice]⟩),
  (75, ⟨4, 80, .struct [(0, 3), (1, 23), (2, 24), (3, 73)], [.int .i64, .slice, .slice, .slice]⟩),
  (85, ⟨1, 24, .slice 48, [.slice]⟩),
  (92, ⟨1, 8, .other, [.other]⟩),
  (115, ⟨7, 104, .struct [(0, 9), (1, 3), (2, 30)], [.str, .int .i64, .int .i64, .int .i64, .str, .slice, .slice]⟩),
  (116, ⟨7, 104, .struct [(0, 9), (1, 3), (2, 30)], [.str, .int .i64, .int .i64, .int .i64, .str, .slice, .slice]⟩),
  (143, ⟨1, 24, .slice 3, [.slice]⟩),
  (144, ⟨2, 32, .struct [(0, 22), (1, 3)], [.slice, .int .i64]⟩),
  (145, ⟨2, 32, .struct [(0, 22), (1, 3)], [.slice, .int .i64]⟩),
  (154, ⟨7, 104, .struct [(0, 9), (1, 3), (2, 41)], [.str, .int .i64, .int .i64, .int .i64, .str, .slice, .slice]⟩),
  (155, ⟨7, 104, .struct [(0, 9), (1, 3), (2, 41)], [.str, .int .i64, .int .i64, .int .i64, .str, .slice, .slice]⟩),
  (170, ⟨1, 8, .other, [.other]⟩),
  (175, ⟨1, 24, .slice 23, [.slice]⟩),
  (182, ⟨1, 8, .int .u64, [.int .u64]⟩),
  (197, ⟨4, 40, .struct [(0, 17), (1, 17), (2, 17), (3, 9)], [.other, .other, .other, .str]⟩),
  (198, ⟨4, 40, .struct [(0, 17), (1, 17), (2, 17), (3, 9)], [.other, .other, .other, .str]⟩),
  (203, ⟨1, 4, .int .u32, [.int .u32]⟩),
  (204, ⟨1, 1, .int .u8, [.int .u8]⟩),
  (205, ⟨1, 1, .int .u8, [.int .u8]⟩),
  (207, ⟨1, 8, .other, [.other]⟩),
  (208, ⟨1, 4, .int .i32, [.int .i32]⟩),
  (209, ⟨1, 4, .int .i32, [.int .i32]⟩)]
def tab : Tab := tabOf tyRows
theorem tab_ok : Tab.Ok Try.prog tab := tabOf_ok (by kernel_rfl)
theorem mixed_ok : Try.prog.follows .mixedOrders = true := by kernel_rfl
@[go_sem] theorem tab2 : tab 2 = some ⟨1, 8, .int .i64, [.int .i64]⟩ := by kernel_rfl
@[go_sem] theorem tab3 : tab 3 = some ⟨1, 8, .int .i64, [.int .i64]⟩ := by kernel_rfl
@[go_sem] theorem tab4 : tab 4 = some ⟨1, 1, .bool, [.bool]⟩ := by kernel_rfl
@[go_sem] theorem tab5 : tab 5 = some ⟨1, 1, .int .u8, [.int .u8]⟩ := by kernel_rfl
@[go_sem] theorem tab6 : tab 6 = some ⟨1, 1, .int .u8, [.int .u8]⟩ := by kernel_rfl
@[go_sem] theorem tab7 : tab 7 = some ⟨4, 24, .struct [(0, 2), (1, 3), (2, 4), (3, 6)], [.int .i64, .int .i64, .bool, .int .u8]⟩ := by kernel_rfl
@[go_sem] theorem tab8 : tab 8 = some ⟨4, 24, .struct [(0, 2), (1, 3), (2, 4), (3, 6)], [.int .i64, .int .i64, .bool, .int .u8]⟩ := by kernel_rfl
@[go_sem] theorem tab9 : tab 9 = some ⟨1, 16, .str, [.str]⟩ := by kernel_rfl
@[go_sem] theorem tab10 : tab 10 = some ⟨1, 16, .str, [.str]⟩ := by kernel_rfl
@[go_sem] theorem tab11 : tab 11 = some ⟨1, 16, .str, [.str]⟩ := by kernel_rfl
@[go_sem] theorem tab12 : tab 12 = some ⟨1, 8, .int .u64, [.int .u64]⟩ := by kernel_rfl
@[go_sem] theorem tab13 : tab 13 = some ⟨2, 24, .struct [(0, 9), (1, 12)], [.str, .int .u64]⟩ := by kernel_rfl
@[go_sem] theorem tab14 : tab 14 = some ⟨2, 24, .struct [(0, 9), (1, 12)], [.str, .int .u64]⟩ := by kernel_rfl
@[go_sem] theorem tab15 : tab 15 = some ⟨1, 8, .other, [.other]⟩ := by kernel_rfl
@[go_sem] theorem tab16 : tab 16 = some ⟨1, 8, .other, [.other]⟩ := by kernel_rfl
@[go_sem] theorem tab17 : tab 17 = some ⟨1, 8, .other, [.other]⟩ := by kernel_rfl
@[go_sem] theorem tab18 : tab 18 = some ⟨1, 8, .struct [(0, 17)], [.other]⟩ := by kernel_rfl
@[go_sem] theorem tab19 : tab 19 = some ⟨1, 8, .struct [(0, 17)], [.other]⟩ := by kernel_rfl
@[go_sem] theorem tab21 : tab 21 = some ⟨1, 4, .int .i32, [.int .i32]⟩ := by kernel_rfl
@[go_sem] theorem tab22 : tab 22 = some ⟨1, 24, .slice 5, [.slice]⟩ := by kernel_rfl
@[go_sem] theorem tab23 : tab 23 = some ⟨1, 24, .slice 9, [.slice]⟩ := by kernel_rfl
@[go_sem] theorem tab24 : tab 24 = some ⟨1, 24, .slice 4, [.slice]⟩ := by kernel_rfl
@[go_sem] theorem tab25 : tab 25 = some ⟨1, 24, .slice 27, [.slice]⟩ := by kernel_rfl
@[go_sem] theorem tab26 : tab 26 = some ⟨4, 80, .struct [(0, 3), (1, 23), (2, 24), (3, 25)], [.int .i64, .slice, .slice, .slice]⟩ := by kernel_rfl
@[go_sem] theorem tab27 : tab 27 = some ⟨4, 80, .struct [(0, 3), (1, 23), (2, 24), (3, 25)], [.int .i64, .slice, .slice, .slice]⟩ := by kernel_rfl
@[go_sem] theorem tab28 : tab 28 = some ⟨1, 24, .slice 30, [.slice]⟩ := by kernel_rfl
@[go_sem] theorem tab29 : tab 29 = some ⟨5, 80, .struct [(0, 3), (1, 3), (2, 9), (3, 23), (4, 28)], [.int .i64, .int .i64, .str, .slice, .slice]⟩ := by kernel_rfl
@[go_sem] theorem tab30 : tab 30 = some ⟨5, 80, .struct [(0, 3), (1, 3), (2, 9), (3, 23), (4, 28)], [.int .i64, .int .i64, .str, .slice, .slice]⟩ := by kernel_rfl
@[go_sem] theorem tab39 : tab 39 = some ⟨1, 24, .slice 41, [.slice]⟩ := by kernel_rfl
@[go_sem] theorem tab40 : tab 40 = some ⟨5, 80, .struct [(0, 3), (1, 3), (2, 9), (3, 23), (4, 39)], [.int .i64, .int .i64, .str, .slice, .slice]⟩ := by kernel_rfl
@[go_sem] theorem tab41 : tab 41 = some ⟨5, 80, .struct [(0, 3), (1, 3), (2, 9), (3, 23), (4, 39)], [.int .i64, .int .i64, .str, .slice, .slice]⟩ := by kernel_rfl
@[go_sem] theorem tab42 : tab 42 = some ⟨8, 136, .struct [(0, 3), (1, 23), (2, 23), (3, 41)], [.int .i64, .slice, .slice, .int .i64, .int .i64, .str, .slice, .slice]⟩ := by kernel_rfl
@[go_sem] theorem tab43 : tab 43 = some ⟨8, 136, .struct [(0, 3), (1, 23), (2, 23), (3, 41)], [.int .i64, .slice, .slice, .int .i64, .int .i64, .str, .slice, .slice]⟩ := by kernel_rfl
@[go_sem] theorem tab47 : tab 47 = some ⟨8, 136, .struct [(0, 3), (1, 23), (2, 23), (3, 30)], [.int .i64, .slice, .slice, .int .i64, .int .i64, .str, .slice, .slice]⟩ := by kernel_rfl
@[go_sem] theorem tab48 : tab 48 = some ⟨8, 136, .struct [(0, 3), (1, 23), (2, 23), (3, 30)], [.int .i64, .slice, .slice, .int .i64, .int .i64, .str, .slice, .slice]⟩ := by kernel_rfl
@[go_sem] theorem tab55 : tab 55 = some ⟨1, 24, .slice 155, [.slice]⟩ := by kernel_rfl
@[go_sem] theorem tab56 : tab 56 = some ⟨2, 32, .struct [(0, 55), (1, 3)], [.slice, .int .i64]⟩ := by kernel_rfl
@[go_sem] theorem tab57 : tab 57 = some ⟨2, 32, .struct [(0, 55), (1, 3)], [.slice, .int .i64]⟩ := by kernel_rfl
@[go_sem] theorem tab60 : tab 60 = some ⟨1, 24, .slice 116, [.slice]⟩ := by kernel_rfl
@[go_sem] theorem tab61 : tab 61 = some ⟨2, 32, .struct [(0, 60), (1, 3)], [.slice, .int .i64]⟩ := by kernel_rfl
@[go_sem] theorem tab62 : tab 62 = some ⟨2, 32, .struct [(0, 60), (1, 3)], [.slice, .int .i64]⟩ := by kernel_rfl
@[go_sem] theorem tab73 : tab 73 = some ⟨1, 24, .slice 75, [.slice]⟩ := by kernel_rfl
@[go_sem] theorem tab74 : tab 74 = some ⟨4, 80, .struct [(0, 3), (1, 23), (2, 24), (3, 73)], [.int .i64, .slice, .slice, .slice]⟩ := by kernel_rfl
@[go_sem] theorem tab75 : tab 75 = some ⟨4, 80, .struct [(0, 3), (1, 23), (2, 24), (3, 73)], [.int .i64, .slice, .slice, .slice]⟩ := by kernel_rfl
@[go_sem] theorem tab85 : tab 85 = some ⟨1, 24, .slice 48, [.slice]⟩ := by kernel_rfl
@[go_sem] theorem tab92 : tab 92 = some ⟨1, 8, .other, [.other]⟩ := by kernel_rfl
@[go_sem] theorem tab115 : tab 115 = some ⟨7, 104, .struct [(0, 9), (1, 3), (2, 30)], [.str, .int .i64, .int .i64, .int .i64, .str, .slice, .slice]⟩ := by kernel_rfl
@[go_sem] theorem tab116 : tab 116 = some ⟨7, 104, .struct [(0, 9), (1, 3), (2, 30)], [.str, .int .i64, .int .i64, .int .i64, .str, .slice, .slice]⟩ := by kernel_rfl
@[go_sem] theorem tab143 : tab 143 = some ⟨1, 24, .slice 3, [.slice]⟩ := by kernel_rfl
@[go_sem] theorem tab144 : tab 144 = some ⟨2, 32, .struct [(0, 22), (1, 3)], [.slice, .int .i64]⟩ := by kernel_rfl
@[go_sem] theorem tab145 : tab 145 = some ⟨2, 32, .struct [(0, 22), (1, 3)], [.slice, .int .i64]⟩ := by kernel_rfl
@[go_sem] theorem tab154 : tab 154 = some ⟨7, 104, .struct [(0, 9), (1, 3), (2, 41)], [.str, .int .i64, .int .i64, .int .i64, .str, .slice, .slice]⟩ := by kernel_rfl
@[go_sem] theorem tab155 : tab 155 = some ⟨7, 104, .struct [(0, 9), (1, 3), (2, 41)], [.str, .int .i64, .int .i64, .int .i64, .str, .slice, .slice]⟩ := by kernel_rfl
@[go_sem] theorem tab170 : tab 170 = some ⟨1, 8, .other, [.other]⟩ := by kernel_rfl
@[go_sem] theorem tab175 : tab 175 = some ⟨1, 24, .slice 23, [.slice]⟩ := by kernel_rfl
@[go_sem] theorem tab182 : tab 182 = some ⟨1, 8, .int .u64, [.int .u64]⟩ := by kernel_rfl
@[go_sem] theorem tab197 : tab 197 = some ⟨4, 40, .struct [(0, 17), (1, 17), (2, 17), (3, 9)], [.other, .other, .other, .str]⟩ := by kernel_rfl
@[go_sem] theorem tab198 : tab 198 = some ⟨4, 40, .struct [(0, 17), (1, 17), (2, 17), (3, 9)], [.other, .other, .other, .str]⟩ := by kernel_rfl
@[go_sem] theorem tab203 : tab 203 = some ⟨1, 4, .int .u32, [.int .u32]⟩ := by kernel_rfl
@[go_sem] theorem tab204 : tab 204 = some ⟨1, 1, .int .u8, [.int .u8]⟩ := by kernel_rfl
@[go_sem] theorem tab205 : tab 205 = some ⟨1, 1, .int .u8, [.int .u8]⟩ := by kernel_rfl
@[go_sem] theorem tab207 : tab 207 = some ⟨1, 8, .other, [.other]⟩ := by kernel_rfl
@[go_sem] theorem tab208 : tab 208 = some ⟨1, 4, .int .i32, [.int .i32]⟩ := by kernel_rfl
@[go_sem] theorem tab209 : tab 209 = some ⟨1, 4, .int .i32, [.int .i32]⟩ := by kernel_rfl
end Go.Proofs.Ytgfnmhfdmmnaoaa.Eng
namespace Go.Proofs.Ytgfnmhfdmmnaoaa.Eng
open Go Go.RowKit
theorem AC.ofR {P : Program} {f : FuncId} {args : List AV} {c : Nat} {Q0 : AV → Prop} {Q : (Nat → AV) → Row → Prop} (h : ACR P f args c Q0 Q)
    (hn : ∀ r R, Q r R → NoId (AV.sub 0 R.es.length (.view .loose R.sz R.es) (r 0))) : AC P f args c (fun x => Q0 x ∨ ∃ r R, Q r R ∧ x = AV.sub 0 R.es.length (.view .loose R.sz R.es) (r 0)) := by
  refine ⟨h.1, fun w L S rb k vs h0 h1 h2 h3 => (h.2 w L S rb k vs h0 h1 h2 h3).mono ?_⟩
  rintro e w' ⟨v, S', rfl, k2, k3, k4, k5, k6⟩
  rcases k6 with ⟨r, q1, q2⟩ | ⟨r, R, u, q1, q2, q3, q4⟩
  · exact ⟨v, r, S', rfl, k2, k3, k4, k5, q1, .inl q2⟩
  · obtain ⟨g0, hlen, hbx, xs, hat, hrep, hone⟩ := q2
    let S2 : Nat → Prop := fun b => S' b ∨ blk u = some b
    let ρ2 : Cx := { oneC S2 0 u R.es.length with row := fun _ => none }
    have le : Cx.Le w' (oneC S' 0 u R.es.length) w' ρ2 := ⟨fun b hb => ⟨.inl hb, fun _ => rfl⟩, fun b hb => False.elim hb, fun id hid => ⟨hid, Nat.le_refl _, fun u hu => by cases hu⟩, fun _ h => by cases h⟩
    have lp : Cx.Le w' (pureC nil S' none) w' ρ2 := ⟨fun b hb => ⟨.inl hb, fun _ => rfl⟩, fun b hb => False.elim hb, fun id hid => False.elim hid, fun _ h => by cases h⟩
    have hc : ∀ v, Rep w' (oneC S' 0 u R.es.length) (.own 0 R.es.length) v → Rep w' ρ2 (.view .loose R.sz R.es) v := fun v hv => by
      obtain ⟨_, _, _, hq⟩ := rep_own.1 hv
      have hvu := hq u (by simp [oneC]) (by simp [oneC])
      subst hvu
      have hat0 := hat
      rcases hat with ⟨hn0, rfl, a0, rfl⟩ | ⟨g, cap, cur, rfl, hp, hb, hg, hn0, hcap, hcs, htk, hl⟩
      · have he : R.es = [] := List.length_eq_zero_iff.1 hn0
        exact rep_view.2 ⟨a0, 0, by rw [he]; rfl, fun _ => by rw [he]; rfl, by rw [he]; exact Nat.le_refl _, by rw [he]; exact Nat.zero_le _, hlen, .inl he⟩
      · refine rep_view.2 ⟨_, cap, rfl, (fun h => by cases h), hn0, by unfold maxLen at hcap; unfold big; omega, hlen, .inr ⟨g, 0, rfl, .inr (blk_slice _ _ _ hp), RepE.of_get hlen (fun i e he => RepC.of_get (fun j c hc' => ?_))⟩⟩
        have hlt : j < R.sz := by rw [← hlen e (List.mem_of_getElem? he)]; exact (List.getElem?_eq_some_iff.1 hc').1
        have hf := flat_get hlen he hlt
        rw [hc'] at hf
        obtain ⟨v, hv, hrv⟩ := hrep.get hf
        refine ⟨v, ?_, hone v (List.mem_of_getElem? hv), hrv.le lp⟩
        rw [Nat.zero_add]
        exact hat0.cells _ _ hv
    have hr := Rep.sub le hc (q1 0)
    refine ⟨v, _, S2, rfl, k2, fun b hb => .inl (k3 b hb), fun b hb => ?_, fun b hb => (k5 b hb).moved (Ext.refl nil w') (fun h => h) (fun b hb => ⟨.inl hb, fun h => h⟩), ?_, .inr ⟨r, R, q4, rfl⟩⟩
    · rcases hb with hb | hb
      · exact k4 b hb
      · exact .inr ⟨g0.2 b hb, (hat.lt b hb).2⟩
    · have h3 := hr.cut (ρ := ρ2) (U := fun _ => false) (ρ' := { ρ2 with U := fun _ => False }) ⟨rfl, rfl, rfl, rfl, (fun _ h => by cases h), (fun id u hu => by cases hu)⟩ (hn r R q4)
      exact Rep.le (ρ := { ρ2 with U := fun _ => False }) (ρ' := pureC nil S2 none) ⟨fun b hb => ⟨hb, fun _ => rfl⟩, fun b hb => False.elim hb, fun id hid => False.elim hid, fun _ h => by cases h⟩ h3
inductive Sml : Nd → Prop
  | mk (n : Nd) (h1 : n.names.length ≤ 1000) (h2 : n.kids.length ≤ 1000) (h3 : ∀ k ∈ n.kids, Sml k) : Sml n
theorem Sml.names {n : Nd} (h : Sml n) : n.names.length ≤ 1000 := by cases h; assumption
theorem Sml.kids {n : Nd} (h : Sml n) : n.kids.length ≤ 1000 := by cases h; assumption
theorem Sml.kid {n : Nd} (h : Sml n) {k : Nd} (hk : k ∈ n.kids) : Sml k := by cases h with | mk _ _ _ h3 => exact h3 k hk
end Go.Proofs.Ytgfnmhfdmmnaoaa.Eng
namespace Go.Proofs.Ytgfnmhfdmmnaoaa
open Go Go.RowKit
def StrsF (w : World) (a : Option Addr) (c : Nat) (xs : List ByteArray) (fp : List Nat) : Prop :=
  xs.length ≤ c ∧ xs.length ≤ big ∧ (∀ x ∈ xs, x.size ≤ big) ∧ ((xs = [] ∧ fp = []) ∨ ∃ b o, xs ≠ [] ∧ a = some ⟨b, o, none⟩ ∧ fp = [b] ∧ ∀ i (h : i < xs.length), w.cell? ⟨b, o + i, none⟩ = some (.string xs[i]))
mutual
def NodeF (w : World) : Nd → Option Addr → Nat → Option Addr → Nat → List Nat → Prop
  | ⟨_, _, text, names, kids⟩, na, nc, ka, kc, fp => ∃ f1 f2, fp = f1 ++ f2 ∧ text.size ≤ big ∧ StrsF w na nc names f1 ∧ kids.length ≤ kc ∧ kids.length ≤ big ∧
      ((kids = [] ∧ f2 = []) ∨ ∃ b o f3, kids ≠ [] ∧ ka = some ⟨b, o, none⟩ ∧ f2 = b :: f3 ∧ KidsF w b o kids f3)
def KidsF (w : World) (b : Nat) : Nat → List Nd → List Nat → Prop
  | _, [], fp => fp = []
  | o, k :: ks, fp => ∃ f1 f2, fp = f1 ++ f2 ∧ (∃ na nc ka kc, w.cell? ⟨b, o, none⟩ = some (.int .i64 k.kind) ∧ w.cell? ⟨b, o + 1, none⟩ = some (.int .i64 k.num) ∧ w.cell? ⟨b, o + 2, none⟩ = some (.string k.text) ∧
      w.cell? ⟨b, o + 3, none⟩ = some (.slice na k.names.length nc) ∧ w.cell? ⟨b, o + 4, none⟩ = some (.slice ka k.kids.length kc) ∧ NodeF w k na nc ka kc f1) ∧ KidsF w b (o + 5) ks f2
end
def NodesF (w : World) (a : Option Addr) (c : Nat) (l : List Nd) (fp : List Nat) : Prop :=
  l.length ≤ c ∧ l.length ≤ big ∧ ((l = [] ∧ fp = []) ∨ ∃ b o f, l ≠ [] ∧ a = some ⟨b, o, none⟩ ∧ fp = b :: f ∧ KidsF w b o l f)
theorem NodeF.parts {w : World} {n : Nd} {na : Option Addr} {nc : Nat} {ka : Option Addr} {kc : Nat} {fp : List Nat} (h : NodeF w n na nc ka kc fp) :
    ∃ f1 f2, fp = f1 ++ f2 ∧ n.text.size ≤ big ∧ StrsF w na nc n.names f1 ∧ NodesF w ka kc n.kids f2 := by
  cases n; unfold NodeF at h
  obtain ⟨f1, f2, h1, h2, h3, h4, h5, h6⟩ := h
  exact ⟨f1, f2, h1, h2, h3, h4, h5, h6⟩
theorem NodeF.mk {w : World} {n : Nd} {na : Option Addr} {nc : Nat} {ka : Option Addr} {kc : Nat} {f1 f2 : List Nat}
    (h2 : n.text.size ≤ big) (h3 : StrsF w na nc n.names f1) (h4 : NodesF w ka kc n.kids f2) : NodeF w n na nc ka kc (f1 ++ f2) := by
  cases n; unfold NodeF
  exact ⟨f1, f2, rfl, h2, h3, h4⟩
def NodeO (w : World) (n : Nd) (v : Value) (fp : List Nat) : Prop := ∃ na nc ka kc, v = nodeV n na nc ka kc ∧ NodeF w n na nc ka kc fp
def Free (B : Nat) (w : World) (fp : List Nat) : Prop := fp.Nodup ∧ ∀ b ∈ fp, B ≤ b ∧ b < w.heap.size ∧ ∀ o, w.frozen? ⟨b, o, none⟩ = false
theorem StrsF.keep {w w' : World} {a : Option Addr} {c : Nat} {xs : List ByteArray} {fp : List Nat} (hs : StrsF w a c xs fp)
    (h : ∀ b ∈ fp, ∀ o, w'.cell? ⟨b, o, none⟩ = w.cell? ⟨b, o, none⟩) : StrsF w' a c xs fp := by
  obtain ⟨h1, h2, h3, h4⟩ := hs
  refine ⟨h1, h2, h3, h4.imp id ?_⟩
  rintro ⟨b, o, hne, rfl, rfl, hc⟩
  exact ⟨b, o, hne, rfl, rfl, fun i hi => by rw [h b (by simp)]; exact hc i hi⟩
mutual
theorem NodeF.keep {w w' : World} : ∀ {n : Nd} {na : Option Addr} {nc : Nat} {ka : Option Addr} {kc : Nat} {fp : List Nat}, NodeF w n na nc ka kc fp →
    (∀ b ∈ fp, ∀ o, w'.cell? ⟨b, o, none⟩ = w.cell? ⟨b, o, none⟩) → NodeF w' n na nc ka kc fp
  | ⟨_, _, _, _, kids⟩, na, nc, ka, kc, fp, hn, h => by
    unfold NodeF at hn ⊢
    obtain ⟨f1, f2, rfl, h1, h2, h3, h4, h5⟩ := hn
    refine ⟨f1, f2, rfl, h1, h2.keep (fun b hb => h b (by simp [hb])), h3, h4, h5.imp id ?_⟩
    rintro ⟨b, o, f3, hne, rfl, rfl, hc⟩
    exact ⟨b, o, f3, hne, rfl, rfl, KidsF.keep hc (fun x hx => h x (by simp [hx])) (fun o' _ _ => h b (by simp) o')⟩
theorem KidsF.keep {w w' : World} {b : Nat} : ∀ {l : List Nd} {o : Nat} {fp : List Nat}, KidsF w b o l fp → (∀ x ∈ fp, ∀ o', w'.cell? ⟨x, o', none⟩ = w.cell? ⟨x, o', none⟩) →
    (∀ o', o ≤ o' → o' < o + 5 * l.length → w'.cell? ⟨b, o', none⟩ = w.cell? ⟨b, o', none⟩) → KidsF w' b o l fp
  | [], _, _, hk, _, _ => by unfold KidsF at hk ⊢; exact hk
  | k :: ks, o, fp, hk, h, hb => by
    unfold KidsF at hk ⊢
    obtain ⟨f1, f2, rfl, ⟨na, nc, ka, kc, c0, c1, c2, c3, c4, hn⟩, hr⟩ := hk
    simp only [List.length_cons] at hb
    refine ⟨f1, f2, rfl, ⟨na, nc, ka, kc, ?_, ?_, ?_, ?_, ?_, NodeF.keep hn (fun x hx => h x (by simp [hx]))⟩, KidsF.keep hr (fun x hx => h x (by simp [hx])) (fun o' h1 h2 => hb o' (by omega) (by omega))⟩
    · rw [hb _ (by omega) (by omega)]; exact c0
    · rw [hb _ (by omega) (by omega)]; exact c1
    · rw [hb _ (by omega) (by omega)]; exact c2
    · rw [hb _ (by omega) (by omega)]; exact c3
    · rw [hb _ (by omega) (by omega)]; exact c4
end
theorem NodesF.keep {w w' : World} {a : Option Addr} {c : Nat} {l : List Nd} {fp : List Nat} (hs : NodesF w a c l fp)
    (h : ∀ b ∈ fp, ∀ o, w'.cell? ⟨b, o, none⟩ = w.cell? ⟨b, o, none⟩) : NodesF w' a c l fp := by
  obtain ⟨h1, h2, h4⟩ := hs
  refine ⟨h1, h2, h4.imp id ?_⟩
  rintro ⟨b, o, f, hne, rfl, rfl, hc⟩
  exact ⟨b, o, f, hne, rfl, rfl, hc.keep (fun x hx => h x (by simp [hx])) (fun o' _ _ => h b (by simp) o')⟩
theorem Ext.keeps {X : Nat → Prop} {w w' : World} (h : Ext X w w') {B : Nat} {fp : List Nat} (hf : Free B w fp) (hx : ∀ b ∈ fp, ¬ X b) : ∀ b ∈ fp, ∀ o, w'.cell? ⟨b, o, none⟩ = w.cell? ⟨b, o, none⟩ :=
  fun b hb o => h.cell (p := ⟨b, o, none⟩) (hf.2 b hb).2.1 (hx b hb)
theorem Free.ext {X : Nat → Prop} {w w' : World} (h : Ext X w w') {B : Nat} {fp : List Nat} (hf : Free B w fp) (hx : ∀ b ∈ fp, ¬ X b) : Free B w' fp :=
  ⟨hf.1, fun b hb => ⟨(hf.2 b hb).1, Nat.lt_of_lt_of_le (hf.2 b hb).2.1 h.size, fun o => by rw [h.frozen (p := ⟨b, o, none⟩) (hf.2 b hb).2.1 (hx b hb)]; exact (hf.2 b hb).2.2 o⟩⟩
theorem Free.mono {B B' : Nat} {w : World} {fp : List Nat} (hf : Free B w fp) (h : B' ≤ B) : Free B' w fp := ⟨hf.1, fun b hb => ⟨Nat.le_trans h (hf.2 b hb).1, (hf.2 b hb).2⟩⟩
theorem Free.nil (B : Nat) (w : World) : Free B w [] := ⟨List.nodup_nil, fun b hb => by cases hb⟩
theorem Free.append {B C : Nat} {w w' : World} {f g : List Nat} (hf : Free B w f) (hg : Free C w' g) (hw : Grow w w') (hC : w.heap.size ≤ C) (hBC : B ≤ C) : Free B w' (f ++ g) := by
  refine ⟨List.nodup_append.2 ⟨hf.1, hg.1, fun a ha b hb e => ?_⟩, fun b hb => ?_⟩
  · subst e
    have := (hf.2 a ha).2.1
    have := (hg.2 a hb).1
    omega
  · rcases List.mem_append.1 hb with h | h
    · exact (hf.ext hw (fun _ _ h => h)).2 b h
    · have := hg.2 b h; exact ⟨Nat.le_trans hBC this.1, this.2⟩
theorem StrsF.toR {w : World} {a : Option Addr} {c : Nat} {xs : List ByteArray} {fp : List Nat} (hs : StrsF w a c xs fp) {S : Nat → Prop} (hS : ∀ b ∈ fp, S b) : StrsR w S a c xs := by
  obtain ⟨h1, h2, h3, h4⟩ := hs
  refine ⟨h1, h2, h3, h4.imp (fun h => h.1) ?_⟩
  rintro ⟨b, o, _, rfl, rfl, hc⟩
  exact ⟨b, o, rfl, hS b (by simp), hc⟩
mutual
theorem NodeF.toC {w : World} {S : Nat → Prop} : ∀ {n : Nd} {na : Option Addr} {nc : Nat} {ka : Option Addr} {kc : Nat} {fp : List Nat}, NodeF w n na nc ka kc fp → (∀ b ∈ fp, S b) → NodeC w S n na nc ka kc
  | ⟨_, _, _, _, kids⟩, na, nc, ka, kc, fp, hn, h => by
    unfold NodeF at hn; unfold NodeC
    obtain ⟨f1, f2, rfl, h1, h2, h3, h4, h5⟩ := hn
    refine ⟨h1, h2.toR (fun b hb => h b (by simp [hb])), h3, h4, h5.imp (fun h => h.1) ?_⟩
    rintro ⟨b, o, f3, _, rfl, rfl, hc⟩
    exact ⟨b, o, rfl, h b (by simp), KidsF.toR hc (fun x hx => h x (by simp [hx]))⟩
theorem KidsF.toR {w : World} {S : Nat → Prop} {b : Nat} : ∀ {l : List Nd} {o : Nat} {fp : List Nat}, KidsF w b o l fp → (∀ x ∈ fp, S x) → KidsR w S b o l
  | [], _, _, _, _ => by unfold KidsR; trivial
  | k :: ks, o, fp, hk, h => by
    unfold KidsF at hk; unfold KidsR
    obtain ⟨f1, f2, rfl, ⟨na, nc, ka, kc, c0, c1, c2, c3, c4, hn⟩, hr⟩ := hk
    exact ⟨⟨na, nc, ka, kc, c0, c1, c2, c3, c4, NodeF.toC hn (fun x hx => h x (by simp [hx]))⟩, KidsF.toR hr (fun x hx => h x (by simp [hx]))⟩
end
theorem NodesF.toR {w : World} {a : Option Addr} {c : Nat} {l : List Nd} {fp : List Nat} (hs : NodesF w a c l fp) {S : Nat → Prop} (hS : ∀ b ∈ fp, S b) : NodesR w S a c l := by
  obtain ⟨h1, h2, h4⟩ := hs
  refine ⟨h1, h2, h4.imp (fun h => h.1) ?_⟩
  rintro ⟨b, o, f, _, rfl, rfl, hc⟩
  exact ⟨b, o, rfl, hS b (by simp), hc.toR (fun x hx => hS x (by simp [hx]))⟩
theorem NodeO.toR {w : World} {n : Nd} {v : Value} {fp : List Nat} (h : NodeO w n v fp) {S : Nat → Prop} (hS : ∀ b ∈ fp, S b) : NodeR w S n v := by
  obtain ⟨na, nc, ka, kc, hv, hc⟩ := h
  exact ⟨na, nc, ka, kc, hv, hc.toC hS⟩
theorem KidsF.snoc {w : World} {b : Nat} {k : Nd} {f' : List Nat} {na : Option Addr} {nc : Nat} {ka : Option Addr} {kc : Nat} : ∀ {l : List Nd} {o : Nat} {fp : List Nat}, KidsF w b o l fp →
    w.cell? ⟨b, o + 5 * l.length, none⟩ = some (.int .i64 k.kind) → w.cell? ⟨b, o + 5 * l.length + 1, none⟩ = some (.int .i64 k.num) → w.cell? ⟨b, o + 5 * l.length + 2, none⟩ = some (.string k.text) →
    w.cell? ⟨b, o + 5 * l.length + 3, none⟩ = some (.slice na k.names.length nc) → w.cell? ⟨b, o + 5 * l.length + 4, none⟩ = some (.slice ka k.kids.length kc) → NodeF w k na nc ka kc f' →
    KidsF w b o (l ++ [k]) (fp ++ f')
  | [], o, fp, hk, c0, c1, c2, c3, c4, hn => by
    unfold KidsF at hk; subst hk
    simp only [List.length_nil, Nat.mul_zero, Nat.add_zero] at c0 c1 c2 c3 c4
    simp only [List.nil_append]
    unfold KidsF
    exact ⟨f', [], by simp, ⟨na, nc, ka, kc, c0, c1, c2, c3, c4, hn⟩, by unfold KidsF; rfl⟩
  | x :: l, o, fp, hk, c0, c1, c2, c3, c4, hn => by
    unfold KidsF at hk
    obtain ⟨f1, f2, rfl, hx, hr⟩ := hk
    have e : o + 5 * (x :: l).length = o + 5 + 5 * l.length := by simp; omega
    rw [e] at c0 c1 c2 c3 c4
    simp only [List.cons_append]
    unfold KidsF
    exact ⟨f1, f2 ++ f', by simp, hx, KidsF.snoc hr c0 c1 c2 c3 c4 hn⟩
def RowIn (w : World) (b n : Nat) : Prop := b < w.heap.size ∧ (∀ j, j < n → ∃ u, w.cell? ⟨b, j, none⟩ = some u) ∧ ∀ j, w.frozen? ⟨b, j, none⟩ = false
theorem RowIn.made (w : World) (z : Array Value) (n : Nat) (t : TypeId) : RowIn (w.alloc (.cells (madeCells z n) t)) w.heap.size n := by
  refine ⟨by simp, fun j hj => ?_, fun j => World.frozen?_alloc_new w _ t j⟩
  rw [World.cell?_alloc_new]
  exact ⟨_, Array.getElem?_eq_getElem (by rw [size_madeCells]; exact hj)⟩
theorem RowIn.ext {X : Nat → Prop} {w w' : World} {b n : Nat} (h : Ext X w w') (hx : ¬ X b) (hr : RowIn w b n) : RowIn w' b n := by
  obtain ⟨h1, h2, h3⟩ := hr
  refine ⟨Nat.lt_of_lt_of_le h1 h.size, fun j hj => ?_, fun j => ?_⟩
  · rw [h.cell (p := ⟨b, j, none⟩) h1 hx]; exact h2 j hj
  · rw [h.frozen (p := ⟨b, j, none⟩) h1 hx]; exact h3 j
theorem cell_set {w : World} {p : Addr} {u : Value} (h : w.cell? p = some u) (v : Value) (q : Addr) : (w.setCell p v).cell? q = if q = p then some v else w.cell? q := by
  by_cases e : q = p
  · subst e; rw [if_pos rfl]; exact World.cell?_setCell_same w q v h
  · rw [if_neg e]; exact World.cell?_setCell_other w p q v (fun h => e h.symm)
theorem size_setCell (w : World) (p : Addr) (v : Value) : (w.setCell p v).heap.size = w.heap.size := by simp [World.setCell]
theorem RowIn.setCell {w : World} {b n : Nat} (hr : RowIn w b n) (p : Addr) (v : Value) : RowIn (w.setCell p v) b n := by
  obtain ⟨h1, h2, h3⟩ := hr
  refine ⟨by rw [size_setCell]; exact h1, fun j hj => cell?_setCell_some (h2 j hj).choose_spec, fun j => ?_⟩
  rw [World.frozen?_setCell]; exact h3 j
theorem Ext.setNew {X : Nat → Prop} {a w : World} (h : Ext X a w) {p : Addr} (hp : a.heap.size ≤ p.block) (v : Value) : Ext X a (w.setCell p v) :=
  ⟨h.os, h.tape, h.output, by rw [size_setCell]; exact h.size, fun k hk hx => by rw [Below.heap_setCell _ _ _ _ (by omega)]; exact h.block k hk hx⟩
theorem Ext.setIn {X : Nat → Prop} {a w : World} (h : Ext X a w) {p : Addr} (hp : X p.block) (v : Value) : Ext X a (w.setCell p v) :=
  ⟨h.os, h.tape, h.output, by rw [size_setCell]; exact h.size, fun k hk hx => by rw [Below.heap_setCell _ _ _ _ (fun e => hx (by rw [e]; exact hp))]; exact h.block k hk hx⟩
theorem Free.setCell {B : Nat} {w : World} {fp : List Nat} (hf : Free B w fp) (p : Addr) (v : Value) : Free B (w.setCell p v) fp :=
  ⟨hf.1, fun b hb => ⟨(hf.2 b hb).1, by rw [size_setCell]; exact (hf.2 b hb).2.1, fun o => by rw [World.frozen?_setCell]; exact (hf.2 b hb).2.2 o⟩⟩
theorem Free.one {B : Nat} {w : World} {b n : Nat} (hr : RowIn w b n) (h : B ≤ b) : Free B w [b] :=
  ⟨by simp, fun x hx => by simp at hx; subst hx; exact ⟨h, hr.1, hr.2.2⟩⟩
theorem Free.cons {B : Nat} {w : World} {b n : Nat} {fp : List Nat} (hr : RowIn w b n) (h : B ≤ b) (hf : Free (b + 1) w fp) : Free B w (b :: fp) :=
  ⟨List.nodup_cons.2 ⟨fun hm => by have := (hf.2 b hm).1; omega, hf.1⟩, fun x hx => by
    rcases List.mem_cons.1 hx with rfl | hx
    · exact ⟨h, hr.1, hr.2.2⟩
    · have := hf.2 x hx; exact ⟨by omega, this.2⟩⟩
def store5 (w : World) (b o : Nat) (v0 v1 v2 v3 v4 : Value) : World :=
  ((((w.setCell ⟨b, o, none⟩ v0).setCell ⟨b, o + 1, none⟩ v1).setCell ⟨b, o + 2, none⟩ v2).setCell ⟨b, o + 3, none⟩ v3).setCell ⟨b, o + 4, none⟩ v4
theorem store5_ext (w : World) (b o : Nat) (v0 v1 v2 v3 v4 : Value) : Ext (fun k => k = b) w (store5 w b o v0 v1 v2 v3 v4) :=
  (((((Ext.refl (fun k => k = b) w).setIn (p := ⟨b, o, none⟩) rfl v0).setIn (p := ⟨b, o + 1, none⟩) rfl v1).setIn (p := ⟨b, o + 2, none⟩) rfl v2).setIn (p := ⟨b, o + 3, none⟩) rfl v3).setIn (p := ⟨b, o + 4, none⟩) rfl v4
theorem store5_row {w : World} {b n : Nat} (hr : RowIn w b n) (o : Nat) (v0 v1 v2 v3 v4 : Value) : RowIn (store5 w b o v0 v1 v2 v3 v4) b n :=
  ((((hr.setCell _ _).setCell _ _).setCell _ _).setCell _ _).setCell _ _
theorem store5_free {B : Nat} {w : World} {fp : List Nat} (hf : Free B w fp) (b o : Nat) (v0 v1 v2 v3 v4 : Value) : Free B (store5 w b o v0 v1 v2 v3 v4) fp :=
  ((((hf.setCell _ _).setCell _ _).setCell _ _).setCell _ _).setCell _ _
theorem store5_cell {w : World} {b n o : Nat} (hr : RowIn w b n) (ho : o + 5 ≤ n) (v0 v1 v2 v3 v4 : Value) (q : Nat) :
    (store5 w b o v0 v1 v2 v3 v4).cell? ⟨b, q, none⟩ = if q = o then some v0 else if q = o + 1 then some v1 else if q = o + 2 then some v2 else if q = o + 3 then some v3 else if q = o + 4 then some v4 else w.cell? ⟨b, q, none⟩ := by
  unfold store5
  have h0 := hr
  have h1 := h0.setCell ⟨b, o, none⟩ v0
  have h2 := h1.setCell ⟨b, o + 1, none⟩ v1
  have h3 := h2.setCell ⟨b, o + 2, none⟩ v2
  have h4 := h3.setCell ⟨b, o + 3, none⟩ v3
  obtain ⟨u0, e0⟩ := h0.2.1 o (by omega)
  obtain ⟨u1, e1⟩ := h1.2.1 (o + 1) (by omega)
  obtain ⟨u2, e2⟩ := h2.2.1 (o + 2) (by omega)
  obtain ⟨u3, e3⟩ := h3.2.1 (o + 3) (by omega)
  obtain ⟨u4, e4⟩ := h4.2.1 (o + 4) (by omega)
  rw [cell_set e4, cell_set e3, cell_set e2, cell_set e1, cell_set e0]
  simp only [Addr.mk.injEq, true_and, and_true]
  by_cases c0 : q = o
  · subst c0; simp
  by_cases c1 : q = o + 1
  · subst c1; simp
  by_cases c2 : q = o + 2
  · subst c2; simp
  by_cases c3 : q = o + 3
  · subst c3; simp
  by_cases c4 : q = o + 4
  · subst c4; simp
  simp [c0, c1, c2, c3, c4]
theorem KidsF.lay {w : World} {b n : Nat} {l : List Nd} {k : Nd} {fp f' : List Nat} {na : Option Addr} {nc : Nat} {ka : Option Addr} {kc : Nat} (hr : RowIn w b n) (hk : KidsF w b 0 l fp)
    (hn : NodeF w k na nc ka kc f') (hlen : (l.length + 1) * 5 ≤ n) (h1 : b ∉ fp) (h2 : b ∉ f') :
    KidsF (store5 w b (l.length * 5) (.int .i64 k.kind) (.int .i64 k.num) (.string k.text) (.slice na k.names.length nc) (.slice ka k.kids.length kc)) b 0 (l ++ [k]) (fp ++ f') := by
  have hc := fun q => store5_cell hr (o := l.length * 5) (by omega) (.int .i64 k.kind) (.int .i64 k.num) (.string k.text) (.slice na k.names.length nc) (.slice ka k.kids.length kc) q
  have he := store5_ext w b (l.length * 5) (.int .i64 k.kind) (.int .i64 k.num) (.string k.text) (.slice na k.names.length nc) (.slice ka k.kids.length kc)
  have other : ∀ x, x ≠ b → ∀ o, (store5 w b (l.length * 5) (.int .i64 k.kind) (.int .i64 k.num) (.string k.text) (.slice na k.names.length nc) (.slice ka k.kids.length kc)).cell? ⟨x, o, none⟩ = w.cell? ⟨x, o, none⟩ := by
    intro x hx o
    unfold store5
    rw [World.cell?_setCell_other _ _ _ _ (by intro e; cases e; exact hx rfl), World.cell?_setCell_other _ _ _ _ (by intro e; cases e; exact hx rfl), World.cell?_setCell_other _ _ _ _ (by intro e; cases e; exact hx rfl),
      World.cell?_setCell_other _ _ _ _ (by intro e; cases e; exact hx rfl), World.cell?_setCell_other _ _ _ _ (by intro e; cases e; exact hx rfl)]
  have e0 : 0 + 5 * l.length = l.length * 5 := by omega
  refine KidsF.snoc (hk.keep (fun x hx o => other x (fun e => h1 (e ▸ hx)) o) (fun o' _ ho => ?_)) ?_ ?_ ?_ ?_ ?_ (hn.keep (fun x hx o => other x (fun e => h2 (e ▸ hx)) o))
  · rw [hc, if_neg (by omega), if_neg (by omega), if_neg (by omega), if_neg (by omega), if_neg (by omega)]
  · rw [e0, hc, if_pos rfl]
  · rw [e0, hc, if_neg (by omega), if_pos rfl]
  · rw [e0, hc, if_neg (by omega), if_neg (by omega), if_pos rfl]
  · rw [e0, hc, if_neg (by omega), if_neg (by omega), if_neg (by omega), if_pos rfl]
  · rw [e0, hc, if_neg (by omega), if_neg (by omega), if_neg (by omega), if_neg (by omega), if_pos rfl]
theorem Box5.other {w : World} {b : Nat} {c0 c1 c2 c3 c4 : Value} (hb : Box5 w b c0 c1 c2 c3 c4) {p : Addr} (hp : p.block ≠ b) (v : Value) : Box5 (w.setCell p v) b c0 c1 c2 c3 c4 :=
  hb.ext (X := fun k => k = p.block) (Ext.setIn (X := fun k => k = p.block) (Ext.refl _ w) (p := p) rfl v) (fun h => hp h.symm)
theorem Box5.set0 {w : World} {b : Nat} {c0 c1 c2 c3 c4 : Value} (hb : Box5 w b c0 c1 c2 c3 c4) (v : Value) : Box5 (w.setCell ⟨b, 0, none⟩ v) b v c1 c2 c3 c4 :=
  ⟨by rw [cell_set hb.k0, if_pos rfl], by rw [cell_set hb.k0, if_neg (by simp)]; exact hb.k1, by rw [cell_set hb.k0, if_neg (by simp)]; exact hb.k2, by rw [cell_set hb.k0, if_neg (by simp)]; exact hb.k3, by rw [cell_set hb.k0, if_neg (by simp)]; exact hb.k4, fun o => by rw [World.frozen?_setCell]; exact hb.fr o, by rw [size_setCell]; exact hb.lt⟩
theorem Box5.set1 {w : World} {b : Nat} {c0 c1 c2 c3 c4 : Value} (hb : Box5 w b c0 c1 c2 c3 c4) (v : Value) : Box5 (w.setCell ⟨b, 1, none⟩ v) b c0 v c2 c3 c4 :=
  ⟨by rw [cell_set hb.k1, if_neg (by simp)]; exact hb.k0, by rw [cell_set hb.k1, if_pos rfl], by rw [cell_set hb.k1, if_neg (by simp)]; exact hb.k2, by rw [cell_set hb.k1, if_neg (by simp)]; exact hb.k3, by rw [cell_set hb.k1, if_neg (by simp)]; exact hb.k4, fun o => by rw [World.frozen?_setCell]; exact hb.fr o, by rw [size_setCell]; exact hb.lt⟩
theorem Box5.set2 {w : World} {b : Nat} {c0 c1 c2 c3 c4 : Value} (hb : Box5 w b c0 c1 c2 c3 c4) (v : Value) : Box5 (w.setCell ⟨b, 2, none⟩ v) b c0 c1 v c3 c4 :=
  ⟨by rw [cell_set hb.k2, if_neg (by simp)]; exact hb.k0, by rw [cell_set hb.k2, if_neg (by simp)]; exact hb.k1, by rw [cell_set hb.k2, if_pos rfl], by rw [cell_set hb.k2, if_neg (by simp)]; exact hb.k3, by rw [cell_set hb.k2, if_neg (by simp)]; exact hb.k4, fun o => by rw [World.frozen?_setCell]; exact hb.fr o, by rw [size_setCell]; exact hb.lt⟩
theorem Box5.set3 {w : World} {b : Nat} {c0 c1 c2 c3 c4 : Value} (hb : Box5 w b c0 c1 c2 c3 c4) (v : Value) : Box5 (w.setCell ⟨b, 3, none⟩ v) b c0 c1 c2 v c4 :=
  ⟨by rw [cell_set hb.k3, if_neg (by simp)]; exact hb.k0, by rw [cell_set hb.k3, if_neg (by simp)]; exact hb.k1, by rw [cell_set hb.k3, if_neg (by simp)]; exact hb.k2, by rw [cell_set hb.k3, if_pos rfl], by rw [cell_set hb.k3, if_neg (by simp)]; exact hb.k4, fun o => by rw [World.frozen?_setCell]; exact hb.fr o, by rw [size_setCell]; exact hb.lt⟩
theorem Box5.set4 {w : World} {b : Nat} {c0 c1 c2 c3 c4 : Value} (hb : Box5 w b c0 c1 c2 c3 c4) (v : Value) : Box5 (w.setCell ⟨b, 4, none⟩ v) b c0 c1 c2 c3 v :=
  ⟨by rw [cell_set hb.k4, if_neg (by simp)]; exact hb.k0, by rw [cell_set hb.k4, if_neg (by simp)]; exact hb.k1, by rw [cell_set hb.k4, if_neg (by simp)]; exact hb.k2, by rw [cell_set hb.k4, if_neg (by simp)]; exact hb.k3, by rw [cell_set hb.k4, if_pos rfl], fun o => by rw [World.frozen?_setCell]; exact hb.fr o, by rw [size_setCell]; exact hb.lt⟩
structure BoxN (w : World) (b : Nat) (cs : List Value) : Prop where
  cell : ∀ i v, cs[i]? = some v → w.cell? ⟨b, i, none⟩ = some v
  fr : ∀ o, w.frozen? ⟨b, o, none⟩ = false
  lt : b < w.heap.size
theorem BoxN.new (w : World) (cs : List Value) (t : TypeId) : BoxN (w.alloc (.cells cs.toArray t)) w.heap.size cs :=
  ⟨fun i v h => by rw [World.cell?_alloc_new]; simpa using h, fun o => World.frozen?_alloc_new w _ t o, by simp⟩
theorem BoxN.new1 (w : World) (x : Obj) (cs : List Value) (t : TypeId) : BoxN ((w.alloc x).alloc (.cells cs.toArray t)) (w.heap.size + 1) cs := by
  have := BoxN.new (w.alloc x) cs t
  rw [World.size_alloc] at this; exact this
theorem BoxN.new2 (w : World) (x y : Obj) (cs : List Value) (t : TypeId) : BoxN (((w.alloc x).alloc y).alloc (.cells cs.toArray t)) (w.heap.size + 1 + 1) cs := by
  have := BoxN.new ((w.alloc x).alloc y) cs t
  rw [World.size_alloc, World.size_alloc] at this; exact this
theorem BoxN.ext {X : Nat → Prop} {w w' : World} {b : Nat} {cs : List Value} (hb : BoxN w b cs) (h : Ext X w w') (hx : ¬ X b) : BoxN w' b cs :=
  ⟨fun i v hi => by rw [h.cell hb.lt hx]; exact hb.cell i v hi, fun o => by rw [h.frozen (p := ⟨b, o, none⟩) hb.lt hx]; exact hb.fr o, Nat.lt_of_lt_of_le hb.lt h.size⟩
theorem BoxN.grow {w w' : World} {b : Nat} {cs : List Value} (hb : BoxN w b cs) (h : Grow w w') : BoxN w' b cs := hb.ext h (fun h => h)
theorem BoxN.other {w : World} {b : Nat} {cs : List Value} (hb : BoxN w b cs) {p : Addr} (hp : p.block ≠ b) (v : Value) : BoxN (w.setCell p v) b cs :=
  hb.ext (X := fun k => k = p.block) (Ext.setIn (X := fun k => k = p.block) (Ext.refl _ w) (p := p) rfl v) (fun h => hp h.symm)
theorem BoxN.set {w : World} {b : Nat} {cs : List Value} (hb : BoxN w b cs) (i : Nat) (hi : i < cs.length) (v : Value) : BoxN (w.setCell ⟨b, i, none⟩ v) b (cs.set i v) := by
  refine ⟨fun j u h => ?_, fun o => by rw [World.frozen?_setCell]; exact hb.fr o, by rw [size_setCell]; exact hb.lt⟩
  rw [cell_set (hb.cell i cs[i] (List.getElem?_eq_getElem hi))]
  rw [List.getElem?_set] at h
  by_cases e : j = i
  · subst e; simpa [hi] using h
  · rw [if_neg (by intro h'; cases h'; exact e rfl)]
    rw [if_neg (fun h' => e h'.symm)] at h
    exact hb.cell j u h
def nodeL (n : Nd) (na : Option Addr) (nc : Nat) (ka : Option Addr) (kc : Nat) : List Value :=
  [.int .i64 n.kind, .int .i64 n.num, .string n.text, .slice na n.names.length nc, .slice ka n.kids.length kc]
mutual
theorem NodeC.mono {w : World} {S T : Nat → Prop} (hS : ∀ k, S k → T k) : ∀ {n : Nd} {na : Option Addr} {nc : Nat} {ka : Option Addr} {kc : Nat}, NodeC w S n na nc ka kc → NodeC w T n na nc ka kc
  | ⟨_, _, _, _, kids⟩, na, nc, ka, kc, hn => by
    unfold NodeC at hn ⊢
    obtain ⟨h1, h2, h3, h4, h5⟩ := hn
    refine ⟨h1, h2.mono hS, h3, h4, h5.imp id ?_⟩
    rintro ⟨b, o, e, hb, hk⟩
    exact ⟨b, o, e, hS b hb, KidsR.mono hS hk⟩
theorem KidsR.mono {w : World} {S T : Nat → Prop} (hS : ∀ k, S k → T k) {b : Nat} : ∀ {l : List Nd} {o : Nat}, KidsR w S b o l → KidsR w T b o l
  | [], _, _ => by unfold KidsR; trivial
  | k :: ks, o, hk => by
    unfold KidsR at hk ⊢
    obtain ⟨⟨na, nc, ka, kc, c0, c1, c2, c3, c4, hn⟩, hr⟩ := hk
    exact ⟨⟨na, nc, ka, kc, c0, c1, c2, c3, c4, NodeC.mono hS hn⟩, KidsR.mono hS hr⟩
end
end Go.Proofs.Ytgfnmhfdmmnaoaa
namespace Go.Proofs.Ytgfnmhfdmmnaoaa
open Go Go.RowKit
abbrev lt (a b : ByteArray) : Bool := Op.bytesLess a.toList b.toList
theorem bl_irrefl : ∀ x : List UInt8, Op.bytesLess x x = false
  | [] => rfl
  | a :: x => by simp [Op.bytesLess, bl_irrefl x]
theorem bl_tri : ∀ x y : List UInt8, (Op.bytesLess x y || x == y) = !Op.bytesLess y x
  | [], [] => rfl
  | [], b :: y => by simp [Op.bytesLess]
  | a :: x, [] => by simp [Op.bytesLess]
  | a :: x, b :: y => by
    have ih := bl_tri x y
    simp only [Op.bytesLess, List.cons_beq_cons]
    rcases (show a.toNat < b.toNat ∨ a.toNat = b.toNat ∨ b.toNat < a.toNat from by omega) with h | h | h
    · have h1 : a < b := UInt8.lt_iff_toNat_lt.2 h
      have h2 : ¬ b < a := fun h' => by have := UInt8.lt_iff_toNat_lt.1 h'; omega
      have h3 : ¬ a = b := fun e => by subst e; omega
      have h4 : ¬ b = a := fun e => h3 e.symm
      simp [h1, h2, h4]
    · have h3 : a = b := UInt8.toNat_inj.1 h
      subst h3
      have h1 : ¬ a < a := fun h' => by have := UInt8.lt_iff_toNat_lt.1 h'; omega
      simp [h1, ih]
    · have h1 : b < a := UInt8.lt_iff_toNat_lt.2 h
      have h2 : ¬ a < b := fun h' => by have := UInt8.lt_iff_toNat_lt.1 h'; omega
      have h3 : ¬ a = b := fun e => by subst e; omega
      have h4 : ¬ b = a := fun e => h3 e.symm
      simp [h1, h2, h3]
theorem bl_trans : ∀ x y z : List UInt8, Op.bytesLess x y = true → Op.bytesLess y z = true → Op.bytesLess x z = true
  | x, [], _, h, _ => by cases x <;> simp [Op.bytesLess] at h
  | _, _ :: _, [], _, h => by simp [Op.bytesLess] at h
  | [], _ :: _, _ :: _, _, _ => rfl
  | a :: x, b :: y, c :: z, h1, h2 => by
    simp only [Op.bytesLess, Bool.or_eq_true, Bool.and_eq_true, decide_eq_true_eq, beq_iff_eq] at h1 h2 ⊢
    rcases h1 with h1 | ⟨rfl, h1⟩
    · rcases h2 with h2 | ⟨rfl, h2⟩
      · exact .inl (UInt8.lt_iff_toNat_lt.2 (Nat.lt_trans (UInt8.lt_iff_toNat_lt.1 h1) (UInt8.lt_iff_toNat_lt.1 h2)))
      · exact .inl h1
    · rcases h2 with h2 | ⟨rfl, h2⟩
      · exact .inl h2
      · exact .inr ⟨rfl, bl_trans x y z h1 h2⟩
theorem toList_inj {a b : ByteArray} (h : a.toList = b.toList) : a = b := by
  have h' : a.data.toList = b.data.toList := by rw [← ByteArray.toList_eq, ← ByteArray.toList_eq]; exact h
  cases a; cases b; simp_all [Array.toList_inj]
theorem beq_toList (a b : ByteArray) : (a.toList == b.toList) = decide (a = b) := by
  by_cases h : a = b
  · simp [h]
  · have : ¬ a.toList = b.toList := fun e => h (toList_inj e)
    simp [h, this]
theorem bl_cases (x y : ByteArray) :
    (Op.bytesLess x.toList y.toList = true ∧ Op.bytesLess y.toList x.toList = false ∧ (x.toList == y.toList) = false ∧ (y.toList == x.toList) = false ∧ x ≠ y) ∨
    (Op.bytesLess x.toList y.toList = false ∧ Op.bytesLess y.toList x.toList = true ∧ (x.toList == y.toList) = false ∧ (y.toList == x.toList) = false ∧ x ≠ y) ∨
    x = y := by
  by_cases h : x = y
  · exact .inr (.inr h)
  · have h1 : (x.toList == y.toList) = false := by rw [beq_toList]; simp [h]
    have h2 : (y.toList == x.toList) = false := by rw [beq_toList]; simp [Ne.symm h]
    have h3 := bl_tri x.toList y.toList
    rw [h1, Bool.or_false] at h3
    cases h4 : Op.bytesLess y.toList x.toList
    · exact .inl ⟨by rw [h3, h4]; rfl, rfl, h1, h2, h⟩
    · exact .inr (.inl ⟨by rw [h3, h4]; rfl, rfl, h1, h2, h⟩)
theorem blF_irrefl (x : ByteArray) : Op.bytesLess x.toList x.toList = false := bl_irrefl _
end Go.Proofs.Ytgfnmhfdmmnaoaa
namespace Go.Proofs.Ytgfnmhfdmmnaoaa
open Go
section
variable {P : Program} {ops : Array Oper} {md : Region.Mode} {R : World → World → Prop} {Vs : Nat → Option (Value → World → Prop)} {C : World → Prop}
abbrev Env := Nat → World → Prop
def Env.upd (E : Env) (i : Nat) (F : World → Prop) : Env := fun k w => E k w ∧ (k = i → F w)
def valUpon (R : World → World → Prop) (w : World) (c : Value) : Result Next → Prop
  | .ok (.value u) w' => u = c ∧ R w w'
  | .ok .skip w' => c = undef ∧ R w w'
  | _ => False
def stabUpon (P : Program) (R : World → World → Prop) (w : World) (V : Value → World → Prop) : Result Next → Prop
  | .ok (.value u) w' => R w w' ∧ V u w'
  | .ok .skip w' => R w w' ∧ V undef w'
  | .ok (.enter f args) w' => w' = w ∧ Calls P f args w (fun e w'' => ∃ v, e = .returned v ∧ R w w'' ∧ V v w'')
  | _ => False
def valAt (R : World → World → Prop) (P : Program) (o : Oper) (a : Act) (w : World) (c : Value) : Prop := valUpon R w c ((execOp a.eval o).run P w)
def stabAt (R : World → World → Prop) (P : Program) (o : Oper) (a : Act) (w : World) (V : Value → World → Prop) : Prop := stabUpon P R w V ((execOp a.eval o).run P w)
def cls (C : World → Prop) (o : Oper) (E : Env) (w : World) : Prop := C w ∧ ∀ e ∈ o.after, Region.binds .any e = true → E e.on w
def does (P : Program) (R : World → World → Prop) (Vs : Nat → Option (Value → World → Prop)) (C : World → Prop) (i : Nat) (o : Oper) (K : Act → Env → Prop) (a : Act) (E : Env) : Prop :=
  match Vs i with
  | none => ∃ c, (∀ w, cls C o E w → valAt R P o a w c) ∧ K (a.put o.dst c) E
  | some V => (∀ w, cls C o E w → stabAt R P o a w V) ∧ ∀ v w, C w → (∀ k, E k w) → V v w → K (a.put o.dst v) (E.upd i (V v))
def step (P : Program) (ops : Array Oper) (R : World → World → Prop) (Vs : Nat → Option (Value → World → Prop)) (C : World → Prop) (i : Nat) (K : Act → Env → Prop) (a : Act) (E : Env) : Prop :=
  match ops[i]? with
  | none => K a E
  | some o => if Region.wanted o (yielded ops a.tmps) then does P R Vs C i o K a E else K (a.put o.dst undef) E
def wpStab (P : Program) (ops : Array Oper) (R : World → World → Prop) (Vs : Nat → Option (Value → World → Prop)) (C : World → Prop) (Q : Act → World → Prop) : List Oper → Nat → Act → Env → Prop
  | [], _, a, E => ∀ w, C w → (∀ k, E k w) → Q a w
  | o :: rest, k, a, E => if Region.wanted o (yielded ops a.tmps) then does P R Vs C k o (wpStab P ops R Vs C Q rest (k + 1)) a E else wpStab P ops R Vs C Q rest (k + 1) (a.put o.dst undef) E
def wpAnyT (P : Program) (md : Region.Mode) (ops : Array Oper) (R : World → World → Prop) (Vs : Nat → Option (Value → World → Prop)) (C : World → Prop) (Q : Act → World → Prop) : Nat → Array Bool → Act → Env → Prop
  | 0, listed, a, E => Region.ready md ops listed = [] ∧ ∀ w, C w → (∀ k, E k w) → Q a w
  | fuel + 1, listed, a, E =>
    (Region.ready md ops listed = [] → ∀ w, C w → (∀ k, E k w) → Q a w) ∧
    ∀ i ∈ Region.ready md ops listed, step P ops R Vs C i (wpAnyT P md ops R Vs C Q fuel (listed.setIfInBounds i true)) a E
theorem does_mono' {i : Nat} {o : Oper} {K K' : Act → Env → Prop} {a : Act} {E : Env} (hex : ∃ w, C w ∧ ∀ k, E k w)
    (h : ∀ a E, (∃ w, C w ∧ ∀ k, E k w) → K a E → K' a E) (hh : does P R Vs C i o K a E) : does P R Vs C i o K' a E := by
  unfold does at *
  split at hh
  · obtain ⟨c, h1, h2⟩ := hh; exact ⟨c, h1, h _ _ hex h2⟩
  · exact ⟨hh.1, fun v w h1 h2 h3 => h _ _ ⟨w, h1, fun k => ⟨h2 k, fun _ => h3⟩⟩ (hh.2 v w h1 h2 h3)⟩
theorem step_mono' {i : Nat} {K K' : Act → Env → Prop} {a : Act} {E : Env} (hex : ∃ w, C w ∧ ∀ k, E k w)
    (h : ∀ a E, (∃ w, C w ∧ ∀ k, E k w) → K a E → K' a E) (hh : step P ops R Vs C i K a E) : step P ops R Vs C i K' a E := by
  unfold step at *
  split
  · rename_i ho; simp only [ho] at hh; exact h _ _ hex hh
  · rename_i o ho
    simp only [ho] at hh
    split
    · rename_i hw; simp only [hw, if_true] at hh; exact does_mono' hex h hh
    · rename_i hw; simp only [hw] at hh; exact h _ _ hex hh
structure Closed (R : World → World → Prop) (C : World → Prop) (Vs : Nat → Option (Value → World → Prop)) : Prop where
  refl : ∀ w, R w w
  cl : ∀ w w', R w w' → C w → C w'
  st : ∀ i V, Vs i = some V → ∀ v w w', R w w' → V v w → V v w'
def EnvSt (R : World → World → Prop) (E : Env) : Prop := ∀ k w w', R w w' → E k w → E k w'
theorem EnvSt.upd {E : Env} (h : EnvSt R E) {i : Nat} {F : World → Prop} (hF : ∀ w w', R w w' → F w → F w') : EnvSt R (E.upd i F) :=
  fun k w w' hr hk => ⟨h k w w' hr hk.1, fun e => hF _ _ hr (hk.2 e)⟩
theorem wpOp_of_step (hc : Closed R C Vs) {i : Nat} {a : Act} {E : Env} {K : Act → Env → Prop} {K' : Act → World → Prop} {Q' : Exit → Act → World → Prop} {w : World}
    (hw : C w) (hE : ∀ k, E k w) (hs : EnvSt R E) (h : ∀ a E w', C w' → (∀ k, E k w') → EnvSt R E → K a E → K' a w') (hh : step P ops R Vs C i K a E) : wpOp P ops Q' i K' a w := by
  unfold step at hh
  unfold wpOp
  split
  · rename_i ho; simp only [ho] at hh; exact h _ _ _ hw hE hs hh
  · rename_i o ho
    simp only [ho] at hh
    split
    · rename_i hwt
      simp only [hwt, if_true] at hh
      refine .inl ?_
      unfold does at hh
      unfold Oper.wp
      cases hV : Vs i with
      | none =>
        simp only [hV] at hh
        obtain ⟨c, h1, h2⟩ := hh
        have h3 := h1 w ⟨hw, fun e _ _ => hE e.on⟩
        unfold valAt at h3
        generalize (execOp a.eval o).run P w = r at *
        cases r with
        | ok n w' =>
          cases n <;> simp only [valUpon] at h3 <;> simp only [Oper.upon]
          case value u =>
            obtain ⟨rfl, h4⟩ := h3
            exact h _ _ _ (hc.cl _ _ h4 hw) (fun k => hs k _ _ h4 (hE k)) hs h2
          case skip =>
            obtain ⟨rfl, h4⟩ := h3
            exact h _ _ _ (hc.cl _ _ h4 hw) (fun k => hs k _ _ h4 (hE k)) hs h2
        | halt x w' => simp only [valUpon] at h3
      | some V =>
        simp only [hV] at hh
        obtain ⟨h1, h2⟩ := hh
        have h3 := h1 w ⟨hw, fun e _ _ => hE e.on⟩
        have fin : ∀ v w', R w w' → V v w' → K' (a.put o.dst v) w' := fun v w' hr hv => by
          have hE' : ∀ k, (E.upd i (V v)) k w' := fun k => ⟨hs k _ _ hr (hE k), fun _ => hv⟩
          exact h _ _ _ (hc.cl _ _ hr hw) hE' (hs.upd fun _ _ => hc.st i V hV v _ _) (h2 v w' (hc.cl _ _ hr hw) (fun k => hs k _ _ hr (hE k)) hv)
        unfold stabAt at h3
        generalize (execOp a.eval o).run P w = r at *
        cases r with
        | ok n w' =>
          cases n <;> simp only [stabUpon] at h3 <;> simp only [Oper.upon]
          case value u => exact fin _ _ h3.1 h3.2
          case skip => exact fin _ _ h3.1 h3.2
          case enter f args =>
            obtain ⟨rfl, hcl⟩ := h3
            exact hcl.mono fun e w'' ⟨v, he, hr, hv⟩ => by subst he; exact fin _ _ hr hv
        | halt x w' => simp only [stabUpon] at h3
    · rename_i hwt; simp only [hwt] at hh; exact h _ _ _ hw hE hs hh
theorem wpAny_of_T (hc : Closed R C Vs) {Q : Act → World → Prop} {Q' : Exit → Act → World → Prop} (hQ : ∀ a w, Q a w → Q' .normal a w) :
    ∀ (fuel : Nat) (listed : Array Bool) (a : Act) (E : Env) (w : World), C w → (∀ k, E k w) → EnvSt R E → wpAnyT P md ops R Vs C Q fuel listed a E → wpAny P md ops Q' fuel listed a w
  | 0, _, _, _, _, hw, hE, _, h => ⟨h.1, hQ _ _ (h.2 _ hw hE)⟩
  | fuel + 1, _, _, _, _, hw, hE, hs, h => ⟨fun h0 => hQ _ _ (h.1 h0 _ hw hE), fun i hi => wpOp_of_step hc hw hE hs (fun a' E' w' hw' hE' hs' => wpAny_of_T hc hQ fuel _ a' E' w' hw' hE' hs') (h.2 i hi)⟩
theorem cls_upd {oj : Oper} {E : Env} {i : Nat} {F : World → Prop} (hno : ∀ e ∈ oj.after, Region.binds .any e = true → e.on ≠ i) (w : World) : cls C oj (E.upd i F) w ↔ cls C oj E w := by
  unfold cls Env.upd
  exact ⟨fun ⟨h1, h2⟩ => ⟨h1, fun e he hb => (h2 e he hb).1⟩, fun ⟨h1, h2⟩ => ⟨h1, fun e he hb => ⟨h2 e he hb, fun h => absurd h (hno e he hb)⟩⟩⟩
theorem upd_comm {E : Env} {i j : Nat} {F G : World → Prop} : (E.upd i F).upd j G = (E.upd j G).upd i F := by
  funext k w
  unfold Env.upd
  exact propext ⟨fun ⟨⟨h1, h2⟩, h3⟩ => ⟨⟨h1, h3⟩, h2⟩, fun ⟨⟨h1, h2⟩, h3⟩ => ⟨⟨h1, h3⟩, h2⟩⟩
theorem valAt_put {oj : Oper} (hsj : ∀ cs b, oj.op ≠ .select cs b) {a : Act} {d : Option Tmp} {v : Value} (h : ∀ t, d = some t → t ∉ oj.looksAt ops) {w : World} {c : Value} :
    valAt R P oj (a.put d v) w c = valAt R P oj a w c := by unfold valAt; rw [execOp_put oj hsj a d v h]
theorem stabAt_put {oj : Oper} (hsj : ∀ cs b, oj.op ≠ .select cs b) {a : Act} {d : Option Tmp} {v : Value} (h : ∀ t, d = some t → t ∉ oj.looksAt ops) {w : World} {V : Value → World → Prop} :
    stabAt R P oj (a.put d v) w V = stabAt R P oj a w V := by unfold stabAt; rw [execOp_put oj hsj a d v h]
theorem valAt_det {o : Oper} {a : Act} {w : World} {c c' : Value} (h : valAt R P o a w c) (h' : valAt R P o a w c') : c = c' := by
  unfold valAt at *
  generalize (execOp a.eval o).run P w = r at *
  cases r with
  | ok n w' => cases n <;> simp only [valUpon] at h h' <;> first | exact h.1.symm.trans h'.1 | exact h.1.trans h'.1.symm
  | halt x w' => simp only [valUpon] at h
theorem stab_some {o : Oper} {a : Act} {w : World} {V : Value → World → Prop} (h : stabAt R P o a w V) : ∃ v w', R w w' ∧ V v w' := by
  unfold stabAt at *
  generalize (execOp a.eval o).run P w = r at *
  cases r with
  | ok n w' =>
    cases n <;> simp only [stabUpon] at h
    case value u => exact ⟨_, _, h⟩
    case skip => exact ⟨_, _, h⟩
    case enter f args =>
      obtain ⟨rfl, hcl⟩ := h
      obtain ⟨e, w'', fr, ⟨v, he, hr, hv⟩, _⟩ := hcl []
      exact ⟨v, w'', hr, hv⟩
  | halt x w' => simp only [stabUpon] at h
theorem exch (hc : Closed R C Vs) {i j : Nat} {oi oj : Oper} (hi : ops[i]? = some oi) (hj : ops[j]? = some oj) (hap : oi.apart ops oj = true)
    (hsi : ∀ cs b, oi.op ≠ .select cs b) (hsj : ∀ cs b, oj.op ≠ .select cs b)
    (hnj : ∀ e ∈ oj.after, Region.binds .any e = true → e.on ≠ i) (hni : ∀ e ∈ oi.after, Region.binds .any e = true → e.on ≠ j)
    {K : Act → Env → Prop} {a : Act} {E : Env} (hE : EnvSt R E) (hex : ∃ w, C w ∧ ∀ k, E k w)
    (h : step P ops R Vs C i (fun a' E' => step P ops R Vs C j K a' E') a E) : step P ops R Vs C j (fun a' E' => step P ops R Vs C i K a' E') a E := by
  obtain ⟨p1, p2, p3⟩ := Oper.apart_spec hap
  unfold step at *
  simp only [hi, hj] at *
  have wj : ∀ v, Region.wanted oj (yielded ops (a.put oi.dst v).tmps) = Region.wanted oj (yielded ops a.tmps) := fun v => wanted_put oj a oi.dst v p1
  have wi : ∀ v, Region.wanted oi (yielded ops (a.put oj.dst v).tmps) = Region.wanted oi (yielded ops a.tmps) := fun v => wanted_put oi a oj.dst v p3
  have pc : ∀ u v, (a.put oi.dst v).put oj.dst u = (a.put oj.dst u).put oi.dst v := fun u v => Act.put_comm a v u p2
  have vj : ∀ v w c, valAt R P oj (a.put oi.dst v) w c = valAt R P oj a w c := fun v w c => valAt_put hsj p1
  have vi : ∀ v w c, valAt R P oi (a.put oj.dst v) w c = valAt R P oi a w c := fun v w c => valAt_put hsi p3
  have sj : ∀ v w V, stabAt R P oj (a.put oi.dst v) w V = stabAt R P oj a w V := fun v w V => stabAt_put hsj p1
  have si : ∀ v w V, stabAt R P oi (a.put oj.dst v) w V = stabAt R P oi a w V := fun v w V => stabAt_put hsi p3
  cases hwi : Region.wanted oi (yielded ops a.tmps) <;> cases hwj : Region.wanted oj (yielded ops a.tmps)
  · simp only [hwi, hwj, wi, wj, Bool.false_eq_true, if_false] at h ⊢
    rw [← pc]; exact h
  · simp only [hwi, hwj, wj, if_true, Bool.false_eq_true, if_false] at h ⊢
    unfold does at *
    cases hVj : Vs j with
    | none =>
      simp only [hVj, vj, wi, hwi, Bool.false_eq_true, if_false] at h ⊢
      obtain ⟨c, h1, h2⟩ := h
      exact ⟨c, h1, by rw [← pc]; exact h2⟩
    | some V =>
      simp only [hVj, sj, wi, hwi, Bool.false_eq_true, if_false] at h ⊢
      obtain ⟨h1, h2⟩ := h
      exact ⟨h1, fun v w k1 k2 k3 => by rw [← pc]; exact h2 v w k1 k2 k3⟩
  · simp only [hwi, wi, if_true, Bool.false_eq_true, if_false] at h ⊢
    unfold does at *
    cases hVi : Vs i with
    | none =>
      simp only [hVi, vi, wj, hwj, Bool.false_eq_true, if_false] at h ⊢
      obtain ⟨c, h1, h2⟩ := h
      exact ⟨c, h1, by rw [← pc]; exact h2⟩
    | some V =>
      simp only [hVi, si, wj, hwj, Bool.false_eq_true, if_false] at h ⊢
      obtain ⟨h1, h2⟩ := h
      exact ⟨h1, fun v w k1 k2 k3 => by rw [← pc]; exact h2 v w k1 k2 k3⟩
  · simp only [hwi, if_true] at h ⊢
    unfold does at *
    cases hVi : Vs i with
    | none =>
      cases hVj : Vs j with
      | none =>
        simp only [hVi, hVj, vi, vj, wi, wj, hwi, hwj, if_true] at h ⊢
        obtain ⟨c, h1, d, h3, h4⟩ := h
        exact ⟨d, h3, c, h1, by rw [← pc]; exact h4⟩
      | some V' =>
        simp only [hVi, hVj, vi, sj, wi, wj, hwi, hwj, if_true] at h ⊢
        obtain ⟨c, h1, h3, h4⟩ := h
        exact ⟨h3, fun u w k1 k2 k3 => ⟨c, fun w' hw' => h1 w' ((cls_upd hni w').1 hw'), by rw [← pc]; exact h4 u w k1 k2 k3⟩⟩
    | some V =>
      cases hVj : Vs j with
      | none =>
        simp only [hVi, hVj, si, vj, wi, wj, hwi, hwj, if_true] at h ⊢
        obtain ⟨h1, h2⟩ := h
        obtain ⟨w0, hw0, hE0⟩ := hex
        obtain ⟨v0, w1, hr, hv0⟩ := stab_some (R := R) (h1 w0 ⟨hw0, fun e _ _ => hE0 e.on⟩)
        have hw1 := hc.cl _ _ hr hw0
        have hE1 : ∀ k, E k w1 := fun k => hE k _ _ hr (hE0 k)
        obtain ⟨d, h4, h5⟩ := h2 v0 w1 hw1 hE1 hv0
        have h4' : ∀ w, cls C oj E w → valAt R P oj a w d := fun w hw => h4 w ((cls_upd hnj w).2 hw)
        refine ⟨d, h4', h1, fun v w k1 k2 k3 => ?_⟩
        obtain ⟨d', h6, h7⟩ := h2 v w k1 k2 k3
        have hw' : cls C oj E w := ⟨k1, fun e _ _ => k2 e.on⟩
        have e1 := h6 w ((cls_upd hnj w).2 hw')
        rw [← valAt_det e1 (h4' w hw')]
        rw [← pc]; exact h7
      | some V' =>
        simp only [hVi, hVj, si, sj, wi, wj, hwi, hwj, if_true] at h ⊢
        obtain ⟨h1, h2⟩ := h
        obtain ⟨w0, hw0, hE0⟩ := hex
        obtain ⟨v0, w1, hr, hv0⟩ := stab_some (R := R) (h1 w0 ⟨hw0, fun e _ _ => hE0 e.on⟩)
        have hw1 := hc.cl _ _ hr hw0
        have hE1 : ∀ k, E k w1 := fun k => hE k _ _ hr (hE0 k)
        obtain ⟨h4, h5⟩ := h2 v0 w1 hw1 hE1 hv0
        refine ⟨fun w hw => h4 w ((cls_upd hnj w).2 hw), fun u w k1 k2 k3 => ⟨fun w' hw' => h1 w' ((cls_upd hni w').1 hw'), fun v w' q1 q2 q3 => ?_⟩⟩
        have := (h2 v w' q1 (fun k => (q2 k).1) q3).2 u w' q1 (fun k => ⟨(q2 k).1, fun _ => q3⟩) ((q2 j).2 rfl)
        rw [← pc, upd_comm]; exact this
theorem step_some (hc : Closed R C Vs) {i : Nat} {K : Act → Env → Prop} {a : Act} {E : Env} (hE : EnvSt R E) (hex : ∃ w, C w ∧ ∀ k, E k w)
    (h : step P ops R Vs C i K a E) : ∃ a' E', (∃ w, C w ∧ ∀ k, E' k w) ∧ K a' E' := by
  unfold step at h
  split at h
  · exact ⟨_, _, hex, h⟩
  · split at h
    · unfold does at h
      split at h
      · obtain ⟨c, _, h2⟩ := h; exact ⟨_, _, hex, h2⟩
      · obtain ⟨w0, hw0, hE0⟩ := hex
        obtain ⟨v0, w1, hr, hv0⟩ := stab_some (R := R) (h.1 w0 ⟨hw0, fun e _ _ => hE0 e.on⟩)
        have hw1 := hc.cl _ _ hr hw0
        have hE1 : ∀ k, E k w1 := fun k => hE k _ _ hr (hE0 k)
        exact ⟨_, _, ⟨w1, hw1, fun k => ⟨hE1 k, fun _ => hv0⟩⟩, h.2 v0 w1 hw1 hE1 hv0⟩
    · exact ⟨_, _, hex, h⟩
theorem step_mono_st (hc : Closed R C Vs) {i : Nat} {K K' : Act → Env → Prop} {a : Act} {E : Env} (hE : EnvSt R E) (hex : ∃ w, C w ∧ ∀ k, E k w)
    (h : ∀ a E, EnvSt R E → (∃ w, C w ∧ ∀ k, E k w) → K a E → K' a E) (hh : step P ops R Vs C i K a E) : step P ops R Vs C i K' a E := by
  unfold step at *
  split
  · rename_i ho; simp only [ho] at hh; exact h _ _ hE hex hh
  · rename_i o ho
    simp only [ho] at hh
    split
    · rename_i hw
      simp only [hw, if_true] at hh
      unfold does at *
      split at hh
      · obtain ⟨c, h1, h2⟩ := hh; exact ⟨c, h1, h _ _ hE hex h2⟩
      · rename_i V hV
        exact ⟨hh.1, fun v w h1 h2 h3 => h _ _ (hE.upd fun _ _ => hc.st i V hV v _ _) ⟨w, h1, fun k => ⟨h2 k, fun _ => h3⟩⟩ (hh.2 v w h1 h2 h3)⟩
    · rename_i hw; simp only [hw] at hh; exact h _ _ hE hex hh
theorem wpAnyT_first (hc : Closed R C Vs) {Q : Act → World → Prop} {i : Nat} {oi : Oper} (hi : ops[i]? = some oi) (hsel : ∀ (j : Nat) (o : Oper) cs b, ops[j]? = some o → o.op ≠ .select cs b) :
    ∀ (fuel : Nat) (listed : Array Bool) (a : Act) (E : Env),
      (∀ j oj, ops[j]? = some oj → j ≠ i → listed.getD j true = false → (∀ e ∈ oj.after, Region.binds .any e = true → e.on ≠ i) → oi.apart ops oj = true) →
      i ∈ Region.ready .any ops listed → EnvSt R E → (∃ w, C w ∧ ∀ k, E k w) →
      step P ops R Vs C i (wpAnyT P .any ops R Vs C Q fuel (listed.setIfInBounds i true)) a E → wpAnyT P .any ops R Vs C Q (fuel + 1) listed a E := by
  intro fuel
  induction fuel with
  | zero =>
    intro listed a E _ hr hE hex H
    refine ⟨fun h => (by rw [h] at hr; cases hr), fun j hj => ?_⟩
    by_cases hji : j = i
    · subst hji; exact H
    · obtain ⟨a', E', _, h⟩ := step_some hc hE hex H
      have := ready_mono hj hji
      rw [h.1] at this
      cases this
  | succ fuel ih =>
    intro listed a E hfree hr hE hex H
    refine ⟨fun h => (by rw [h] at hr; cases hr), fun j hj => ?_⟩
    by_cases hji : j = i
    · subst hji; exact H
    · obtain ⟨hjun, oj, hoj, hall⟩ := mem_ready.1 hj
      have key : ∀ (k : Nat), listed.getD k true = false → ∀ e : Edge, listed.getD e.on false = true → e.on ≠ k := fun k hk e he heq => by
        rw [heq] at he
        rcases Nat.lt_or_ge k listed.size with h' | h'
        · simp [h'] at hk he; rw [hk] at he; cases he
        · simp [Array.getElem?_eq_none h'] at he
      have hnot : ∀ e ∈ oj.after, Region.binds .any e = true → e.on ≠ i := fun e he hb => key i (mem_ready.1 hr).1 e (hall e he hb)
      have hnoti : ∀ e ∈ oi.after, Region.binds .any e = true → e.on ≠ j := fun e he hb => by
        obtain ⟨_, oi', hoi', halli⟩ := mem_ready.1 hr
        rw [hi] at hoi'; cases hoi'
        exact key j hjun e (halli e he hb)
      have h1 : step P ops R Vs C i (fun a' E' => step P ops R Vs C j (wpAnyT P .any ops R Vs C Q fuel ((listed.setIfInBounds i true).setIfInBounds j true)) a' E') a E :=
        step_mono' hex (fun a' E' _ h => h.2 j (ready_mono hj hji)) H
      have h2 := exch hc hi hoj (hfree j oj hoj hji hjun hnot) (fun cs b => hsel i oi cs b hi) (fun cs b => hsel j oj cs b hoj) hnot hnoti hE hex h1
      have hfree' : ∀ k ok, ops[k]? = some ok → k ≠ i → (listed.setIfInBounds j true).getD k true = false →
          (∀ e ∈ ok.after, Region.binds .any e = true → e.on ≠ i) → oi.apart ops ok = true := fun k ok hk hki hun hno => by
        refine hfree k ok hk hki ?_ hno
        by_cases hjk : j = k
        · subst hjk; exact hjun
        · rw [getD_set_ne true hjk] at hun; exact hun
      refine step_mono_st hc hE hex (fun a' E' hE' hex' h3 => ih (listed.setIfInBounds j true) a' E' hfree' (ready_mono hr (Ne.symm hji)) hE' hex' ?_) h2
      rw [Array.setIfInBounds_comm _ _ hji]
      exact h3
theorem wpAnyT_lex (hc : Closed R C Vs) {Q : Act → World → Prop} (hs : Region.noSelect ops = true) : ∀ (l : List Oper) (k : Nat) (listed : Array Bool) (a : Act) (E : Env), (∀ j, l[j]? = ops[k + j]?) →
    Region.lexFrom .any ops l.length k listed = true → EnvSt R E → (∃ w, C w ∧ ∀ k, E k w) → wpStab P ops R Vs C Q l k a E → wpAnyT P .any ops R Vs C Q l.length listed a E
  | [], _, _, _, _, _, hB, _, _, h => ⟨by simpa [Region.lexFrom] using hB, h⟩
  | o :: l, k, listed, a, E, hl, hB, hE, hex, h => by
    have h0 : ops[k]? = some o := by simpa using (hl 0).symm
    simp only [List.length_cons, Region.lexFrom, Bool.and_eq_true] at hB
    obtain ⟨⟨hr, hf⟩, hB'⟩ := hB
    have hst : step P ops R Vs C k (wpStab P ops R Vs C Q l (k + 1)) a E := by unfold step; simp only [h0]; exact h
    exact wpAnyT_first hc h0 (Region.noSelect_spec hs) l.length listed a E (Region.free_spec h0 hf) (by simpa using hr) hE hex
      (step_mono_st hc hE hex (fun a' E' hE' hex' h' => wpAnyT_lex hc hs l (k + 1) _ _ _ (fun j => by have := hl (j + 1); simpa [Nat.add_assoc, Nat.add_comm 1 j] using this) hB' hE' hex' h') hst)
theorem wp_region_stab {id : Nat} {Q : Exit → Act → World → Prop} {a : Act} {w : World} {l : List Oper} (R : World → World → Prop) (Vs : Nat → Option (Value → World → Prop))
    (hm : P.follows .mixedOrders = true) (hB : Region.lexB .any l.toArray = true) (hc : Closed R (fun w' => R w.drew w') Vs)
    (h : wpStab P l.toArray R Vs (fun w' => R w.drew w') (fun a' w' => Q .normal a' w') l 0 a (fun _ _ => True)) : (Code.region id l.toArray true).wp P Q a w := by
  simp only [Region.lexB, Bool.and_eq_true] at hB
  have hE : EnvSt R (fun _ _ => True) := fun _ _ _ _ _ => trivial
  refine wp_region_any hm (wpAny_of_T (C := fun w' => R w.drew w') hc (fun _ _ h => h) _ _ _ (fun _ _ => True) _ (hc.refl _) (fun _ => trivial) hE ?_)
  have := wpAnyT_lex (P := P) (ops := l.toArray) hc hB.1 l 0 (Array.replicate l.toArray.size false) a _ (by simp) (by simpa using hB.2) hE ⟨_, hc.refl _, fun _ => trivial⟩ h
  simpa using this
end
end Go.Proofs.Ytgfnmhfdmmnaoaa
namespace Go.Proofs.Ytgfnmhfdmmnaoaa
open Go.RowKit
def okB (c : UInt8) : Bool := decide (32 ≤ (c.toNat : Int)) && decide ((c.toNat : Int) ≤ 126)
def plainT (s : ByteArray) : Bool := decide (s.size ≤ 12) && s.data.toList.all okB
theorem take_snoc (s : ByteArray) (k : Nat) (h : k < s.size) : s.data.toList.take (k + 1) = s.data.toList.take k ++ [s[k]] := by
  rw [List.take_succ_eq_append_getElem (by simpa using h)]; rfl
theorem all_step {p : UInt8 → Bool} (s : ByteArray) (k : Nat) (h : k < s.size) (h1 : (s.data.toList.take k).all p = true) (h2 : p s[k] = true) : (s.data.toList.take (k + 1)).all p = true := by
  rw [take_snoc s k h, List.all_append, h1]; simp [h2]
theorem all_stop {p : UInt8 → Bool} (s : ByteArray) (k : Nat) (h : k < s.size) (h2 : p s[k] = false) : s.data.toList.all p = false := by
  rw [List.all_eq_false]
  exact ⟨s[k], by simp [ByteArray.getElem_eq_getElem_data], by simp [h2]⟩
theorem isPlainText_ok (s : ByteArray) (w : World) (hs : s.size ≤ big) :
    Calls Try.prog 173 #[.string s] w fun e w' => e = .returned (.bool (plainT s)) ∧ w' = w := by
  unfold big at hs
  by_cases hl : 12 < s.size
  · go_enter Try.func173, Try.ntmps173
    go_wp2
    go_ret
    exact ⟨by simp [plainT]; omega, rfl⟩
  · go_enter Try.func173, Try.ntmps173
    go_wp2
    go_loop [2, 3] (fun n i => n = .bool false ∧ ∃ k : Nat, k ≤ s.size ∧ i = .int .i64 k ∧ (s.data.toList.take k).all okB = true) (fun _ i => s.size - (intOf i).toNat)
    case atStart => exact ⟨rfl, 0, Nat.zero_le _, rfl, rfl⟩
    case round =>
      obtain ⟨rfl, k, hk, rfl, hall⟩ := hrel
      by_cases hlt : k < s.size
      · have Hall := Lib.hid hall
        clear hall
        by_cases hc : 32 ≤ (s[k].toNat : Int) ∧ (s[k].toNat : Int) ≤ 126
        · obtain ⟨hc1, hc2⟩ := hc
          go_wp2
          go_round
          case rel => exact ⟨rfl, k + 1, by omega, by go_num, all_step s k hlt Hall.out (by simp [okB]; omega)⟩
          case measure => simp [intOf]; omega
        · have hf : okB s[k] = false := by simp [okB]; omega
          have Hf := Lib.hid (all_stop s k hlt hf)
          clear hf
          go_wp2
          all_goals (go_ret; exact ⟨by simp [plainT, Hf.out], rfl⟩)
      · go_wp2
        go_ret
        exact ⟨by have : k = s.data.toList.length := by simp; omega
                  rw [this, List.take_length] at hall
                  simp [plainT, hall]; omega, rfl⟩
theorem take_snoc' {α : Type} (l : List α) (k : Nat) (h : k < l.length) : l.take (k + 1) = l.take k ++ [l[k]] := List.take_succ_eq_append_getElem h
theorem drop_cons {α : Type} (xs : List α) (k : Nat) (h : k < xs.length) : xs.drop k = xs[k] :: xs.drop (k + 1) := List.drop_eq_getElem_cons h
def namesFrom : Option ByteArray → List ByteArray → Bool
  | _, [] => true
  | p, x :: r => plainT x && (match p with | none => true | some y => Op.bytesLess y.toList x.toList) && namesFrom (some x) r
def namesB (xs : List ByteArray) : Bool := namesFrom none xs
def areNamesB (xs : List ByteArray) : Bool := decide (xs.length ≤ 6) && namesB xs
def namesAt (xs : List ByteArray) (k : Nat) : Bool := namesFrom (if k = 0 then none else xs[k - 1]?) (xs.drop k)
theorem namesAt_zero (xs : List ByteArray) : namesAt xs 0 = namesB xs := by simp [namesAt, namesB]
theorem namesAt_end (xs : List ByteArray) (k : Nat) (h : ¬ k < xs.length) : namesAt xs k = true := by
  unfold namesAt; rw [List.drop_eq_nil_of_le (by omega)]; cases k <;> simp [namesFrom]
theorem namesAt_first (xs : List ByteArray) (h : 0 < xs.length) : namesAt xs 0 = (plainT xs[0] && namesAt xs 1) := by
  unfold namesAt; rw [drop_cons xs 0 h]; simp [namesFrom, h]
theorem namesAt_next (xs : List ByteArray) (k : Nat) (h : k < xs.length) (h0 : 0 < k) : namesAt xs k = (plainT xs[k] && Op.bytesLess xs[k - 1].toList xs[k].toList && namesAt xs (k + 1)) := by
  unfold namesAt
  rw [drop_cons xs k h, if_neg (by omega), List.getElem?_eq_getElem (by omega)]
  simp [namesFrom, h]
theorem areNames_ok (a : Option Addr) (c : Nat) (xs : List ByteArray) (w : World) (S : Nat → Prop) (ha : StrsR w S a c xs) :
    Calls Try.prog 136 #[.slice a xs.length c] w fun e w' => e = .returned (.bool (areNamesB xs)) ∧ Grow w w' := by
  have hbig : xs.length ≤ 9223372036854775807 := ha.2.1
  have Ha := Lib.hid ha
  clear ha
  by_cases hl : 6 < xs.length
  · go_enter Try.func136, Try.ntmps136
    go_wp2
    go_ret
    exact ⟨by simp [areNamesB]; omega, Ext.refl _ _⟩
  · go_enter Try.func136, Try.ntmps136
    go_wp2
    go_loopw [2, 3, 4, 10] (fun n _ _ i wr => n = .bool false ∧ Grow w wr ∧ ∃ k : Nat, k ≤ xs.length ∧ i = .int .i64 k ∧ namesB xs = namesAt xs k) (fun _ _ _ i _ => xs.length - (intOf i).toNat)
    case atStart => exact ⟨rfl, Ext.refl _ _, 0, Nat.zero_le _, rfl, (namesAt_zero xs).symm⟩
    case round =>
      obtain ⟨rfl, hg, k, hk, rfl, hr⟩ := hrel
      have Hr := Lib.hid hr
      clear hr
      by_cases hlt : k < xs.length
      · obtain ⟨_, _, hxs, ha4⟩ := (Ha.out).ext hg (fun _ _ h => h)
        rcases ha4 with rfl | ⟨ba, oa, rfl, _, hca⟩
        · simp at hlt
        have hx := hca k hlt
        have hsz := hxs _ (List.getElem_mem hlt)
        by_cases hk0 : 0 < k
        · have hy := hca (k - 1) (by omega)
          have hs := namesAt_next xs k hlt hk0
          have Hs := Lib.hid hs
          clear hca Ha hs
          go_wp2_with (go_at_call 173; refine (isPlainText_ok _ _ hsz).mono ?_; rintro e w' ⟨rfl, rfl⟩)
          all_goals first
            | (go_ret; exact ⟨by simp_all [areNamesB, Hr.out, Hs.out], hg⟩)
            | (go_roundw
               case rel => exact ⟨rfl, hg, k + 1, by omega, by go_num, by rw [Hr.out, Hs.out]; simp_all⟩
               case measure => simp [intOf]; omega)
        · obtain rfl : k = 0 := by omega
          simp only [Nat.add_zero] at hx
          have hs := namesAt_first xs hlt
          have Hs := Lib.hid hs
          clear hca Ha hs
          go_wp2_with (go_at_call 173; refine (isPlainText_ok _ _ hsz).mono ?_; rintro e w' ⟨rfl, rfl⟩)
          all_goals first
            | (go_ret; exact ⟨by simp_all [areNamesB, Hr.out, Hs.out], hg⟩)
            | (go_roundw
               case rel => exact ⟨rfl, hg, 1, by omega, by go_num, by rw [Hr.out, Hs.out]; simp_all⟩
               case measure => simp [intOf]; omega)
      · go_wp2
        go_ret
        exact ⟨by simp [areNamesB, Hr.out, namesAt_end _ _ hlt]; omega, hg⟩
def partsB (n : Nd) : Bool :=
  (decide (n.kind = 1) || decide (n.num = 0)) && (decide (n.kind = 2) || n.text.toList.isEmpty) && (decide (n.kind = 4) || decide (n.names.length = 0)) &&
  (if n.kind = 0 then decide (n.kids.length = 0) else if n.kind = 1 then decide (-999999 ≤ n.num) && decide (n.num ≤ 999999) && decide (n.kids.length = 0)
   else if n.kind = 2 then plainT n.text && decide (n.kids.length = 0) else if n.kind = 3 then decide (n.kids.length ≤ 6)
   else if n.kind = 4 then areNamesB n.names && decide (n.kids.length = n.names.length) else false)
theorem ibeq (a b : Int) : (a == b) = decide (a = b) := by by_cases h : a = b <;> simp [h]
theorem bcell {w w' : World} (hg : Grow w w') : (∀ b o, b < w.heap.size → w'.cell? ⟨b, o, none⟩ = w.cell? ⟨b, o, none⟩) := fun b o h => hg.cell (p := ⟨b, o, none⟩) h (fun h => h)
theorem hasValidParts_ok (n : Nd) (v : Value) (w : World) (S : Nat → Prop) (hn : NodeR w S n v) :
    Calls Try.prog 137 #[v] w fun e w' => e = .returned (.bool (partsB n)) ∧ Grow w w' := by
  obtain ⟨na, nc, ka, kc, rfl, hc⟩ := hn
  obtain ⟨htx, hns, hks⟩ := hc.parts
  have hnl : n.names.length ≤ 9223372036854775807 := hns.2.1
  have hkl : n.kids.length ≤ 9223372036854775807 := hks.2.1
  have Hns := Lib.hid hns
  have Hks := Lib.hid hks
  have Htx := Lib.hid htx
  clear hns hks hc htx
  unfold nodeV
  go_enter Try.func137, Try.ntmps137
  go_wp2_with (first | (go_at_call 173; refine (isPlainText_ok _ _ Htx.out).mono ?_; rintro e w' ⟨rfl, rfl⟩) | (go_at_call 136; refine (areNames_ok _ _ _ _ S (Hns.out.ext ((Ext.refl nil w).alloc _) (fun _ _ h => h))).mono ?_; rintro e w' ⟨rfl, hg⟩; have hcc := bcell hg))
  all_goals go_ret
  all_goals refine ⟨?_, by repeat (first | exact Ext.refl _ _ | refine Ext.trans ?_ (by assumption) | refine Ext.drew ?_ | refine Ext.alloc ?_ _)⟩
  all_goals clear Hns Hks Htx
  all_goals (simp_all [partsB, ibeq, -List.length_eq_zero_iff])
  all_goals omega
end Go.Proofs.Ytgfnmhfdmmnaoaa
namespace Go.Proofs.Ytgfnmhfdmmnaoaa
open Go.RowKit
def costS (xs : List ByteArray) : Nat := xs.length + (xs.map (·.size)).sum
mutual
def costN : Nd → Nat
  | ⟨_, _, text, names, kids⟩ => text.size + costS names + costL kids
def costL : List Nd → Nat
  | [] => 0
  | k :: ks => 1 + costN k + costL ks
end
theorem costN_eq (n : Nd) : costN n = n.text.size + costS n.names + costL n.kids := by cases n; simp [costN]
theorem costL_len (l : List Nd) : l.length ≤ costL l := by
  induction l with
  | nil => simp
  | cons a l ih => simp [costL]; omega
theorem costL_get (l : List Nd) (k : Nat) (h : k < l.length) : costN l[k] ≤ costL l := by
  induction l generalizing k with
  | nil => simp at h
  | cons a l ih => cases k with
    | zero => simp [costL]; omega
    | succ k => have := ih k (by simpa using h); simp [costL]; omega
theorem run_mk {P : Program} (t e : TypeId) (z : Value) (size bytes : Nat) (ht : P.underlying t = some (.slice e)) (hinfo : (P.info? e).map (fun i => (i.zero, i.size, i.bytes)) = some (some z, size, bytes))
    (kl kc : IntKind) (n : Nat) (hbytes : bytes * n ≤ 281474976710656) (h63 : n ≤ 9223372036854775807) (w : World) :
    (Instr.makeSlice t (.int kl (n : Int)) (.int kc (n : Int))).run P w = .ok (.slice (some ⟨w.heap.size, 0, none⟩) n n) (w.alloc (.cells (madeCells z.cells (n * size)) e)) := by
  obtain ⟨i, hi, hzz⟩ := Option.map_eq_some_iff.1 hinfo
  simp only [Prod.mk.injEq] at hzz
  obtain ⟨hz, hs, hb⟩ := hzz
  have hb' : (i.bytes : Int) * (n : Int) ≤ 281474976710656 := by
    have h : ((i.bytes * n : Nat) : Int) ≤ 281474976710656 := by rw [hb]; omega
    rwa [Int.natCast_mul] at h
  have hr := run_make (P := P) w t e i z ht hi hz kl kc n n (by omega) (Int.le_refl _) hb' (by omega)
  simp only [Int.toNat_natCast, hs] at hr
  exact hr
theorem info_string : (Try.prog.info? 9).map (fun i => (i.zero, i.size, i.bytes)) = some (some (.string ⟨#[]⟩), 1, 16) := by kernel_rfl
theorem info_Node : (Try.prog.info? 30).map (fun i => (i.zero, i.size, i.bytes)) = some (some (.agg #[.int .i64 0, .int .i64 0, .string ⟨#[]⟩, .slice none 0 0, .slice none 0 0]), 5, 80) := by kernel_rfl
theorem toStringS_ok (a : Option Addr) (c : Nat) (xs : List ByteArray) (w : World) (ha : StrsR w any a c xs) (hb : xs.length ≤ 1048576) :
    Calls Try.prog 70 #[.slice a xs.length c] w fun e w' => ∃ a' c' fp, e = .returned (.slice a' xs.length c') ∧ Grow w w' ∧ StrsF w' a' c' xs fp ∧ Free w.heap.size w' fp := by
  have Ha := Lib.hid ha
  clear ha
  have hmk := run_mk (P := Try.prog) 23 9 _ 1 16 Try.underlying23 info_string .i64 .i64 xs.length (by omega) (by omega)
  go_enter Try.func70, Try.ntmps70
  go_wp2
  clear hmk
  go_loopw [4] (fun i wr => ∃ k : Nat, k ≤ xs.length ∧ i = .int .i64 k ∧ Grow w wr ∧ RowIn wr w.heap.size xs.length ∧ ∀ j (h : j < xs.length), j < k → wr.cell? ⟨w.heap.size, j, none⟩ = some (.string xs[j])) (fun i _ => xs.length - (intOf i).toNat)
  case atStart => exact ⟨0, Nat.zero_le _, rfl, (Ext.refl _ _).alloc _, RowIn.made _ _ _ _, fun j h h0 => absurd h0 (by omega)⟩
  case round =>
    obtain ⟨k, hk, rfl, hg, hrow, hc⟩ := hrel
    by_cases hlt : k < xs.length
    · obtain ⟨_, _, hxs, ha4⟩ := (Ha.out).ext hg (fun _ _ h => h)
      rcases ha4 with rfl | ⟨ba, oa, rfl, _, hca⟩
      · simp at hlt
      have hx := hca k hlt
      obtain ⟨u, hu⟩ := hrow.2.1 k hlt
      have hfk := hrow.2.2 k
      have Hrow := Lib.hid hrow
      have Hc := Lib.hid hc
      have Hu := Lib.hid hu
      clear hca hrow hc
      go_wp2
      go_roundw
      case rel =>
        refine ⟨k + 1, by omega, by go_num, hg.setNew (by simp) _, Hrow.out.setCell _ _, fun j h hj => ?_⟩
        rw [cell_set Hu.out]
        by_cases e : j = k
        · subst e; simp
        · rw [if_neg (by intro h'; cases h'; exact e rfl)]; exact Hc.out j h (by omega)
      case measure => simp [intOf]; omega
    · have Ha' := (Ha.out).ext hg (fun _ _ h => h)
      have Hrow := Lib.hid hrow
      have Hc := Lib.hid hc
      clear hrow hc
      go_wp2
      go_ret
      by_cases hne : xs = []
      · subst hne
        exact ⟨_, _, [], rfl, hg, ⟨Nat.le_refl _, by simp, by simp, .inl ⟨rfl, rfl⟩⟩, Free.nil _ _⟩
      · exact ⟨_, _, [w.heap.size], rfl, hg, ⟨Nat.le_refl _, Ha'.2.1, Ha'.2.2.1, .inr ⟨_, 0, hne, rfl, rfl, fun j h => by rw [Nat.zero_add]; exact Hc.out j h (by omega)⟩⟩, Free.one Hrow.out (Nat.le_refl _)⟩
def ToOk (n : Nd) : Prop := ∀ (v : Value) (w : World), costN n ≤ 1048576 → NodeR w any n v →
    Calls Try.prog 32 #[v] w fun e w' => ∃ v' fp, e = .returned v' ∧ Grow w w' ∧ NodeO w' n v' fp ∧ Free w.heap.size w' fp
theorem toNode_of (n : Nd) (hk : ∀ (a : Option Addr) (c : Nat) (w : World), NodesR w any a c n.kids →
      Calls Try.prog 85 #[.slice a n.kids.length c] w fun e w' => ∃ a' c' fp, e = .returned (.slice a' n.kids.length c') ∧ Grow w w' ∧ NodesF w' a' c' n.kids fp ∧ Free w.heap.size w' fp) : ToOk n := by
  intro v w hcost hn
  rw [costN_eq] at hcost
  have Hk := Lib.hid hk
  have Hn := Lib.hid hn
  clear hk
  obtain ⟨na, nc, ka, kc, rfl, hc⟩ := hn
  obtain ⟨htx, hns, hks⟩ := hc.parts
  have Hns := Lib.hid hns
  have Hks := Lib.hid hks
  have Htx := Lib.hid htx
  clear hns hks hc htx
  unfold nodeV at *
  go_enter Try.func32, Try.ntmps32
  go_wp2_with fail
  refine (toStringS_ok _ _ n.names _ (Hns.out.grow (by repeat (first | with_reducible exact Ext.refl _ _ | with_reducible refine Ext.trans ?_ (by assumption) | with_reducible refine Ext.drew ?_ | with_reducible refine Ext.drewN ?_ _ | with_reducible refine Ext.alloc ?_ _ | with_reducible refine Ext.setNew ?_ (by simp; done) _ | with_reducible refine Ext.setNew ?_ (by simp; omega) _))) ?_).mono ?_
  · have : n.names.length ≤ costS n.names := by simp [costS]
    omega
  rintro e w1 ⟨a1, c1, f1, rfl, hg1, hF1, hf1⟩
  have B1 := ((Box5.new (w.alloc _) _ _ _ _ _ _).grow ((Ext.refl nil _).alloc _)).grow hg1
  have B2 := (Box5.new ((w.alloc _).alloc _) _ _ _ _ _ _).grow hg1
  have B0 := (((Box5.new w _ _ _ _ _ _).grow ((Ext.refl nil _).alloc _)).grow ((Ext.refl nil _).alloc _)).grow hg1
  simp only [World.size_alloc] at B0 B1 B2
  have hg1' : Grow w w1 := (by repeat (first | with_reducible exact Ext.refl _ _ | with_reducible refine Ext.trans ?_ (by assumption) | with_reducible refine Ext.drew ?_ | with_reducible refine Ext.drewN ?_ _ | with_reducible refine Ext.alloc ?_ _ | with_reducible refine Ext.setNew ?_ (by simp; done) _ | with_reducible refine Ext.setNew ?_ (by simp; omega) _))
  have hz : w.heap.size + 1 + 1 < w1.heap.size := B2.lt
  have HB0 := Lib.hid B0
  have HB1 := Lib.hid B1
  have HB2 := Lib.hid B2
  obtain ⟨p0, p1, p2, p3, p4, pf, pl⟩ := B0
  obtain ⟨q0, q1, q2, q3, q4, qf, ql⟩ := B2
  clear hg1
  go_wp2_with fail
  refine (Hk.out _ _ _ (Hks.out.ext (hg1'.setNew (by simp; omega) _) (fun _ _ h => h))).mono ?_
  rintro e w2 ⟨a2, c2, f2, rfl, hg2, hF2, hf2⟩
  have B1 := (HB1.out.other (p := ⟨w.heap.size + 1 + 1, 3, none⟩) (by simp) (.slice a1 n.names.length c1)).grow hg2
  have B2 := (HB2.out.set3 (.slice a1 n.names.length c1)).grow hg2
  have HB2 := Lib.hid B2
  have HB1 := Lib.hid B1
  clear p0 p1 p2 p3 p4 pf pl q0 q1 q2 q3 q4 qf ql
  obtain ⟨p0, p1, p2, p3, p4, pf, pl⟩ := B1
  obtain ⟨q0, q1, q2, q3, q4, qf, ql⟩ := B2
  go_wp2_with fail
  have BF := (((((HB1.out.other (p := ⟨w.heap.size + 1 + 1, 4, none⟩) (by simp) (.slice a2 n.kids.length c2)).set0 (.int .i64 n.kind)).set1 (.int .i64 n.num)).set2 (.string n.text)).set3 (.slice a1 n.names.length c1)).set4 (.slice a2 n.kids.length c2)
  simp only [World.size_alloc] at hf1
  rw [size_setCell] at hf2
  have x1 : ∀ b ∈ f1, ¬ (b = w.heap.size + 1 ∨ b = w.heap.size + 1 + 1) := fun b hb => by have := (hf1.2 b hb).1; omega
  have x2 : ∀ b ∈ f2, ¬ (b = w.heap.size + 1 ∨ b = w.heap.size + 1 + 1) := fun b hb => by have := (hf2.2 b hb).1; have := hg1'.size; omega
  have fin : ∀ W, Ext (fun k => k = w.heap.size + 1 ∨ k = w.heap.size + 1 + 1) w2 W → ∃ v' fp, Ending.returned (nodeV n a1 c1 a2 c2) = Ending.returned v' ∧ Grow w W ∧ NodeO W n v' fp ∧ Free w.heap.size W fp := by
    intro W hW
    have e12 : Ext (fun k => k = w.heap.size + 1 ∨ k = w.heap.size + 1 + 1) w1 w2 := Ext.trans (Ext.setIn (X := fun k => k = w.heap.size + 1 ∨ k = w.heap.size + 1 + 1) (Ext.refl _ w1) (p := ⟨w.heap.size + 1 + 1, 3, none⟩) (.inr rfl) (.slice a1 n.names.length c1)) (hg2.mono (fun _ h => False.elim h))
    have e1W := e12.trans hW
    have k1 := e1W.keeps hf1 x1
    have k2 := hW.keeps hf2 x2
    have F1 := hf1.ext e1W x1
    have F2 := hf2.ext hW x2
    refine ⟨_, f1 ++ f2, rfl, hg1'.inner e1W (by intro i hi; omega), ⟨_, _, _, _, rfl, NodeF.mk Htx.out (hF1.keep k1) (hF2.keep k2)⟩, ?_⟩
    refine ⟨List.nodup_append.2 ⟨F1.1, F2.1, fun a ha b hb e => ?_⟩, fun b hb => ?_⟩
    · subst e
      have := (hf1.2 a ha).2.1
      have := (hf2.2 a hb).1
      omega
    · rcases List.mem_append.1 hb with h | h
      · exact ⟨by have := (hf1.2 b h).1; omega, (F1.2 b h).2⟩
      · exact ⟨by have := (hf2.2 b h).1; have := hg1'.size; omega, (F2.2 b h).2⟩
  obtain ⟨r0, r1, r2, r3, r4, _, _⟩ := BF
  refine bodyPost_ret (v := nodeV n a1 c1 a2 c2) ?_ rfl ?_
  · simp [results, Try.results32, go_sem, nodeV, r0, r1, r2, r3, r4]
  · refine fin _ ?_
    exact (by repeat (first | with_reducible exact Ext.refl _ _ | with_reducible refine Ext.setIn ?_ (by simp) _ | with_reducible refine Ext.trans ?_ (Ext.mono (by assumption) (fun _ h => False.elim h))))
theorem toNodeS_of (l : List Nd) (ih : ∀ k ∈ l, ToOk k) (a : Option Addr) (c : Nat) (w : World) (hcost : costL l ≤ 1048576) (hn : NodesR w any a c l) :
    Calls Try.prog 85 #[.slice a l.length c] w fun e w' => ∃ a' c' fp, e = .returned (.slice a' l.length c') ∧ Grow w w' ∧ NodesF w' a' c' l fp ∧ Free w.heap.size w' fp := by
  have hb : l.length ≤ 1048576 := Nat.le_trans (costL_len l) hcost
  have Ih := Lib.hid ih
  have Hn := Lib.hid hn
  clear ih hn
  have hmk := run_mk (P := Try.prog) 28 30 _ 5 80 Try.underlying28 info_Node .i64 .i64 l.length (by omega) (by omega)
  go_enter Try.func85, Try.ntmps85
  go_wp2
  clear hmk
  go_loopw [4] (fun i wr => ∃ (k : Nat) (fp : List Nat), k ≤ l.length ∧ i = .int .i64 k ∧ Grow w wr ∧ RowIn wr w.heap.size (l.length * 5) ∧ KidsF wr w.heap.size 0 (l.take k) fp ∧ Free (w.heap.size + 1) wr fp) (fun i _ => l.length - (intOf i).toNat)
  case atStart => exact ⟨0, [], Nat.zero_le _, rfl, (Ext.refl _ _).alloc _, RowIn.made _ _ _ _, by simp [KidsF], Free.nil _ _⟩
  case round =>
    obtain ⟨k, fp, hk, rfl, hg, hrow, hkf, hfr⟩ := hrel
    have Hrow := Lib.hid hrow
    have Hkf := Lib.hid hkf
    have Hfr := Lib.hid hfr
    clear hrow hkf hfr
    by_cases hlt : k < l.length
    · obtain ⟨_, _, hks⟩ := (Hn.out).ext hg (fun _ _ h => h)
      rcases hks with hks | ⟨bk, ok, rfl, _, hkr⟩
      · simp [hks] at hlt
      obtain ⟨na', nc', ka', kc', c0, c1, c2, c3, c4, hkc⟩ := hkr.get k hlt
      have Hkc : Hid (NodeR wr any l[k] (nodeV l[k] na' nc' ka' kc')) := Lib.hid ⟨_, _, _, _, rfl, hkc⟩
      have hck := costL_get l k hlt
      clear hkr hkc
      go_wp2_with fail
      refine (Ih.out _ (List.getElem_mem hlt) _ _ (by omega) Hkc.out).mono ?_
      rintro e w2 ⟨v', f', rfl, hg2, hN, hf'⟩
      clear c0 c1 c2 c3 c4
      obtain ⟨na2, nc2, ka2, kc2, rfl, hN⟩ := hN
      have hrow2 := Hrow.out.ext hg2 (fun h => h)
      have hfz := hrow2.2.2
      obtain ⟨u0, d0⟩ := hrow2.2.1 (k * 5) (by omega)
      obtain ⟨u1, d1⟩ := hrow2.2.1 (k * 5 + 1) (by omega)
      obtain ⟨u2, d2⟩ := hrow2.2.1 (k * 5 + 2) (by omega)
      obtain ⟨u3, d3⟩ := hrow2.2.1 (k * 5 + 3) (by omega)
      obtain ⟨u4, d4⟩ := hrow2.2.1 (k * 5 + 4) (by omega)
      have Hrow2 := Lib.hid hrow2
      clear hrow2
      unfold nodeV
      go_wp2_with fail
      clear d0 d1 d2 d3 d4 hfz
      have hl : (l.take k).length = k := by simp; omega
      have hbf : w.heap.size ∉ fp := fun h => by have := (Hfr.out.2 _ h).1; omega
      have hbf' : w.heap.size ∉ f' := fun h => by have := (hf'.2 _ h).1; have := Hrow.out.1; omega
      have hfr2 := Hfr.out.ext hg2 (fun _ _ h => h)
      have hkf2 := Hkf.out.keep (hg2.keeps Hfr.out (fun _ _ h => h)) (fun o' _ ho => hg2.cell (p := ⟨w.heap.size, o', none⟩) Hrow.out.1 (fun h => h))
      have hlay := KidsF.lay Hrow2.out hkf2 hN (by rw [hl]; omega) hbf hbf'
      rw [hl] at hlay
      have hfr3 := Free.append Hfr.out hf' hg2 (Nat.le_refl _) (by have := Hrow.out.1; omega)
      go_roundw
      case rel => exact ⟨k + 1, fp ++ f', by omega, by go_num, Grow.inner (hg.trans hg2) (store5_ext w2 w.heap.size (k * 5) _ _ _ _ _) (by intro i hi; omega), store5_row Hrow2.out _ _ _ _ _ _, by rw [take_snoc' _ _ hlt]; exact hlay, store5_free hfr3 _ _ _ _ _ _ _⟩
      case measure => simp [intOf]; omega
    · have hke : k = l.length := by omega
      subst hke
      go_wp2
      go_ret
      rw [List.take_length] at Hkf
      by_cases hne : l = []
      · subst hne
        exact ⟨_, _, [], rfl, hg, ⟨Nat.le_refl _, by simp, .inl ⟨rfl, rfl⟩⟩, Free.nil _ _⟩
      · exact ⟨_, _, w.heap.size :: fp, rfl, hg, ⟨Nat.le_refl _, Hn.out.2.1, .inr ⟨_, 0, fp, hne, rfl, rfl, Hkf.out⟩⟩, Free.cons Hrow.out (Nat.le_refl _) Hfr.out⟩
theorem toNode_ok : ∀ n, ToOk n := by
  refine Nd.ind' ToOk ?_
  intro n ih
  intro v w hcost hn
  have hk : costL n.kids ≤ 1048576 := by rw [costN_eq] at hcost; omega
  exact toNode_of n (fun a c w h => toNodeS_of n.kids ih a c w hk h) v w hcost hn
end Go.Proofs.Ytgfnmhfdmmnaoaa
namespace Go.Proofs.Ytgfnmhfdmmnaoaa
open Go.RowKit
def szR (c : Nat) (left : Int) : Int := if (c : Int) ≤ left then left - c else -1
theorem szR_neg {c : Nat} {left : Int} (h : left < c) : szR c left = -1 := by unfold szR; rw [if_neg (by omega)]
theorem szR_pos {c : Nat} {left : Int} (h : (c : Int) ≤ left) : szR c left = left - c := by unfold szR; rw [if_pos h]
theorem sum_take_le (l : List Nat) (k : Nat) : (l.take k).sum ≤ l.sum := by
  induction l generalizing k with
  | nil => simp
  | cons a l ih => cases k with
    | zero => simp
    | succ k => have := ih k; simp only [List.take_succ_cons, List.sum_cons]; omega
def sumB (xs : List ByteArray) : Nat := (xs.map (·.size)).sum
theorem sumB_snoc (xs : List ByteArray) (x : ByteArray) : sumB (xs ++ [x]) = sumB xs + x.size := by simp [sumB]
theorem sumB_take (xs : List ByteArray) (k : Nat) : sumB (xs.take k) ≤ sumB xs := by
  unfold sumB; rw [List.map_take]; exact sum_take_le _ _
theorem costS_eq (xs : List ByteArray) : costS xs = xs.length + sumB xs := rfl
def sumN (l : List Nd) : Nat := (l.map costN).sum
theorem sumN_snoc (xs : List Nd) (x : Nd) : sumN (xs ++ [x]) = sumN xs + costN x := by simp [sumN]
theorem sumN_take (xs : List Nd) (k : Nat) : sumN (xs.take k) ≤ sumN xs := by
  unfold sumN; rw [List.map_take]; exact sum_take_le _ _
theorem costL_eq (l : List Nd) : costL l = l.length + sumN l := by
  induction l with
  | nil => simp [costL, sumN]
  | cons a l ih => simp only [costL, ih, sumN, List.map_cons, List.sum_cons, List.length_cons]; omega
theorem szStringS_ok (a : Option Addr) (c : Nat) (xs : List ByteArray) (left : Int) (w : World) (ha : StrsR w any a c xs) (h0 : 0 ≤ left) (h1 : left ≤ 1048576) :
    Calls Try.prog 66 #[.slice a xs.length c, .int .i64 left] w fun e w' => e = .returned (.int .i64 (szR (costS xs) left)) ∧ Grow w w' := by
  have hbig : xs.length ≤ 9223372036854775807 := ha.2.1
  have Ha := Lib.hid ha
  clear ha
  by_cases hl : left < (xs.length : Int)
  · have Hf := Lib.hid (szR_neg (c := costS xs) (left := left) (by rw [costS_eq]; omega))
    go_enter Try.func66, Try.ntmps66
    go_wp2
    go_ret
    exact ⟨by rw [Hf.out]; simp, Ext.refl _ _⟩
  · go_enter Try.func66, Try.ntmps66
    go_wp2
    go_loopw [1, 5] (fun t i wr => Grow w wr ∧ ∃ (k : Nat) (r : Int), k ≤ xs.length ∧ i = .int .i64 k ∧ t = .int .i64 r ∧ 0 ≤ r ∧ r ≤ 1048576 ∧ Hid (r = left - xs.length - sumB (xs.take k))) (fun _ i _ => xs.length - (intOf i).toNat)
    case atStart => exact ⟨Ext.refl _ _, 0, _, Nat.zero_le _, rfl, rfl, by omega, by omega, Lib.hid (by simp [sumB])⟩
    case round =>
      obtain ⟨hg, k, r, hk, rfl, rfl, hr0, hr1, Hr⟩ := hrel
      have hst := sumB_take xs k
      by_cases hlt : k < xs.length
      · obtain ⟨_, _, hxs, ha4⟩ := (Ha.out).ext hg (fun _ _ h => h)
        rcases ha4 with rfl | ⟨ba, oa, rfl, _, hca⟩
        · simp at hlt
        have hx := hca k hlt
        have hsz : xs[k].size ≤ 9223372036854775807 := hxs _ (List.getElem_mem hlt)
        have hst2 := sumB_take xs (k + 1)
        rw [take_snoc' _ _ hlt, sumB_snoc] at hst2
        clear hca Ha
        by_cases hneg : r < (xs[k].size : Int)
        · have Hf : Hid (szR (costS xs) left = -1) := Lib.hid (szR_neg (by rw [costS_eq]; have := Hr.out; omega))
          go_wp2
          go_ret
          exact ⟨by simp [Hf.out], hg⟩
        · go_wp2
          go_roundw
          case rel => exact ⟨hg, k + 1, _, by omega, by go_num, rfl, by omega, by omega, Lib.hid (by rw [take_snoc' _ _ hlt, sumB_snoc, Hr.out]; omega)⟩
          case measure => simp [intOf]; omega
      · have hke : k = xs.length := by omega
        have Hf : Hid (szR (costS xs) left = r) := Lib.hid (by
          have h2 := Hr.out
          rw [hke, List.take_length] at h2
          rw [szR_pos (by rw [costS_eq]; omega), costS_eq]; omega)
        have Hke := Lib.hid hke
        clear hke
        go_wp2
        go_ret
        exact ⟨by simp [Hf.out], hg⟩
def SzOk (n : Nd) : Prop := ∀ (v : Value) (left : Int) (w : World), 0 ≤ left → left ≤ 1048576 → NodeR w any n v →
    Calls Try.prog 29 #[v, .int .i64 left] w fun e w' => e = .returned (.int .i64 (szR (costN n) left)) ∧ Grow w w'
theorem szNodeS_of (l : List Nd) (ih : ∀ k ∈ l, SzOk k) (a : Option Addr) (c : Nat) (left : Int) (w : World) (hn : NodesR w any a c l) (h0 : 0 ≤ left) (h1 : left ≤ 1048576) :
    Calls Try.prog 80 #[.slice a l.length c, .int .i64 left] w fun e w' => e = .returned (.int .i64 (szR (costL l) left)) ∧ Grow w w' := by
  have hbig : l.length ≤ 9223372036854775807 := hn.2.1
  have Hn := Lib.hid hn
  have Ih := Lib.hid ih
  clear hn ih
  by_cases hl : left < (l.length : Int)
  · have Hf := Lib.hid (szR_neg (c := costL l) (left := left) (by rw [costL_eq]; omega))
    go_enter Try.func80, Try.ntmps80
    go_wp2
    go_ret
    exact ⟨by rw [Hf.out]; simp, Ext.refl _ _⟩
  · go_enter Try.func80, Try.ntmps80
    go_wp2
    go_loopw [1, 5] (fun t i wr => Grow w wr ∧ ∃ (k : Nat) (r : Int), k ≤ l.length ∧ i = .int .i64 k ∧ t = .int .i64 r ∧ 0 ≤ r ∧ r ≤ 1048576 ∧ Hid (r = left - l.length - sumN (l.take k))) (fun _ i _ => l.length - (intOf i).toNat)
    case atStart => exact ⟨Ext.refl _ _, 0, _, Nat.zero_le _, rfl, rfl, by omega, by omega, Lib.hid (by simp [sumN])⟩
    case round =>
      obtain ⟨hg, k, r, hk, rfl, rfl, hr0, hr1, Hr⟩ := hrel
      have hst := sumN_take l k
      by_cases hlt : k < l.length
      · obtain ⟨_, _, hks⟩ := (Hn.out).ext hg (fun _ _ h => h)
        rcases hks with hks | ⟨bk, ok, rfl, _, hkr⟩
        · simp [hks] at hlt
        obtain ⟨na', nc', ka', kc', c0, c1, c2, c3, c4, hkc⟩ := hkr.get k hlt
        have Hkc : Hid (NodeR wr any l[k] (nodeV l[k] na' nc' ka' kc')) := Lib.hid ⟨_, _, _, _, rfl, hkc⟩
        have hst2 := sumN_take l (k + 1)
        rw [take_snoc' _ _ hlt, sumN_snoc] at hst2
        clear hkr hkc
        by_cases hneg : r < (costN l[k] : Int)
        · have Hf : Hid (szR (costL l) left = -1) := Lib.hid (szR_neg (by rw [costL_eq]; have := Hr.out; omega))
          have Hs := Lib.hid (szR_neg hneg)
          go_wp2_with (go_at_call 29; refine (Ih.out _ (List.getElem_mem hlt) _ _ _ hr0 hr1 Hkc.out).mono ?_; rintro e w2 ⟨rfl, hg2⟩; simp only [Hs.out])
          go_ret
          exact ⟨by simp [Hf.out], hg.trans hg2⟩
        · have Hs := Lib.hid (szR_pos (c := costN l[k]) (left := r) (by omega))
          go_wp2_with (go_at_call 29; refine (Ih.out _ (List.getElem_mem hlt) _ _ _ hr0 hr1 Hkc.out).mono ?_; rintro e w2 ⟨rfl, hg2⟩; simp only [Hs.out])
          go_roundw
          case rel => exact ⟨hg.trans hg2, k + 1, _, by omega, by go_num, rfl, by omega, by omega, Lib.hid (by rw [take_snoc' _ _ hlt, sumN_snoc, Hr.out]; omega)⟩
          case measure => simp [intOf]; omega
      · have hke : k = l.length := by omega
        have Hf : Hid (szR (costL l) left = r) := Lib.hid (by
          have h2 := Hr.out
          rw [hke, List.take_length] at h2
          rw [szR_pos (by rw [costL_eq]; omega), costL_eq]; omega)
        have Hke := Lib.hid hke
        clear hke
        go_wp2
        go_ret
        exact ⟨by simp [Hf.out], hg⟩
theorem szNode_ok : ∀ n, SzOk n := by
  refine Nd.ind' SzOk ?_
  intro n ih v left w h0 h1 hn
  obtain ⟨na, nc, ka, kc, rfl, hc⟩ := hn
  obtain ⟨htx, hns, hks⟩ := hc.parts
  have htx' : n.text.size ≤ 9223372036854775807 := htx
  have Hns := Lib.hid hns
  have Hks := Lib.hid hks
  have Ih := Lib.hid ih
  have hce := costN_eq n
  have Hce := Lib.hid hce
  clear hns hks hc htx ih hce
  unfold nodeV at *
  by_cases a1 : left < (n.text.size : Int)
  · have Hf := Lib.hid (szR_neg (c := costN n) (left := left) (by have := Hce.out; omega))
    go_enter Try.func29, Try.ntmps29
    go_wp2_with fail
    go_ret
    exact ⟨by simp [Hf.out], (by repeat (first | with_reducible exact Ext.refl _ _ | with_reducible refine Ext.trans ?_ (by assumption) | with_reducible refine Ext.drew ?_ | with_reducible refine Ext.drewN ?_ _ | with_reducible refine Ext.alloc ?_ _ | with_reducible refine Ext.setNew ?_ (by simp; done) _ | with_reducible refine Ext.setNew ?_ (by simp; omega) _))⟩
  by_cases a2 : left - n.text.size < (costS n.names : Int)
  · have Hf := Lib.hid (szR_neg (c := costN n) (left := left) (by have := Hce.out; omega))
    have Hs := Lib.hid (szR_neg a2)
    go_enter Try.func29, Try.ntmps29
    go_wp2_with (go_at_call 66; refine (szStringS_ok _ _ _ _ _ (Hns.out.grow (by repeat (first | with_reducible exact Ext.refl _ _ | with_reducible refine Ext.trans ?_ (by assumption) | with_reducible refine Ext.drew ?_ | with_reducible refine Ext.drewN ?_ _ | with_reducible refine Ext.alloc ?_ _ | with_reducible refine Ext.setNew ?_ (by simp; done) _ | with_reducible refine Ext.setNew ?_ (by simp; omega) _))) (by omega) (by omega)).mono ?_; rintro e w2 ⟨rfl, hg2⟩; simp only [Hs.out])
    go_ret
    exact ⟨by simp [Hf.out], (by repeat (first | with_reducible exact Ext.refl _ _ | with_reducible refine Ext.trans ?_ (by assumption) | with_reducible refine Ext.drew ?_ | with_reducible refine Ext.drewN ?_ _ | with_reducible refine Ext.alloc ?_ _ | with_reducible refine Ext.setNew ?_ (by simp; done) _ | with_reducible refine Ext.setNew ?_ (by simp; omega) _))⟩
  have Hs := Lib.hid (szR_pos (c := costS n.names) (left := left - n.text.size) (by omega))
  by_cases a3 : left - n.text.size - costS n.names < (costL n.kids : Int)
  · have Hf := Lib.hid (szR_neg (c := costN n) (left := left) (by have := Hce.out; omega))
    have Hs2 := Lib.hid (szR_neg a3)
    go_enter Try.func29, Try.ntmps29
    go_wp2_with (first | (go_at_call 66; refine (szStringS_ok _ _ _ _ _ (Hns.out.grow (by repeat (first | with_reducible exact Ext.refl _ _ | with_reducible refine Ext.trans ?_ (by assumption) | with_reducible refine Ext.drew ?_ | with_reducible refine Ext.drewN ?_ _ | with_reducible refine Ext.alloc ?_ _ | with_reducible refine Ext.setNew ?_ (by simp; done) _ | with_reducible refine Ext.setNew ?_ (by simp; omega) _))) (by omega) (by omega)).mono ?_; rintro e w2 ⟨rfl, hg2⟩; simp only [Hs.out]; have hcc := bcell hg2) | (go_at_call 80; refine (szNodeS_of _ Ih.out _ _ _ _ (Hks.out.grow (by repeat (first | with_reducible exact Ext.refl _ _ | with_reducible refine Ext.trans ?_ (by assumption) | with_reducible refine Ext.drew ?_ | with_reducible refine Ext.drewN ?_ _ | with_reducible refine Ext.alloc ?_ _ | with_reducible refine Ext.setNew ?_ (by simp; done) _ | with_reducible refine Ext.setNew ?_ (by simp; omega) _))) (by omega) (by omega)).mono ?_; rintro e w3 ⟨rfl, hg3⟩; simp only [Hs2.out]))
    go_ret
    exact ⟨by simp [Hf.out], (by repeat (first | with_reducible exact Ext.refl _ _ | with_reducible refine Ext.trans ?_ (by assumption) | with_reducible refine Ext.drew ?_ | with_reducible refine Ext.drewN ?_ _ | with_reducible refine Ext.alloc ?_ _ | with_reducible refine Ext.setNew ?_ (by simp; done) _ | with_reducible refine Ext.setNew ?_ (by simp; omega) _))⟩
  · have Hf := Lib.hid (szR_pos (c := costN n) (left := left) (by have := Hce.out; omega))
    have Hs2 := Lib.hid (szR_pos (c := costL n.kids) (left := left - n.text.size - costS n.names) (by omega))
    go_enter Try.func29, Try.ntmps29
    go_wp2_with (first | (go_at_call 66; refine (szStringS_ok _ _ _ _ _ (Hns.out.grow (by repeat (first | with_reducible exact Ext.refl _ _ | with_reducible refine Ext.trans ?_ (by assumption) | with_reducible refine Ext.drew ?_ | with_reducible refine Ext.drewN ?_ _ | with_reducible refine Ext.alloc ?_ _ | with_reducible refine Ext.setNew ?_ (by simp; done) _ | with_reducible refine Ext.setNew ?_ (by simp; omega) _))) (by omega) (by omega)).mono ?_; rintro e w2 ⟨rfl, hg2⟩; simp only [Hs.out]; have hcc := bcell hg2) | (go_at_call 80; refine (szNodeS_of _ Ih.out _ _ _ _ (Hks.out.grow (by repeat (first | with_reducible exact Ext.refl _ _ | with_reducible refine Ext.trans ?_ (by assumption) | with_reducible refine Ext.drew ?_ | with_reducible refine Ext.drewN ?_ _ | with_reducible refine Ext.alloc ?_ _ | with_reducible refine Ext.setNew ?_ (by simp; done) _ | with_reducible refine Ext.setNew ?_ (by simp; omega) _))) (by omega) (by omega)).mono ?_; rintro e w3 ⟨rfl, hg3⟩; simp only [Hs2.out]))
    go_ret
    exact ⟨by have h1 := Hf.out; have h2 := Hce.out; rw [h1]; simp; omega, (by repeat (first | with_reducible exact Ext.refl _ _ | with_reducible refine Ext.trans ?_ (by assumption) | with_reducible refine Ext.drew ?_ | with_reducible refine Ext.drewN ?_ _ | with_reducible refine Ext.alloc ?_ _ | with_reducible refine Ext.setNew ?_ (by simp; done) _ | with_reducible refine Ext.setNew ?_ (by simp; omega) _))⟩
end Go.Proofs.Ytgfnmhfdmmnaoaa
namespace Go.Proofs.Ytgfnmhfdmmnaoaa
open Go Go.RowKit
structure Later (w : World) : Type where
  at' : World
  grown : Grow w at'
def later (w : World) (x : Later w) : World := x.at'
instance later_some (w : World) : Nonempty (Later w) := ⟨⟨w, Ext.refl _ _⟩⟩
theorem later_grow (w : World) (x : Later w) : Grow w (later w x) := x.grown
@[go_sem] theorem later_cell (w : World) (x : Later w) (a : Addr) (h : (w.cell? a).isSome = true) : (later w x).cell? a = w.cell? a := by
  obtain ⟨v, hv⟩ := Option.isSome_iff_exists.1 h
  rw [hv]; exact (later_grow w x).some hv
theorem wp_region_later {P : Program} {id : Nat} {Q : Exit → Act → World → Prop} {a : Act} {w : World} {l : List Oper} (hm : P.follows .mixedOrders = true) (hB : Region.lexB .any l.toArray = true)
    (h : wpQuiet P l.toArray (fun w' => ∃ x, w' = later w x) (fun a' => ∀ w', (∃ x, w' = later w x) → Q .normal a' w') l a) : (Code.region id l.toArray true).wp P Q a w :=
  wp_region_quiet (C := fun w' => ∃ x, w' = later w x) hm hB ⟨⟨w.drew, (Ext.refl _ _).drew⟩, rfl⟩ (by simpa using h)
theorem later_call {P : Program} {f : FuncId} {args : Array Value} {w : World} {x : Later w} {v : Value}
    (h : Calls P f args (later w x) fun e w' => e = .returned v ∧ Grow (later w x) w') : Calls P f args (later w x) fun e w'' => e = .returned v ∧ ∃ y, w'' = later w y :=
  h.mono fun _ w' ⟨he, hg⟩ => ⟨he, ⟨w', (later_grow w x).trans hg⟩, rfl⟩
end Go.Proofs.Ytgfnmhfdmmnaoaa
namespace Go.Proofs.Ytgfnmhfdmmnaoaa
open Go.RowKit
mutual
def eqN : Nd → Nd → Bool
  | ⟨k, n, t, ns, ks⟩, m => decide (k = m.kind) && decide (n = m.num) && decide (t = m.text) && decide (ns = m.names) && eqL ks m.kids
def eqL : List Nd → List Nd → Bool
  | [], [] => true
  | a :: l, b :: m => eqN a b && eqL l m
  | _, _ => false
end
mutual
theorem eqN_iff : ∀ a b : Nd, eqN a b = true ↔ a = b
  | ⟨k, n, t, ns, ks⟩, ⟨k', n', t', ns', ks'⟩ => by
    simp only [eqN, Bool.and_eq_true, decide_eq_true_eq, eqL_iff ks ks', Nd.mk.injEq]
    constructor
    · rintro ⟨⟨⟨⟨a, b⟩, c⟩, d⟩, e⟩; exact ⟨a, b, c, d, e⟩
    · rintro ⟨a, b, c, d, e⟩; exact ⟨⟨⟨⟨a, b⟩, c⟩, d⟩, e⟩
theorem eqL_iff : ∀ a b : List Nd, eqL a b = true ↔ a = b
  | [], [] => by simp [eqL]
  | [], _ :: _ => by simp [eqL]
  | _ :: _, [] => by simp [eqL]
  | a :: l, b :: m => by simp only [eqL, Bool.and_eq_true, eqN_iff a b, eqL_iff l m, List.cons.injEq]
end
theorem eqN_eq (a b : Nd) : eqN a b = (decide (a.kind = b.kind) && decide (a.num = b.num) && decide (a.text = b.text) && decide (a.names = b.names) && eqL a.kids b.kids) := by cases a; simp [eqN]
theorem eqN_refl (a : Nd) : eqN a a = true := (eqN_iff a a).2 rfl
theorem eqL_len {a b : List Nd} (h : a.length ≠ b.length) : eqL a b = false := by
  cases h' : eqL a b
  · rfl
  · exact absurd (congrArg List.length ((eqL_iff a b).1 h')) h
def eqS (xs ys : List ByteArray) : Bool := decide (xs = ys)
theorem eqS_cons (x y : ByteArray) (xs ys : List ByteArray) : eqS (x :: xs) (y :: ys) = ((x.toList == y.toList) && eqS xs ys) := by
  rw [beq_toList]; unfold eqS; by_cases h : x = y <;> simp [h]
theorem eqStringS_ok (a b : Option Addr) (c d : Nat) (xs ys : List ByteArray) (w : World) (ha : StrsR w any a c xs) (hb : StrsR w any b d ys) :
    Calls Try.prog 43 #[.slice a xs.length c, .slice b ys.length d] w fun e w' => e = .returned (.bool (eqS xs ys)) ∧ Grow w w' := by
  have hbig : xs.length ≤ 9223372036854775807 := ha.2.1
  have Ha := Lib.hid ha
  have Hb := Lib.hid hb
  clear ha hb
  by_cases hl : xs.length = ys.length
  · have hlb : ((xs.length : Int) != (ys.length : Int)) = false := by simp [hl]
    have Hl := Lib.hid hl
    clear hl
    go_enter Try.func43, Try.ntmps43
    go_wp2
    go_loopw [4, 5] (fun n i wr => n = .bool false ∧ Grow w wr ∧ ∃ k : Nat, k ≤ xs.length ∧ i = .int .i64 k ∧ Hid (eqS xs ys = eqS (xs.drop k) (ys.drop k))) (fun _ i _ => xs.length - (intOf i).toNat)
    case atStart => exact ⟨rfl, Ext.refl _ _, 0, Nat.zero_le _, rfl, Lib.hid rfl⟩
    case round =>
      obtain ⟨rfl, hg, k, hk, rfl, Hr⟩ := hrel
      by_cases hlt : k < xs.length
      · have hlt' : k < ys.length := by have := Hl.out; omega
        obtain ⟨_, _, _, ha4⟩ := (Ha.out).grow hg
        obtain ⟨_, _, _, hb4⟩ := (Hb.out).grow hg
        rcases ha4 with rfl | ⟨ba, oa, rfl, _, hca⟩
        · simp at hlt
        rcases hb4 with rfl | ⟨bb, ob, rfl, _, hcb⟩
        · simp at hlt'
        have hx := hca k hlt
        have hy := hcb k hlt'
        have Hs : Hid (eqS (xs.drop k) (ys.drop k) = ((xs[k].toList == ys[k].toList) && eqS (xs.drop (k + 1)) (ys.drop (k + 1)))) := Lib.hid (by rw [drop_cons xs k hlt, drop_cons ys k hlt', eqS_cons])
        clear hca hcb Ha Hb
        cases he : (xs[k].toList == ys[k].toList)
        · go_wp2
          go_quiet (fail)
          go_wp2
          go_ret
          exact ⟨by simp [Hr.out, Hs.out, he], hg.drewN _⟩
        · go_wp2
          go_quiet (fail)
          go_wp2
          go_roundw
          case rel => exact ⟨rfl, hg.drewN _, k + 1, by omega, by go_num, Lib.hid (by rw [Hr.out, Hs.out, he, Bool.true_and])⟩
          case measure => simp [intOf]; omega
      · have Hs : Hid (eqS xs ys = true) := Lib.hid (by rw [Hr.out, List.drop_eq_nil_of_le (by omega), List.drop_eq_nil_of_le (by have := Hl.out; omega)]; rfl)
        go_wp2
        go_ret
        exact ⟨by simp [Hs.out], hg⟩
  · have hlb : ((xs.length : Int) != (ys.length : Int)) = true := by simp; omega
    have Hf : Hid (eqS xs ys = false) := Lib.hid (by unfold eqS; simp; exact fun h => hl (by rw [h]))
    clear hl
    go_enter Try.func43, Try.ntmps43
    go_wp2
    go_ret
    exact ⟨by simp [Hf.out], Ext.refl _ _⟩
def EqOk (n : Nd) : Prop := ∀ (m : Nd) (v u : Value) (w : World), NodeR w any n v → NodeR w any m u →
    Calls Try.prog 23 #[v, u] w fun e w' => e = .returned (.bool (eqN n m)) ∧ Grow w w'
theorem eqNodeS_of (l m : List Nd) (ih : ∀ k ∈ l, EqOk k) (a b : Option Addr) (c d : Nat) (w : World) (ha : NodesR w any a c l) (hb : NodesR w any b d m) :
    Calls Try.prog 76 #[.slice a l.length c, .slice b m.length d] w fun e w' => e = .returned (.bool (eqL l m)) ∧ Grow w w' := by
  have hbig : l.length ≤ 9223372036854775807 := ha.2.1
  have Ha := Lib.hid ha
  have Hb := Lib.hid hb
  have Ih := Lib.hid ih
  clear ha hb ih
  by_cases hl : l.length = m.length
  · have hlb : ((l.length : Int) != (m.length : Int)) = false := by simp [hl]
    have Hl := Lib.hid hl
    clear hl
    go_enter Try.func76, Try.ntmps76
    go_wp2
    go_loopw [4, 5] (fun n i wr => n = .bool false ∧ Grow w wr ∧ ∃ k : Nat, k ≤ l.length ∧ i = .int .i64 k ∧ Hid (eqL l m = eqL (l.drop k) (m.drop k))) (fun _ i _ => l.length - (intOf i).toNat)
    case atStart => exact ⟨rfl, Ext.refl _ _, 0, Nat.zero_le _, rfl, Lib.hid rfl⟩
    case round =>
      obtain ⟨rfl, hg, k, hk, rfl, Hr⟩ := hrel
      by_cases hlt : k < l.length
      · have hlt' : k < m.length := by have := Hl.out; omega
        obtain ⟨_, _, ha4⟩ := (Ha.out).grow hg
        obtain ⟨_, _, hb4⟩ := (Hb.out).grow hg
        rcases ha4 with rfl | ⟨ba, oa, rfl, _, hca⟩
        · simp at hlt
        rcases hb4 with rfl | ⟨bb, ob, rfl, _, hcb⟩
        · simp at hlt'
        obtain ⟨na, nc, ka, kc, a0, a1, a2, a3, a4, hkc⟩ := hca.get k hlt
        obtain ⟨na', nc', ka', kc', b0, b1, b2, b3, b4, hkc'⟩ := hcb.get k hlt'
        have Hx : Hid (NodeR wr any l[k] (nodeV l[k] na nc ka kc)) := Lib.hid ⟨_, _, _, _, rfl, hkc⟩
        have Hy : Hid (NodeR wr any m[k] (nodeV m[k] na' nc' ka' kc')) := Lib.hid ⟨_, _, _, _, rfl, hkc'⟩
        have Hs : Hid (eqL (l.drop k) (m.drop k) = (eqN l[k] m[k] && eqL (l.drop (k + 1)) (m.drop (k + 1)))) := Lib.hid (by rw [drop_cons l k hlt, drop_cons m k hlt', eqL])
        clear hca hcb Ha Hb hkc hkc'
        cases he : eqN l[k] m[k]
        · have He := Lib.hid he
          go_wp2
          (refine wp_region_later (by kernel_rfl) (by kernel_rfl) ?_; (repeat (first | go_big_quiet_step ((go_at_call 23; exact later_call (Ih.out _ (List.getElem_mem hlt) _ _ _ _ (Hx.out.grow (later_grow _ _)) (Hy.out.grow (later_grow _ _))))) | quiet_step ((go_at_call 23; exact later_call (Ih.out _ (List.getElem_mem hlt) _ _ _ _ (Hx.out.grow (later_grow _ _)) (Hy.out.grow (later_grow _ _))))))); refine wpQuiet_nil ?_; rintro _ ⟨x_w2, rfl⟩; have hg_w2 := later_grow wr x_w2; generalize later wr x_w2 = w2 at hg_w2 ⊢)
          go_wp2
          go_ret
          exact ⟨by simp [Hr.out, Hs.out, He.out], hg.trans hg_w2⟩
        · have He := Lib.hid he
          go_wp2
          (refine wp_region_later (by kernel_rfl) (by kernel_rfl) ?_; (repeat (first | go_big_quiet_step ((go_at_call 23; exact later_call (Ih.out _ (List.getElem_mem hlt) _ _ _ _ (Hx.out.grow (later_grow _ _)) (Hy.out.grow (later_grow _ _))))) | quiet_step ((go_at_call 23; exact later_call (Ih.out _ (List.getElem_mem hlt) _ _ _ _ (Hx.out.grow (later_grow _ _)) (Hy.out.grow (later_grow _ _))))))); refine wpQuiet_nil ?_; rintro _ ⟨x_w2, rfl⟩; have hg_w2 := later_grow wr x_w2; generalize later wr x_w2 = w2 at hg_w2 ⊢)
          go_wp2
          go_roundw
          case rel => exact ⟨rfl, hg.trans hg_w2, k + 1, by omega, by go_num, Lib.hid (by rw [Hr.out, Hs.out, He.out, Bool.true_and])⟩
          case measure => simp [intOf]; omega
      · have Hs : Hid (eqL l m = true) := Lib.hid (by rw [Hr.out, List.drop_eq_nil_of_le (by omega), List.drop_eq_nil_of_le (by have := Hl.out; omega)]; rfl)
        go_wp2
        go_ret
        exact ⟨by simp [Hs.out], hg⟩
  · have hlb : ((l.length : Int) != (m.length : Int)) = true := by simp; omega
    have Hf := Lib.hid (eqL_len hl)
    clear hl
    go_enter Try.func76, Try.ntmps76
    go_wp2
    go_ret
    exact ⟨by simp [Hf.out], Ext.refl _ _⟩
theorem eqN_kind {a b : Nd} (h : ¬ a.kind = b.kind) : eqN a b = false := by rw [eqN_eq]; simp [h]
theorem eqN_num {a b : Nd} (h : ¬ a.num = b.num) : eqN a b = false := by rw [eqN_eq]; simp [h]
theorem eqN_text {a b : Nd} (h : ¬ a.text = b.text) : eqN a b = false := by rw [eqN_eq]; simp [h]
theorem eqN_names {a b : Nd} (h : eqS a.names b.names = false) : eqN a b = false := by rw [eqN_eq]; unfold eqS at h; simp [of_decide_eq_false h]
theorem eqN_kids {a b : Nd} (h : eqL a.kids b.kids = false) : eqN a b = false := by rw [eqN_eq]; simp [h]
theorem eqN_all {a b : Nd} (h1 : a.kind = b.kind) (h2 : a.num = b.num) (h3 : a.text = b.text) (h4 : eqS a.names b.names = true) (h5 : eqL a.kids b.kids = true) : eqN a b = true := by
  rw [eqN_eq]; unfold eqS at h4; simp [h1, h2, h3, of_decide_eq_true h4, h5]
theorem eqNode_ok : ∀ n, EqOk n := by
  refine Nd.ind' EqOk ?_
  intro n ih m v u w hn hm
  have Ih := Lib.hid ih
  obtain ⟨na, nc, ka, kc, rfl, hc⟩ := hn
  obtain ⟨_, hns, hks⟩ := hc.parts
  obtain ⟨na', nc', ka', kc', rfl, hc'⟩ := hm
  obtain ⟨_, hns', hks'⟩ := hc'.parts
  have Hns := Lib.hid hns
  have Hks := Lib.hid hks
  have Hns' := Lib.hid hns'
  have Hks' := Lib.hid hks'
  clear ih hc hns hks hc' hns' hks'
  unfold nodeV at *
  by_cases h1 : n.kind = m.kind
  rotate_left
  · have Hf := Lib.hid (eqN_kind h1)
    have hb1 : (n.kind != m.kind) = true := by simpa using h1
    clear h1
    go_enter Try.func23, Try.ntmps23
    go_wp2_with fail
    go_ret
    exact ⟨by simp [Hf.out], (by repeat (first | with_reducible exact Ext.refl _ _ | with_reducible refine Ext.trans ?_ (by assumption) | with_reducible refine Ext.drew ?_ | with_reducible refine Ext.drewN ?_ _ | with_reducible refine Ext.alloc ?_ _ | with_reducible refine Ext.setNew ?_ (by simp; done) _ | with_reducible refine Ext.setNew ?_ (by simp; omega) _))⟩
  by_cases h2 : n.num = m.num
  rotate_left
  · have Hf := Lib.hid (eqN_num h2)
    have hb1 : (n.kind != m.kind) = false := by simp [h1]
    have hb2 : (n.num != m.num) = true := by simpa using h2
    clear h1 h2
    go_enter Try.func23, Try.ntmps23
    go_wp2_with fail
    go_ret
    exact ⟨by simp [Hf.out], (by repeat (first | with_reducible exact Ext.refl _ _ | with_reducible refine Ext.trans ?_ (by assumption) | with_reducible refine Ext.drew ?_ | with_reducible refine Ext.drewN ?_ _ | with_reducible refine Ext.alloc ?_ _ | with_reducible refine Ext.setNew ?_ (by simp; done) _ | with_reducible refine Ext.setNew ?_ (by simp; omega) _))⟩
  have hb1 : (n.kind != m.kind) = false := by simp [h1]
  have hb2 : (n.num != m.num) = false := by simp [h2]
  by_cases h3 : n.text = m.text
  rotate_left
  · have Hf := Lib.hid (eqN_text h3)
    have hb3 : (n.text.toList == m.text.toList) = false := by rw [beq_toList]; simp [h3]
    clear h1 h2 h3
    go_enter Try.func23, Try.ntmps23
    go_wp2_with fail
    go_ret
    exact ⟨by simp [Hf.out], (by repeat (first | with_reducible exact Ext.refl _ _ | with_reducible refine Ext.trans ?_ (by assumption) | with_reducible refine Ext.drew ?_ | with_reducible refine Ext.drewN ?_ _ | with_reducible refine Ext.alloc ?_ _ | with_reducible refine Ext.setNew ?_ (by simp; done) _ | with_reducible refine Ext.setNew ?_ (by simp; omega) _))⟩
  have hb3 : (n.text.toList == m.text.toList) = true := by rw [beq_toList]; simp [h3]
  cases h4 : eqS n.names m.names
  · have Hf := Lib.hid (eqN_names h4)
    have H4 := Lib.hid h4
    clear h1 h2 h3 h4
    go_enter Try.func23, Try.ntmps23
    go_wp2_with (go_at_call 43; refine (eqStringS_ok _ _ _ _ _ _ _ (Hns.out.grow (by repeat (first | with_reducible exact Ext.refl _ _ | with_reducible refine Ext.trans ?_ (by assumption) | with_reducible refine Ext.drew ?_ | with_reducible refine Ext.drewN ?_ _ | with_reducible refine Ext.alloc ?_ _ | with_reducible refine Ext.setNew ?_ (by simp; done) _ | with_reducible refine Ext.setNew ?_ (by simp; omega) _))) (Hns'.out.grow (by repeat (first | with_reducible exact Ext.refl _ _ | with_reducible refine Ext.trans ?_ (by assumption) | with_reducible refine Ext.drew ?_ | with_reducible refine Ext.drewN ?_ _ | with_reducible refine Ext.alloc ?_ _ | with_reducible refine Ext.setNew ?_ (by simp; done) _ | with_reducible refine Ext.setNew ?_ (by simp; omega) _)))).mono ?_; rintro e w2 ⟨rfl, hg2⟩; simp only [H4.out])
    go_ret
    exact ⟨by simp [Hf.out], (by repeat (first | with_reducible exact Ext.refl _ _ | with_reducible refine Ext.trans ?_ (by assumption) | with_reducible refine Ext.drew ?_ | with_reducible refine Ext.drewN ?_ _ | with_reducible refine Ext.alloc ?_ _ | with_reducible refine Ext.setNew ?_ (by simp; done) _ | with_reducible refine Ext.setNew ?_ (by simp; omega) _))⟩
  have H4 := Lib.hid h4
  cases h5 : eqL n.kids m.kids
  · have Hf := Lib.hid (eqN_kids h5)
    have H5 := Lib.hid h5
    clear h1 h2 h3 h4 h5
    go_enter Try.func23, Try.ntmps23
    go_wp2_with (first | (go_at_call 43; refine (eqStringS_ok _ _ _ _ _ _ _ (Hns.out.grow (by repeat (first | with_reducible exact Ext.refl _ _ | with_reducible refine Ext.trans ?_ (by assumption) | with_reducible refine Ext.drew ?_ | with_reducible refine Ext.drewN ?_ _ | with_reducible refine Ext.alloc ?_ _ | with_reducible refine Ext.setNew ?_ (by simp; done) _ | with_reducible refine Ext.setNew ?_ (by simp; omega) _))) (Hns'.out.grow (by repeat (first | with_reducible exact Ext.refl _ _ | with_reducible refine Ext.trans ?_ (by assumption) | with_reducible refine Ext.drew ?_ | with_reducible refine Ext.drewN ?_ _ | with_reducible refine Ext.alloc ?_ _ | with_reducible refine Ext.setNew ?_ (by simp; done) _ | with_reducible refine Ext.setNew ?_ (by simp; omega) _)))).mono ?_; rintro e w2 ⟨rfl, hg2⟩; simp only [H4.out]; have hcc := bcell hg2) | (go_at_call 76; refine (eqNodeS_of _ _ Ih.out _ _ _ _ _ (Hks.out.grow (by repeat (first | with_reducible exact Ext.refl _ _ | with_reducible refine Ext.trans ?_ (by assumption) | with_reducible refine Ext.drew ?_ | with_reducible refine Ext.drewN ?_ _ | with_reducible refine Ext.alloc ?_ _ | with_reducible refine Ext.setNew ?_ (by simp; done) _ | with_reducible refine Ext.setNew ?_ (by simp; omega) _))) (Hks'.out.grow (by repeat (first | with_reducible exact Ext.refl _ _ | with_reducible refine Ext.trans ?_ (by assumption) | with_reducible refine Ext.drew ?_ | with_reducible refine Ext.drewN ?_ _ | with_reducible refine Ext.alloc ?_ _ | with_reducible refine Ext.setNew ?_ (by simp; done) _ | with_reducible refine Ext.setNew ?_ (by simp; omega) _)))).mono ?_; rintro e w3 ⟨rfl, hg3⟩; simp only [H5.out]))
    go_ret
    exact ⟨by simp [Hf.out], (by repeat (first | with_reducible exact Ext.refl _ _ | with_reducible refine Ext.trans ?_ (by assumption) | with_reducible refine Ext.drew ?_ | with_reducible refine Ext.drewN ?_ _ | with_reducible refine Ext.alloc ?_ _ | with_reducible refine Ext.setNew ?_ (by simp; done) _ | with_reducible refine Ext.setNew ?_ (by simp; omega) _))⟩
  · have Hf := Lib.hid (eqN_all h1 h2 h3 h4 h5)
    have H5 := Lib.hid h5
    clear h1 h2 h3 h4 h5
    go_enter Try.func23, Try.ntmps23
    go_wp2_with (first | (go_at_call 43; refine (eqStringS_ok _ _ _ _ _ _ _ (Hns.out.grow (by repeat (first | with_reducible exact Ext.refl _ _ | with_reducible refine Ext.trans ?_ (by assumption) | with_reducible refine Ext.drew ?_ | with_reducible refine Ext.drewN ?_ _ | with_reducible refine Ext.alloc ?_ _ | with_reducible refine Ext.setNew ?_ (by simp; done) _ | with_reducible refine Ext.setNew ?_ (by simp; omega) _))) (Hns'.out.grow (by repeat (first | with_reducible exact Ext.refl _ _ | with_reducible refine Ext.trans ?_ (by assumption) | with_reducible refine Ext.drew ?_ | with_reducible refine Ext.drewN ?_ _ | with_reducible refine Ext.alloc ?_ _ | with_reducible refine Ext.setNew ?_ (by simp; done) _ | with_reducible refine Ext.setNew ?_ (by simp; omega) _)))).mono ?_; rintro e w2 ⟨rfl, hg2⟩; simp only [H4.out]; have hcc := bcell hg2) | (go_at_call 76; refine (eqNodeS_of _ _ Ih.out _ _ _ _ _ (Hks.out.grow (by repeat (first | with_reducible exact Ext.refl _ _ | with_reducible refine Ext.trans ?_ (by assumption) | with_reducible refine Ext.drew ?_ | with_reducible refine Ext.drewN ?_ _ | with_reducible refine Ext.alloc ?_ _ | with_reducible refine Ext.setNew ?_ (by simp; done) _ | with_reducible refine Ext.setNew ?_ (by simp; omega) _))) (Hks'.out.grow (by repeat (first | with_reducible exact Ext.refl _ _ | with_reducible refine Ext.trans ?_ (by assumption) | with_reducible refine Ext.drew ?_ | with_reducible refine Ext.drewN ?_ _ | with_reducible refine Ext.alloc ?_ _ | with_reducible refine Ext.setNew ?_ (by simp; done) _ | with_reducible refine Ext.setNew ?_ (by simp; omega) _)))).mono ?_; rintro e w3 ⟨rfl, hg3⟩; simp only [H5.out]))
    go_ret
    exact ⟨by simp [Hf.out], (by repeat (first | with_reducible exact Ext.refl _ _ | with_reducible refine Ext.trans ?_ (by assumption) | with_reducible refine Ext.drew ?_ | with_reducible refine Ext.drewN ?_ _ | with_reducible refine Ext.alloc ?_ _ | with_reducible refine Ext.setNew ?_ (by simp; done) _ | with_reducible refine Ext.setNew ?_ (by simp; omega) _))⟩
end Go.Proofs.Ytgfnmhfdmmnaoaa
namespace Go.Proofs.Ytgfnmhfdmmnaoaa
open Go.RowKit
structure RdR (w : World) (rb : Nat) (zs : List Int) (p : Nat) : Prop where
  cells : ∃ a c, w.cell? ⟨rb, 0, none⟩ = some (.slice a zs.length c) ∧ (zs = [] ∨ ∃ b o, a = some ⟨b, o, none⟩ ∧ b ≠ rb ∧ ∀ i (h : i < zs.length), w.cell? ⟨b, o + i, none⟩ = some (.int .u8 zs[i]))
  at' : w.cell? ⟨rb, 1, none⟩ = some (.int .i64 p)
  fr : ∀ o, w.frozen? ⟨rb, o, none⟩ = false
  lt : rb < w.heap.size
  len : zs.length ≤ 2000
  wf : ∀ z ∈ zs, 0 ≤ z ∧ z ≤ 255
theorem RdR.grow {w w' : World} {rb : Nat} {zs : List Int} {p : Nat} (h : RdR w rb zs p) (hg : Grow w w') : RdR w' rb zs p := by
  obtain ⟨⟨a, c, h0, h1⟩, h2, h3, h4, h5, h6⟩ := h
  refine ⟨⟨a, c, hg.some h0, h1.imp id ?_⟩, hg.some h2, fun o => by rw [hg.frozen (p := ⟨rb, o, none⟩) h4 (fun h => h)]; exact h3 o, Nat.lt_of_lt_of_le h4 hg.size, h5, h6⟩
  rintro ⟨b, o, ha, hb, hc⟩
  exact ⟨b, o, ha, hb, fun i hi => hg.some (hc i hi)⟩
theorem RdR.step {w : World} {rb : Nat} {zs : List Int} {p q : Nat} (h : RdR w rb zs p) : RdR (w.setCell ⟨rb, 1, none⟩ (.int .i64 q)) rb zs q := by
  obtain ⟨⟨a, c, h0, h1⟩, h2, h3, h4, h5, h6⟩ := h
  refine ⟨⟨a, c, by rw [cell_set h2, if_neg (by simp)]; exact h0, h1.imp id ?_⟩, by rw [cell_set h2, if_pos rfl], fun o => by rw [World.frozen?_setCell]; exact h3 o, by rw [size_setCell]; exact h4, h5, h6⟩
  rintro ⟨b, o, ha, hb, hc⟩
  exact ⟨b, o, ha, hb, fun i hi => by rw [cell_set h2, if_neg (by intro e; exact hb (congrArg Addr.block e))]; exact hc i hi⟩
abbrev Rd (rb : Nat) (w w' : World) : Prop := Ext (fun k => k = rb) w w'
theorem xor_i64 (a b : Nat) (ha : a < 2 ^ 40) (hb : b < 2 ^ 40) : bits .xor .i64 (a : Int) (b : Int) = ((a ^^^ b : Nat) : Int) := by
  have hx : a ^^^ b < 2 ^ 40 := Nat.xor_lt_two_pow ha hb
  have h1 : (BitVec.ofInt 64 (a : Int)).toNat = a := by
    rw [BitVec.ofInt_natCast, BitVec.toNat_ofNat]; exact Nat.mod_eq_of_lt (by omega)
  have h2 : (BitVec.ofInt 64 (b : Int)).toNat = b := by
    rw [BitVec.ofInt_natCast, BitVec.toNat_ofNat]; exact Nat.mod_eq_of_lt (by omega)
  show IntKind.i64.wrap ((BitVec.ofInt 64 (a : Int) ^^^ BitVec.ofInt 64 (b : Int)).toNat : Int) = _
  rw [BitVec.toNat_xor, h1, h2]
  exact IntWalk.i64_in _ (by omega)
theorem xor_nonneg (X : Int) (h0 : 0 ≤ X) (h1 : X ≤ 1000000000) : 0 ≤ bits .xor .i64 X (X / 64) := by
  obtain ⟨n, rfl⟩ := Int.eq_ofNat_of_zero_le h0
  have d : ((n : Int) / 64) = ((n / 64 : Nat) : Int) := by simp
  rw [d, xor_i64 _ _ (by omega) (by omega)]
  omega
def Same0 (rb : Nat) (w w' : World) : Prop := w'.cell? ⟨rb, 0, none⟩ = w.cell? ⟨rb, 0, none⟩
def Below' (n v : Int) : Prop := (1 ≤ n → 0 ≤ v ∧ v < n) ∧ (n ≤ 0 → v = 0)
theorem pick_ok (rb : Nat) (zs : List Int) (p : Nat) (n : Int) (w : World) (hr : RdR w rb zs p) (hp : p ≤ 1000000) (hn : n ≤ 1000000) (hn' : -1000000 ≤ n) :
    Calls Try.prog 122 #[.pointer (some ⟨rb, 0, none⟩), .int .i64 n] w fun e w' => ∃ v, e = .returned (.int .i64 v) ∧ Below' n v ∧ Rd rb w w' ∧ RdR w' rb zs (p + 1) ∧ Same0 rb w w' := by
  obtain ⟨⟨a, c, h0, h1⟩, h2, h3, h4, h5, h6⟩ := hr
  have Hr : Hid (RdR w rb zs p) := Lib.hid ⟨⟨a, c, h0, h1⟩, h2, h3, h4, h5, h6⟩
  have H1 := Lib.hid h1
  have H6 := Lib.hid h6
  have h31 := h3 1
  have e1 : Hid (((p : Int) + 1) = ((p + 1 : Nat) : Int)) := Lib.hid (by omega)
  have fin : ∀ w', w' = w.setCell ⟨rb, 1, none⟩ (.int .i64 ((p : Int) + 1)) → Rd rb w w' ∧ RdR w' rb zs (p + 1) ∧ Same0 rb w w' := by
    rintro _ rfl
    rw [e1.out]
    exact ⟨Ext.setIn (X := fun k => k = rb) (Ext.refl _ w) (p := ⟨rb, 1, none⟩) rfl _, Hr.out.step, by unfold Same0; rw [cell_set Hr.out.at', if_neg (by simp)]⟩
  have Fin := Lib.hid fin
  clear h1 h6 h3 fin
  by_cases hn1 : n < 1
  · go_enter Try.func122, Try.ntmps122
    go_wp2
    go_ret
    exact ⟨0, by simp, ⟨by omega, by simp⟩, Fin.out _ rfl⟩
  have hn1 : 1 ≤ n := by omega
  by_cases hz : zs.length = 0
  · have hzb : ((zs.length : Int) == 0) = true := by simp [hz]
    clear hz
    go_enter Try.func122, Try.ntmps122
    go_wp2
    go_ret
    exact ⟨0, by simp, ⟨by omega, by simp⟩, Fin.out _ rfl⟩
  have hz1 : 1 ≤ zs.length := by omega
  have hzb : ((zs.length : Int) == 0) = false := by rw [ibeq]; simp; intro h; simp [h] at hz1
  rcases H1.out with h1 | ⟨b, o, rfl, hb, hc⟩
  · simp [h1] at hz1
  clear hz
  by_cases hk : p < zs.length
  · have hck := hc p hk
    have hw1 := (H6.out _ (List.getElem_mem hk)).1
    have hw2 := (H6.out _ (List.getElem_mem hk)).2
    have hbr : ¬ b = rb := hb
    clear hc hb
    go_enter Try.func122, Try.ntmps122
    go_wp2
    go_ret
    exact ⟨zs[p] % n, by simp, ⟨fun _ => ⟨Int.emod_nonneg _ (by omega), Int.emod_lt_of_pos _ (by omega)⟩, fun h => by omega⟩, Fin.out _ rfl⟩
  · have hm1 : p % zs.length < zs.length := Nat.mod_lt _ hz1
    have hm2 : (p * 7 + 3) % zs.length < zs.length := Nat.mod_lt _ hz1
    obtain ⟨x1, hx1⟩ : ∃ x, x = p % zs.length := ⟨_, rfl⟩
    obtain ⟨x2, hx2⟩ : ∃ x, x = (p * 7 + 3) % zs.length := ⟨_, rfl⟩
    have i1 : x1 < zs.length := by omega
    have i2 : x2 < zs.length := by omega
    have hck1 := hc x1 i1
    have hck2 := hc x2 i2
    have b1 := H6.out _ (List.getElem_mem i1)
    have b2 := H6.out _ (List.getElem_mem i2)
    have t1 : (p : Int).tmod (zs.length : Int) = (x1 : Int) := by rw [Int.tmod_eq_emod_of_nonneg (by omega), hx1]; simp
    have t2 : ((p : Int) * 7 + 3).tmod (zs.length : Int) = (x2 : Int) := by rw [Int.tmod_eq_emod_of_nonneg (by omega), hx2]; simp
    obtain ⟨z1, hz1'⟩ : ∃ z, z = zs[x1] := ⟨_, rfl⟩
    obtain ⟨z2, hz2'⟩ : ∃ z, z = zs[x2] := ⟨_, rfl⟩
    rw [← hz1'] at hck1 b1
    rw [← hz2'] at hck2 b2
    obtain ⟨q, tq, hq1, hq2⟩ : ∃ q : Int, (p : Int).tdiv (zs.length : Int) = q ∧ 0 ≤ q ∧ q ≤ 1000000 := ⟨_, rfl, by
      rw [Int.tdiv_eq_ediv_of_nonneg (by omega)]; exact Int.ediv_nonneg (by omega) (by omega), by
      rw [Int.tdiv_eq_ediv_of_nonneg (by omega)]; exact Int.le_trans (Int.ediv_le_self _ (by omega)) (by omega)⟩
    have hbr : ¬b = rb := hb
    have f1 : IntKind.i64.wrap z1 = z1 := IntWalk.i64_in _ (by omega)
    have f2 : IntKind.i64.wrap z2 = z2 := IntWalk.i64_in _ (by omega)
    have f3 : IntKind.i64.wrap (z1 * 131) = z1 * 131 := IntWalk.i64_in _ (by omega)
    have f4 : IntKind.i64.wrap (z2 * 1117) = z2 * 1117 := IntWalk.i64_in _ (by omega)
    have f5 : IntKind.i64.wrap (z1 * 131 + z2 * 1117) = z1 * 131 + z2 * 1117 := IntWalk.i64_in _ (by omega)
    have f6 : IntKind.i64.wrap ((p : Int) * 7) = (p : Int) * 7 := IntWalk.i64_in _ (by omega)
    have f7 : IntKind.i64.wrap ((p : Int) * 7 + 3) = (p : Int) * 7 + 3 := IntWalk.i64_in _ (by omega)
    have f8 : IntKind.i64.wrap ((p : Int) * 29) = (p : Int) * 29 := IntWalk.i64_in _ (by omega)
    have f9 : IntKind.i64.wrap (z1 * 131 + z2 * 1117 + (p : Int) * 29) = z1 * 131 + z2 * 1117 + (p : Int) * 29 := IntWalk.i64_in _ (by omega)
    have f10 : IntKind.i64.wrap (q * 53) = q * 53 := IntWalk.i64_in _ (by omega)
    have f11 : IntKind.i64.wrap (z1 * 131 + z2 * 1117 + (p : Int) * 29 + q * 53) = z1 * 131 + z2 * 1117 + (p : Int) * 29 + q * 53 := IntWalk.i64_in _ (by omega)
    have f12 : IntKind.i64.wrap (x1 : Int) = x1 := IntWalk.i64_in _ (by omega)
    have f13 : IntKind.i64.wrap (x2 : Int) = x2 := IntWalk.i64_in _ (by omega)
    have f14 : IntKind.i64.wrap q = q := IntWalk.i64_in _ (by omega)
    have i1' : (x1 : Int) < zs.length := by omega
    have i2' : (x2 : Int) < zs.length := by omega
    have l0 : ¬ ((zs.length : Int) = 0) := by omega
    have Hb1 := Lib.hid b1
    have Hb2 := Lib.hid b2
    clear hc hb hx1 hx2 hz1' hz2' b1 b2 hm1 hm2
    go_enter Try.func122, Try.ntmps122
    go_wp2
    refine wp_region_quiet_lit (by kernel_rfl) (by kernel_rfl) ?_
    (repeat (go_big_quiet_step (fail)))
    refine wpQuiet_nil ?_
    rintro _ ⟨nq, rfl⟩
    have hX0 : 0 ≤ z1 * 131 + z2 * 1117 + (p : Int) * 29 + q * 53 := by have := Hb1.out; have := Hb2.out; omega
    have hX1 : z1 * 131 + z2 * 1117 + (p : Int) * 29 + q * 53 ≤ 1000000000 := by have := Hb1.out; have := Hb2.out; omega
    clear f1 f2 f3 f4 f5 f6 f7 f8 f9 f10 f11 f12 f13 f14 t1 t2 tq hck1 hck2 i1 i2 i1' i2'
    generalize z1 * 131 + z2 * 1117 + (p : Int) * 29 + q * 53 = X at hX0 hX1 ⊢
    have hxx := xor_nonneg X hX0 hX1
    go_wp2
    go_ret
    generalize bits BinOp.xor IntKind.i64 X (X / 64) = Y at hxx ⊢
    have hs := (Fin.out _ rfl).2.2
    refine ⟨Y % n, by simp, ⟨fun _ => ⟨Int.emod_nonneg _ (by omega), Int.emod_lt_of_pos _ (by omega)⟩, fun h => by omega⟩, (Fin.out _ rfl).1.drewN _, (Fin.out _ rfl).2.1.grow ((Ext.refl _ _).drewN _), ?_⟩
    unfold Same0 at hs ⊢
    exact (Ext.cell ((Ext.refl nil _).drewN _) (p := ⟨rb, 0, none⟩) (by rw [size_setCell]; exact Hr.out.lt) (fun h => h)).trans hs
end Go.Proofs.Ytgfnmhfdmmnaoaa
namespace Go.Proofs.Ytgfnmhfdmmnaoaa.Eng
open Go Go.RowKit
theorem AC.ofGrow {P : Program} {f : FuncId} {args : List AV} {Post : AV → Prop} (he : Enters P f)
    (h : ∀ w L S rb vs, RepL w (pureC L S rb) args vs → Calls P f vs.toArray w fun e w' => ∃ v r, e = .returned v ∧ Grow w w' ∧ Rep w' (pureC nil S none) r v ∧ Post r) : AC P f args 0 Post := by
  refine ⟨he, fun w L S rb k vs _ hS hr hargs => (h w L S rb vs hargs).mono ?_⟩
  rintro e w' ⟨v, r, rfl, hg, h1, h2⟩
  exact ⟨v, r, S, rfl, hg.mono (fun _ h => h.elim), fun _ h => h, fun _ h => .inl h, fun b hb => ((hr b hb).2.moved hg (fun h => h) (fun b hb => ⟨hb, fun h => h⟩)).less (by omega), h1, h2⟩
def bytesE (zs : List Int) : List (List AV) := zs.map fun z => [.int .u8 z]
end Go.Proofs.Ytgfnmhfdmmnaoaa.Eng
namespace Go.Proofs.Ytgfnmhfdmmnaoaa
open Go.RowKit
def Asc (xs : List ByteArray) : Prop := ∀ i j (hi : i < xs.length) (hj : j < xs.length), i < j → lt xs[i] xs[j] = true
theorem namesFrom_asc : ∀ (p : Option ByteArray) (xs : List ByteArray), namesFrom p xs = true → Asc xs ∧ ∀ y, p = some y → ∀ i (h : i < xs.length), lt y xs[i] = true
  | p, [], _ => ⟨fun i j hi => absurd hi (by simp), fun y _ i h => absurd h (by simp)⟩
  | p, x :: r, h => by
    simp only [namesFrom, Bool.and_eq_true] at h
    obtain ⟨⟨_, h2⟩, h3⟩ := h
    obtain ⟨ha, hb⟩ := namesFrom_asc (some x) r h3
    have hb := hb x rfl
    refine ⟨fun i j hi hj hij => ?_, fun y hy i hi => ?_⟩
    · cases j with
      | zero => omega
      | succ j =>
        cases i with
        | zero => exact hb j (by simpa using hj)
        | succ i => exact ha i j (by simpa using hi) (by simpa using hj) (by omega)
    · subst hy
      simp only at h2
      cases i with
      | zero => exact h2
      | succ i => exact bl_trans _ _ _ h2 (hb i (by simpa using hi))
theorem namesB_asc {xs : List ByteArray} (h : namesB xs = true) : Asc xs := (namesFrom_asc none xs h).1
end Go.Proofs.Ytgfnmhfdmmnaoaa
namespace Go.Proofs.Ytgfnmhfdmmnaoaa
open Go.RowKit
mutual
def Nd.count : Nd → Nat
  | ⟨_, _, _, _, kids⟩ => 1 + countL kids
def countL : List Nd → Nat
  | [] => 0
  | k :: ks => k.count + countL ks
end
mutual
def Nd.depth : Nd → Nat
  | ⟨_, _, _, _, kids⟩ => 1 + depthL kids
def depthL : List Nd → Nat
  | [] => 0
  | k :: ks => max k.depth (depthL ks)
end
mutual
def shapeB : Nd → Nat → Bool
  | ⟨kind, num, text, names, kids⟩, d => decide (0 < d) && partsB ⟨kind, num, text, names, kids⟩ && shapeL kids (d - 1)
def shapeL : List Nd → Nat → Bool
  | [], _ => true
  | k :: ks, d => shapeB k d && shapeL ks d
end
theorem Nd.count_eq (n : Nd) : n.count = 1 + countL n.kids := by cases n; simp [Nd.count]
theorem Nd.depth_eq (n : Nd) : n.depth = 1 + depthL n.kids := by cases n; simp [Nd.depth]
theorem shapeB_eq (n : Nd) (d : Nat) : shapeB n d = (decide (0 < d) && partsB n && shapeL n.kids (d - 1)) := by cases n; simp [shapeB]
theorem countL_snoc (l : List Nd) (x : Nd) : countL (l ++ [x]) = countL l + x.count := by
  induction l with
  | nil => simp [countL]
  | cons a l ih => simp [countL, ih]; omega
theorem depthL_snoc (l : List Nd) (x : Nd) : depthL (l ++ [x]) = max (depthL l) x.depth := by
  induction l with
  | nil => simp [depthL]
  | cons a l ih => simp only [List.cons_append, depthL, ih]; omega
theorem shapeL_snoc (l : List Nd) (x : Nd) (d : Nat) : shapeL (l ++ [x]) d = (shapeL l d && shapeB x d) := by
  induction l with
  | nil => simp [shapeL]
  | cons a l ih => simp [shapeL, ih, Bool.and_assoc]
theorem shapeL_all (l : List Nd) (d : Nat) : shapeL l d = l.all (fun k => shapeB k d) := by
  induction l with
  | nil => simp [shapeL]
  | cons a l ih => simp [shapeL, ih]
theorem partsB_kids {n : Nd} (h : partsB n = true) : n.kids.length ≤ 6 := by
  unfold partsB areNamesB at h
  simp only [Bool.and_eq_true] at h
  obtain ⟨_, h⟩ := h
  split at h
  · simp at h; simp [h]
  · split at h
    · simp at h; simp [h]
    · split at h
      · simp at h; simp [h]
      · split at h
        · simpa using h
        · split at h
          · simp at h; omega
          · simp at h
def cb : Nat → Nat
  | 0 => 0
  | d + 1 => 1 + 6 * cb d
theorem countL_le (l : List Nd) (c : Nat) (h : ∀ k ∈ l, k.count ≤ c) : countL l ≤ l.length * c := by
  induction l with
  | nil => simp [countL]
  | cons a l ih =>
    have h1 := h a (by simp)
    have h2 := ih (fun k hk => h k (by simp [hk]))
    simp [countL, Nat.succ_mul]; omega
theorem count_le : ∀ (d : Nat) (n : Nd), shapeB n d = true → n.count ≤ cb d
  | 0, n, h => by rw [shapeB_eq] at h; simp at h
  | d + 1, n, h => by
    rw [shapeB_eq] at h
    simp only [Bool.and_eq_true, Nat.add_sub_cancel, shapeL_all, List.all_eq_true] at h
    obtain ⟨⟨_, hp⟩, hk⟩ := h
    have h1 := partsB_kids hp
    have h2 := countL_le n.kids (cb d) (fun k hk' => count_le d k (hk k hk'))
    rw [Nd.count_eq, cb]
    have : n.kids.length * cb d ≤ 6 * cb d := Nat.mul_le_mul_right _ h1
    omega
theorem depth_le : ∀ (d : Nat) (n : Nd), shapeB n d = true → n.depth ≤ d
  | 0, n, h => by rw [shapeB_eq] at h; simp at h
  | d + 1, n, h => by
    rw [shapeB_eq] at h
    simp only [Bool.and_eq_true, Nat.add_sub_cancel, shapeL_all, List.all_eq_true] at h
    obtain ⟨⟨_, hp⟩, hk⟩ := h
    have : ∀ l : List Nd, (∀ k ∈ l, k.depth ≤ d) → depthL l ≤ d := by
      intro l
      induction l with
      | nil => simp [depthL]
      | cons a l ih => intro h; have h1 := h a (by simp); have h2 := ih (fun k hk => h k (by simp [hk])); simp only [depthL]; omega
    have := this n.kids (fun k hk' => depth_le d k (hk k hk'))
    rw [Nd.depth_eq]; omega
theorem cb_le (d : Nat) (h : d ≤ 5) : cb d ≤ 1555 := by
  match d, h with
  | 0, _ => simp [cb]
  | 1, _ => simp [cb]
  | 2, _ => simp [cb]
  | 3, _ => simp [cb]
  | 4, _ => simp [cb]
  | 5, _ => simp [cb]
def measV (n : Nd) (d : Nat) : Value :=
  if shapeB n d then .tuple #[.int .i64 n.count, .int .i64 n.depth, .bool true] else .tuple #[.int .i64 0, .int .i64 0, .bool false]
def MeasureOk (n : Nd) : Prop := ∀ (d : Nat) (level : Int) (v : Value) (w : World), d ≤ 5 → level = 6 - (d : Int) → NodeR w any n v →
    Calls Try.prog 65 #[v, .int .i64 level] w fun e w' => e = .returned (measV n d) ∧ Grow w w'
theorem shapeL_get {l : List Nd} {d : Nat} {k : Nat} (hk : k < l.length) (h : shapeB l[k] d = false) : shapeL l d = false := by
  rw [shapeL_all, List.all_eq_false]
  exact ⟨l[k], List.getElem_mem hk, by simp [h]⟩
theorem measV_no {n : Nd} {d : Nat} (h : shapeB n d = false) : measV n d = .tuple #[.int .i64 0, .int .i64 0, .bool false] := by simp [measV, h]
theorem measV_yes {n : Nd} {d : Nat} (h : shapeB n d = true) : measV n d = .tuple #[.int .i64 n.count, .int .i64 n.depth, .bool true] := by simp [measV, h]
theorem measureNode_ok : ∀ n, MeasureOk n := by
  refine Nd.ind' MeasureOk ?_
  intro n ih d level v w hd hlev hn
  have hl1 : 1 ≤ level := by omega
  have hl2 : level ≤ 6 := by omega
  have Hlev := Lib.hid hlev
  have Hn := Lib.hid hn
  have Ih := Lib.hid ih
  have Hd := Lib.hid hd
  clear ih hlev hd
  obtain ⟨na, nc, ka, kc, rfl, hc⟩ := hn
  obtain ⟨htx, hns, hks⟩ := hc.parts
  have hkl : n.kids.length ≤ 9223372036854775807 := hks.2.1
  have Hks := Lib.hid hks
  clear htx hns hc hks
  unfold nodeV at *
  by_cases hd0 : d = 0
  · have : 5 < level := by have := Hlev.out; omega
    have Hf := Lib.hid (measV_no (n := n) (d := d) (by rw [shapeB_eq]; simp [hd0]))
    clear hd0
    go_enter Try.func65, Try.ntmps65
    go_wp2_with fail
    go_ret3
    exact ⟨by simp [Hf.out], (Ext.refl _ _).alloc _⟩
  · have h5 : level ≤ 5 := by have := Hlev.out; omega
    clear hl2
    cases hp : partsB n
    · have Hf := Lib.hid (measV_no (n := n) (d := d) (by rw [shapeB_eq]; simp [hp]))
      go_enter Try.func65, Try.ntmps65
      go_wp2_with (go_at_call 137; refine (hasValidParts_ok n _ _ any ((Hn.out).ext ((Ext.refl nil w).alloc _) (fun _ _ h => h))).mono ?_; rintro e w' ⟨rfl, hg⟩)
      go_ret3
      exact ⟨by simp [Hf.out], ((Ext.refl _ _).alloc _).trans hg⟩
    · obtain ⟨d, rfl⟩ : ∃ d', d = d' + 1 := ⟨d - 1, by omega⟩
      have hk6 := partsB_kids hp
      have Hp := Lib.hid hp
      clear hkl hd0
      go_enter Try.func65, Try.ntmps65
      go_wp2_with (go_at_call 137; refine (hasValidParts_ok n _ _ any ((Hn.out).ext ((Ext.refl nil w).alloc _) (fun _ _ h => h))).mono ?_; rintro e w1 ⟨rfl, hg⟩; simp only [hp]; have hcc := bcell hg)
      have hg0 : Grow w w1 := ((Ext.refl _ _).alloc _).trans hg
      clear hg hcc
      go_loopw [4, 5, 6, 22] (fun t4 t5 t6 i wr => t6 = .bool false ∧ Grow w wr ∧ ∃ k : Nat, k ≤ n.kids.length ∧ i = .int .i64 k ∧ t4 = .int .i64 ((1 + countL (n.kids.take k) : Nat) : Int) ∧ t5 = .int .i64 ((1 + depthL (n.kids.take k) : Nat) : Int) ∧ shapeL (n.kids.take k) d = true) (fun _ _ _ i _ => n.kids.length - (intOf i).toNat)
      case atStart => exact ⟨rfl, hg0, 0, Nat.zero_le _, rfl, by simp [countL], by simp [depthL], by simp [shapeL]⟩
      case round =>
        obtain ⟨rfl, hgr, k, hk, rfl, rfl, rfl, hs⟩ := hrel
        by_cases hlt : k < n.kids.length
        · obtain ⟨_, _, hks⟩ := (Hks.out).ext hgr (fun _ _ h => h)
          rcases hks with hks | ⟨bk, ok, rfl, _, hkr⟩
          · simp [hks] at hlt
          obtain ⟨na', nc', ka', kc', c0, c1, c2, c3, c4, hkc⟩ := hkr.get k hlt
          have Hkc : Hid (NodeR wr any n.kids[k] (nodeV n.kids[k] na' nc' ka' kc')) := Lib.hid ⟨_, _, _, _, rfl, hkc⟩
          have Hkr := Lib.hid hkr
          have Hs := Lib.hid hs
          clear hkr hs hkc
          have hb1 : countL (n.kids.take k) ≤ 10000 := by
            have := countL_le (n.kids.take k) 1555 (fun x hx => by
              have hx' := Hs.out
              rw [shapeL_all, List.all_eq_true] at hx'
              exact Nat.le_trans (count_le d x (hx' x hx)) (cb_le d (by have := Hd.out; omega)))
            have h2 : (n.kids.take k).length ≤ 6 := by simp; omega
            have : (n.kids.take k).length * 1555 ≤ 6 * 1555 := Nat.mul_le_mul_right _ h2
            omega
          have hb2 : depthL (n.kids.take k) ≤ 10000 := by
            have : ∀ l : List Nd, shapeL l d = true → depthL l ≤ d := by
              intro l
              induction l with
              | nil => simp [depthL]
              | cons a l ih => intro h; simp only [shapeL, Bool.and_eq_true] at h; have h1 := depth_le d a h.1; have h2 := ih h.2; simp only [depthL]; omega
            have := this _ Hs.out
            have := Hd.out
            omega
          cases hsk : shapeB n.kids[k] d
          · have Hf := Lib.hid (measV_no hsk)
            have Hff : Hid (measV n (d + 1) = .tuple #[.int .i64 0, .int .i64 0, .bool false]) := Lib.hid (measV_no (by rw [shapeB_eq]; simp [shapeL_get hlt hsk]))
            clear hsk
            go_wp2_with (go_at_call 65; refine (Ih.out _ (List.getElem_mem hlt) d _ _ _ (by have := Hd.out; omega) (by have := Hlev.out; omega) ((Hkc.out).ext ((Ext.refl nil wr).alloc _) (fun _ _ h => h))).mono ?_; rintro e w2 ⟨rfl, hg2⟩; simp only [Hf.out])
            go_ret3
            exact ⟨by simp [Hff.out], (hgr.alloc _).trans hg2⟩
          · have Hf := Lib.hid (measV_yes hsk)
            have hb3 : n.kids[k].count ≤ 10000 := Nat.le_trans (count_le d _ hsk) (Nat.le_trans (cb_le d (by have := Hd.out; omega)) (by omega))
            have hb4 : n.kids[k].depth ≤ 10000 := Nat.le_trans (depth_le d _ hsk) (by have := Hd.out; omega)
            have Hsk := Lib.hid hsk
            clear hsk
            go_wp2_with (go_at_call 65; refine (Ih.out _ (List.getElem_mem hlt) d _ _ _ (by have := Hd.out; omega) (by have := Hlev.out; omega) ((Hkc.out).ext ((Ext.refl nil wr).alloc _) (fun _ _ h => h))).mono ?_; rintro e w2 ⟨rfl, hg2⟩; simp only [Hf.out])
            go_roundw
            case rel => exact ⟨rfl, (hgr.alloc _).trans hg2, k + 1, by omega, by go_num, by rw [take_snoc' _ _ hlt, countL_snoc]; go_num, by rw [take_snoc' _ _ hlt, depthL_snoc]; go_num, by rw [take_snoc' _ _ hlt, shapeL_snoc, Hs.out, Hsk.out]; rfl⟩
            case measure => simp [intOf]; omega
        · have hke : k = n.kids.length := by omega
          have Hff : Hid (measV n (d + 1) = .tuple #[.int .i64 n.count, .int .i64 n.depth, .bool true]) := Lib.hid (measV_yes (by
            rw [hke, List.take_length] at hs
            rw [shapeB_eq]; simp [hs, Hp.out]))
          have Hke := Lib.hid hke
          clear hke hs
          go_wp2
          go_ret3
          exact ⟨by rw [Hff.out, Hke.out]; simp [Nd.count_eq, Nd.depth_eq], hgr⟩
end Go.Proofs.Ytgfnmhfdmmnaoaa
namespace Go.Proofs.Ytgfnmhfdmmnaoaa
open Go.RowKit
def Nd.zero : Nd := ⟨0, 0, ⟨#[]⟩, [], []⟩
end Go.Proofs.Ytgfnmhfdmmnaoaa
namespace Go.Proofs.Ytgfnmhfdmmnaoaa
open Go.RowKit
def txt (l : List UInt8) : ByteArray := ⟨l.toArray⟩
def dig1 (k : Nat) : List UInt8 := [48 + k.toUInt8]
theorem conv1 (k : Nat) (hk : k < 10) (w : World) : (convert 22 9 (.slice (some ⟨w.heap.size, 0, none⟩) 1 1)).run Try.prog (w.alloc (.cells #[.int .u8 (48 + (k : Int))] 5)) =
    .ok (.string (txt (dig1 k))) (w.alloc (.cells #[.int .u8 (48 + (k : Int))] 5)) := by
  refine run_convert_bytes_back (P := Try.prog) _ 22 9 5 ⟨w.heap.size, 0, none⟩ 1 (dig1 k) Try.underlying22 Try.underlying5 Try.underlying9 ?_
  intro j hj
  simp only [dig1, List.length_cons, List.length_nil] at hj
  obtain rfl : j = 0 := by omega
  show (w.alloc _).cell? ⟨w.heap.size, 0 + 0, none⟩ = _
  rw [World.cell?_alloc_new]
  simp [dig1]; omega
end Go.Proofs.Ytgfnmhfdmmnaoaa
namespace Go.Proofs.Ytgfnmhfdmmnaoaa.Eng
open Go Go.RowKit
attribute [local simp] big size_mk ASt.pay Option.map_map Function.comp_def awant aop acall ado aev ofVal ofVal0 ASt.put ASt.add ASt.turn ASt.kill abox aalloc astore aload aloadD astoreD idOf ASt.at cellsTo afieldAddr afield aindexAddr aindex alen abin aint acmp astr aun apick aextract anil aslice abound abuild afill abuildSlice asCells aps avCells over upd aappend asrc amax amin aconv mkSt slots rowsOf_cons rowsOf_nil usedOf_cons usedOf_nil ZK.av List.replicate ASt.back ASt.addL ASt.killL nodeA nodeT nodeTL_eq nodeL_eq strsE_get strsE_len intsE_get intsE_len strsE_at intsE_at tab2 tab3 tab4 tab5 tab6 tab7 tab8 tab9 tab10 tab11 tab12 tab13 tab14 tab15 tab16 tab17 tab18 tab19 tab21 tab22 tab23 tab24 tab25 tab26 tab27 tab28 tab29 tab30 tab39 tab40 tab41 tab42 tab43 tab47 tab48 tab55 tab56 tab57 tab60 tab61 tab62 tab73 tab74 tab75 tab85 tab92 tab115 tab116 tab143 tab144 tab145 tab154 tab155 tab170 tab175 tab182 tab197 tab198 tab203 tab204 tab205 tab207 tab208 tab209
theorem i64_nat {n : Int} (h0 : -9223372036854775808 ≤ n) (h1 : n ≤ 9223372036854775807) : IntKind.i64.wrap n = n := IntWalk.i64_in _ (by omega)
def nodeO (n : Nd) (id : Nat) : AV := .agg [.int .i64 n.kind, .int .i64 n.num, .str n.text, .view .loose 1 (strsE n.names), .own id n.kids.length]
def kidsRow (n : Nd) : Row := ⟨false, 30, 5, n.kids.map nodeL⟩
theorem copyNode_step (n : Nd) (hs : Sml n) (ih : ∀ k ∈ n.kids, AC Try.prog 95 [nodeA k] 0 (fun r => r = nodeA k)) (t : VC) : ACR Try.prog 95 [nodeT t n] 0 (fun _ => False) (fun f R => f = nodeO n ∧ R = kidsRow n) := by
  have hs1 := hs.names
  have hs2 := hs.kids
  refine ACR.of tab_ok mixed_ok Try.func95 (by rfl) (by kernel_rfl) ?_
  rintro ⟨P, T, hT, hm, w0, S0, rd0, k0⟩ hP hTT
  dsimp only at hP hTT
  subst hP hTT
  unfold nodeT initSt
  rw [nodeTL_eq, Try.ntmps95]
  repeat refine AW.seq ?_
  (refine AW.regionK [] (fun K hK => ?_); (repeat (refine arun_ks 4 rfl (fun C hC => ?_); (repeat ((conv => whnf); simp)); refine hC _ ?_; clear hC C; simp only [List.drop_succ_cons, List.drop_zero, List.drop_nil])); refine arun_nil ?_; refine hK _ ?_; clear hK K; simp only [thenA_normal, inBlockA_normal, endQ_normal, endR_normal])
  repeat refine AW.seq ?_
  (refine AW.regionK [] (fun K hK => ?_); (repeat (refine arun_ks 4 rfl (fun C hC => ?_); (repeat ((conv => whnf); simp)); refine hC _ ?_; clear hC C; simp only [List.drop_succ_cons, List.drop_zero, List.drop_nil])); refine arun_nil ?_; refine hK _ ?_; clear hK K; simp only [thenA_normal, inBlockA_normal, endQ_normal, endR_normal])
  repeat refine AW.seq ?_
  (refine AW.regionK [] (fun K hK => ?_); (repeat (refine arun_ks 4 rfl (fun C hC => ?_); (repeat ((conv => whnf); simp)); refine hC _ ?_; clear hC C; simp only [List.drop_succ_cons, List.drop_zero, List.drop_nil])); refine arun_nil ?_; refine hK _ ?_; clear hK K; simp only [thenA_normal, inBlockA_normal, endQ_normal, endR_normal])
  refine AW.adopt 3 3 30 5 ⟨_, tab30, rfl⟩ rfl rfl ?_
  refine AW.block ?_
  refine AW.loopS (fun (i : Nat) => mkSt (slots 0 34 [(1, .ptr true 5 1 1 0 0), (2, .ptr true 5 1 2 0 0), (3, .own 3 i), (4, .int .i64 i)]) [(1, ⟨true, 30, 5, [nodeTL t n]⟩), (2, ⟨true, 30, 5, [[.int .i64 0, .int .i64 0, .str ⟨#[]⟩, .view .tight 0 [], .view .tight 0 []]]⟩), (3, ⟨false, 30, 5, (n.kids.map nodeL).take i⟩)] [1, 2, 3] (rd0.map fun _ => 0)) (fun i => n.kids.length - i) (fun i => i ≤ n.kids.length) 0 ?_ (Nat.zero_le _) ?_
  · rw [nodeTL_eq]
    exact (less_of (by simp [lessL, mkSt, slots, ASt.adopt, ASt.add]) (by simp [upd, mkSt, rowsOf_cons, ASt.adopt, ASt.add]) (by simp [upd, mkSt, usedOf_cons, ASt.adopt, ASt.add]) (by first | exact rd_less (by omega) | simp [mkSt, ASt.adopt, ASt.add]) (by simp [slots, in_any, in_int, in_bool, in_str, in_ptr, in_own, in_agg, in_vnil, in_rdr, usedOf_cons, usedOf_nil, strs_in, ints_in, nodes_in, in_tup, ASt.adopt, ASt.add]) (by simp only [List.forall_mem_cons, List.not_mem_nil, false_implies, implies_true, and_true, true_and, ASt.adopt, ASt.add]; (repeat (first | with_reducible exact trivial | with_reducible refine And.intro ?_ ?_ | with_reducible exact in_int | with_reducible exact in_str | with_reducible exact in_bool | with_reducible exact strs_in _ | with_reducible exact nodes_in _ | with_reducible exact items_in _ | with_reducible exact in_vnil | with_reducible exact in_any | exact hin _ | with_reducible refine take_in ?_ | with_reducible exact strsE_in _ | with_reducible exact nodesE_in _ | with_reducible exact nodeL_in _ | with_reducible exact itemsE_in _ | with_reducible exact itemL_in _ | with_reducible refine app_in ?_ ?_ | with_reducible refine sing_in ?_ | (focus (simp [in_any, in_int, in_bool, in_str, in_ptr, in_own, in_agg, in_vnil, in_rdr, usedOf_cons, usedOf_nil, strs_in, ints_in, nodes_in, ASt.adopt, ASt.add]; done)))); done))
  · intro i hi
    rw [nodeTL_eq]
    have hl : ((n.kids.map nodeL).take i).length = i := by rw [List.length_take, List.length_map]; omega
    by_cases hlt : i < n.kids.length
    · have hw : IntKind.i64.wrap ((i : Int) + 1) = (i : Int) + 1 := i64_nat (by omega) (by omega)
      have hk : n.kids[i]? = some n.kids[i] := List.getElem?_eq_getElem hlt
      generalize hkk : n.kids[i] = k at hk
      have hik := ih k (hkk ▸ List.getElem_mem hlt)
      have htk : (n.kids.map nodeL).take (i + 1) = (n.kids.map nodeL).take i ++ [nodeL k] := by
        rw [List.take_add_one, List.getElem?_map, hk]; rfl
      repeat refine AW.seq ?_
      (refine AW.regionK [] (fun K hK => ?_); (repeat (refine arun_ks 4 rfl (fun C hC => ?_); (repeat ((conv => whnf); simp)); refine hC _ ?_; clear hC C; simp only [List.drop_succ_cons, List.drop_zero, List.drop_nil])); refine arun_nil ?_; refine hK _ ?_; clear hK K; simp only [thenA_normal, inBlockA_normal, endQ_normal, endR_normal])
      refine AW.condT (by simp [aev, hlt]) ?_
      refine AW.skip ?_
      simp only [thenA_normal]
      repeat refine AW.seq ?_
      refine AW.block ?_
      repeat refine AW.seq ?_
      (refine AW.regionK [] (fun K hK => ?_); refine arun_kk 6 (fun C0 hC0 => ?_); simp only [List.take_succ_cons, List.take_zero, List.take_nil]; (repeat (refine arun_ks 4 rfl (fun C hC => ?_); (repeat ((conv => whnf); simp [hk, nodeL_eq])); refine hC _ ?_; clear hC C; simp only [List.drop_succ_cons, List.drop_zero, List.drop_nil])); refine arun_nil ?_; refine hC0 _ ?_; clear hC0 C0; simp only [List.drop_succ_cons, List.drop_zero, List.drop_nil])
      refine arun_call0 (by simp [awant]) rfl (by simp [aev, ofVal, ofVal0, nodeA, nodeT, nodeTL_eq, nodeL_eq, hk]) (hik) (by simp only [cloL]; repeat (first | exact trivial | refine And.intro ?_ ?_ | exact clo_int | exact clo_str | exact clo_bool | exact clo_rdr | exact node_clo _ | exact nodeT_clo _ _ | exact strs_clo _ | exact ints_clo _ | exact nodes_clo _)) ?_
      rintro r rfl
      unfold nodeA
      rw [nodeL_eq k]
      have hb1 : (i + 1) * 80 ≤ 140737488355328 := by omega
      have hb2 : i + 1 ≤ 140737488355328 := by omega
      ((repeat (refine arun_ks 4 rfl (fun C hC => ?_); (repeat ((conv => whnf); simp [hl, hk, hb1, hb2])); refine hC _ ?_; clear hC C; simp only [List.drop_succ_cons, List.drop_zero, List.drop_nil])); refine arun_nil ?_; refine hK _ ?_; clear hK K; simp only [thenA_normal, inBlockA_normal, endQ_normal, endR_normal])
      (refine AW.regionK [] (fun K hK => ?_); (repeat (refine arun_ks 4 rfl (fun C hC => ?_); (repeat ((conv => whnf); simp [hw])); refine hC _ ?_; clear hC C; simp only [List.drop_succ_cons, List.drop_zero, List.drop_nil])); refine arun_nil ?_; refine hK _ ?_; clear hK K; simp only [thenA_normal, inBlockA_normal, endQ_normal, endR_normal])
      refine ⟨i + 1, by omega, by omega, ?_⟩
      have hin : ∀ U : Nat → Bool, ∀ e ∈ (n.kids.map nodeL).take (i + 1), ∀ c ∈ e, AV.In U c := fun U e he => nodesE_in n.kids e (List.mem_of_mem_take he)
      rw [htk] at hin ⊢
      exact (less_of (by simp [lessL, mkSt, slots, nodeL_eq]) (by simp [upd, mkSt, rowsOf_cons, nodeL_eq]) (by simp [upd, mkSt, usedOf_cons, nodeL_eq]) (by first | exact rd_less (by omega) | simp [mkSt, nodeL_eq]) (by simp [slots, in_any, in_int, in_bool, in_str, in_ptr, in_own, in_agg, in_vnil, in_rdr, usedOf_cons, usedOf_nil, strs_in, ints_in, nodes_in, in_tup, nodeL_eq]) (by simp only [List.forall_mem_cons, List.not_mem_nil, false_implies, implies_true, and_true, true_and, nodeL_eq]; (repeat (first | with_reducible exact trivial | with_reducible refine And.intro ?_ ?_ | with_reducible exact in_int | with_reducible exact in_str | with_reducible exact in_bool | with_reducible exact strs_in _ | with_reducible exact nodes_in _ | with_reducible exact items_in _ | with_reducible exact in_vnil | with_reducible exact in_any | exact hin _ | with_reducible refine take_in ?_ | with_reducible exact strsE_in _ | with_reducible exact nodesE_in _ | with_reducible exact nodeL_in _ | with_reducible exact itemsE_in _ | with_reducible exact itemL_in _ | with_reducible refine app_in ?_ ?_ | with_reducible refine sing_in ?_ | (focus (simp [in_any, in_int, in_bool, in_str, in_ptr, in_own, in_agg, in_vnil, in_rdr, usedOf_cons, usedOf_nil, strs_in, ints_in, nodes_in, nodeL_eq]; done)))); done))
    · have hie : i = n.kids.length := by omega
      have hall : (n.kids.map nodeL).take i = n.kids.map nodeL := by rw [List.take_of_length_le (by rw [List.length_map]; omega)]
      rw [hall]
      repeat refine AW.seq ?_
      (refine AW.regionK [] (fun K hK => ?_); (repeat (refine arun_ks 4 rfl (fun C hC => ?_); (repeat ((conv => whnf); simp)); refine hC _ ?_; clear hC C; simp only [List.drop_succ_cons, List.drop_zero, List.drop_nil])); refine arun_nil ?_; refine hK _ ?_; clear hK K; simp only [thenA_normal, inBlockA_normal, endQ_normal, endR_normal])
      refine AW.condF (by simp [aev, hlt]) ?_
      refine AW.exit ?_
      simp only [thenA_exit, inBlockA_exit, if_true, thenA_normal]
      repeat refine AW.seq ?_
      have hb1 : n.names.length * 16 ≤ 140737488355328 := by omega
      have hb2 : n.names.length ≤ 140737488355328 := by omega
      (refine AW.regionDK [] (pcs [] []) (by kernel_rfl) (by kernel_rfl) (fun K hK => ?_); (repeat (refine arunD_ks 4 rfl (fun C hC => ?_); (repeat ((conv => whnf); simp [strsE_len, hb1, hb2])); refine hC _ ?_; clear hC C; simp only [List.drop_succ_cons, List.drop_zero, List.drop_nil, Nat.reduceAdd])); refine arunD_nil ?_; refine hK _ ?_; clear hK K; simp only [thenA_normal, inBlockA_normal, endQ_normal, endR_normal])
      refine AW.hold 31 ?_
      refine AW.ret ?_
      simp only [endR_ret]
      have hlen : (strsE n.names).length = n.names.length := strsE_len _
      refine ⟨nodeO n 3, ?_, .inr ⟨nodeO n, 3, kidsRow n, rfl, ?_, ?_, ?_, rfl, rfl⟩⟩
      · simp [ares, aresL, ASt.hold, upd, rowsOf_cons, AV.subL, AV.sub, Row.sub, nodeO, hlen, hie]
      · simp [ASt.hold, upd, rowsOf_cons, kidsRow, Row.sub]
        first | exact fun k _ => nodeL_sub k | simp [AV.subL, AV.sub]
      · exact Res1.agg [fun _ => .int .i64 n.kind, fun _ => .int .i64 n.num, fun _ => .str n.text, fun _ => .view .loose 1 (strsE n.names), fun id => .own id n.kids.length] (by
          simp only [List.forall_mem_cons, List.not_mem_nil, false_implies, implies_true, and_true]
          exact ⟨Res1.pur _ pur_int, Res1.pur _ pur_int, Res1.pur _ pur_str, Res1.pur _ (strs_pur _ (by decide)), Res1.own _ _⟩)
      · exact nodesE_pur n.kids
theorem nodeO_sub (n : Nd) : AV.sub 0 (kidsRow n).es.length (.view .loose (kidsRow n).sz (kidsRow n).es) (nodeO n 0) = nodeA n := by
  unfold nodeA
  rw [nodeL_eq]
  simp [nodeO, kidsRow, AV.sub, AV.subL]
theorem copyNode_AC : ∀ n, Sml n → ∀ t, AC Try.prog 95 [nodeT t n] 0 (fun r => r = nodeA n) := Nd.ind' _ (fun n ih hs t => by
  refine (AC.ofR (copyNode_step n hs (fun k hk => by have := ih k hk (hs.kid hk) .loose; rwa [nodeT_loose] at this) t) ?_).mono ?_
  · rintro r R ⟨rfl, rfl⟩
    rw [nodeO_sub]
    exact node_in n
  · rintro r (h | ⟨f, R, ⟨rfl, rfl⟩, rfl⟩)
    · exact h.elim
    · exact nodeO_sub n)
def nodeN (n : Nd) (id : Nat) : AV := .agg [.int .i64 n.kind, .int .i64 n.num, .str n.text, .own id n.names.length, .view .loose 5 (n.kids.map nodeL)]
def namesRow (n : Nd) : Row := ⟨false, 9, 1, strsE n.names⟩
theorem AC.more {P : Program} {f : FuncId} {args : List AV} {c d : Nat} {Q : AV → Prop} (h : AC P f args c Q) (hd : c ≤ d) : AC P f args d Q :=
  ⟨h.1, fun w L S rb k vs h0 h1 h2 h3 => h.2 w L S rb k vs h0 h1 (fun b hb => ⟨(h2 b hb).1, (h2 b hb).2.less (by omega)⟩) h3⟩
def intOf (e : List AV) : Int := match e with | [.int _ x] => x | _ => 0
def nC : Nat → Nat
  | 0 => 10
  | d + 1 => 10 + 5 * nC d
def R0 (p : Nd → Prop) (r : AV) : Prop := ∃ n, p n ∧ n.names = [] ∧ r = nodeT .tight n
def R1 (p : Nd → Prop) (f : Nat → AV) (R : Row) : Prop := ∃ n, p n ∧ f = nodeN n ∧ R = namesRow n
def node0 (k m : Int) (x : ByteArray) : AV := .agg [.int .i64 k, .int .i64 m, .str x, .view .tight 0 [], .view .tight 0 []]
theorem node0_pur (k m : Int) (x : ByteArray) : Pur (node0 k m x) := pur_agg (by
  intro c hc
  simp only [List.mem_cons, List.not_mem_nil, or_false] at hc
  rcases hc with rfl | rfl | rfl | rfl | rfl
  · exact pur_int
  · exact pur_int
  · exact pur_str
  · exact pur_view (by decide) (fun e he => by cases he)
  · exact pur_view (by decide) (fun e he => by cases he))
end Go.Proofs.Ytgfnmhfdmmnaoaa.Eng
namespace Go.Proofs.Ytgfnmhfdmmnaoaa.Eng
open Go Go.RowKit
section
variable {w : World} {ρ : Cx} {S : Nat → Prop}
theorem strs_of_rep {t : VC} {xs : List ByteArray} {v : Value} (h : Rep w ρ (.view t 1 (strsE xs)) v) : ∃ a c, v = .slice a xs.length c ∧ StrsR w any a c xs := by
  obtain ⟨a, c, rfl, _, h3, h4, h5, h6⟩ := rep_view.1 h
  rw [strsE_len] at *
  refine ⟨a, c, rfl, h3, h4, ?_, ?_⟩
  · intro x hx
    obtain ⟨i, hi, rfl⟩ := List.mem_iff_getElem.1 hx
    rcases h6 with h6 | ⟨b, o, _, _, he⟩
    · unfold strsE at h6
      have := List.map_eq_nil_iff.1 h6
      subst this
      simp at hi
    · obtain ⟨u, _, _, q3⟩ := (he.get h5 (i := i) (e := [.str xs[i]]) (by rw [strsE_get, List.getElem?_eq_getElem hi]; rfl)).get (i := 0) rfl
      exact (rep_str.1 q3).2
  · rcases h6 with h6 | ⟨b, o, ha, _, he⟩
    · unfold strsE at h6
      exact .inl (List.map_eq_nil_iff.1 h6)
    · refine .inr ⟨b, o, ha, trivial, fun i hi => ?_⟩
      obtain ⟨u, q1, _, q3⟩ := (he.get h5 (i := i) (e := [.str xs[i]]) (by rw [strsE_get, List.getElem?_eq_getElem hi]; rfl)).get (i := 0) rfl
      rw [(rep_str.1 q3).1] at q1
      simpa using q1
theorem strs_to_rep {xs : List ByteArray} {a : Option Addr} {c : Nat} (h : StrsR w S a c xs) : Rep w (pureC nil S none) (.view .loose 1 (strsE xs)) (.slice a xs.length c) := by
  obtain ⟨h1, h2, h3, h4⟩ := h
  refine rep_view.2 ⟨a, c, by rw [strsE_len], fun h => (by cases h), by rw [strsE_len]; exact h1, by rw [strsE_len]; exact h2, fun e he => ?_, ?_⟩
  · unfold strsE at he
    obtain ⟨x, _, rfl⟩ := List.mem_map.1 he
    rfl
  · rcases h4 with rfl | ⟨b, o, ha, hb, hc⟩
    · exact .inl rfl
    · refine .inr ⟨b, o, ha, hb, RepE.of_get (sz := 1) (fun e he => ?_) (fun i e he => ?_)⟩
      · unfold strsE at he
        obtain ⟨x, _, rfl⟩ := List.mem_map.1 he
        rfl
      · rw [strsE_get, Option.map_eq_some_iff] at he
        obtain ⟨x, hx, rfl⟩ := he
        obtain ⟨hi, rfl⟩ := List.getElem?_eq_some_iff.1 hx
        refine RepC.of_get (fun j d hd => ?_)
        have hj := (List.getElem?_eq_some_iff.1 hd).1
        simp only [List.length_cons, List.length_nil] at hj
        obtain rfl : j = 0 := by omega
        simp only [List.getElem?_cons_zero, Option.some.injEq] at hd
        subst hd
        exact ⟨_, by simpa using hc i hi, rfl, rep_str.2 ⟨rfl, h3 _ (List.getElem_mem _)⟩⟩
theorem kids_of_rep {t : VC} {ks : List Nd} (ih : ∀ k ∈ ks, ∀ (ρ : Cx) na nc ka kc, Rep w ρ (.str k.text) (.string k.text) → Rep w ρ (.view .loose 1 (strsE k.names)) (.slice na k.names.length nc) → Rep w ρ (.view .loose 5 (k.kids.map nodeL)) (.slice ka k.kids.length kc) → NodeC w any k na nc ka kc)
    {a : Option Addr} {c : Nat} (h : Rep w ρ (.view t 5 (ks.map nodeL)) (.slice a ks.length c)) : ks.length ≤ c ∧ ks.length ≤ big ∧ (ks = [] ∨ ∃ b o, a = some ⟨b, o, none⟩ ∧ any b ∧ KidsR w any b o ks) := by
  obtain ⟨a', c', h1, h2, h3, h4, h5, h6⟩ := rep_view.1 h
  clear h2
  simp only [List.length_map] at *
  cases h1
  refine ⟨h3, h4, ?_⟩
  rcases h6 with h6 | ⟨b, o, ha, _, he⟩
  · exact .inl (List.map_eq_nil_iff.1 h6)
  · refine .inr ⟨b, o, ha, trivial, ?_⟩
    clear h h3 h4 h5 ha
    induction ks generalizing o with
    | nil => unfold KidsR; trivial
    | cons k ks ih2 =>
      unfold KidsR
      rw [List.map_cons] at he
      unfold RepE at he
      obtain ⟨e1, e2⟩ := he
      rw [nodeL_len] at e2
      refine ⟨?_, ih2 (fun k hk => ih k (by simp [hk])) _ e2⟩
      rw [nodeL_eq] at e1
      obtain ⟨v0, p0, _, q0⟩ := e1.get (i := 0) rfl
      obtain ⟨v1, p1, _, q1⟩ := e1.get (i := 1) rfl
      obtain ⟨v2, p2, _, q2⟩ := e1.get (i := 2) rfl
      obtain ⟨v3, p3, _, q3⟩ := e1.get (i := 3) rfl
      obtain ⟨v4, p4, _, q4⟩ := e1.get (i := 4) rfl
      rw [rep_int] at q0 q1
      have q2' := q2
      rw [rep_str] at q2'
      obtain ⟨na, nc, r3, _⟩ := rep_view.1 q3
      obtain ⟨ka, kc, r4, _⟩ := rep_view.1 q4
      rw [strsE_len] at r3
      rw [List.length_map] at r4
      subst q0 q1 r3 r4
      obtain ⟨rfl, _⟩ := q2'
      exact ⟨na, nc, ka, kc, p0, p1, p2, p3, p4, ih k (by simp) ρ _ _ _ _ q2 q3 q4⟩
theorem nodeC_of_rep : ∀ (n : Nd) (ρ : Cx) na nc ka kc, Rep w ρ (.str n.text) (.string n.text) → Rep w ρ (.view .loose 1 (strsE n.names)) (.slice na n.names.length nc) → Rep w ρ (.view .loose 5 (n.kids.map nodeL)) (.slice ka n.kids.length kc) → NodeC w any n na nc ka kc :=
  Nd.ind' _ (fun n ih ρ na nc ka kc h1 h2 h3 => by
    obtain ⟨a, c, h2', h2''⟩ := strs_of_rep h2
    cases h2'
    have := kids_of_rep (w := w) (ρ := ρ) ih h3
    cases n
    unfold NodeC
    exact ⟨(rep_str.1 h1).2, h2'', this.1, this.2⟩)
theorem node_of_rep {t : VC} {n : Nd} {v : Value} (h : Rep w ρ (nodeT t n) v) : NodeR w any n v := by
  unfold nodeT nodeTL at h
  obtain ⟨vs, rfl, _, h2⟩ := rep_agg.1 h
  obtain ⟨v0, p0, q0⟩ := h2.get (i := 0) rfl
  obtain ⟨v1, p1, q1⟩ := h2.get (i := 1) rfl
  obtain ⟨v2, p2, q2⟩ := h2.get (i := 2) rfl
  obtain ⟨v3, p3, q3⟩ := h2.get (i := 3) rfl
  obtain ⟨v4, p4, q4⟩ := h2.get (i := 4) rfl
  rw [rep_int] at q0 q1
  have q2' := q2
  rw [rep_str] at q2'
  obtain ⟨na, nc, r3, r3'⟩ := strs_of_rep q3
  obtain ⟨ka, kc, r4, _⟩ := rep_view.1 q4
  rw [List.length_map] at r4
  subst q0 q1 r3 r4
  obtain ⟨rfl, hsz⟩ := q2'
  have hl := h2.length
  simp only [List.length_cons, List.length_nil] at hl
  refine ⟨na, nc, ka, kc, ?_, ?_⟩
  · unfold nodeV
    congr 1
    apply Array.ext'
    apply List.ext_getElem?
    intro i
    rcases i with _ | _ | _ | _ | _ | i
    · exact p0
    · exact p1
    · exact p2
    · exact p3
    · exact p4
    · rw [List.getElem?_eq_none (by simp; omega), List.getElem?_eq_none (by simp)]
  · have hk := kids_of_rep (w := w) (ρ := ρ) (fun k _ => nodeC_of_rep k) q4
    cases n
    unfold NodeC
    exact ⟨hsz, r3', hk.1, hk.2⟩
theorem nodeA_of_rep {n : Nd} {v : Value} (h : Rep w ρ (nodeA n) v) : NodeR w any n v := node_of_rep (t := .loose) (by rw [nodeT_loose]; exact h)
theorem kids_to_rep {ks : List Nd} (ih : ∀ k ∈ ks, ∀ na nc ka kc, NodeC w S k na nc ka kc → Rep w (pureC nil S none) (.str k.text) (.string k.text) ∧ Rep w (pureC nil S none) (.view .loose 1 (strsE k.names)) (.slice na k.names.length nc) ∧ Rep w (pureC nil S none) (.view .loose 5 (k.kids.map nodeL)) (.slice ka k.kids.length kc))
    {a : Option Addr} {c : Nat} (h1 : ks.length ≤ c) (h2 : ks.length ≤ big) (h3 : ks = [] ∨ ∃ b o, a = some ⟨b, o, none⟩ ∧ S b ∧ KidsR w S b o ks) : Rep w (pureC nil S none) (.view .loose 5 (ks.map nodeL)) (.slice a ks.length c) := by
  refine rep_view.2 ⟨a, c, by rw [List.length_map], fun h => (by cases h), by rw [List.length_map]; exact h1, by rw [List.length_map]; exact h2, fun e he => ?_, ?_⟩
  · obtain ⟨x, _, rfl⟩ := List.mem_map.1 he
    exact nodeL_len x
  · rcases h3 with rfl | ⟨b, o, ha, hb, hk⟩
    · exact .inl rfl
    · refine .inr ⟨b, o, ha, hb, ?_⟩
      clear h1 h2 ha
      induction ks generalizing o with
      | nil => unfold RepE; trivial
      | cons k ks ih2 =>
        rw [List.map_cons]
        unfold KidsR at hk
        obtain ⟨⟨na, nc, ka, kc, p0, p1, p2, p3, p4, hc⟩, hk⟩ := hk
        unfold RepE
        rw [nodeL_len]
        refine ⟨?_, ih2 (fun k hk => ih k (by simp [hk])) _ hk⟩
        obtain ⟨r2, r3, r4⟩ := ih k (by simp) _ _ _ _ hc
        rw [nodeL_eq]
        unfold RepC
        refine ⟨⟨_, p0, rfl, rep_int.2 rfl⟩, ?_⟩
        unfold RepC
        refine ⟨⟨_, p1, rfl, rep_int.2 rfl⟩, ?_⟩
        unfold RepC
        refine ⟨⟨_, p2, rfl, r2⟩, ?_⟩
        unfold RepC
        refine ⟨⟨_, p3, rfl, r3⟩, ?_⟩
        unfold RepC
        refine ⟨⟨_, p4, rfl, r4⟩, ?_⟩
        unfold RepC
        trivial
theorem nodeC_to_rep : ∀ (n : Nd) na nc ka kc, NodeC w S n na nc ka kc → Rep w (pureC nil S none) (.str n.text) (.string n.text) ∧ Rep w (pureC nil S none) (.view .loose 1 (strsE n.names)) (.slice na n.names.length nc) ∧ Rep w (pureC nil S none) (.view .loose 5 (n.kids.map nodeL)) (.slice ka n.kids.length kc) :=
  Nd.ind' _ (fun n ih na nc ka kc h => by
    cases n
    unfold NodeC at h
    obtain ⟨h1, h2, h3, h4, h5⟩ := h
    exact ⟨rep_str.2 ⟨rfl, h1⟩, strs_to_rep h2, kids_to_rep ih h3 h4 h5⟩)
end
end Go.Proofs.Ytgfnmhfdmmnaoaa.Eng
namespace Go.Proofs.Ytgfnmhfdmmnaoaa
open Go.RowKit
def validB (n : Nd) : Bool := shapeB n 5 && decide (n.count ≤ 40)
theorem ValidNode_ok (n : Nd) (v : Value) (w : World) (hn : NodeR w any n v) :
    Calls Try.prog 17 #[v] w fun e w' => e = .returned (.bool (validB n)) ∧ Grow w w' := by
  have Hn := Lib.hid hn
  obtain ⟨na, nc, ka, kc, rfl, hc⟩ := hn
  clear hc
  unfold nodeV at *
  cases hs : shapeB n 5
  · have Hf := Lib.hid (measV_no hs)
    have Hv : Hid (validB n = false) := Lib.hid (by simp [validB, hs])
    clear hs
    go_enter Try.func17, Try.ntmps17
    go_wp2_with (go_at_call 65; refine (measureNode_ok n 5 _ _ _ (by omega) (by omega) ((Hn.out).ext ((Ext.refl nil w).alloc _) (fun _ _ h => h))).mono ?_; rintro e w2 ⟨rfl, hg2⟩; simp only [Hf.out])
    go_ret
    exact ⟨by simp [Hv.out], (by repeat (first | with_reducible exact Ext.refl _ _ | with_reducible refine Ext.trans ?_ (by assumption) | with_reducible refine Ext.drew ?_ | with_reducible refine Ext.drewN ?_ _ | with_reducible refine Ext.alloc ?_ _ | with_reducible refine Ext.setNew ?_ (by simp; done) _ | with_reducible refine Ext.setNew ?_ (by simp; omega) _))⟩
  · have Hf := Lib.hid (measV_yes hs)
    have Hv : Hid (validB n = decide (n.count ≤ 40)) := Lib.hid (by simp [validB, hs])
    clear hs
    go_enter Try.func17, Try.ntmps17
    go_wp2_with (go_at_call 65; refine (measureNode_ok n 5 _ _ _ (by omega) (by omega) ((Hn.out).ext ((Ext.refl nil w).alloc _) (fun _ _ h => h))).mono ?_; rintro e w2 ⟨rfl, hg2⟩; simp only [Hf.out])
    all_goals go_ret
    all_goals exact ⟨by rw [Hv.out]; simp; omega, (by repeat (first | with_reducible exact Ext.refl _ _ | with_reducible refine Ext.trans ?_ (by assumption) | with_reducible refine Ext.drew ?_ | with_reducible refine Ext.drewN ?_ _ | with_reducible refine Ext.alloc ?_ _ | with_reducible refine Ext.setNew ?_ (by simp; done) _ | with_reducible refine Ext.setNew ?_ (by simp; omega) _))⟩
end Go.Proofs.Ytgfnmhfdmmnaoaa
namespace Go.Proofs.Ytgfnmhfdmmnaoaa
open Go.RowKit
theorem byte_lt (c : UInt8) : (c.toNat : Int) < 256 := by have := c.toNat_lt; omega
def inR (a b c : Int) : Bool := decide (b ≤ a) && decide (a ≤ c)
theorem inRange_ok (a b c : Int) (w : World) :
    Calls Try.prog 131 #[.int .i64 a, .int .i64 b, .int .i64 c] w fun e w' => e = .returned (.bool (inR a b c)) ∧ w' = w := by
  go_enter Try.func131, Try.ntmps131
  go_wp2
  all_goals go_ret
  all_goals exact ⟨by first | (simp_all [inR]; done) | (simp_all [inR]; omega), rfl⟩
theorem validText_ok (s : ByteArray) (w : World) (hs : s.size ≤ big) :
    Calls Try.prog 170 #[.string s] w fun e w' => e = .returned (.bool (plainT s)) ∧ w' = w := by
  unfold big at hs
  go_enter Try.func170, Try.ntmps170
  go_wp2
  go_loop [2, 3] (fun n i => n = .bool false ∧ ∃ k : Nat, k ≤ s.size ∧ i = .int .i64 k ∧ (s.data.toList.take k).all okB = true) (fun _ i => s.size - (intOf i).toNat)
  case atStart => exact ⟨rfl, 0, Nat.zero_le _, rfl, rfl⟩
  case round =>
    obtain ⟨rfl, k, hk, rfl, hall⟩ := hrel
    by_cases hlt : k < s.size
    · have Hall := Lib.hid hall
      have hby := byte_lt s[k]
      clear hall
      cases hc : inR (s[k].toNat : Int) 32 126
      · have Hf := Lib.hid (all_stop s k hlt (p := okB) (by simpa [okB, inR] using hc))
        go_wp2_with (go_at_call 131; refine (inRange_ok _ _ _ _).mono ?_; rintro e w' ⟨rfl, rfl⟩)
        go_ret
        exact ⟨by simp [plainT, Hf.out], rfl⟩
      · have Hc := Lib.hid hc
        go_wp2_with (go_at_call 131; refine (inRange_ok _ _ _ _).mono ?_; rintro e w' ⟨rfl, rfl⟩)
        go_round
        case rel => exact ⟨rfl, k + 1, by omega, by go_num, all_step s k hlt Hall.out (by simpa [okB, inR] using Hc.out)⟩
        case measure => simp [intOf]; omega
    · go_wp2
      go_ret
      exact ⟨by have : k = s.data.toList.length := by simp; omega
                rw [this, List.take_length] at hall
                simp [plainT, hall]; omega, rfl⟩
theorem shapeL_zero {l : List Nd} {d : Nat} (h : l.length = 0) : shapeL l d = true := by
  rw [List.length_eq_zero_iff.1 h]; simp [shapeL]
theorem names_ok (a : Option Addr) (c : Nat) (xs : List ByteArray) (w : World) (ha : StrsR w any a c xs) :
    Calls Try.prog 132 #[.slice a xs.length c] w fun e w' => e = .returned (.bool (namesB xs)) ∧ Grow w w' := by
  have hbig : xs.length ≤ 9223372036854775807 := ha.2.1
  have Ha := Lib.hid ha
  clear ha
  go_enter Try.func132, Try.ntmps132
  go_wp2
  go_loopw [2, 3] (fun n i wr => n = .bool false ∧ Grow w wr ∧ ∃ k : Nat, k ≤ xs.length ∧ i = .int .i64 k ∧ namesB xs = namesAt xs k) (fun _ i _ => xs.length - (intOf i).toNat)
  case atStart => exact ⟨rfl, Ext.refl _ _, 0, Nat.zero_le _, rfl, (namesAt_zero xs).symm⟩
  case round =>
    obtain ⟨rfl, hg, k, hk, rfl, hr⟩ := hrel
    have Hr := Lib.hid hr
    clear hr
    by_cases hlt : k < xs.length
    · obtain ⟨_, _, hxs, ha4⟩ := (Ha.out).ext hg (fun _ _ h => h)
      rcases ha4 with rfl | ⟨ba, oa, rfl, _, hca⟩
      · simp at hlt
      have hx := hca k hlt
      have hsz := hxs _ (List.getElem_mem hlt)
      cases hp : plainT xs[k]
      · have Hs : Hid (namesAt xs k = false) := Lib.hid (by
          rcases Nat.eq_zero_or_pos k with rfl | hk0
          · rw [namesAt_first xs hlt, hp]; rfl
          · rw [namesAt_next xs k hlt hk0, hp]; simp)
        have Hp := Lib.hid hp
        clear hca Ha hp
        go_wp2
        go_quiet ((go_at_call 170; exact Calls.quiet_of_same (by simpa only [Hp.out] using validText_ok xs[k] _ hsz)))
        go_wp2
        go_ret
        exact ⟨by simp [Hr.out, Hs.out], hg.drewN _⟩
      · have Hp := Lib.hid hp
        by_cases hk0 : 0 < k
        · have hy := hca (k - 1) (by omega)
          have Hs := Lib.hid (namesAt_next xs k hlt hk0)
          have hki : (0 : Int) < (k : Int) := by omega
          clear hca Ha hp
          rcases bl_cases xs[k - 1] xs[k] with ⟨l1, l2, l3, l4, _⟩ | ⟨l1, l2, l3, l4, _⟩ | l0
          · go_wp2
            go_quiet ((go_at_call 170; exact Calls.quiet_of_same (by simpa only [Hp.out] using validText_ok xs[k] _ hsz)))
            go_wp2
            go_roundw
            case rel => exact ⟨rfl, hg.drewN _, k + 1, by omega, by go_num, by rw [Hr.out, Hs.out, Hp.out, l1]; rfl⟩
            case measure => simp [intOf]; omega
          · go_wp2
            go_quiet ((go_at_call 170; exact Calls.quiet_of_same (by simpa only [Hp.out] using validText_ok xs[k] _ hsz)))
            go_wp2
            go_ret; exact ⟨by simp [Hr.out, Hs.out, Hp.out, l1], hg.drewN _⟩
          · rw [l0] at hy Hs
            clear l0
            have l1 := blF_irrefl xs[k]
            go_wp2
            go_quiet ((go_at_call 170; exact Calls.quiet_of_same (by simpa only [Hp.out] using validText_ok xs[k] _ hsz)))
            go_wp2
            go_ret; exact ⟨by simp [Hr.out, Hs.out, Hp.out, l1], hg.drewN _⟩
        · obtain rfl : k = 0 := by omega
          simp only [Nat.add_zero] at hx
          have Hs := Lib.hid (namesAt_first xs hlt)
          clear hca Ha hp
          go_wp2
          go_quiet ((go_at_call 170; exact Calls.quiet_of_same (by simpa only [Hp.out] using validText_ok xs[0] _ hsz)))
          go_wp2
          go_roundw
          case rel => exact ⟨rfl, hg.drewN _, 1, by omega, by go_num, by rw [Hr.out, Hs.out, Hp.out]; rfl⟩
          case measure => simp [intOf]; omega
    · go_wp2
      go_ret
      exact ⟨by simp [Hr.out, namesAt_end _ _ hlt], hg⟩
def ShapeOk (n : Nd) : Prop := ∀ (d : Nat) (dep : Int) (v : Value) (w : World), d ≤ 5 → dep = (d : Int) → NodeR w any n v →
    Calls Try.prog 133 #[v, .int .i64 dep] w fun e w' => e = .returned (.bool (shapeB n d)) ∧ Grow w w'
theorem kids_of (n : Nd) (ih : ∀ k ∈ n.kids, ShapeOk k) (d : Nat) (dep : Int) (v : Value) (w : World) (hd : d ≤ 4) (hdep : dep = (d : Int) + 1) (hn : NodeR w any n v) :
    Calls Try.prog 171 #[v, .int .i64 dep] w fun e w' => e = .returned (.bool (shapeL n.kids d)) ∧ Grow w w' := by
  have hd1 : 1 ≤ dep := by omega
  have hd2 : dep ≤ 5 := by omega
  have Hd := Lib.hid hdep
  have Ih := Lib.hid ih
  clear ih hdep
  obtain ⟨na, nc, ka, kc, rfl, hc⟩ := hn
  obtain ⟨htx, hns, hks⟩ := hc.parts
  have hkl : n.kids.length ≤ 9223372036854775807 := hks.2.1
  have Hks := Lib.hid hks
  clear htx hns hks hc
  unfold nodeV at *
  go_enter Try.func171, Try.ntmps171
  go_wp2
  go_loopw [4, 5] (fun n4 i wr => n4 = .bool false ∧ Grow (w.alloc (.cells #[.int .i64 n.kind, .int .i64 n.num, .string n.text, .slice na n.names.length nc, .slice ka n.kids.length kc] 30)) wr ∧ ∃ k : Nat, k ≤ n.kids.length ∧ i = .int .i64 k ∧ shapeL n.kids d = shapeL (n.kids.drop k) d) (fun _ i _ => n.kids.length - (intOf i).toNat)
  case atStart => exact ⟨rfl, Ext.refl _ _, 0, Nat.zero_le _, rfl, rfl⟩
  case round =>
    obtain ⟨rfl, hg, k, hk, rfl, hr⟩ := hrel
    have Hr := Lib.hid hr
    clear hr
    have hcc := bcell hg
    have hg0 : Grow w wr := ((Ext.refl _ _).alloc _).trans hg
    by_cases hlt : k < n.kids.length
    · obtain ⟨_, _, hks⟩ := (Hks.out).ext hg0 (fun _ _ h => h)
      rcases hks with hks | ⟨bk, ok, rfl, _, hkr⟩
      · simp [hks] at hlt
      obtain ⟨na', nc', ka', kc', c0, c1, c2, c3, c4, hkc⟩ := hkr.get k hlt
      have Hkc : Hid (NodeR wr any n.kids[k] (nodeV n.kids[k] na' nc' ka' kc')) := Lib.hid ⟨_, _, _, _, rfl, hkc⟩
      clear hkr hkc
      cases hsk : shapeB n.kids[k] d
      · have Hf := Lib.hid hsk
        have Hff := Lib.hid (shapeL_get hlt hsk)
        go_wp2_with (go_at_call 133; refine (Ih.out _ (List.getElem_mem hlt) d _ _ _ (by omega) (by have := Hd.out; omega) Hkc.out).mono ?_; rintro e w2 ⟨rfl, hg2⟩; simp only [Hf.out])
        go_ret
        exact ⟨by simp [Hff.out], hg0.trans hg2⟩
      · have Hf := Lib.hid hsk
        clear hsk
        go_wp2_with (go_at_call 133; refine (Ih.out _ (List.getElem_mem hlt) d _ _ _ (by omega) (by have := Hd.out; omega) Hkc.out).mono ?_; rintro e w2 ⟨rfl, hg2⟩; simp only [Hf.out])
        go_roundw
        case rel => exact ⟨rfl, hg.trans hg2, k + 1, by omega, by go_num, by rw [Hr.out, drop_cons _ _ hlt, shapeL, Hf.out]; rfl⟩
        case measure => simp [intOf]; omega
    · go_wp2
      go_ret
      exact ⟨by simp [Hr.out, List.drop_eq_nil_of_le (Nat.le_of_not_lt hlt), shapeL], hg0⟩
end Go.Proofs.Ytgfnmhfdmmnaoaa
