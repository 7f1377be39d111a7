/-
  Texts of this claim, joined.
-/
import Derived.Test.YtgfnmhfdmmnaoaaProg
import Derived.WalkKit
import Derived.WalkSpells
import Derived.WalkLawsBesides
import Derived.BigQuiet
import Derived.Test.YtgfnmhfdmmnaoaaRows
import Derived.Deep.LoopGhost
import Derived.Laws.IdiomStrings
import Derived.Test.YtgfnmhfdmmnaoaaNqC

set_option linter.unusedSimpArgs false
set_option linter.unusedVariables false
set_option linter.unnecessarySimpa false
set_option maxRecDepth 100000
set_option maxHeartbeats 16000000
namespace Go.Proofs.Ytgfnmhfdmmnaoaa.Eng
open Go Go.RowKit
section
variable {P : Program} {T : Tab} {k0 : Nat} {md : List Nat} {Av : Nat → Prop} {ops : Array Oper} {K : ASt → Prop} {o : Oper} {l : List Oper} {s : ASt}
theorem arun_c0 {f : FuncId} {xs : List Operand} {args : List AV} {Post : AV → Prop} (hac : AC P f args 0 Post) (h : ∀ r, Post r → ARun P T k0 Av md ops K l (s.put o.dst r)) (hw : awant ops o s = some true := by (simp [awant] <;> fail)) (ha : acall o.op = some (f, xs) := by rfl)
    (hx : xs.map (aev s) = args := by (simp [ASt.put, ASt.pay, ASt.add, Option.map_map, Function.comp_def, List.set_cons_succ, List.set_cons_zero, aev, ofVal, ofVal0, big, size_mk, nodeA, nodeT, nodeTL_eq, nodeL_eq] <;> fail))
    (hclo : cloL args := by (simp only [cloL] <;> (repeat (first | exact trivial | refine And.intro ?_ ?_ | exact clo_int | exact clo_str | exact clo_bool | exact clo_rdr | exact node_clo _ | exact nodeT_clo _ _ | exact strs_clo _ | exact ints_clo _ | exact nodes_clo _ | exact clo_vnil | exact bytes_clo _ | exact clo_lit _ rfl | assumption | exact item_clo _ | exact items_clo _ | exact store_clo _ _ | exact storeA_clo _ | exact change_clo _ _ _)) <;> fail)) : ARun P T k0 Av md ops K (o :: l) s := arun_call0 hw ha hx hac hclo h
theorem arun_c {f : FuncId} {xs : List Operand} {args : List AV} (c : Nat) {Post : AV → Prop} (hac : AC P f args c Post) (h : ∀ r, Post r → ARun P T k0 Av md ops K l ((s.pay c).put o.dst r)) (hw : awant ops o s = some true := by (simp [awant] <;> fail)) (ha : acall o.op = some (f, xs) := by rfl)
    (hx : xs.map (aev s) = args := by (simp [ASt.put, ASt.pay, ASt.add, Option.map_map, Function.comp_def, List.set_cons_succ, List.set_cons_zero, aev, ofVal, ofVal0, big, size_mk, nodeA, nodeT, nodeTL_eq, nodeL_eq] <;> fail))
    (hclo : cloL args := by (simp only [cloL] <;> (repeat (first | exact trivial | refine And.intro ?_ ?_ | exact clo_int | exact clo_str | exact clo_bool | exact clo_rdr | exact node_clo _ | exact nodeT_clo _ _ | exact strs_clo _ | exact ints_clo _ | exact nodes_clo _ | exact clo_vnil | exact bytes_clo _ | exact clo_lit _ rfl | assumption | exact item_clo _ | exact items_clo _ | exact store_clo _ _ | exact storeA_clo _ | exact change_clo _ _ _)) <;> fail))
    (hcan : s.can c := by (first | with_reducible exact can_none | (simp only [ASt.put, ASt.pay, ASt.add, Option.map_none]; exact can_none) | ((first | with_reducible refine can_some ?_ | refine can_of ?_ | (simp only [ASt.put, ASt.pay, ASt.add, Option.map_map, Function.comp_def, Option.map_some]; first | refine can_some ?_ | refine can_of ?_)); (first | exact Nat.le_refl _ | (simp <;> fail) | omega)))) : ARun P T k0 Av md ops K (o :: l) s := arun_call hw ha hx hac hclo hcan h
theorem arun_cU {f : FuncId} {xs : List Operand} (c : Nat) {Post : AV → Prop} (ha : acall o.op = some (f, xs)) (hac : AC P f (xs.map (aev s)) c Post) (h : ∀ r, Post r → ARun P T k0 Av md ops K l ((s.pay c).put o.dst r)) (hw : awant ops o s = some true := by (simp [awant] <;> fail))
    (hclo : cloL (xs.map (aev s)) := by (simp only [List.map_cons, List.map_nil, aev, ofVal, ofVal0, cloL] <;> (repeat (first | exact trivial | refine And.intro ?_ ?_ | exact clo_int | exact clo_str | exact clo_bool | exact clo_rdr | exact node_clo _ | exact nodeT_clo _ _ | exact strs_clo _ | exact ints_clo _ | exact nodes_clo _ | exact clo_vnil | exact bytes_clo _ | exact clo_lit _ rfl | assumption | exact item_clo _ | exact items_clo _ | exact store_clo _ _ | exact storeA_clo _ | exact change_clo _ _ _)) <;> fail))
    (hcan : s.can c := by (first | with_reducible exact can_none | (simp only [ASt.put, ASt.pay, ASt.add, Option.map_none]; exact can_none) | ((first | with_reducible refine can_some ?_ | refine can_of ?_ | (simp only [ASt.put, ASt.pay, ASt.add, Option.map_map, Function.comp_def, Option.map_some]; first | refine can_some ?_ | refine can_of ?_)); (first | exact Nat.le_refl _ | (simp <;> fail) | omega)))) : ARun P T k0 Av md ops K (o :: l) s := arun_callU hw ha hac hclo hcan h
theorem arun_cL {f : FuncId} {xs : List Operand} {args : List AV} (c : Nat) {Post : AV → Prop} (hac : AC P f args c Post) (h : ∀ r, Post r → ARun P T k0 Av md ops K l ((s.pay c).put o.dst r)) (hw : awant ops o s = some true := by (simp [awant] <;> fail)) (ha : acall o.op = some (f, xs) := by rfl)
    (hclo : LndL s.rows (xs.map (aev s)) args := by (simp [ASt.put, ASt.pay, ASt.add, Option.map_map, Function.comp_def, List.set_cons_succ, List.set_cons_zero, aev, ofVal, ofVal0, big, size_mk, nodeA, nodeT, nodeTL_eq, nodeL_eq] <;> (repeat (first | exact LndL.nil | exact LndL0.nil | refine LndL.cons ?_ ?_ | refine LndL0.cons ?_ ?_ | refine Lnd.base (Lnd0.clo (Clo.cloTo ?_)) | refine Lnd0.clo (Clo.cloTo ?_) | (refine Lnd.base (Lnd0.ownM ?_ ?_ ?_); (focus (simp [rowsOf_cons, rowsOf_nil, upd] <;> fail))) | (refine Lnd0.ownM ?_ ?_ ?_; (focus (simp [rowsOf_cons, rowsOf_nil, upd] <;> fail))) | refine Lnd.agg ?_ | exact clo_int | exact clo_str | exact clo_bool | exact clo_rdr | exact node_clo _ | exact nodeT_clo _ _ | exact strs_clo _ | exact ints_clo _ | exact nodes_clo _ | exact clo_vnil | exact bytes_clo _ | exact clo_lit _ rfl | assumption | exact item_clo _ | exact items_clo _ | exact store_clo _ _ | exact storeA_clo _ | exact change_clo _ _ _ | rfl | exact strsE_clo _ | exact nodesE_clo _ | exact itemsE_clo _ | (focus (simp [strsE_len] <;> fail)))) <;> fail))
    (hcan : s.can c := by (first | with_reducible exact can_none | (simp only [ASt.put, ASt.pay, ASt.add, Option.map_none]; exact can_none) | ((first | with_reducible refine can_some ?_ | refine can_of ?_ | (simp only [ASt.put, ASt.pay, ASt.add, Option.map_map, Function.comp_def, Option.map_some]; first | refine can_some ?_ | refine can_of ?_)); (first | exact Nat.le_refl _ | (simp <;> fail) | omega)))) : ARun P T k0 Av md ops K (o :: l) s := arun_callLU hw ha hac hclo hcan h
theorem arun_cR {f : FuncId} {xs : List Operand} {args : List AV} (c id : Nat) {Post : (Nat → AV) → Row → Prop} (hac : ACR P f args c (fun _ => False) Post) (h : ∀ r R, Post r R → ARun P T k0 Av md ops K l (((s.pay c).add id R).put o.dst (r id))) (hw : awant ops o s = some true := by (simp [awant] <;> fail)) (ha : acall o.op = some (f, xs) := by rfl)
    (hclo : LndL s.rows (xs.map (aev s)) args := by (simp [ASt.put, ASt.pay, ASt.add, Option.map_map, Function.comp_def, List.set_cons_succ, List.set_cons_zero, aev, ofVal, ofVal0, big, size_mk, nodeA, nodeT, nodeTL_eq, nodeL_eq] <;> (repeat (first | exact LndL.nil | exact LndL0.nil | refine LndL.cons ?_ ?_ | refine LndL0.cons ?_ ?_ | refine Lnd.base (Lnd0.clo (Clo.cloTo ?_)) | refine Lnd0.clo (Clo.cloTo ?_) | (refine Lnd.base (Lnd0.ownM ?_ ?_ ?_); (focus (simp [rowsOf_cons, rowsOf_nil, upd] <;> fail))) | (refine Lnd0.ownM ?_ ?_ ?_; (focus (simp [rowsOf_cons, rowsOf_nil, upd] <;> fail))) | refine Lnd.agg ?_ | exact clo_int | exact clo_str | exact clo_bool | exact clo_rdr | exact node_clo _ | exact nodeT_clo _ _ | exact strs_clo _ | exact ints_clo _ | exact nodes_clo _ | exact clo_vnil | exact bytes_clo _ | exact clo_lit _ rfl | assumption | exact item_clo _ | exact items_clo _ | exact store_clo _ _ | exact storeA_clo _ | exact change_clo _ _ _ | rfl | exact strsE_clo _ | exact nodesE_clo _ | exact itemsE_clo _ | (focus (simp [strsE_len] <;> fail)))) <;> fail))
    (hcan : s.can c := by (first | with_reducible exact can_none | (simp only [ASt.put, ASt.pay, ASt.add, Option.map_none]; exact can_none) | ((first | with_reducible refine can_some ?_ | refine can_of ?_ | (simp only [ASt.put, ASt.pay, ASt.add, Option.map_map, Function.comp_def, Option.map_some]; first | refine can_some ?_ | refine can_of ?_)); (first | exact Nat.le_refl _ | (simp <;> fail) | omega))))
    (hid : s.used id = false := by (simp [ASt.put, ASt.pay, ASt.add, usedOf_cons, usedOf_nil, upd] <;> fail)) : ARun P T k0 Av md ops K (o :: l) s := arun_callRU id hw ha hac hclo hcan hid (fun _ h => h.elim) h
theorem arun_cZ {f : FuncId} {xs : List Operand} {args : List AV} {Post : AV → Prop} (hac : AC0 P f args Post) (h : ∀ r, Post r → ARun P T k0 Av md ops K l (s.put o.dst r)) (hw : awant ops o s = some true := by (simp [awant] <;> fail)) (ha : acall o.op = some (f, xs) := by rfl)
    (hx : xs.map (aev s) = args := by (simp [ASt.put, ASt.pay, ASt.add, Option.map_map, Function.comp_def, List.set_cons_succ, List.set_cons_zero, aev, ofVal, ofVal0, big, size_mk, nodeA, nodeT, nodeTL_eq, nodeL_eq] <;> fail))
    (hclo : cloL args := by (simp only [cloL] <;> (repeat (first | exact trivial | refine And.intro ?_ ?_ | exact clo_int | exact clo_str | exact clo_bool | exact clo_rdr | exact node_clo _ | exact nodeT_clo _ _ | exact strs_clo _ | exact ints_clo _ | exact nodes_clo _ | exact clo_vnil | exact bytes_clo _ | exact clo_lit _ rfl | assumption | exact item_clo _ | exact items_clo _ | exact store_clo _ _ | exact storeA_clo _ | exact change_clo _ _ _)) <;> fail)) (hrd : s.rd = none := by rfl) : ARun P T k0 Av md ops K (o :: l) s := arun_callZ hw ha hx hac hclo hrd h
theorem arun_cN {f : FuncId} {xs : List Operand} {args : List AV} (n : Nat) (hac : ACN P f args (k0 + n)) (h : ARun P T k0 Av md ops K l (({ s with rd := some n } : ASt).put o.dst .rdr)) (hw : awant ops o s = some true := by (simp [awant] <;> fail)) (ha : acall o.op = some (f, xs) := by rfl)
    (hx : xs.map (aev s) = args := by (simp [ASt.put, ASt.pay, ASt.add, Option.map_map, Function.comp_def, List.set_cons_succ, List.set_cons_zero, aev, ofVal, ofVal0, big, size_mk, nodeA, nodeT, nodeTL_eq, nodeL_eq] <;> fail))
    (hclo : cloL args := by (simp only [cloL] <;> (repeat (first | exact trivial | refine And.intro ?_ ?_ | exact clo_int | exact clo_str | exact clo_bool | exact clo_rdr | exact node_clo _ | exact nodeT_clo _ _ | exact strs_clo _ | exact ints_clo _ | exact nodes_clo _ | exact clo_vnil | exact bytes_clo _ | exact clo_lit _ rfl | assumption | exact item_clo _ | exact items_clo _ | exact store_clo _ _ | exact storeA_clo _ | exact change_clo _ _ _)) <;> fail)) (hrd : s.rd = none := by rfl) : ARun P T k0 Av md ops K (o :: l) s := arun_callN n hw ha hx hac hclo hrd h
end
theorem arunD_cE {P : Program} {T : Tab} {md : List Nat} {Av : Nat → Prop} {pc : Pc} {ops : Array Oper} {K : ASt → Prop} {o : Oper} {l : List Oper} {k : Nat} {s : ASt} {f : FuncId} {xs : List Operand} {args : List AV} (c : Nat) {Post : AV → Prop} (hac : AC P f args c Post) (hne : ∃ r, Post r ∧ NoId r)
    (h : ∀ r, Post r → NoId r → ARunD P T md Av pc ops K l (k + 1) ((s.pay c).put o.dst r)) (hl : (pc.2.contains k || pc.2.contains (1000 + k)) = false := by rfl) (hw : awant ops o s = some true := by (simp [awant] <;> fail)) (ha : acall o.op = some (f, xs) := by rfl)
    (hx : xs.map (aev s) = args := by (simp [ASt.put, ASt.pay, ASt.add, Option.map_map, Function.comp_def, List.set_cons_succ, List.set_cons_zero, aev, ofVal, ofVal0, big, size_mk, nodeA, nodeT, nodeTL_eq, nodeL_eq] <;> fail))
    (hpc : pc.1 k args = (some c, Post) := by rfl)
    (hclo : ∀ x ∈ args, Clo x := by (simp only [List.forall_mem_cons, List.not_mem_nil, false_implies, implies_true, and_true] <;> (repeat (first | exact trivial | refine And.intro ?_ ?_ | exact clo_int | exact clo_str | exact clo_bool | exact clo_rdr | exact node_clo _ | exact nodeT_clo _ _ | exact strs_clo _ | exact ints_clo _ | exact nodes_clo _ | exact clo_vnil | exact bytes_clo _ | exact clo_lit _ rfl | assumption | exact item_clo _ | exact items_clo _ | exact store_clo _ _ | exact storeA_clo _ | exact change_clo _ _ _)) <;> fail))
    (hcan : s.can c := by (first | with_reducible exact can_none | (simp only [ASt.put, ASt.pay, ASt.add, Option.map_none]; exact can_none) | ((first | with_reducible refine can_some ?_ | refine can_of ?_ | (simp only [ASt.put, ASt.pay, ASt.add, Option.map_map, Function.comp_def, Option.map_some]; first | refine can_some ?_ | refine can_of ?_)); (first | exact Nat.le_refl _ | (simp <;> fail) | omega)))) : ARunD P T md Av pc ops K (o :: l) k s := arunD_call hl hw ha hx hac hpc hclo hcan hne h
theorem arunD_c {P : Program} {T : Tab} {md : List Nat} {Av : Nat → Prop} {pc : Pc} {ops : Array Oper} {K : ASt → Prop} {o : Oper} {l : List Oper} {k : Nat} {s : ASt} {f : FuncId} {xs : List Operand} {args : List AV} (c : Nat) {Post : AV → Prop} (hac : AC P f args c Post)
    (h : ∀ r, Post r → NoId r → ARunD P T md Av pc ops K l (k + 1) ((s.pay c).put o.dst r)) (hl : (pc.2.contains k || pc.2.contains (1000 + k)) = false := by rfl) (hw : awant ops o s = some true := by (simp [awant] <;> fail)) (ha : acall o.op = some (f, xs) := by rfl)
    (hx : xs.map (aev s) = args := by (simp [ASt.put, ASt.pay, ASt.add, Option.map_map, Function.comp_def, List.set_cons_succ, List.set_cons_zero, aev, ofVal, ofVal0, big, size_mk, nodeA, nodeT, nodeTL_eq, nodeL_eq] <;> fail))
    (hpc : pc.1 k args = (some c, Post) := by rfl)
    (hclo : ∀ x ∈ args, Clo x := by (simp only [List.forall_mem_cons, List.not_mem_nil, false_implies, implies_true, and_true] <;> (repeat (first | exact trivial | refine And.intro ?_ ?_ | exact clo_int | exact clo_str | exact clo_bool | exact clo_rdr | exact node_clo _ | exact nodeT_clo _ _ | exact strs_clo _ | exact ints_clo _ | exact nodes_clo _ | exact clo_vnil | exact bytes_clo _ | exact clo_lit _ rfl | assumption | exact item_clo _ | exact items_clo _ | exact store_clo _ _ | exact storeA_clo _ | exact change_clo _ _ _)) <;> fail))
    (hcan : s.can c := by (first | with_reducible exact can_none | (simp only [ASt.put, ASt.pay, ASt.add, Option.map_none]; exact can_none) | ((first | with_reducible refine can_some ?_ | refine can_of ?_ | (simp only [ASt.put, ASt.pay, ASt.add, Option.map_map, Function.comp_def, Option.map_some]; first | refine can_some ?_ | refine can_of ?_)); (first | exact Nat.le_refl _ | (simp <;> fail) | omega))))
    (hne : ∃ r, Post r ∧ NoId r := by (refine ⟨_, rfl, ?_⟩; first | exact node_in _ | exact storeA_in _ | exact item_in _ | exact in_int | exact in_bool | exact in_str | (simp [NoId, in_tup, in_agg, in_int, in_bool, in_str, node_in, nodes_in, strs_in] <;> fail))) : ARunD P T md Av pc ops K (o :: l) k s := arunD_call hl hw ha hx hac hpc hclo hcan hne h
theorem arunD_sE {P : Program} {T : Tab} {md : List Nat} {Av : Nat → Prop} {pc : Pc} {ops : Array Oper} {K : ASt → Prop} {o : Oper} {l : List Oper} {k : Nat} {s : ASt} {f : FuncId} {xs : List Operand} {args : List AV} {id : Nat} (c : Nat) {Post0 : AV → Prop} {Post : (Nat → AV) → Row → Prop} (hac : ACR P f args c Post0 Post) (hne : ∃ r, Post0 r ∧ NoId r)
    (h0 : ∀ r, Post0 r → NoId r → ARunD P T md Av pc ops K l (k + 1) ((s.pay c).put o.dst r)) (h : ∀ r R, Post r R → RIn id r R → ARunD P T md Av pc ops K l (k + 1) (((s.pay c).add id R).put o.dst (r id)))
    (hl : (pc.2.contains k && !pc.2.contains (1000 + k) && !pc.2.contains (2000 + k)) = true := by rfl) (hw : awant ops o s = some true := by (simp [awant] <;> fail)) (ha : acall o.op = some (f, xs) := by rfl) (hd : o.dst = some id := by rfl)
    (hclo : LndL s.rows (xs.map (aev s)) args := by (simp [ASt.put, ASt.pay, ASt.add, Option.map_map, Function.comp_def, List.set_cons_succ, List.set_cons_zero, aev, ofVal, ofVal0, big, size_mk, nodeA, nodeT, nodeTL_eq, nodeL_eq] <;> (repeat (first | exact LndL.nil | exact LndL0.nil | refine LndL.cons ?_ ?_ | refine LndL0.cons ?_ ?_ | refine Lnd.base (Lnd0.clo (Clo.cloTo ?_)) | refine Lnd0.clo (Clo.cloTo ?_) | (refine Lnd.base (Lnd0.ownM ?_ ?_ ?_); (focus (simp [rowsOf_cons, rowsOf_nil, upd] <;> fail))) | (refine Lnd0.ownM ?_ ?_ ?_; (focus (simp [rowsOf_cons, rowsOf_nil, upd] <;> fail))) | refine Lnd.agg ?_ | exact clo_int | exact clo_str | exact clo_bool | exact clo_rdr | exact node_clo _ | exact nodeT_clo _ _ | exact strs_clo _ | exact ints_clo _ | exact nodes_clo _ | exact clo_vnil | exact bytes_clo _ | exact clo_lit _ rfl | assumption | exact item_clo _ | exact items_clo _ | exact store_clo _ _ | exact storeA_clo _ | exact change_clo _ _ _ | rfl | exact strsE_clo _ | exact nodesE_clo _ | exact itemsE_clo _ | (focus (simp [strsE_len] <;> fail)))) <;> fail))
    (hcan : s.can c := by (first | with_reducible exact can_none | (simp only [ASt.put, ASt.pay, ASt.add, Option.map_none]; exact can_none) | ((first | with_reducible refine can_some ?_ | refine can_of ?_ | (simp only [ASt.put, ASt.pay, ASt.add, Option.map_map, Function.comp_def, Option.map_some]; first | refine can_some ?_ | refine can_of ?_)); (first | exact Nat.le_refl _ | (simp <;> fail) | omega))))
    (hid : s.used id = false := by (simp [ASt.put, ASt.pay, ASt.add, usedOf_cons, usedOf_nil, upd] <;> fail)) : ARunD P T md Av pc ops K (o :: l) k s := arunD_spc hl hw ha rfl hd hac hclo hcan hid hne h0 h
theorem less_a {s : ASt} {tm : List AV} {rl : List (Nat × Row)} {us : List Nat} {rd : Option Nat} (h1 : lessL s.tmps tm := by (simp [lessL, mkSt, slots] <;> fail)) (h2 : ∀ p ∈ rl, s.rows p.1 = some p.2 := by (simp [upd, mkSt, rowsOf_cons] <;> fail)) (h3 : ∀ id ∈ us, s.used id = true := by (simp [upd, mkSt, usedOf_cons] <;> fail))
    (h4 : rd = s.rd ∨ ∃ j j', s.rd = some j ∧ rd = some j' ∧ j' ≤ j := by first | exact rd_less (by omega) | (simp [mkSt] <;> fail))
    (h5 : ∀ c ∈ tm, AV.In (usedOf us) c := by (simp [slots, in_any, in_int, in_bool, in_str, in_ptr, in_own, in_agg, in_vnil, in_rdr, usedOf_cons, usedOf_nil, strs_in, ints_in, nodes_in, in_tup] <;> fail))
    (h6 : ∀ p ∈ rl, usedOf us p.1 = true ∧ ∀ e ∈ p.2.es, ∀ c ∈ e, AV.In (usedOf us) c := by (simp only [List.forall_mem_cons, List.not_mem_nil, false_implies, implies_true, and_true, true_and] <;> (repeat (first | with_reducible exact trivial | with_reducible refine And.intro ?_ ?_ | with_reducible exact in_int | with_reducible exact in_str | with_reducible exact in_bool | with_reducible exact strs_in _ | with_reducible exact nodes_in _ | with_reducible exact items_in _ | with_reducible exact in_vnil | with_reducible exact in_any | exact hin _ | with_reducible refine take_in ?_ | with_reducible exact strsE_in _ | with_reducible exact nodesE_in _ | with_reducible exact nodeL_in _ | with_reducible exact itemsE_in _ | with_reducible exact itemL_in _ | with_reducible refine app_in ?_ ?_ | with_reducible refine sing_in ?_ | (focus (simp [in_any, in_int, in_bool, in_str, in_ptr, in_own, in_agg, in_vnil, in_rdr, usedOf_cons, usedOf_nil, strs_in, ints_in, nodes_in] <;> fail)))) <;> fail)) : Less s (mkSt tm rl us rd) := less_of h1 h2 h3 h4 h5 h6
theorem arunD_skip {P : Program} {T : Tab} {md : List Nat} {Av : Nat → Prop} {pc : Pc} {ops : Array Oper} {K : ASt → Prop} {o : Oper} {l : List Oper} {k : Nat} {s : ASt} (hw : awant ops o s = some false)
    (h : ARunD P T md Av pc ops K l (k + 1) (s.put o.dst (.tup []))) (hl : (pc.2.contains k || pc.2.contains (1000 + k)) = false := by rfl) : ARunD P T md Av pc ops K (o :: l) k s := by
  refine ARunD.mk ?_
  rw [Bool.or_eq_false_iff] at hl
  unfold arunD astp astp0
  rw [if_neg (by rw [hl.2]; simp), if_neg (by rw [hl.1]; simp), hw]
  exact h.out
end Go.Proofs.Ytgfnmhfdmmnaoaa.Eng
namespace Go.Proofs.Ytgfnmhfdmmnaoaa.Eng
open Go Go.RowKit
def tyRows : List (TypeId × TI) := [
  (2, ⟨1, 8, .int .i64, [.int .i64]⟩),
  (3, ⟨1, 8, .int .i64, [.int .i64]⟩),
  (4, ⟨1, 1, .bool, [.bool]⟩),
  (5, ⟨1, 1, .int .u8, [.int .u8]⟩),
  (6, ⟨1, 1, .int .u8, [.int .u8]⟩),
  (7, ⟨4, 24, .struct [(0, 2), (1, 3), (2, 4), (3, 6)], [.int .i64, .int .i64, .bool, .int .u8]⟩),
  (8, ⟨4, 24, .struct [(0, 2), (1, 3), (2, 4), (3, 6)], [.int .i64, .int .i64, .bool, .int .u8]⟩),
  (9, ⟨1, 16, .str, [.str]⟩),
  (10, ⟨1, 16, .str, [.str]⟩),
  (11, ⟨1, 16, .str, [.str]⟩),
  (12, ⟨1, 8, .int .u64, [.int .u64]⟩),
  (13, ⟨2, 24, .struct [(0, 9), (1, 12)], [.str, .int .u64]⟩),
  (14, ⟨2, 24, .struct [(0, 9), (1, 12)], [.str, .int .u64]⟩),
  (15, ⟨1, 8, .other, [.other]⟩),
  (16, ⟨1, 8, .other, [.other]⟩),
  (17, ⟨1, 8, .other, [.other]⟩),
  (18, ⟨1, 8, .struct [(0, 17)], [.other]⟩),
  (19, ⟨1, 8, .struct [(0, 17)], [.other]⟩),
  (21, ⟨1, 4, .int .i32, [.int .i32]⟩),
  (22, ⟨1, 24, .slice 5, [.slice]⟩),
  (23, ⟨1, 24, .slice 9, [.slice]⟩),
  (24, ⟨1, 24, .slice 4, [.slice]⟩),
  (25, ⟨1, 24, .slice 27, [.slice]⟩),
  (26, ⟨4, 80, .struct [(0, 3), (1, 23), (2, 24), (3, 25)], [.int .i64, .slice, .slice, .slice]⟩),
  (27, ⟨4, 80, .struct [(0, 3), (1, 23), (2, 24), (3, 25)], [.int .i64, .slice, .slice, .slice]⟩),
  (28, ⟨1, 24, .slice 30, [.slice]⟩),
  (29, ⟨5, 80, .struct [(0, 3), (1, 3), (2, 9), (3, 23), (4, 28)], [.int .i64, .int .i64, .str, .slice, .slice]⟩),
  (30, ⟨5, 80, .struct [(0, 3), (1, 3), (2, 9), (3, 23), (4, 28)], [.int .i64, .int .i64, .str, .slice, .slice]⟩),
  (39, ⟨1, 24, .slice 41, [.slice]⟩),
  (40, ⟨5, 80, .struct [(0, 3), (1, 3), (2, 9), (3, 23), (4, 39)], [.int .i64, .int .i64, .str, .slice, .slice]⟩),
  (41, ⟨5, 80, .struct [(0, 3), (1, 3), (2, 9), (3, 23), (4, 39)], [.int .i64, .int .i64, .str, .slice, .slice]⟩),
  (42, ⟨8, 136, .struct [(0, 3), (1, 23), (2, 23), (3, 41)], [.int .i64, .slice, .slice, .int .i64, .int .i64, .str, .slice, .slice]⟩),
  (43, ⟨8, 136, .struct [(0, 3), (1, 23), (2, 23), (3, 41)], [.int .i64, .slice, .slice, .int .i64, .int .i64, .str, .slice, .slice]⟩),
  (47, ⟨8, 136, .struct [(0, 3), (1, 23), (2, 23), (3, 30)], [.int .i64, .slice, .slice, .int .i64, .int .i64, .str, .slice, .slice]⟩),
  (48, ⟨8, 136, .struct [(0, 3), (1, 23), (2, 23), (3, 30)], [.int .i64, .slice, .slice, .int .i64, .int .i64, .str, .slice, .slice]⟩),
  (55, ⟨1, 24, .slice 155, [.slice]⟩),
  (56, ⟨2, 32, .struct [(0, 55), (1, 3)], [.slice, .int .i64]⟩),
  (57, ⟨2, 32, .struct [(0, 55), (1, 3)], [.slice, .int .i64]⟩),
  (60, ⟨1, 24, .slice 116, [.slice]⟩),
  (61, ⟨2, 32, .struct [(0, 60), (1, 3)], [.slice, .int .i64]⟩),
  (62, ⟨2, 32, .struct [(0, 60), (1, 3)], [.slice, .int .i64]⟩),
  (73, ⟨1, 24, .slice 75, [.slice]⟩),
  (74, ⟨4, 80, .struct [(0, 3), (1, 23), (2, 24), (3, 73)], [.int .i64, .slice, .slice, .slice]⟩),
  (75, ⟨4, 80, .struct [(0, 3), (1, 23), (2, 24), (3, 73)], [.int .i64, .slice, .slice, .slice]⟩),
  (85, ⟨1, 24, .slice 48, [.slice]⟩),
  (92, ⟨1, 8, .other, [.other]⟩),
  (115, ⟨7, 104, .struct [(0, 9), (1, 3), (2, 30)], [.str, .int .i64, .int .i64, .int .i64, .str, .slice, .slice]⟩),
  (116, ⟨7, 104, .struct [(0, 9), (1, 3), (2, 30)], [.str, .int .i64, .int .i64, .int .i64, .str, .slice, .slice]⟩),
  (143, ⟨1, 24, .slice 3, [.slice]⟩),
  (144, ⟨2, 32, .struct [(0, 22), (1, 3)], [.slice, .int .i64]⟩),
  (145, ⟨2, 32, .struct [(0, 22), (1, 3)], [.slice, .int .i64]⟩),
  (154, ⟨7, 104, .struct [(0, 9), (1, 3), (2, 41)], [.str, .int .i64, .int .i64, .int .i64, .str, .slice, .slice]⟩),
  (155, ⟨7, 104, .struct [(0, 9), (1, 3), (2, 41)], [.str, .int .i64, .int .i64, .int .i64, .str, .slice, .slice]⟩),
  (170, ⟨1, 8, .other, [.other]⟩),
  (175, ⟨1, 24, .slice 23, [.slice]⟩),
  (182, ⟨1, 8, .int .u64, [.int .u64]⟩),
  (197, ⟨4, 40, .struct [(0, 17), (1, 17), (2, 17), (3, 9)], [.other, .other, .other, .str]⟩),
  (198, ⟨4, 40, .struct [(0, 17), (1, 17), (2, 17), (3, 9)], [.other, .other, .other, .str]⟩),
  (203, ⟨1, 4, .int .u32, [.int .u32]⟩),
  (204, ⟨1, 1, .int .u8, [.int .u8]⟩),
  (205, ⟨1, 1, .int .u8, [.int .u8]⟩),
  (207, ⟨1, 8, .other, [.other]⟩),
  (208, ⟨1, 4, .int .i32, [.int .i32]⟩),
  (209, ⟨1, 4, .int .i32, [.int .i32]⟩)]
def tab : Tab := tabOf tyRows
theorem tab_ok : Tab.Ok Try.prog tab := tabOf_ok (by kernel_rfl)
theorem mixed_ok : Try.prog.follows .mixedOrders = true := by kernel_rfl
@[go_sem] theorem tab2 : tab 2 = some ⟨1, 8, .int .i64, [.int .i64]⟩ := by kernel_rfl
@[go_sem] theorem tab3 : tab 3 = some ⟨1, 8, .int .i64, [.int .i64]⟩ := by kernel_rfl
@[go_sem] theorem tab4 : tab 4 = some ⟨1, 1, .bool, [.bool]⟩ := by kernel_rfl
@[go_sem] theorem tab5 : tab 5 = some ⟨1, 1, .int .u8, [.int .u8]⟩ := by kernel_rfl
@[go_sem] theorem tab6 : tab 6 = some ⟨1, 1, .int .u8, [.int .u8]⟩ := by kernel_rfl
@[go_sem] theorem tab7 : tab 7 = some ⟨4, 24, .struct [(0, 2), (1, 3), (2, 4), (3, 6)], [.int .i64, .int .i64, .bool, .int .u8]⟩ := by kernel_rfl
@[go_sem] theorem tab8 : tab 8 = some ⟨4, 24, .struct [(0, 2), (1, 3), (2, 4), (3, 6)], [.int .i64, .int .i64, .bool, .int .u8]⟩ := by kernel_rfl
@[go_sem] theorem tab9 : tab 9 = some ⟨1, 16, .str, [.str]⟩ := by kernel_rfl
@[go_sem] theorem tab10 : tab 10 = some ⟨1, 16, .str, [.str]⟩ := by kernel_rfl
@[go_sem] theorem tab11 : tab 11 = some ⟨1, 16, .str, [.str]⟩ := by kernel_rfl
@[go_sem] theorem tab12 : tab 12 = some ⟨1, 8, .int .u64, [.int .u64]⟩ := by kernel_rfl
@[go_sem] theorem tab13 : tab 13 = some ⟨2, 24, .struct [(0, 9), (1, 12)], [.str, .int .u64]⟩ := by kernel_rfl
@[go_sem] theorem tab14 : tab 14 = some ⟨2, 24, .struct [(0, 9), (1, 12)], [.str, .int .u64]⟩ := by kernel_rfl
@[go_sem] theorem tab15 : tab 15 = some ⟨1, 8, .other, [.other]⟩ := by kernel_rfl
@[go_sem] theorem tab16 : tab 16 = some ⟨1, 8, .other, [.other]⟩ := by kernel_rfl
@[go_sem] theorem tab17 : tab 17 = some ⟨1, 8, .other, [.other]⟩ := by kernel_rfl
@[go_sem] theorem tab18 : tab 18 = some ⟨1, 8, .struct [(0, 17)], [.other]⟩ := by kernel_rfl
@[go_sem] theorem tab19 : tab 19 = some ⟨1, 8, .struct [(0, 17)], [.other]⟩ := by kernel_rfl
@[go_sem] theorem tab21 : tab 21 = some ⟨1, 4, .int .i32, [.int .i32]⟩ := by kernel_rfl
@[go_sem] theorem tab22 : tab 22 = some ⟨1, 24, .slice 5, [.slice]⟩ := by kernel_rfl
@[go_sem] theorem tab23 : tab 23 = some ⟨1, 24, .slice 9, [.slice]⟩ := by kernel_rfl
@[go_sem] theorem tab24 : tab 24 = some ⟨1, 24, .slice 4, [.slice]⟩ := by kernel_rfl
@[go_sem] theorem tab25 : tab 25 = some ⟨1, 24, .slice 27, [.slice]⟩ := by kernel_rfl
@[go_sem] theorem tab26 : tab 26 = some ⟨4, 80, .struct [(0, 3), (1, 23), (2, 24), (3, 25)], [.int .i64, .slice, .slice, .slice]⟩ := by kernel_rfl
@[go_sem] theorem tab27 : tab 27 = some ⟨4, 80, .struct [(0, 3), (1, 23), (2, 24), (3, 25)], [.int .i64, .slice, .slice, .slice]⟩ := by kernel_rfl
@[go_sem] theorem tab28 : tab 28 = some ⟨1, 24, .slice 30, [.slice]⟩ := by kernel_rfl
@[go_sem] theorem tab29 : tab 29 = some ⟨5, 80, .struct [(0, 3), (1, 3), (2, 9), (3, 23), (4, 28)], [.int .i64, .int .i64, .str, .slice, .slice]⟩ := by kernel_rfl
@[go_sem] theorem tab30 : tab 30 = some ⟨5, 80, .struct [(0, 3), (1, 3), (2, 9), (3, 23), (4, 28)], [.int .i64, .int .i64, .str, .slice, .slice]⟩ := by kernel_rfl
@[go_sem] theorem tab39 : tab 39 = some ⟨1, 24, .slice 41, [.slice]⟩ := by kernel_rfl
@[go_sem] theorem tab40 : tab 40 = some ⟨5, 80, .struct [(0, 3), (1, 3), (2, 9), (3, 23), (4, 39)], [.int .i64, .int .i64, .str, .slice, .slice]⟩ := by kernel_rfl
@[go_sem] theorem tab41 : tab 41 = some ⟨5, 80, .struct [(0, 3), (1, 3), (2, 9), (3, 23), (4, 39)], [.int .i64, .int .i64, .str, .slice, .slice]⟩ := by kernel_rfl
@[go_sem] theorem tab42 : tab 42 = some ⟨8, 136, .struct [(0, 3), (1, 23), (2, 23), (3, 41)], [.int .i64, .slice, .slice, .int .i64, .int .i64, .str, .slice, .slice]⟩ := by kernel_rfl
@[go_sem] theorem tab43 : tab 43 = some ⟨8, 136, .struct [(0, 3), (1, 23), (2, 23), (3, 41)], [.int .i64, .slice, .slice, .int .i64, .int .i64, .str, .slice, .slice]⟩ := by kernel_rfl
@[go_sem] theorem tab47 : tab 47 = some ⟨8, 136, .struct [(0, 3), (1, 23), (2, 23), (3, 30)], [.int .i64, .slice, .slice, .int .i64, .int .i64, .str, .slice, .slice]⟩ := by kernel_rfl
@[go_sem] theorem tab48 : tab 48 = some ⟨8, 136, .struct [(0, 3), (1, 23), (2, 23), (3, 30)], [.int .i64, .slice, .slice, .int .i64, .int .i64, .str, .slice, .slice]⟩ := by kernel_rfl
@[go_sem] theorem tab55 : tab 55 = some ⟨1, 24, .slice 155, [.slice]⟩ := by kernel_rfl
@[go_sem] theorem tab56 : tab 56 = some ⟨2, 32, .struct [(0, 55), (1, 3)], [.slice, .int .i64]⟩ := by kernel_rfl
@[go_sem] theorem tab57 : tab 57 = some ⟨2, 32, .struct [(0, 55), (1, 3)], [.slice, .int .i64]⟩ := by kernel_rfl
@[go_sem] theorem tab60 : tab 60 = some ⟨1, 24, .slice 116, [.slice]⟩ := by kernel_rfl
@[go_sem] theorem tab61 : tab 61 = some ⟨2, 32, .struct [(0, 60), (1, 3)], [.slice, .int .i64]⟩ := by kernel_rfl
@[go_sem] theorem tab62 : tab 62 = some ⟨2, 32, .struct [(0, 60), (1, 3)], [.slice, .int .i64]⟩ := by kernel_rfl
@[go_sem] theorem tab73 : tab 73 = some ⟨1, 24, .slice 75, [.slice]⟩ := by kernel_rfl
@[go_sem] theorem tab74 : tab 74 = some ⟨4, 80, .struct [(0, 3), (1, 23), (2, 24), (3, 73)], [.int .i64, .slice, .slice, .slice]⟩ := by kernel_rfl
@[go_sem] theorem tab75 : tab 75 = some ⟨4, 80, .struct [(0, 3), (1, 23), (2, 24), (3, 73)], [.int .i64, .slice, .slice, .slice]⟩ := by kernel_rfl
@[go_sem] theorem tab85 : tab 85 = some ⟨1, 24, .slice 48, [.slice]⟩ := by kernel_rfl
@[go_sem] theorem tab92 : tab 92 = some ⟨1, 8, .other, [.other]⟩ := by kernel_rfl
@[go_sem] theorem tab115 : tab 115 = some ⟨7, 104, .struct [(0, 9), (1, 3), (2, 30)], [.str, .int .i64, .int .i64, .int .i64, .str, .slice, .slice]⟩ := by kernel_rfl
@[go_sem] theorem tab116 : tab 116 = some ⟨7, 104, .struct [(0, 9), (1, 3), (2, 30)], [.str, .int .i64, .int .i64, .int .i64, .str, .slice, .slice]⟩ := by kernel_rfl
@[go_sem] theorem tab143 : tab 143 = some ⟨1, 24, .slice 3, [.slice]⟩ := by kernel_rfl
@[go_sem] theorem tab144 : tab 144 = some ⟨2, 32, .struct [(0, 22), (1, 3)], [.slice, .int .i64]⟩ := by kernel_rfl
@[go_sem] theorem tab145 : tab 145 = some ⟨2, 32, .struct [(0, 22), (1, 3)], [.slice, .int .i64]⟩ := by kernel_rfl
@[go_sem] theorem tab154 : tab 154 = some ⟨7, 104, .struct [(0, 9), (1, 3), (2, 41)], [.str, .int .i64, .int .i64, .int .i64, .str, .slice, .slice]⟩ := by kernel_rfl
@[go_sem] theorem tab155 : tab 155 = some ⟨7, 104, .struct [(0, 9), (1, 3), (2, 41)], [.str, .int .i64, .int .i64, .int .i64, .str, .slice, .slice]⟩ := by kernel_rfl
@[go_sem] theorem tab170 : tab 170 = some ⟨1, 8, .other, [.other]⟩ := by kernel_rfl
@[go_sem] theorem tab175 : tab 175 = some ⟨1, 24, .slice 23, [.slice]⟩ := by kernel_rfl
@[go_sem] theorem tab182 : tab 182 = some ⟨1, 8, .int .u64, [.int .u64]⟩ := by kernel_rfl
@[go_sem] theorem tab197 : tab 197 = some ⟨4, 40, .struct [(0, 17), (1, 17), (2, 17), (3, 9)], [.other, .other, .other, .str]⟩ := by kernel_rfl
@[go_sem] theorem tab198 : tab 198 = some ⟨4, 40, .struct [(0, 17), (1, 17), (2, 17), (3, 9)], [.other, .other, .other, .str]⟩ := by kernel_rfl
@[go_sem] theorem tab203 : tab 203 = some ⟨1, 4, .int .u32, [.int .u32]⟩ := by kernel_rfl
@[go_sem] theorem tab204 : tab 204 = some ⟨1, 1, .int .u8, [.int .u8]⟩ := by kernel_rfl
@[go_sem] theorem tab205 : tab 205 = some ⟨1, 1, .int .u8, [.int .u8]⟩ := by kernel_rfl
@[go_sem] theorem tab207 : tab 207 = some ⟨1, 8, .other, [.other]⟩ := by kernel_rfl
@[go_sem] theorem tab208 : tab 208 = some ⟨1, 4, .int .i32, [.int .i32]⟩ := by kernel_rfl
@[go_sem] theorem tab209 : tab 209 = some ⟨1, 4, .int .i32, [.int .i32]⟩ := by kernel_rfl
end Go.Proofs.Ytgfnmhfdmmnaoaa.Eng
namespace Go.Proofs.Ytgfnmhfdmmnaoaa.Eng
open Go Go.RowKit
theorem AC.ofR {P : Program} {f : FuncId} {args : List AV} {c : Nat} {Q0 : AV → Prop} {Q : (Nat → AV) → Row → Prop} (h : ACR P f args c Q0 Q)
    (hn : ∀ r R, Q r R → NoId (AV.sub 0 R.es.length (.view .loose R.sz R.es) (r 0))) : AC P f args c (fun x => Q0 x ∨ ∃ r R, Q r R ∧ x = AV.sub 0 R.es.length (.view .loose R.sz R.es) (r 0)) := by
  refine ⟨h.1, fun w L S rb k vs h0 h1 h2 h3 => (h.2 w L S rb k vs h0 h1 h2 h3).mono ?_⟩
  rintro e w' ⟨v, S', rfl, k2, k3, k4, k5, k6⟩
  rcases k6 with ⟨r, q1, q2⟩ | ⟨r, R, u, q1, q2, q3, q4⟩
  · exact ⟨v, r, S', rfl, k2, k3, k4, k5, q1, .inl q2⟩
  · obtain ⟨g0, hlen, hbx, xs, hat, hrep, hone⟩ := q2
    let S2 : Nat → Prop := fun b => S' b ∨ blk u = some b
    let ρ2 : Cx := { oneC S2 0 u R.es.length with row := fun _ => none }
    have le : Cx.Le w' (oneC S' 0 u R.es.length) w' ρ2 := ⟨fun b hb => ⟨.inl hb, fun _ => rfl⟩, fun b hb => False.elim hb, fun id hid => ⟨hid, Nat.le_refl _, fun u hu => by cases hu⟩, fun _ h => by cases h⟩
    have lp : Cx.Le w' (pureC nil S' none) w' ρ2 := ⟨fun b hb => ⟨.inl hb, fun _ => rfl⟩, fun b hb => False.elim hb, fun id hid => False.elim hid, fun _ h => by cases h⟩
    have hc : ∀ v, Rep w' (oneC S' 0 u R.es.length) (.own 0 R.es.length) v → Rep w' ρ2 (.view .loose R.sz R.es) v := fun v hv => by
      obtain ⟨_, _, _, hq⟩ := rep_own.1 hv
      have hvu := hq u (by simp [oneC]) (by simp [oneC])
      subst hvu
      have hat0 := hat
      rcases hat with ⟨hn0, rfl, a0, rfl⟩ | ⟨g, cap, cur, rfl, hp, hb, hg, hn0, hcap, hcs, htk, hl⟩
      · have he : R.es = [] := List.length_eq_zero_iff.1 hn0
        exact rep_view.2 ⟨a0, 0, by rw [he]; rfl, fun _ => by rw [he]; rfl, by rw [he]; exact Nat.le_refl _, by rw [he]; exact Nat.zero_le _, hlen, .inl he⟩
      · refine rep_view.2 ⟨_, cap, rfl, (fun h => by cases h), hn0, by unfold maxLen at hcap; unfold big; omega, hlen, .inr ⟨g, 0, rfl, .inr (blk_slice _ _ _ hp), RepE.of_get hlen (fun i e he => RepC.of_get (fun j c hc' => ?_))⟩⟩
        have hlt : j < R.sz := by rw [← hlen e (List.mem_of_getElem? he)]; exact (List.getElem?_eq_some_iff.1 hc').1
        have hf := flat_get hlen he hlt
        rw [hc'] at hf
        obtain ⟨v, hv, hrv⟩ := hrep.get hf
        refine ⟨v, ?_, hone v (List.mem_of_getElem? hv), hrv.le lp⟩
        rw [Nat.zero_add]
        exact hat0.cells _ _ hv
    have hr := Rep.sub le hc (q1 0)
    refine ⟨v, _, S2, rfl, k2, fun b hb => .inl (k3 b hb), fun b hb => ?_, fun b hb => (k5 b hb).moved (Ext.refl nil w') (fun h => h) (fun b hb => ⟨.inl hb, fun h => h⟩), ?_, .inr ⟨r, R, q4, rfl⟩⟩
    · rcases hb with hb | hb
      · exact k4 b hb
      · exact .inr ⟨g0.2 b hb, (hat.lt b hb).2⟩
    · have h3 := hr.cut (ρ := ρ2) (U := fun _ => false) (ρ' := { ρ2 with U := fun _ => False }) ⟨rfl, rfl, rfl, rfl, (fun _ h => by cases h), (fun id u hu => by cases hu)⟩ (hn r R q4)
      exact Rep.le (ρ := { ρ2 with U := fun _ => False }) (ρ' := pureC nil S2 none) ⟨fun b hb => ⟨hb, fun _ => rfl⟩, fun b hb => False.elim hb, fun id hid => False.elim hid, fun _ h => by cases h⟩ h3
inductive Sml : Nd → Prop
  | mk (n : Nd) (h1 : n.names.length ≤ 1000) (h2 : n.kids.length ≤ 1000) (h3 : ∀ k ∈ n.kids, Sml k) : Sml n
theorem Sml.names {n : Nd} (h : Sml n) : n.names.length ≤ 1000 := by cases h; assumption
theorem Sml.kids {n : Nd} (h : Sml n) : n.kids.length ≤ 1000 := by cases h; assumption
theorem Sml.kid {n : Nd} (h : Sml n) {k : Nd} (hk : k ∈ n.kids) : Sml k := by cases h with | mk _ _ _ h3 => exact h3 k hk
end Go.Proofs.Ytgfnmhfdmmnaoaa.Eng
namespace Go.Proofs.Ytgfnmhfdmmnaoaa
open Go Go.RowKit
def RowIn (w : World) (b n : Nat) : Prop := b < w.heap.size ∧ (∀ j, j < n → ∃ u, w.cell? ⟨b, j, none⟩ = some u) ∧ ∀ j, w.frozen? ⟨b, j, none⟩ = false
theorem RowIn.ext {X : Nat → Prop} {w w' : World} {b n : Nat} (h : Ext X w w') (hx : ¬ X b) (hr : RowIn w b n) : RowIn w' b n := by
  obtain ⟨h1, h2, h3⟩ := hr
  refine ⟨Nat.lt_of_lt_of_le h1 h.size, fun j hj => ?_, fun j => ?_⟩
  · rw [h.cell (p := ⟨b, j, none⟩) h1 hx]; exact h2 j hj
  · rw [h.frozen (p := ⟨b, j, none⟩) h1 hx]; exact h3 j
theorem cell_set {w : World} {p : Addr} {u : Value} (h : w.cell? p = some u) (v : Value) (q : Addr) : (w.setCell p v).cell? q = if q = p then some v else w.cell? q := by
  by_cases e : q = p
  · subst e; rw [if_pos rfl]; exact World.cell?_setCell_same w q v h
  · rw [if_neg e]; exact World.cell?_setCell_other w p q v (fun h => e h.symm)
theorem size_setCell (w : World) (p : Addr) (v : Value) : (w.setCell p v).heap.size = w.heap.size := by simp [World.setCell]
theorem RowIn.setCell {w : World} {b n : Nat} (hr : RowIn w b n) (p : Addr) (v : Value) : RowIn (w.setCell p v) b n := by
  obtain ⟨h1, h2, h3⟩ := hr
  refine ⟨by rw [size_setCell]; exact h1, fun j hj => cell?_setCell_some (h2 j hj).choose_spec, fun j => ?_⟩
  rw [World.frozen?_setCell]; exact h3 j
theorem Ext.setNew {X : Nat → Prop} {a w : World} (h : Ext X a w) {p : Addr} (hp : a.heap.size ≤ p.block) (v : Value) : Ext X a (w.setCell p v) :=
  ⟨h.os, h.tape, h.output, by rw [size_setCell]; exact h.size, fun k hk hx => by rw [Below.heap_setCell _ _ _ _ (by omega)]; exact h.block k hk hx⟩
theorem Ext.setIn {X : Nat → Prop} {a w : World} (h : Ext X a w) {p : Addr} (hp : X p.block) (v : Value) : Ext X a (w.setCell p v) :=
  ⟨h.os, h.tape, h.output, by rw [size_setCell]; exact h.size, fun k hk hx => by rw [Below.heap_setCell _ _ _ _ (fun e => hx (by rw [e]; exact hp))]; exact h.block k hk hx⟩
structure BoxN (w : World) (b : Nat) (cs : List Value) : Prop where
  cell : ∀ i v, cs[i]? = some v → w.cell? ⟨b, i, none⟩ = some v
  fr : ∀ o, w.frozen? ⟨b, o, none⟩ = false
  lt : b < w.heap.size
theorem BoxN.new (w : World) (cs : List Value) (t : TypeId) : BoxN (w.alloc (.cells cs.toArray t)) w.heap.size cs :=
  ⟨fun i v h => by rw [World.cell?_alloc_new]; simpa using h, fun o => World.frozen?_alloc_new w _ t o, by simp⟩
theorem BoxN.new1 (w : World) (x : Obj) (cs : List Value) (t : TypeId) : BoxN ((w.alloc x).alloc (.cells cs.toArray t)) (w.heap.size + 1) cs := by
  have := BoxN.new (w.alloc x) cs t
  rw [World.size_alloc] at this; exact this
theorem BoxN.new2 (w : World) (x y : Obj) (cs : List Value) (t : TypeId) : BoxN (((w.alloc x).alloc y).alloc (.cells cs.toArray t)) (w.heap.size + 1 + 1) cs := by
  have := BoxN.new ((w.alloc x).alloc y) cs t
  rw [World.size_alloc, World.size_alloc] at this; exact this
theorem BoxN.ext {X : Nat → Prop} {w w' : World} {b : Nat} {cs : List Value} (hb : BoxN w b cs) (h : Ext X w w') (hx : ¬ X b) : BoxN w' b cs :=
  ⟨fun i v hi => by rw [h.cell hb.lt hx]; exact hb.cell i v hi, fun o => by rw [h.frozen (p := ⟨b, o, none⟩) hb.lt hx]; exact hb.fr o, Nat.lt_of_lt_of_le hb.lt h.size⟩
theorem BoxN.grow {w w' : World} {b : Nat} {cs : List Value} (hb : BoxN w b cs) (h : Grow w w') : BoxN w' b cs := hb.ext h (fun h => h)
theorem BoxN.other {w : World} {b : Nat} {cs : List Value} (hb : BoxN w b cs) {p : Addr} (hp : p.block ≠ b) (v : Value) : BoxN (w.setCell p v) b cs :=
  hb.ext (X := fun k => k = p.block) (Ext.setIn (X := fun k => k = p.block) (Ext.refl _ w) (p := p) rfl v) (fun h => hp h.symm)
theorem BoxN.set {w : World} {b : Nat} {cs : List Value} (hb : BoxN w b cs) (i : Nat) (hi : i < cs.length) (v : Value) : BoxN (w.setCell ⟨b, i, none⟩ v) b (cs.set i v) := by
  refine ⟨fun j u h => ?_, fun o => by rw [World.frozen?_setCell]; exact hb.fr o, by rw [size_setCell]; exact hb.lt⟩
  rw [cell_set (hb.cell i cs[i] (List.getElem?_eq_getElem hi))]
  rw [List.getElem?_set] at h
  by_cases e : j = i
  · subst e; simpa [hi] using h
  · rw [if_neg (by intro h'; cases h'; exact e rfl)]
    rw [if_neg (fun h' => e h'.symm)] at h
    exact hb.cell j u h
def nodeL (n : Nd) (na : Option Addr) (nc : Nat) (ka : Option Addr) (kc : Nat) : List Value :=
  [.int .i64 n.kind, .int .i64 n.num, .string n.text, .slice na n.names.length nc, .slice ka n.kids.length kc]
mutual
theorem NodeC.mono {w : World} {S T : Nat → Prop} (hS : ∀ k, S k → T k) : ∀ {n : Nd} {na : Option Addr} {nc : Nat} {ka : Option Addr} {kc : Nat}, NodeC w S n na nc ka kc → NodeC w T n na nc ka kc
  | ⟨_, _, _, _, kids⟩, na, nc, ka, kc, hn => by
    unfold NodeC at hn ⊢
    obtain ⟨h1, h2, h3, h4, h5⟩ := hn
    refine ⟨h1, h2.mono hS, h3, h4, h5.imp id ?_⟩
    rintro ⟨b, o, e, hb, hk⟩
    exact ⟨b, o, e, hS b hb, KidsR.mono hS hk⟩
theorem KidsR.mono {w : World} {S T : Nat → Prop} (hS : ∀ k, S k → T k) {b : Nat} : ∀ {l : List Nd} {o : Nat}, KidsR w S b o l → KidsR w T b o l
  | [], _, _ => by unfold KidsR; trivial
  | k :: ks, o, hk => by
    unfold KidsR at hk ⊢
    obtain ⟨⟨na, nc, ka, kc, c0, c1, c2, c3, c4, hn⟩, hr⟩ := hk
    exact ⟨⟨na, nc, ka, kc, c0, c1, c2, c3, c4, NodeC.mono hS hn⟩, KidsR.mono hS hr⟩
end
end Go.Proofs.Ytgfnmhfdmmnaoaa
namespace Go.Proofs.Ytgfnmhfdmmnaoaa
open Go Go.RowKit
abbrev lt (a b : ByteArray) : Bool := Op.bytesLess a.toList b.toList
theorem bl_irrefl : ∀ x : List UInt8, Op.bytesLess x x = false
  | [] => rfl
  | a :: x => by simp [Op.bytesLess, bl_irrefl x]
theorem bl_tri : ∀ x y : List UInt8, (Op.bytesLess x y || x == y) = !Op.bytesLess y x
  | [], [] => rfl
  | [], b :: y => by simp [Op.bytesLess]
  | a :: x, [] => by simp [Op.bytesLess]
  | a :: x, b :: y => by
    have ih := bl_tri x y
    simp only [Op.bytesLess, List.cons_beq_cons]
    rcases (show a.toNat < b.toNat ∨ a.toNat = b.toNat ∨ b.toNat < a.toNat from by omega) with h | h | h
    · have h1 : a < b := UInt8.lt_iff_toNat_lt.2 h
      have h2 : ¬ b < a := fun h' => by have := UInt8.lt_iff_toNat_lt.1 h'; omega
      have h3 : ¬ a = b := fun e => by subst e; omega
      have h4 : ¬ b = a := fun e => h3 e.symm
      simp [h1, h2, h4]
    · have h3 : a = b := UInt8.toNat_inj.1 h
      subst h3
      have h1 : ¬ a < a := fun h' => by have := UInt8.lt_iff_toNat_lt.1 h'; omega
      simp [h1, ih]
    · have h1 : b < a := UInt8.lt_iff_toNat_lt.2 h
      have h2 : ¬ a < b := fun h' => by have := UInt8.lt_iff_toNat_lt.1 h'; omega
      have h3 : ¬ a = b := fun e => by subst e; omega
      have h4 : ¬ b = a := fun e => h3 e.symm
      simp [h1, h2, h3]
theorem bl_trans : ∀ x y z : List UInt8, Op.bytesLess x y = true → Op.bytesLess y z = true → Op.bytesLess x z = true
  | x, [], _, h, _ => by cases x <;> simp [Op.bytesLess] at h
  | _, _ :: _, [], _, h => by simp [Op.bytesLess] at h
  | [], _ :: _, _ :: _, _, _ => rfl
  | a :: x, b :: y, c :: z, h1, h2 => by
    simp only [Op.bytesLess, Bool.or_eq_true, Bool.and_eq_true, decide_eq_true_eq, beq_iff_eq] at h1 h2 ⊢
    rcases h1 with h1 | ⟨rfl, h1⟩
    · rcases h2 with h2 | ⟨rfl, h2⟩
      · exact .inl (UInt8.lt_iff_toNat_lt.2 (Nat.lt_trans (UInt8.lt_iff_toNat_lt.1 h1) (UInt8.lt_iff_toNat_lt.1 h2)))
      · exact .inl h1
    · rcases h2 with h2 | ⟨rfl, h2⟩
      · exact .inl h2
      · exact .inr ⟨rfl, bl_trans x y z h1 h2⟩
theorem toList_inj {a b : ByteArray} (h : a.toList = b.toList) : a = b := by
  have h' : a.data.toList = b.data.toList := by rw [← ByteArray.toList_eq, ← ByteArray.toList_eq]; exact h
  cases a; cases b; simp_all [Array.toList_inj]
theorem beq_toList (a b : ByteArray) : (a.toList == b.toList) = decide (a = b) := by
  by_cases h : a = b
  · simp [h]
  · have : ¬ a.toList = b.toList := fun e => h (toList_inj e)
    simp [h, this]
theorem bl_cases (x y : ByteArray) :
    (Op.bytesLess x.toList y.toList = true ∧ Op.bytesLess y.toList x.toList = false ∧ (x.toList == y.toList) = false ∧ (y.toList == x.toList) = false ∧ x ≠ y) ∨
    (Op.bytesLess x.toList y.toList = false ∧ Op.bytesLess y.toList x.toList = true ∧ (x.toList == y.toList) = false ∧ (y.toList == x.toList) = false ∧ x ≠ y) ∨
    x = y := by
  by_cases h : x = y
  · exact .inr (.inr h)
  · have h1 : (x.toList == y.toList) = false := by rw [beq_toList]; simp [h]
    have h2 : (y.toList == x.toList) = false := by rw [beq_toList]; simp [Ne.symm h]
    have h3 := bl_tri x.toList y.toList
    rw [h1, Bool.or_false] at h3
    cases h4 : Op.bytesLess y.toList x.toList
    · exact .inl ⟨by rw [h3, h4]; rfl, rfl, h1, h2, h⟩
    · exact .inr (.inl ⟨by rw [h3, h4]; rfl, rfl, h1, h2, h⟩)
theorem blF_irrefl (x : ByteArray) : Op.bytesLess x.toList x.toList = false := bl_irrefl _
end Go.Proofs.Ytgfnmhfdmmnaoaa
namespace Go.Proofs.Ytgfnmhfdmmnaoaa
open Go
section
variable {P : Program} {ops : Array Oper} {md : Region.Mode} {R : World → World → Prop} {Vs : Nat → Option (Value → World → Prop)} {C : World → Prop}
abbrev Env := Nat → World → Prop
def Env.upd (E : Env) (i : Nat) (F : World → Prop) : Env := fun k w => E k w ∧ (k = i → F w)
def valUpon (R : World → World → Prop) (w : World) (c : Value) : Result Next → Prop
  | .ok (.value u) w' => u = c ∧ R w w'
  | .ok .skip w' => c = undef ∧ R w w'
  | _ => False
def stabUpon (P : Program) (R : World → World → Prop) (w : World) (V : Value → World → Prop) : Result Next → Prop
  | .ok (.value u) w' => R w w' ∧ V u w'
  | .ok .skip w' => R w w' ∧ V undef w'
  | .ok (.enter f args) w' => w' = w ∧ Calls P f args w (fun e w'' => ∃ v, e = .returned v ∧ R w w'' ∧ V v w'')
  | _ => False
def valAt (R : World → World → Prop) (P : Program) (o : Oper) (a : Act) (w : World) (c : Value) : Prop := valUpon R w c ((execOp a.eval o).run P w)
def stabAt (R : World → World → Prop) (P : Program) (o : Oper) (a : Act) (w : World) (V : Value → World → Prop) : Prop := stabUpon P R w V ((execOp a.eval o).run P w)
def cls (C : World → Prop) (o : Oper) (E : Env) (w : World) : Prop := C w ∧ ∀ e ∈ o.after, Region.binds .any e = true → E e.on w
def does (P : Program) (R : World → World → Prop) (Vs : Nat → Option (Value → World → Prop)) (C : World → Prop) (i : Nat) (o : Oper) (K : Act → Env → Prop) (a : Act) (E : Env) : Prop :=
  match Vs i with
  | none => ∃ c, (∀ w, cls C o E w → valAt R P o a w c) ∧ K (a.put o.dst c) E
  | some V => (∀ w, cls C o E w → stabAt R P o a w V) ∧ ∀ v w, C w → (∀ k, E k w) → V v w → K (a.put o.dst v) (E.upd i (V v))
def step (P : Program) (ops : Array Oper) (R : World → World → Prop) (Vs : Nat → Option (Value → World → Prop)) (C : World → Prop) (i : Nat) (K : Act → Env → Prop) (a : Act) (E : Env) : Prop :=
  match ops[i]? with
  | none => K a E
  | some o => if Region.wanted o (yielded ops a.tmps) then does P R Vs C i o K a E else K (a.put o.dst undef) E
structure Closed (R : World → World → Prop) (C : World → Prop) (Vs : Nat → Option (Value → World → Prop)) : Prop where
  refl : ∀ w, R w w
  cl : ∀ w w', R w w' → C w → C w'
  st : ∀ i V, Vs i = some V → ∀ v w w', R w w' → V v w → V v w'
def EnvSt (R : World → World → Prop) (E : Env) : Prop := ∀ k w w', R w w' → E k w → E k w'
theorem EnvSt.upd {E : Env} (h : EnvSt R E) {i : Nat} {F : World → Prop} (hF : ∀ w w', R w w' → F w → F w') : EnvSt R (E.upd i F) :=
  fun k w w' hr hk => ⟨h k w w' hr hk.1, fun e => hF _ _ hr (hk.2 e)⟩
theorem cls_upd {oj : Oper} {E : Env} {i : Nat} {F : World → Prop} (hno : ∀ e ∈ oj.after, Region.binds .any e = true → e.on ≠ i) (w : World) : cls C oj (E.upd i F) w ↔ cls C oj E w := by
  unfold cls Env.upd
  exact ⟨fun ⟨h1, h2⟩ => ⟨h1, fun e he hb => (h2 e he hb).1⟩, fun ⟨h1, h2⟩ => ⟨h1, fun e he hb => ⟨h2 e he hb, fun h => absurd h (hno e he hb)⟩⟩⟩
theorem upd_comm {E : Env} {i j : Nat} {F G : World → Prop} : (E.upd i F).upd j G = (E.upd j G).upd i F := by
  funext k w
  unfold Env.upd
  exact propext ⟨fun ⟨⟨h1, h2⟩, h3⟩ => ⟨⟨h1, h3⟩, h2⟩, fun ⟨⟨h1, h2⟩, h3⟩ => ⟨⟨h1, h3⟩, h2⟩⟩
theorem valAt_put {oj : Oper} (hsj : ∀ cs b, oj.op ≠ .select cs b) {a : Act} {d : Option Tmp} {v : Value} (h : ∀ t, d = some t → t ∉ oj.looksAt ops) {w : World} {c : Value} :
    valAt R P oj (a.put d v) w c = valAt R P oj a w c := by unfold valAt; rw [execOp_put oj hsj a d v h]
theorem stabAt_put {oj : Oper} (hsj : ∀ cs b, oj.op ≠ .select cs b) {a : Act} {d : Option Tmp} {v : Value} (h : ∀ t, d = some t → t ∉ oj.looksAt ops) {w : World} {V : Value → World → Prop} :
    stabAt R P oj (a.put d v) w V = stabAt R P oj a w V := by unfold stabAt; rw [execOp_put oj hsj a d v h]
theorem valAt_det {o : Oper} {a : Act} {w : World} {c c' : Value} (h : valAt R P o a w c) (h' : valAt R P o a w c') : c = c' := by
  unfold valAt at *
  generalize (execOp a.eval o).run P w = r at *
  cases r with
  | ok n w' => cases n <;> simp only [valUpon] at h h' <;> first | exact h.1.symm.trans h'.1 | exact h.1.trans h'.1.symm
  | halt x w' => simp only [valUpon] at h
theorem stab_some {o : Oper} {a : Act} {w : World} {V : Value → World → Prop} (h : stabAt R P o a w V) : ∃ v w', R w w' ∧ V v w' := by
  unfold stabAt at *
  generalize (execOp a.eval o).run P w = r at *
  cases r with
  | ok n w' =>
    cases n <;> simp only [stabUpon] at h
    case value u => exact ⟨_, _, h⟩
    case skip => exact ⟨_, _, h⟩
    case enter f args =>
      obtain ⟨rfl, hcl⟩ := h
      obtain ⟨e, w'', fr, ⟨v, he, hr, hv⟩, _⟩ := hcl []
      exact ⟨v, w'', hr, hv⟩
  | halt x w' => simp only [stabUpon] at h
theorem exch (hc : Closed R C Vs) {i j : Nat} {oi oj : Oper} (hi : ops[i]? = some oi) (hj : ops[j]? = some oj) (hap : oi.apart ops oj = true)
    (hsi : ∀ cs b, oi.op ≠ .select cs b) (hsj : ∀ cs b, oj.op ≠ .select cs b)
    (hnj : ∀ e ∈ oj.after, Region.binds .any e = true → e.on ≠ i) (hni : ∀ e ∈ oi.after, Region.binds .any e = true → e.on ≠ j)
    {K : Act → Env → Prop} {a : Act} {E : Env} (hE : EnvSt R E) (hex : ∃ w, C w ∧ ∀ k, E k w)
    (h : step P ops R Vs C i (fun a' E' => step P ops R Vs C j K a' E') a E) : step P ops R Vs C j (fun a' E' => step P ops R Vs C i K a' E') a E := by
  obtain ⟨p1, p2, p3⟩ := Oper.apart_spec hap
  unfold step at *
  simp only [hi, hj] at *
  have wj : ∀ v, Region.wanted oj (yielded ops (a.put oi.dst v).tmps) = Region.wanted oj (yielded ops a.tmps) := fun v => wanted_put oj a oi.dst v p1
  have wi : ∀ v, Region.wanted oi (yielded ops (a.put oj.dst v).tmps) = Region.wanted oi (yielded ops a.tmps) := fun v => wanted_put oi a oj.dst v p3
  have pc : ∀ u v, (a.put oi.dst v).put oj.dst u = (a.put oj.dst u).put oi.dst v := fun u v => Act.put_comm a v u p2
  have vj : ∀ v w c, valAt R P oj (a.put oi.dst v) w c = valAt R P oj a w c := fun v w c => valAt_put hsj p1
  have vi : ∀ v w c, valAt R P oi (a.put oj.dst v) w c = valAt R P oi a w c := fun v w c => valAt_put hsi p3
  have sj : ∀ v w V, stabAt R P oj (a.put oi.dst v) w V = stabAt R P oj a w V := fun v w V => stabAt_put hsj p1
  have si : ∀ v w V, stabAt R P oi (a.put oj.dst v) w V = stabAt R P oi a w V := fun v w V => stabAt_put hsi p3
  cases hwi : Region.wanted oi (yielded ops a.tmps) <;> cases hwj : Region.wanted oj (yielded ops a.tmps)
  · simp only [hwi, hwj, wi, wj, Bool.false_eq_true, if_false] at h ⊢
    rw [← pc]; exact h
  · simp only [hwi, hwj, wj, if_true, Bool.false_eq_true, if_false] at h ⊢
    unfold does at *
    cases hVj : Vs j with
    | none =>
      simp only [hVj, vj, wi, hwi, Bool.false_eq_true, if_false] at h ⊢
      obtain ⟨c, h1, h2⟩ := h
      exact ⟨c, h1, by rw [← pc]; exact h2⟩
    | some V =>
      simp only [hVj, sj, wi, hwi, Bool.false_eq_true, if_false] at h ⊢
      obtain ⟨h1, h2⟩ := h
      exact ⟨h1, fun v w k1 k2 k3 => by rw [← pc]; exact h2 v w k1 k2 k3⟩
  · simp only [hwi, wi, if_true, Bool.false_eq_true, if_false] at h ⊢
    unfold does at *
    cases hVi : Vs i with
    | none =>
      simp only [hVi, vi, wj, hwj, Bool.false_eq_true, if_false] at h ⊢
      obtain ⟨c, h1, h2⟩ := h
      exact ⟨c, h1, by rw [← pc]; exact h2⟩
    | some V =>
      simp only [hVi, si, wj, hwj, Bool.false_eq_true, if_false] at h ⊢
      obtain ⟨h1, h2⟩ := h
      exact ⟨h1, fun v w k1 k2 k3 => by rw [← pc]; exact h2 v w k1 k2 k3⟩
  · simp only [hwi, if_true] at h ⊢
    unfold does at *
    cases hVi : Vs i with
    | none =>
      cases hVj : Vs j with
      | none =>
        simp only [hVi, hVj, vi, vj, wi, wj, hwi, hwj, if_true] at h ⊢
        obtain ⟨c, h1, d, h3, h4⟩ := h
        exact ⟨d, h3, c, h1, by rw [← pc]; exact h4⟩
      | some V' =>
        simp only [hVi, hVj, vi, sj, wi, wj, hwi, hwj, if_true] at h ⊢
        obtain ⟨c, h1, h3, h4⟩ := h
        exact ⟨h3, fun u w k1 k2 k3 => ⟨c, fun w' hw' => h1 w' ((cls_upd hni w').1 hw'), by rw [← pc]; exact h4 u w k1 k2 k3⟩⟩
    | some V =>
      cases hVj : Vs j with
      | none =>
        simp only [hVi, hVj, si, vj, wi, wj, hwi, hwj, if_true] at h ⊢
        obtain ⟨h1, h2⟩ := h
        obtain ⟨w0, hw0, hE0⟩ := hex
        obtain ⟨v0, w1, hr, hv0⟩ := stab_some (R := R) (h1 w0 ⟨hw0, fun e _ _ => hE0 e.on⟩)
        have hw1 := hc.cl _ _ hr hw0
        have hE1 : ∀ k, E k w1 := fun k => hE k _ _ hr (hE0 k)
        obtain ⟨d, h4, h5⟩ := h2 v0 w1 hw1 hE1 hv0
        have h4' : ∀ w, cls C oj E w → valAt R P oj a w d := fun w hw => h4 w ((cls_upd hnj w).2 hw)
        refine ⟨d, h4', h1, fun v w k1 k2 k3 => ?_⟩
        obtain ⟨d', h6, h7⟩ := h2 v w k1 k2 k3
        have hw' : cls C oj E w := ⟨k1, fun e _ _ => k2 e.on⟩
        have e1 := h6 w ((cls_upd hnj w).2 hw')
        rw [← valAt_det e1 (h4' w hw')]
        rw [← pc]; exact h7
      | some V' =>
        simp only [hVi, hVj, si, sj, wi, wj, hwi, hwj, if_true] at h ⊢
        obtain ⟨h1, h2⟩ := h
        obtain ⟨w0, hw0, hE0⟩ := hex
        obtain ⟨v0, w1, hr, hv0⟩ := stab_some (R := R) (h1 w0 ⟨hw0, fun e _ _ => hE0 e.on⟩)
        have hw1 := hc.cl _ _ hr hw0
        have hE1 : ∀ k, E k w1 := fun k => hE k _ _ hr (hE0 k)
        obtain ⟨h4, h5⟩ := h2 v0 w1 hw1 hE1 hv0
        refine ⟨fun w hw => h4 w ((cls_upd hnj w).2 hw), fun u w k1 k2 k3 => ⟨fun w' hw' => h1 w' ((cls_upd hni w').1 hw'), fun v w' q1 q2 q3 => ?_⟩⟩
        have := (h2 v w' q1 (fun k => (q2 k).1) q3).2 u w' q1 (fun k => ⟨(q2 k).1, fun _ => q3⟩) ((q2 j).2 rfl)
        rw [← pc, upd_comm]; exact this
end
end Go.Proofs.Ytgfnmhfdmmnaoaa
namespace Go.Proofs.Ytgfnmhfdmmnaoaa
open Go.RowKit
def okB (c : UInt8) : Bool := decide (32 ≤ (c.toNat : Int)) && decide ((c.toNat : Int) ≤ 126)
def plainT (s : ByteArray) : Bool := decide (s.size ≤ 12) && s.data.toList.all okB
theorem take_snoc (s : ByteArray) (k : Nat) (h : k < s.size) : s.data.toList.take (k + 1) = s.data.toList.take k ++ [s[k]] := by
  rw [List.take_succ_eq_append_getElem (by simpa using h)]; rfl
theorem all_step {p : UInt8 → Bool} (s : ByteArray) (k : Nat) (h : k < s.size) (h1 : (s.data.toList.take k).all p = true) (h2 : p s[k] = true) : (s.data.toList.take (k + 1)).all p = true := by
  rw [take_snoc s k h, List.all_append, h1]; simp [h2]
theorem all_stop {p : UInt8 → Bool} (s : ByteArray) (k : Nat) (h : k < s.size) (h2 : p s[k] = false) : s.data.toList.all p = false := by
  rw [List.all_eq_false]
  exact ⟨s[k], by simp [ByteArray.getElem_eq_getElem_data], by simp [h2]⟩
theorem isPlainText_ok (s : ByteArray) (w : World) (hs : s.size ≤ big) :
    Calls Try.prog 173 #[.string s] w fun e w' => e = .returned (.bool (plainT s)) ∧ w' = w := by
  unfold big at hs
  by_cases hl : 12 < s.size
  · go_enter Try.func173, Try.ntmps173
    go_wp2
    go_ret
    exact ⟨by simp [plainT]; omega, rfl⟩
  · go_enter Try.func173, Try.ntmps173
    go_wp2
    go_loop [2, 3] (fun n i => n = .bool false ∧ ∃ k : Nat, k ≤ s.size ∧ i = .int .i64 k ∧ (s.data.toList.take k).all okB = true) (fun _ i => s.size - (intOf i).toNat)
    case atStart => exact ⟨rfl, 0, Nat.zero_le _, rfl, rfl⟩
    case round =>
      obtain ⟨rfl, k, hk, rfl, hall⟩ := hrel
      by_cases hlt : k < s.size
      · have Hall := Lib.hid hall
        clear hall
        by_cases hc : 32 ≤ (s[k].toNat : Int) ∧ (s[k].toNat : Int) ≤ 126
        · obtain ⟨hc1, hc2⟩ := hc
          go_wp2
          go_round
          case rel => exact ⟨rfl, k + 1, by omega, by go_num, all_step s k hlt Hall.out (by simp [okB]; omega)⟩
          case measure => simp [intOf]; omega
        · have hf : okB s[k] = false := by simp [okB]; omega
          have Hf := Lib.hid (all_stop s k hlt hf)
          clear hf
          go_wp2
          all_goals (go_ret; exact ⟨by simp [plainT, Hf.out], rfl⟩)
      · go_wp2
        go_ret
        exact ⟨by have : k = s.data.toList.length := by simp; omega
                  rw [this, List.take_length] at hall
                  simp [plainT, hall]; omega, rfl⟩
theorem take_snoc' {α : Type} (l : List α) (k : Nat) (h : k < l.length) : l.take (k + 1) = l.take k ++ [l[k]] := List.take_succ_eq_append_getElem h
theorem drop_cons {α : Type} (xs : List α) (k : Nat) (h : k < xs.length) : xs.drop k = xs[k] :: xs.drop (k + 1) := List.drop_eq_getElem_cons h
def namesFrom : Option ByteArray → List ByteArray → Bool
  | _, [] => true
  | p, x :: r => plainT x && (match p with | none => true | some y => Op.bytesLess y.toList x.toList) && namesFrom (some x) r
def namesB (xs : List ByteArray) : Bool := namesFrom none xs
def areNamesB (xs : List ByteArray) : Bool := decide (xs.length ≤ 6) && namesB xs
def namesAt (xs : List ByteArray) (k : Nat) : Bool := namesFrom (if k = 0 then none else xs[k - 1]?) (xs.drop k)
theorem namesAt_zero (xs : List ByteArray) : namesAt xs 0 = namesB xs := by simp [namesAt, namesB]
theorem namesAt_end (xs : List ByteArray) (k : Nat) (h : ¬ k < xs.length) : namesAt xs k = true := by
  unfold namesAt; rw [List.drop_eq_nil_of_le (by omega)]; cases k <;> simp [namesFrom]
theorem namesAt_first (xs : List ByteArray) (h : 0 < xs.length) : namesAt xs 0 = (plainT xs[0] && namesAt xs 1) := by
  unfold namesAt; rw [drop_cons xs 0 h]; simp [namesFrom, h]
theorem namesAt_next (xs : List ByteArray) (k : Nat) (h : k < xs.length) (h0 : 0 < k) : namesAt xs k = (plainT xs[k] && Op.bytesLess xs[k - 1].toList xs[k].toList && namesAt xs (k + 1)) := by
  unfold namesAt
  rw [drop_cons xs k h, if_neg (by omega), List.getElem?_eq_getElem (by omega)]
  simp [namesFrom, h]
theorem areNames_ok (a : Option Addr) (c : Nat) (xs : List ByteArray) (w : World) (S : Nat → Prop) (ha : StrsR w S a c xs) :
    Calls Try.prog 136 #[.slice a xs.length c] w fun e w' => e = .returned (.bool (areNamesB xs)) ∧ Grow w w' := by
  have hbig : xs.length ≤ 9223372036854775807 := ha.2.1
  have Ha := Lib.hid ha
  clear ha
  by_cases hl : 6 < xs.length
  · go_enter Try.func136, Try.ntmps136
    go_wp2
    go_ret
    exact ⟨by simp [areNamesB]; omega, Ext.refl _ _⟩
  · go_enter Try.func136, Try.ntmps136
    go_wp2
    go_loopw [2, 3, 4, 10] (fun n _ _ i wr => n = .bool false ∧ Grow w wr ∧ ∃ k : Nat, k ≤ xs.length ∧ i = .int .i64 k ∧ namesB xs = namesAt xs k) (fun _ _ _ i _ => xs.length - (intOf i).toNat)
    case atStart => exact ⟨rfl, Ext.refl _ _, 0, Nat.zero_le _, rfl, (namesAt_zero xs).symm⟩
    case round =>
      obtain ⟨rfl, hg, k, hk, rfl, hr⟩ := hrel
      have Hr := Lib.hid hr
      clear hr
      by_cases hlt : k < xs.length
      · obtain ⟨_, _, hxs, ha4⟩ := (Ha.out).ext hg (fun _ _ h => h)
        rcases ha4 with rfl | ⟨ba, oa, rfl, _, hca⟩
        · simp at hlt
        have hx := hca k hlt
        have hsz := hxs _ (List.getElem_mem hlt)
        by_cases hk0 : 0 < k
        · have hy := hca (k - 1) (by omega)
          have hs := namesAt_next xs k hlt hk0
          have Hs := Lib.hid hs
          clear hca Ha hs
          go_wp2_with (go_at_call 173; refine (isPlainText_ok _ _ hsz).mono ?_; rintro e w' ⟨rfl, rfl⟩)
          all_goals first
            | (go_ret; exact ⟨by simp_all [areNamesB, Hr.out, Hs.out], hg⟩)
            | (go_roundw
               case rel => exact ⟨rfl, hg, k + 1, by omega, by go_num, by rw [Hr.out, Hs.out]; simp_all⟩
               case measure => simp [intOf]; omega)
        · obtain rfl : k = 0 := by omega
          simp only [Nat.add_zero] at hx
          have hs := namesAt_first xs hlt
          have Hs := Lib.hid hs
          clear hca Ha hs
          go_wp2_with (go_at_call 173; refine (isPlainText_ok _ _ hsz).mono ?_; rintro e w' ⟨rfl, rfl⟩)
          all_goals first
            | (go_ret; exact ⟨by simp_all [areNamesB, Hr.out, Hs.out], hg⟩)
            | (go_roundw
               case rel => exact ⟨rfl, hg, 1, by omega, by go_num, by rw [Hr.out, Hs.out]; simp_all⟩
               case measure => simp [intOf]; omega)
      · go_wp2
        go_ret
        exact ⟨by simp [areNamesB, Hr.out, namesAt_end _ _ hlt]; omega, hg⟩
def partsB (n : Nd) : Bool :=
  (decide (n.kind = 1) || decide (n.num = 0)) && (decide (n.kind = 2) || n.text.toList.isEmpty) && (decide (n.kind = 4) || decide (n.names.length = 0)) &&
  (if n.kind = 0 then decide (n.kids.length = 0) else if n.kind = 1 then decide (-999999 ≤ n.num) && decide (n.num ≤ 999999) && decide (n.kids.length = 0)
   else if n.kind = 2 then plainT n.text && decide (n.kids.length = 0) else if n.kind = 3 then decide (n.kids.length ≤ 6)
   else if n.kind = 4 then areNamesB n.names && decide (n.kids.length = n.names.length) else false)
theorem ibeq (a b : Int) : (a == b) = decide (a = b) := by by_cases h : a = b <;> simp [h]
theorem bcell {w w' : World} (hg : Grow w w') : (∀ b o, b < w.heap.size → w'.cell? ⟨b, o, none⟩ = w.cell? ⟨b, o, none⟩) := fun b o h => hg.cell (p := ⟨b, o, none⟩) h (fun h => h)
theorem hasValidParts_ok (n : Nd) (v : Value) (w : World) (S : Nat → Prop) (hn : NodeR w S n v) :
    Calls Try.prog 137 #[v] w fun e w' => e = .returned (.bool (partsB n)) ∧ Grow w w' := by
  obtain ⟨na, nc, ka, kc, rfl, hc⟩ := hn
  obtain ⟨htx, hns, hks⟩ := hc.parts
  have hnl : n.names.length ≤ 9223372036854775807 := hns.2.1
  have hkl : n.kids.length ≤ 9223372036854775807 := hks.2.1
  have Hns := Lib.hid hns
  have Hks := Lib.hid hks
  have Htx := Lib.hid htx
  clear hns hks hc htx
  unfold nodeV
  go_enter Try.func137, Try.ntmps137
  go_wp2_with (first | (go_at_call 173; refine (isPlainText_ok _ _ Htx.out).mono ?_; rintro e w' ⟨rfl, rfl⟩) | (go_at_call 136; refine (areNames_ok _ _ _ _ S (Hns.out.ext ((Ext.refl nil w).alloc _) (fun _ _ h => h))).mono ?_; rintro e w' ⟨rfl, hg⟩; have hcc := bcell hg))
  all_goals go_ret
  all_goals refine ⟨?_, by repeat (first | exact Ext.refl _ _ | refine Ext.trans ?_ (by assumption) | refine Ext.drew ?_ | refine Ext.alloc ?_ _)⟩
  all_goals clear Hns Hks Htx
  all_goals (simp_all [partsB, ibeq, -List.length_eq_zero_iff])
  all_goals omega
end Go.Proofs.Ytgfnmhfdmmnaoaa
namespace Go.Proofs.Ytgfnmhfdmmnaoaa
open Go.RowKit
end Go.Proofs.Ytgfnmhfdmmnaoaa
namespace Go.Proofs.Ytgfnmhfdmmnaoaa
open Go.RowKit
end Go.Proofs.Ytgfnmhfdmmnaoaa
namespace Go.Proofs.Ytgfnmhfdmmnaoaa
open Go Go.RowKit
structure Later (w : World) : Type where
  at' : World
  grown : Grow w at'
def later (w : World) (x : Later w) : World := x.at'
instance later_some (w : World) : Nonempty (Later w) := ⟨⟨w, Ext.refl _ _⟩⟩
theorem later_grow (w : World) (x : Later w) : Grow w (later w x) := x.grown
@[go_sem] theorem later_cell (w : World) (x : Later w) (a : Addr) (h : (w.cell? a).isSome = true) : (later w x).cell? a = w.cell? a := by
  obtain ⟨v, hv⟩ := Option.isSome_iff_exists.1 h
  rw [hv]; exact (later_grow w x).some hv
theorem wp_region_later {P : Program} {id : Nat} {Q : Exit → Act → World → Prop} {a : Act} {w : World} {l : List Oper} (hm : P.follows .mixedOrders = true) (hB : Region.lexB .any l.toArray = true)
    (h : wpQuiet P l.toArray (fun w' => ∃ x, w' = later w x) (fun a' => ∀ w', (∃ x, w' = later w x) → Q .normal a' w') l a) : (Code.region id l.toArray true).wp P Q a w :=
  wp_region_quiet (C := fun w' => ∃ x, w' = later w x) hm hB ⟨⟨w.drew, (Ext.refl _ _).drew⟩, rfl⟩ (by simpa using h)
theorem later_call {P : Program} {f : FuncId} {args : Array Value} {w : World} {x : Later w} {v : Value}
    (h : Calls P f args (later w x) fun e w' => e = .returned v ∧ Grow (later w x) w') : Calls P f args (later w x) fun e w'' => e = .returned v ∧ ∃ y, w'' = later w y :=
  h.mono fun _ w' ⟨he, hg⟩ => ⟨he, ⟨w', (later_grow w x).trans hg⟩, rfl⟩
theorem later_call_same {P : Program} {f : FuncId} {args : Array Value} {w : World} {x : Later w} {v : Value}
    (h : Calls P f args (later w x) fun e w' => e = .returned v ∧ w' = later w x) : Calls P f args (later w x) fun e w'' => e = .returned v ∧ ∃ y, w'' = later w y :=
  h.mono fun _ _ ⟨he, hg⟩ => ⟨he, x, hg⟩
end Go.Proofs.Ytgfnmhfdmmnaoaa
namespace Go.Proofs.Ytgfnmhfdmmnaoaa
open Go.RowKit
mutual
def eqN : Nd → Nd → Bool
  | ⟨k, n, t, ns, ks⟩, m => decide (k = m.kind) && decide (n = m.num) && decide (t = m.text) && decide (ns = m.names) && eqL ks m.kids
def eqL : List Nd → List Nd → Bool
  | [], [] => true
  | a :: l, b :: m => eqN a b && eqL l m
  | _, _ => false
end
mutual
theorem eqN_iff : ∀ a b : Nd, eqN a b = true ↔ a = b
  | ⟨k, n, t, ns, ks⟩, ⟨k', n', t', ns', ks'⟩ => by
    simp only [eqN, Bool.and_eq_true, decide_eq_true_eq, eqL_iff ks ks', Nd.mk.injEq]
    constructor
    · rintro ⟨⟨⟨⟨a, b⟩, c⟩, d⟩, e⟩; exact ⟨a, b, c, d, e⟩
    · rintro ⟨a, b, c, d, e⟩; exact ⟨⟨⟨⟨a, b⟩, c⟩, d⟩, e⟩
theorem eqL_iff : ∀ a b : List Nd, eqL a b = true ↔ a = b
  | [], [] => by simp [eqL]
  | [], _ :: _ => by simp [eqL]
  | _ :: _, [] => by simp [eqL]
  | a :: l, b :: m => by simp only [eqL, Bool.and_eq_true, eqN_iff a b, eqL_iff l m, List.cons.injEq]
end
theorem eqN_eq (a b : Nd) : eqN a b = (decide (a.kind = b.kind) && decide (a.num = b.num) && decide (a.text = b.text) && decide (a.names = b.names) && eqL a.kids b.kids) := by cases a; simp [eqN]
theorem eqN_refl (a : Nd) : eqN a a = true := (eqN_iff a a).2 rfl
theorem eqL_len {a b : List Nd} (h : a.length ≠ b.length) : eqL a b = false := by
  cases h' : eqL a b
  · rfl
  · exact absurd (congrArg List.length ((eqL_iff a b).1 h')) h
end Go.Proofs.Ytgfnmhfdmmnaoaa
namespace Go.Proofs.Ytgfnmhfdmmnaoaa
open Go.RowKit
structure RdR (w : World) (rb : Nat) (zs : List Int) (p : Nat) : Prop where
  cells : ∃ a c, w.cell? ⟨rb, 0, none⟩ = some (.slice a zs.length c) ∧ (zs = [] ∨ ∃ b o, a = some ⟨b, o, none⟩ ∧ b ≠ rb ∧ ∀ i (h : i < zs.length), w.cell? ⟨b, o + i, none⟩ = some (.int .u8 zs[i]))
  at' : w.cell? ⟨rb, 1, none⟩ = some (.int .i64 p)
  fr : ∀ o, w.frozen? ⟨rb, o, none⟩ = false
  lt : rb < w.heap.size
  len : zs.length ≤ 2000
  wf : ∀ z ∈ zs, 0 ≤ z ∧ z ≤ 255
theorem RdR.grow {w w' : World} {rb : Nat} {zs : List Int} {p : Nat} (h : RdR w rb zs p) (hg : Grow w w') : RdR w' rb zs p := by
  obtain ⟨⟨a, c, h0, h1⟩, h2, h3, h4, h5, h6⟩ := h
  refine ⟨⟨a, c, hg.some h0, h1.imp id ?_⟩, hg.some h2, fun o => by rw [hg.frozen (p := ⟨rb, o, none⟩) h4 (fun h => h)]; exact h3 o, Nat.lt_of_lt_of_le h4 hg.size, h5, h6⟩
  rintro ⟨b, o, ha, hb, hc⟩
  exact ⟨b, o, ha, hb, fun i hi => hg.some (hc i hi)⟩
theorem RdR.step {w : World} {rb : Nat} {zs : List Int} {p q : Nat} (h : RdR w rb zs p) : RdR (w.setCell ⟨rb, 1, none⟩ (.int .i64 q)) rb zs q := by
  obtain ⟨⟨a, c, h0, h1⟩, h2, h3, h4, h5, h6⟩ := h
  refine ⟨⟨a, c, by rw [cell_set h2, if_neg (by simp)]; exact h0, h1.imp id ?_⟩, by rw [cell_set h2, if_pos rfl], fun o => by rw [World.frozen?_setCell]; exact h3 o, by rw [size_setCell]; exact h4, h5, h6⟩
  rintro ⟨b, o, ha, hb, hc⟩
  exact ⟨b, o, ha, hb, fun i hi => by rw [cell_set h2, if_neg (by intro e; exact hb (congrArg Addr.block e))]; exact hc i hi⟩
abbrev Rd (rb : Nat) (w w' : World) : Prop := Ext (fun k => k = rb) w w'
theorem xor_i64 (a b : Nat) (ha : a < 2 ^ 40) (hb : b < 2 ^ 40) : bits .xor .i64 (a : Int) (b : Int) = ((a ^^^ b : Nat) : Int) := by
  have hx : a ^^^ b < 2 ^ 40 := Nat.xor_lt_two_pow ha hb
  have h1 : (BitVec.ofInt 64 (a : Int)).toNat = a := by
    rw [BitVec.ofInt_natCast, BitVec.toNat_ofNat]; exact Nat.mod_eq_of_lt (by omega)
  have h2 : (BitVec.ofInt 64 (b : Int)).toNat = b := by
    rw [BitVec.ofInt_natCast, BitVec.toNat_ofNat]; exact Nat.mod_eq_of_lt (by omega)
  show IntKind.i64.wrap ((BitVec.ofInt 64 (a : Int) ^^^ BitVec.ofInt 64 (b : Int)).toNat : Int) = _
  rw [BitVec.toNat_xor, h1, h2]
  exact IntWalk.i64_in _ (by omega)
theorem xor_nonneg (X : Int) (h0 : 0 ≤ X) (h1 : X ≤ 1000000000) : 0 ≤ bits .xor .i64 X (X / 64) := by
  obtain ⟨n, rfl⟩ := Int.eq_ofNat_of_zero_le h0
  have d : ((n : Int) / 64) = ((n / 64 : Nat) : Int) := by simp
  rw [d, xor_i64 _ _ (by omega) (by omega)]
  omega
def Same0 (rb : Nat) (w w' : World) : Prop := w'.cell? ⟨rb, 0, none⟩ = w.cell? ⟨rb, 0, none⟩
def Below' (n v : Int) : Prop := (1 ≤ n → 0 ≤ v ∧ v < n) ∧ (n ≤ 0 → v = 0)
theorem pick_ok (rb : Nat) (zs : List Int) (p : Nat) (n : Int) (w : World) (hr : RdR w rb zs p) (hp : p ≤ 1000000) (hn : n ≤ 1000000) (hn' : -1000000 ≤ n) :
    Calls Try.prog 122 #[.pointer (some ⟨rb, 0, none⟩), .int .i64 n] w fun e w' => ∃ v, e = .returned (.int .i64 v) ∧ Below' n v ∧ Rd rb w w' ∧ RdR w' rb zs (p + 1) ∧ Same0 rb w w' := by
  obtain ⟨⟨a, c, h0, h1⟩, h2, h3, h4, h5, h6⟩ := hr
  have Hr : Hid (RdR w rb zs p) := Lib.hid ⟨⟨a, c, h0, h1⟩, h2, h3, h4, h5, h6⟩
  have H1 := Lib.hid h1
  have H6 := Lib.hid h6
  have h31 := h3 1
  have e1 : Hid (((p : Int) + 1) = ((p + 1 : Nat) : Int)) := Lib.hid (by omega)
  have fin : ∀ w', w' = w.setCell ⟨rb, 1, none⟩ (.int .i64 ((p : Int) + 1)) → Rd rb w w' ∧ RdR w' rb zs (p + 1) ∧ Same0 rb w w' := by
    rintro _ rfl
    rw [e1.out]
    exact ⟨Ext.setIn (X := fun k => k = rb) (Ext.refl _ w) (p := ⟨rb, 1, none⟩) rfl _, Hr.out.step, by unfold Same0; rw [cell_set Hr.out.at', if_neg (by simp)]⟩
  have Fin := Lib.hid fin
  clear h1 h6 h3 fin
  by_cases hn1 : n < 1
  · go_enter Try.func122, Try.ntmps122
    go_wp2
    go_ret
    exact ⟨0, by simp, ⟨by omega, by simp⟩, Fin.out _ rfl⟩
  have hn1 : 1 ≤ n := by omega
  by_cases hz : zs.length = 0
  · have hzb : ((zs.length : Int) == 0) = true := by simp [hz]
    clear hz
    go_enter Try.func122, Try.ntmps122
    go_wp2
    go_ret
    exact ⟨0, by simp, ⟨by omega, by simp⟩, Fin.out _ rfl⟩
  have hz1 : 1 ≤ zs.length := by omega
  have hzb : ((zs.length : Int) == 0) = false := by rw [ibeq]; simp; intro h; simp [h] at hz1
  rcases H1.out with h1 | ⟨b, o, rfl, hb, hc⟩
  · simp [h1] at hz1
  clear hz
  by_cases hk : p < zs.length
  · have hck := hc p hk
    have hw1 := (H6.out _ (List.getElem_mem hk)).1
    have hw2 := (H6.out _ (List.getElem_mem hk)).2
    have hbr : ¬ b = rb := hb
    clear hc hb
    go_enter Try.func122, Try.ntmps122
    go_wp2
    go_ret
    exact ⟨zs[p] % n, by simp, ⟨fun _ => ⟨Int.emod_nonneg _ (by omega), Int.emod_lt_of_pos _ (by omega)⟩, fun h => by omega⟩, Fin.out _ rfl⟩
  · have hm1 : p % zs.length < zs.length := Nat.mod_lt _ hz1
    have hm2 : (p * 7 + 3) % zs.length < zs.length := Nat.mod_lt _ hz1
    obtain ⟨x1, hx1⟩ : ∃ x, x = p % zs.length := ⟨_, rfl⟩
    obtain ⟨x2, hx2⟩ : ∃ x, x = (p * 7 + 3) % zs.length := ⟨_, rfl⟩
    have i1 : x1 < zs.length := by omega
    have i2 : x2 < zs.length := by omega
    have hck1 := hc x1 i1
    have hck2 := hc x2 i2
    have b1 := H6.out _ (List.getElem_mem i1)
    have b2 := H6.out _ (List.getElem_mem i2)
    have t1 : (p : Int).tmod (zs.length : Int) = (x1 : Int) := by rw [Int.tmod_eq_emod_of_nonneg (by omega), hx1]; simp
    have t2 : ((p : Int) * 7 + 3).tmod (zs.length : Int) = (x2 : Int) := by rw [Int.tmod_eq_emod_of_nonneg (by omega), hx2]; simp
    obtain ⟨z1, hz1'⟩ : ∃ z, z = zs[x1] := ⟨_, rfl⟩
    obtain ⟨z2, hz2'⟩ : ∃ z, z = zs[x2] := ⟨_, rfl⟩
    rw [← hz1'] at hck1 b1
    rw [← hz2'] at hck2 b2
    obtain ⟨q, tq, hq1, hq2⟩ : ∃ q : Int, (p : Int).tdiv (zs.length : Int) = q ∧ 0 ≤ q ∧ q ≤ 1000000 := ⟨_, rfl, by
      rw [Int.tdiv_eq_ediv_of_nonneg (by omega)]; exact Int.ediv_nonneg (by omega) (by omega), by
      rw [Int.tdiv_eq_ediv_of_nonneg (by omega)]; exact Int.le_trans (Int.ediv_le_self _ (by omega)) (by omega)⟩
    have hbr : ¬b = rb := hb
    have f1 : IntKind.i64.wrap z1 = z1 := IntWalk.i64_in _ (by omega)
    have f2 : IntKind.i64.wrap z2 = z2 := IntWalk.i64_in _ (by omega)
    have f3 : IntKind.i64.wrap (z1 * 131) = z1 * 131 := IntWalk.i64_in _ (by omega)
    have f4 : IntKind.i64.wrap (z2 * 1117) = z2 * 1117 := IntWalk.i64_in _ (by omega)
    have f5 : IntKind.i64.wrap (z1 * 131 + z2 * 1117) = z1 * 131 + z2 * 1117 := IntWalk.i64_in _ (by omega)
    have f6 : IntKind.i64.wrap ((p : Int) * 7) = (p : Int) * 7 := IntWalk.i64_in _ (by omega)
    have f7 : IntKind.i64.wrap ((p : Int) * 7 + 3) = (p : Int) * 7 + 3 := IntWalk.i64_in _ (by omega)
    have f8 : IntKind.i64.wrap ((p : Int) * 29) = (p : Int) * 29 := IntWalk.i64_in _ (by omega)
    have f9 : IntKind.i64.wrap (z1 * 131 + z2 * 1117 + (p : Int) * 29) = z1 * 131 + z2 * 1117 + (p : Int) * 29 := IntWalk.i64_in _ (by omega)
    have f10 : IntKind.i64.wrap (q * 53) = q * 53 := IntWalk.i64_in _ (by omega)
    have f11 : IntKind.i64.wrap (z1 * 131 + z2 * 1117 + (p : Int) * 29 + q * 53) = z1 * 131 + z2 * 1117 + (p : Int) * 29 + q * 53 := IntWalk.i64_in _ (by omega)
    have f12 : IntKind.i64.wrap (x1 : Int) = x1 := IntWalk.i64_in _ (by omega)
    have f13 : IntKind.i64.wrap (x2 : Int) = x2 := IntWalk.i64_in _ (by omega)
    have f14 : IntKind.i64.wrap q = q := IntWalk.i64_in _ (by omega)
    have i1' : (x1 : Int) < zs.length := by omega
    have i2' : (x2 : Int) < zs.length := by omega
    have l0 : ¬ ((zs.length : Int) = 0) := by omega
    have Hb1 := Lib.hid b1
    have Hb2 := Lib.hid b2
    clear hc hb hx1 hx2 hz1' hz2' b1 b2 hm1 hm2
    go_enter Try.func122, Try.ntmps122
    go_wp2
    refine wp_region_quiet_lit (by kernel_rfl) (by kernel_rfl) ?_
    (repeat (go_big_quiet_step (fail)))
    refine wpQuiet_nil ?_
    rintro _ ⟨nq, rfl⟩
    have hX0 : 0 ≤ z1 * 131 + z2 * 1117 + (p : Int) * 29 + q * 53 := by have := Hb1.out; have := Hb2.out; omega
    have hX1 : z1 * 131 + z2 * 1117 + (p : Int) * 29 + q * 53 ≤ 1000000000 := by have := Hb1.out; have := Hb2.out; omega
    clear f1 f2 f3 f4 f5 f6 f7 f8 f9 f10 f11 f12 f13 f14 t1 t2 tq hck1 hck2 i1 i2 i1' i2'
    generalize z1 * 131 + z2 * 1117 + (p : Int) * 29 + q * 53 = X at hX0 hX1 ⊢
    have hxx := xor_nonneg X hX0 hX1
    go_wp2
    go_ret
    generalize bits BinOp.xor IntKind.i64 X (X / 64) = Y at hxx ⊢
    have hs := (Fin.out _ rfl).2.2
    refine ⟨Y % n, by simp, ⟨fun _ => ⟨Int.emod_nonneg _ (by omega), Int.emod_lt_of_pos _ (by omega)⟩, fun h => by omega⟩, (Fin.out _ rfl).1.drewN _, (Fin.out _ rfl).2.1.grow ((Ext.refl _ _).drewN _), ?_⟩
    unfold Same0 at hs ⊢
    exact (Ext.cell ((Ext.refl nil _).drewN _) (p := ⟨rb, 0, none⟩) (by rw [size_setCell]; exact Hr.out.lt) (fun h => h)).trans hs
def NewR (w : World) (rb : Nat) (a : Option Addr) (zs : List Int) : Prop := RdR w rb zs 0 ∧ ∃ c, w.cell? ⟨rb, 0, none⟩ = some (.slice a zs.length c)
theorem newReader_ok (a : Option Addr) (c : Nat) (zs : List Int) (w : World) (hl : zs.length ≤ 1048576) (hc : zs.length ≤ c)
    (hs : zs = [] ∨ ∃ b o, a = some ⟨b, o, none⟩ ∧ ∀ i (h : i < zs.length), w.cell? ⟨b, o + i, none⟩ = some (.int .u8 zs[i])) (hwf : ∀ z ∈ zs, 0 ≤ z ∧ z ≤ 255) :
    Calls Try.prog 59 #[.slice a zs.length c] w fun e w' => ∃ rb zs', e = .returned (.pointer (some ⟨rb, 0, none⟩)) ∧ w.heap.size ≤ rb ∧ Grow w w' ∧ NewR w' rb a zs' ∧ (zs = [] → zs' = []) := by
  have Hs := Lib.hid hs
  have Hwf := Lib.hid hwf
  clear hs hwf
  have mk : ∀ (zs' : List Int) (c' : Nat) (t : TypeId), zs'.length ≤ 2000 → (zs' = [] ∨ ∃ b o, a = some ⟨b, o, none⟩ ∧ ∀ i (h : i < zs'.length), w.cell? ⟨b, o + i, none⟩ = some (.int .u8 zs'[i])) → (∀ z ∈ zs', 0 ≤ z ∧ z ≤ 255) →
      NewR (w.alloc (.cells #[.slice a zs'.length c', .int .i64 0] t)) w.heap.size a zs' := by
    intro zs' c' t hlen h hwf
    have h' : zs' = [] ∨ ∃ b o, a = some ⟨b, o, none⟩ ∧ b ≠ w.heap.size ∧ ∀ i (h : i < zs'.length), (w.alloc (.cells #[.slice a zs'.length c', .int .i64 0] t)).cell? ⟨b, o + i, none⟩ = some (.int .u8 zs'[i]) := by
      rcases h with h | ⟨b, o, ha, hc⟩
      · exact .inl h
      · by_cases h0 : zs' = []
        · exact .inl h0
        · have hp : 0 < zs'.length := List.length_pos_iff.2 h0
          have hb : b < w.heap.size := lt_of_cell (hc 0 hp)
          exact .inr ⟨b, o, ha, by omega, fun i hi => ((Ext.refl nil w).alloc _).some (hc i hi) (fun h => h)⟩
    exact ⟨⟨⟨a, c', by rw [World.cell?_alloc_new]; rfl, h'⟩, by rw [World.cell?_alloc_new]; rfl, fun o => World.frozen?_alloc_new _ _ _ _, by simp, hlen, hwf⟩, c', by rw [World.cell?_alloc_new]; rfl⟩
  by_cases hbig : 2000 < zs.length
  · go_enter Try.func59, Try.ntmps59
    go_wp2
    go_ret
    have h2 := mk (zs.take 2000) c 145 (by simp; omega) (Hs.out.imp (fun h => by simp [h]) (fun ⟨b, o, ha, hc⟩ => ⟨b, o, ha, fun i hi => by rw [List.getElem_take]; exact hc i (by simp at hi; omega)⟩)) (fun z hz => Hwf.out z (List.mem_of_mem_take hz))
    rw [show (zs.take 2000).length = 2000 from by simp; omega] at h2
    exact ⟨_, zs.take 2000, by simp, Nat.le_refl _, (Ext.refl _ _).alloc _, h2, fun h => by simp [h]⟩
  · go_enter Try.func59, Try.ntmps59
    go_wp2
    go_ret
    exact ⟨_, zs, by simp, Nat.le_refl _, (Ext.refl _ _).alloc _, mk _ _ _ (by omega) Hs.out Hwf.out, fun h => h⟩
end Go.Proofs.Ytgfnmhfdmmnaoaa
namespace Go.Proofs.Ytgfnmhfdmmnaoaa.Eng
open Go Go.RowKit
theorem AC.ofGrow {P : Program} {f : FuncId} {args : List AV} {Post : AV → Prop} (he : Enters P f)
    (h : ∀ w L S rb vs, RepL w (pureC L S rb) args vs → Calls P f vs.toArray w fun e w' => ∃ v r, e = .returned v ∧ Grow w w' ∧ Rep w' (pureC nil S none) r v ∧ Post r) : AC P f args 0 Post := by
  refine ⟨he, fun w L S rb k vs _ hS hr hargs => (h w L S rb vs hargs).mono ?_⟩
  rintro e w' ⟨v, r, rfl, hg, h1, h2⟩
  exact ⟨v, r, S, rfl, hg.mono (fun _ h => h.elim), fun _ h => h, fun _ h => .inl h, fun b hb => ((hr b hb).2.moved hg (fun h => h) (fun b hb => ⟨hb, fun h => h⟩)).less (by omega), h1, h2⟩
theorem pick_AC (n : Int) (h1 : n ≤ 1000000) (h2 : -1000000 ≤ n) : AC Try.prog 122 [.rdr, .int .i64 n] 1 (fun r => ∃ v, r = .int .i64 v ∧ Below' n v) := by
  refine ⟨enters_of Try.func122 (by kernel_rfl) (by kernel_rfl), fun w L S rb k vs _ hS hr hargs => ?_⟩
  unfold RepL at hargs
  obtain ⟨v, vs', rfl, q1, q2⟩ := hargs
  unfold RepL at q2
  obtain ⟨v', vs', rfl, q3, q4⟩ := q2
  unfold RepL at q4
  subst q4
  obtain ⟨b, hb, rfl⟩ := rep_rdr.1 q1
  rw [rep_int] at q3
  subst q3
  dsimp only [pureC] at hb
  subst hb
  obtain ⟨hnS, hok⟩ := hr b rfl
  obtain ⟨zs, p, a, c, k1, k2, k3, k4, k5, k6, k7, k8⟩ := hok
  refine (Go.Proofs.Ytgfnmhfdmmnaoaa.pick_ok b zs p n w ⟨⟨a, c, k2, k3.imp id (fun ⟨b', o, ha, hb, hc⟩ => ⟨b', o, ha, fun e => hnS (e ▸ hb), hc⟩)⟩, k4, k5, k6, k7, k8⟩ (by omega) h1 h2).mono ?_
  rintro e w' ⟨v, rfl, hv, hrd, hr', hs⟩
  refine ⟨_, .int .i64 v, S, rfl, hrd.mono (fun x hx => congrArg some hx.symm), fun _ h => h, fun _ h => .inl h, ?_, rep_int.2 rfl, v, rfl, hv⟩
  rintro x hx
  cases hx
  unfold Same0 at hs
  refine ⟨zs, p + 1, a, c, by omega, hs.trans k2, k3.imp id (fun ⟨b', o, ha, hb, hc⟩ => ⟨b', o, ha, hb, fun i hi => hrd.some (hc i hi) (fun e => hnS (e ▸ hb))⟩), hr'.at', hr'.fr, hr'.lt, hr'.len, k8⟩
def bytesE (zs : List Int) : List (List AV) := zs.map fun z => [.int .u8 z]
theorem newReader_ACN (zs : List Int) (k : Nat) (hl : zs.length ≤ 1048576) (hk : k ≤ 1000000) (hwf : ∀ z ∈ zs, 0 ≤ z ∧ z ≤ 255) : ACN Try.prog 59 [.view .loose 1 (bytesE zs)] k := by
  refine ⟨enters_of Try.func59 (by kernel_rfl) (by kernel_rfl), fun w L S vs _ hS hargs => ?_⟩
  unfold RepL at hargs
  obtain ⟨v, vs', rfl, q1, q2⟩ := hargs
  unfold RepL at q2
  subst q2
  obtain ⟨a, c, rfl, g1, g2, g3, g4, g5⟩ := rep_view.1 q1
  have hlen : (bytesE zs).length = zs.length := by unfold bytesE; rw [List.length_map]
  rw [hlen] at g2 ⊢
  have hcells : zs = [] ∨ ∃ b o, a = some ⟨b, o, none⟩ ∧ S b ∧ ∀ i (h : i < zs.length), w.cell? ⟨b, o + i, none⟩ = some (.int .u8 zs[i]) := by
    rcases g5 with g5 | ⟨b, o, ha, hb, hE⟩
    · left; unfold bytesE at g5; exact List.map_eq_nil_iff.1 g5
    · refine .inr ⟨b, o, ha, hb, fun i hi => ?_⟩
      have := (hE.get g4 (i := i) (e := [.int .u8 zs[i]]) (by unfold bytesE; rw [List.getElem?_map, List.getElem?_eq_getElem hi]; rfl)).get (i := 0) rfl
      obtain ⟨v, h1, h2, h3⟩ := this
      rw [rep_int] at h3
      subst h3
      simpa using h1
  refine (Go.Proofs.Ytgfnmhfdmmnaoaa.newReader_ok a c zs w hl g2 (hcells.imp id (fun ⟨b, o, h1, _, h2⟩ => ⟨b, o, h1, h2⟩)) hwf).mono ?_
  rintro e w' ⟨rb, zs', rfl, hge, hg, ⟨hr, c', hc'⟩, hnil⟩
  refine ⟨rb, rfl, hg, hge, zs', 0, a, c', by omega, hc', ?_, hr.at', hr.fr, hr.lt, hr.len, hr.wf⟩
  obtain ⟨a2, c2, h1, h2⟩ := hr.cells
  rw [hc'] at h1
  cases h1
  rcases hcells with h0 | ⟨b, o, ha, hb, _⟩
  · exact .inl (hnil h0)
  · refine h2.imp id ?_
    rintro ⟨b2, o2, ha2, _, hc2⟩
    rw [ha] at ha2
    cases ha2
    exact ⟨b, o, ha, hb, hc2⟩
end Go.Proofs.Ytgfnmhfdmmnaoaa.Eng
namespace Go.Proofs.Ytgfnmhfdmmnaoaa
open Go.RowKit
def Asc (xs : List ByteArray) : Prop := ∀ i j (hi : i < xs.length) (hj : j < xs.length), i < j → lt xs[i] xs[j] = true
theorem namesFrom_asc : ∀ (p : Option ByteArray) (xs : List ByteArray), namesFrom p xs = true → Asc xs ∧ ∀ y, p = some y → ∀ i (h : i < xs.length), lt y xs[i] = true
  | p, [], _ => ⟨fun i j hi => absurd hi (by simp), fun y _ i h => absurd h (by simp)⟩
  | p, x :: r, h => by
    simp only [namesFrom, Bool.and_eq_true] at h
    obtain ⟨⟨_, h2⟩, h3⟩ := h
    obtain ⟨ha, hb⟩ := namesFrom_asc (some x) r h3
    have hb := hb x rfl
    refine ⟨fun i j hi hj hij => ?_, fun y hy i hi => ?_⟩
    · cases j with
      | zero => omega
      | succ j =>
        cases i with
        | zero => exact hb j (by simpa using hj)
        | succ i => exact ha i j (by simpa using hi) (by simpa using hj) (by omega)
    · subst hy
      simp only at h2
      cases i with
      | zero => exact h2
      | succ i => exact bl_trans _ _ _ h2 (hb i (by simpa using hi))
theorem namesB_asc {xs : List ByteArray} (h : namesB xs = true) : Asc xs := (namesFrom_asc none xs h).1
def mem (xs : List ByteArray) (s : ByteArray) : Bool := xs.any fun x => decide (x = s)
theorem lt_irr (x : ByteArray) : lt x x = false := bl_irrefl _
end Go.Proofs.Ytgfnmhfdmmnaoaa
namespace Go.Proofs.Ytgfnmhfdmmnaoaa
open Go.RowKit
mutual
def Nd.count : Nd → Nat
  | ⟨_, _, _, _, kids⟩ => 1 + countL kids
def countL : List Nd → Nat
  | [] => 0
  | k :: ks => k.count + countL ks
end
mutual
def Nd.depth : Nd → Nat
  | ⟨_, _, _, _, kids⟩ => 1 + depthL kids
def depthL : List Nd → Nat
  | [] => 0
  | k :: ks => max k.depth (depthL ks)
end
mutual
def shapeB : Nd → Nat → Bool
  | ⟨kind, num, text, names, kids⟩, d => decide (0 < d) && partsB ⟨kind, num, text, names, kids⟩ && shapeL kids (d - 1)
def shapeL : List Nd → Nat → Bool
  | [], _ => true
  | k :: ks, d => shapeB k d && shapeL ks d
end
theorem Nd.count_eq (n : Nd) : n.count = 1 + countL n.kids := by cases n; simp [Nd.count]
theorem Nd.depth_eq (n : Nd) : n.depth = 1 + depthL n.kids := by cases n; simp [Nd.depth]
theorem shapeB_eq (n : Nd) (d : Nat) : shapeB n d = (decide (0 < d) && partsB n && shapeL n.kids (d - 1)) := by cases n; simp [shapeB]
theorem countL_snoc (l : List Nd) (x : Nd) : countL (l ++ [x]) = countL l + x.count := by
  induction l with
  | nil => simp [countL]
  | cons a l ih => simp [countL, ih]; omega
theorem depthL_snoc (l : List Nd) (x : Nd) : depthL (l ++ [x]) = max (depthL l) x.depth := by
  induction l with
  | nil => simp [depthL]
  | cons a l ih => simp only [List.cons_append, depthL, ih]; omega
theorem shapeL_snoc (l : List Nd) (x : Nd) (d : Nat) : shapeL (l ++ [x]) d = (shapeL l d && shapeB x d) := by
  induction l with
  | nil => simp [shapeL]
  | cons a l ih => simp [shapeL, ih, Bool.and_assoc]
theorem shapeL_all (l : List Nd) (d : Nat) : shapeL l d = l.all (fun k => shapeB k d) := by
  induction l with
  | nil => simp [shapeL]
  | cons a l ih => simp [shapeL, ih]
theorem partsB_kids {n : Nd} (h : partsB n = true) : n.kids.length ≤ 6 := by
  unfold partsB areNamesB at h
  simp only [Bool.and_eq_true] at h
  obtain ⟨_, h⟩ := h
  split at h
  · simp at h; simp [h]
  · split at h
    · simp at h; simp [h]
    · split at h
      · simp at h; simp [h]
      · split at h
        · simpa using h
        · split at h
          · simp at h; omega
          · simp at h
def cb : Nat → Nat
  | 0 => 0
  | d + 1 => 1 + 6 * cb d
theorem countL_le (l : List Nd) (c : Nat) (h : ∀ k ∈ l, k.count ≤ c) : countL l ≤ l.length * c := by
  induction l with
  | nil => simp [countL]
  | cons a l ih =>
    have h1 := h a (by simp)
    have h2 := ih (fun k hk => h k (by simp [hk]))
    simp [countL, Nat.succ_mul]; omega
theorem count_le : ∀ (d : Nat) (n : Nd), shapeB n d = true → n.count ≤ cb d
  | 0, n, h => by rw [shapeB_eq] at h; simp at h
  | d + 1, n, h => by
    rw [shapeB_eq] at h
    simp only [Bool.and_eq_true, Nat.add_sub_cancel, shapeL_all, List.all_eq_true] at h
    obtain ⟨⟨_, hp⟩, hk⟩ := h
    have h1 := partsB_kids hp
    have h2 := countL_le n.kids (cb d) (fun k hk' => count_le d k (hk k hk'))
    rw [Nd.count_eq, cb]
    have : n.kids.length * cb d ≤ 6 * cb d := Nat.mul_le_mul_right _ h1
    omega
theorem depth_le : ∀ (d : Nat) (n : Nd), shapeB n d = true → n.depth ≤ d
  | 0, n, h => by rw [shapeB_eq] at h; simp at h
  | d + 1, n, h => by
    rw [shapeB_eq] at h
    simp only [Bool.and_eq_true, Nat.add_sub_cancel, shapeL_all, List.all_eq_true] at h
    obtain ⟨⟨_, hp⟩, hk⟩ := h
    have : ∀ l : List Nd, (∀ k ∈ l, k.depth ≤ d) → depthL l ≤ d := by
      intro l
      induction l with
      | nil => simp [depthL]
      | cons a l ih => intro h; have h1 := h a (by simp); have h2 := ih (fun k hk => h k (by simp [hk])); simp only [depthL]; omega
    have := this n.kids (fun k hk' => depth_le d k (hk k hk'))
    rw [Nd.depth_eq]; omega
theorem cb_le (d : Nat) (h : d ≤ 5) : cb d ≤ 1555 := by
  match d, h with
  | 0, _ => simp [cb]
  | 1, _ => simp [cb]
  | 2, _ => simp [cb]
  | 3, _ => simp [cb]
  | 4, _ => simp [cb]
  | 5, _ => simp [cb]
def measV (n : Nd) (d : Nat) : Value :=
  if shapeB n d then .tuple #[.int .i64 n.count, .int .i64 n.depth, .bool true] else .tuple #[.int .i64 0, .int .i64 0, .bool false]
def MeasureOk (n : Nd) : Prop := ∀ (d : Nat) (level : Int) (v : Value) (w : World), d ≤ 5 → level = 6 - (d : Int) → NodeR w any n v →
    Calls Try.prog 65 #[v, .int .i64 level] w fun e w' => e = .returned (measV n d) ∧ Grow w w'
theorem shapeL_get {l : List Nd} {d : Nat} {k : Nat} (hk : k < l.length) (h : shapeB l[k] d = false) : shapeL l d = false := by
  rw [shapeL_all, List.all_eq_false]
  exact ⟨l[k], List.getElem_mem hk, by simp [h]⟩
theorem measV_no {n : Nd} {d : Nat} (h : shapeB n d = false) : measV n d = .tuple #[.int .i64 0, .int .i64 0, .bool false] := by simp [measV, h]
theorem measV_yes {n : Nd} {d : Nat} (h : shapeB n d = true) : measV n d = .tuple #[.int .i64 n.count, .int .i64 n.depth, .bool true] := by simp [measV, h]
theorem measureNode_ok : ∀ n, MeasureOk n := by
  refine Nd.ind' MeasureOk ?_
  intro n ih d level v w hd hlev hn
  have hl1 : 1 ≤ level := by omega
  have hl2 : level ≤ 6 := by omega
  have Hlev := Lib.hid hlev
  have Hn := Lib.hid hn
  have Ih := Lib.hid ih
  have Hd := Lib.hid hd
  clear ih hlev hd
  obtain ⟨na, nc, ka, kc, rfl, hc⟩ := hn
  obtain ⟨htx, hns, hks⟩ := hc.parts
  have hkl : n.kids.length ≤ 9223372036854775807 := hks.2.1
  have Hks := Lib.hid hks
  clear htx hns hc hks
  unfold nodeV at *
  by_cases hd0 : d = 0
  · have : 5 < level := by have := Hlev.out; omega
    have Hf := Lib.hid (measV_no (n := n) (d := d) (by rw [shapeB_eq]; simp [hd0]))
    clear hd0
    go_enter Try.func65, Try.ntmps65
    go_wp2_with fail
    go_ret3
    exact ⟨by simp [Hf.out], (Ext.refl _ _).alloc _⟩
  · have h5 : level ≤ 5 := by have := Hlev.out; omega
    clear hl2
    cases hp : partsB n
    · have Hf := Lib.hid (measV_no (n := n) (d := d) (by rw [shapeB_eq]; simp [hp]))
      go_enter Try.func65, Try.ntmps65
      go_wp2_with (go_at_call 137; refine (hasValidParts_ok n _ _ any ((Hn.out).ext ((Ext.refl nil w).alloc _) (fun _ _ h => h))).mono ?_; rintro e w' ⟨rfl, hg⟩)
      go_ret3
      exact ⟨by simp [Hf.out], ((Ext.refl _ _).alloc _).trans hg⟩
    · obtain ⟨d, rfl⟩ : ∃ d', d = d' + 1 := ⟨d - 1, by omega⟩
      have hk6 := partsB_kids hp
      have Hp := Lib.hid hp
      clear hkl hd0
      go_enter Try.func65, Try.ntmps65
      go_wp2_with (go_at_call 137; refine (hasValidParts_ok n _ _ any ((Hn.out).ext ((Ext.refl nil w).alloc _) (fun _ _ h => h))).mono ?_; rintro e w1 ⟨rfl, hg⟩; simp only [hp]; have hcc := bcell hg)
      have hg0 : Grow w w1 := ((Ext.refl _ _).alloc _).trans hg
      clear hg hcc
      go_loopw [4, 5, 6, 22] (fun t4 t5 t6 i wr => t6 = .bool false ∧ Grow w wr ∧ ∃ k : Nat, k ≤ n.kids.length ∧ i = .int .i64 k ∧ t4 = .int .i64 ((1 + countL (n.kids.take k) : Nat) : Int) ∧ t5 = .int .i64 ((1 + depthL (n.kids.take k) : Nat) : Int) ∧ shapeL (n.kids.take k) d = true) (fun _ _ _ i _ => n.kids.length - (intOf i).toNat)
      case atStart => exact ⟨rfl, hg0, 0, Nat.zero_le _, rfl, by simp [countL], by simp [depthL], by simp [shapeL]⟩
      case round =>
        obtain ⟨rfl, hgr, k, hk, rfl, rfl, rfl, hs⟩ := hrel
        by_cases hlt : k < n.kids.length
        · obtain ⟨_, _, hks⟩ := (Hks.out).ext hgr (fun _ _ h => h)
          rcases hks with hks | ⟨bk, ok, rfl, _, hkr⟩
          · simp [hks] at hlt
          obtain ⟨na', nc', ka', kc', c0, c1, c2, c3, c4, hkc⟩ := hkr.get k hlt
          have Hkc : Hid (NodeR wr any n.kids[k] (nodeV n.kids[k] na' nc' ka' kc')) := Lib.hid ⟨_, _, _, _, rfl, hkc⟩
          have Hkr := Lib.hid hkr
          have Hs := Lib.hid hs
          clear hkr hs hkc
          have hb1 : countL (n.kids.take k) ≤ 10000 := by
            have := countL_le (n.kids.take k) 1555 (fun x hx => by
              have hx' := Hs.out
              rw [shapeL_all, List.all_eq_true] at hx'
              exact Nat.le_trans (count_le d x (hx' x hx)) (cb_le d (by have := Hd.out; omega)))
            have h2 : (n.kids.take k).length ≤ 6 := by simp; omega
            have : (n.kids.take k).length * 1555 ≤ 6 * 1555 := Nat.mul_le_mul_right _ h2
            omega
          have hb2 : depthL (n.kids.take k) ≤ 10000 := by
            have : ∀ l : List Nd, shapeL l d = true → depthL l ≤ d := by
              intro l
              induction l with
              | nil => simp [depthL]
              | cons a l ih => intro h; simp only [shapeL, Bool.and_eq_true] at h; have h1 := depth_le d a h.1; have h2 := ih h.2; simp only [depthL]; omega
            have := this _ Hs.out
            have := Hd.out
            omega
          cases hsk : shapeB n.kids[k] d
          · have Hf := Lib.hid (measV_no hsk)
            have Hff : Hid (measV n (d + 1) = .tuple #[.int .i64 0, .int .i64 0, .bool false]) := Lib.hid (measV_no (by rw [shapeB_eq]; simp [shapeL_get hlt hsk]))
            clear hsk
            go_wp2_with (go_at_call 65; refine (Ih.out _ (List.getElem_mem hlt) d _ _ _ (by have := Hd.out; omega) (by have := Hlev.out; omega) ((Hkc.out).ext ((Ext.refl nil wr).alloc _) (fun _ _ h => h))).mono ?_; rintro e w2 ⟨rfl, hg2⟩; simp only [Hf.out])
            go_ret3
            exact ⟨by simp [Hff.out], (hgr.alloc _).trans hg2⟩
          · have Hf := Lib.hid (measV_yes hsk)
            have hb3 : n.kids[k].count ≤ 10000 := Nat.le_trans (count_le d _ hsk) (Nat.le_trans (cb_le d (by have := Hd.out; omega)) (by omega))
            have hb4 : n.kids[k].depth ≤ 10000 := Nat.le_trans (depth_le d _ hsk) (by have := Hd.out; omega)
            have Hsk := Lib.hid hsk
            clear hsk
            go_wp2_with (go_at_call 65; refine (Ih.out _ (List.getElem_mem hlt) d _ _ _ (by have := Hd.out; omega) (by have := Hlev.out; omega) ((Hkc.out).ext ((Ext.refl nil wr).alloc _) (fun _ _ h => h))).mono ?_; rintro e w2 ⟨rfl, hg2⟩; simp only [Hf.out])
            go_roundw
            case rel => exact ⟨rfl, (hgr.alloc _).trans hg2, k + 1, by omega, by go_num, by rw [take_snoc' _ _ hlt, countL_snoc]; go_num, by rw [take_snoc' _ _ hlt, depthL_snoc]; go_num, by rw [take_snoc' _ _ hlt, shapeL_snoc, Hs.out, Hsk.out]; rfl⟩
            case measure => simp [intOf]; omega
        · have hke : k = n.kids.length := by omega
          have Hff : Hid (measV n (d + 1) = .tuple #[.int .i64 n.count, .int .i64 n.depth, .bool true]) := Lib.hid (measV_yes (by
            rw [hke, List.take_length] at hs
            rw [shapeB_eq]; simp [hs, Hp.out]))
          have Hke := Lib.hid hke
          clear hke hs
          go_wp2
          go_ret3
          exact ⟨by rw [Hff.out, Hke.out]; simp [Nd.count_eq, Nd.depth_eq], hgr⟩
end Go.Proofs.Ytgfnmhfdmmnaoaa
namespace Go.Proofs.Ytgfnmhfdmmnaoaa
open Go.RowKit
def Nd.zero : Nd := ⟨0, 0, ⟨#[]⟩, [], []⟩
end Go.Proofs.Ytgfnmhfdmmnaoaa
namespace Go.Proofs.Ytgfnmhfdmmnaoaa
open Go.RowKit
def txt (l : List UInt8) : ByteArray := ⟨l.toArray⟩
def dig1 (k : Nat) : List UInt8 := [48 + k.toUInt8]
theorem conv1 (k : Nat) (hk : k < 10) (w : World) : (convert 22 9 (.slice (some ⟨w.heap.size, 0, none⟩) 1 1)).run Try.prog (w.alloc (.cells #[.int .u8 (48 + (k : Int))] 5)) =
    .ok (.string (txt (dig1 k))) (w.alloc (.cells #[.int .u8 (48 + (k : Int))] 5)) := by
  refine run_convert_bytes_back (P := Try.prog) _ 22 9 5 ⟨w.heap.size, 0, none⟩ 1 (dig1 k) Try.underlying22 Try.underlying5 Try.underlying9 ?_
  intro j hj
  simp only [dig1, List.length_cons, List.length_nil] at hj
  obtain rfl : j = 0 := by omega
  show (w.alloc _).cell? ⟨w.heap.size, 0 + 0, none⟩ = _
  rw [World.cell?_alloc_new]
  simp [dig1]; omega
theorem decimal_small (k : Nat) (w : World) (hk : k < 10) :
    Calls Try.prog 172 #[.int .i64 (k : Int)] w fun e w' => e = .returned (.string (txt (dig1 k))) ∧ Grow w w' := by
  have hcv := conv1 k hk w
  go_enter Try.func172, Try.ntmps172
  go_wp2_with fail
  go_ret
  exact ⟨rfl, (by repeat (first | with_reducible exact Ext.refl _ _ | with_reducible refine Ext.trans ?_ (by assumption) | with_reducible refine Ext.drew ?_ | with_reducible refine Ext.drewN ?_ _ | with_reducible refine Ext.alloc ?_ _ | with_reducible refine Ext.setNew ?_ (by simp; done) _ | with_reducible refine Ext.setNew ?_ (by simp; omega) _))⟩
def hit (n : Nd) (s : ByteArray) (i : Nat) : Bool := if n.kind = 4 then decide (n.names[i]? = some s) else if n.kind = 3 then decide (txt (dig1 i) = s) else false
def placeFrom (n : Nd) (s : ByteArray) : Nat → Nat → Int
  | _, 0 => -1
  | i, m + 1 => if hit n s i then (i : Int) else placeFrom n s (i + 1) m
def placeOf (n : Nd) (s : ByteArray) : Int := placeFrom n s 0 n.kids.length
theorem placeFrom_step (n : Nd) (s : ByteArray) {k : Nat} (h : k < n.kids.length) : placeFrom n s k (n.kids.length - k) = if hit n s k then (k : Int) else placeFrom n s (k + 1) (n.kids.length - (k + 1)) := by
  obtain ⟨m, hm⟩ : ∃ m, n.kids.length - k = m + 1 := ⟨n.kids.length - k - 1, by omega⟩
  rw [hm, placeFrom, show n.kids.length - (k + 1) = m by omega]
theorem place_ok (n : Nd) (s : ByteArray) (v : Value) (w : World) (hm : n.kind = 4 → n.kids.length ≤ n.names.length) (h6 : n.kids.length ≤ 9) (hn : NodeR w any n v) :
    Calls Try.prog 135 #[v, .string s] w fun e w' => e = .returned (.int .i64 (placeOf n s)) ∧ Grow w w' := by
  obtain ⟨na, nc, ka, kc, rfl, hc⟩ := hn
  obtain ⟨htx, hns, hks⟩ := hc.parts
  have hnl : n.names.length ≤ 9223372036854775807 := hns.2.1
  have Hns := Lib.hid hns
  have HM := Lib.hid hm
  clear hc htx hns hks hm
  unfold nodeV
  go_enter Try.func135, Try.ntmps135
  go_wp2
  go_loopw [4, 5] (fun n4 i wr => n4 = .int .i64 0 ∧ Grow (w.alloc (.cells #[.int .i64 n.kind, .int .i64 n.num, .string n.text, .slice na n.names.length nc, .slice ka n.kids.length kc] 30)) wr ∧ ∃ k : Nat, k ≤ n.kids.length ∧ i = .int .i64 k ∧ placeOf n s = placeFrom n s k (n.kids.length - k)) (fun _ i _ => n.kids.length - (intOf i).toNat)
  case atStart => exact ⟨rfl, Ext.refl _ _, 0, Nat.zero_le _, rfl, rfl⟩
  case round =>
    obtain ⟨rfl, hg, k, hk, rfl, hr⟩ := hrel
    have Hr := Lib.hid hr
    clear hr
    have hcc := bcell hg
    have hg0 : Grow w wr := ((Ext.refl _ _).alloc _).trans hg
    by_cases hlt : k < n.kids.length
    · have Hst := Lib.hid (placeFrom_step n s hlt)
      have hh := Lib.hid (show hit n s k = if n.kind = 4 then decide (n.names[k]? = some s) else if n.kind = 3 then decide (txt (dig1 k) = s) else false from rfl)
      by_cases k4 : n.kind = 4
      · have hkn : k < n.names.length := by have := HM.out k4; omega
        rcases ((Hns.out).ext hg0 (fun _ _ h => h)).2.2.2 with hh0 | ⟨ba, oa, rfl, _, hca⟩
        · rw [hh0] at hkn; simp at hkn
        have cm := hca k hkn
        have b4 : (n.kind == 4) = true := by simp [k4]
        have hb := beq_toList n.names[k] s
        clear hca
        cases hd : decide (n.names[k] = s)
        · have Hh : Hid (hit n s k = false) := Lib.hid (by rw [hh.out, if_pos k4]; simpa [hkn] using hd)
          have b3 : (n.kind == 3) = false := by simp [k4]
          rw [hd] at hb
          clear hd k4
          go_wp2
          go_roundw
          case rel => exact ⟨rfl, hg, k + 1, by omega, by go_num, by rw [Hr.out, Hst.out, Hh.out]; rfl⟩
          case measure => simp [intOf]; omega
        · have Hh : Hid (hit n s k = true) := Lib.hid (by rw [hh.out, if_pos k4]; simpa [hkn] using hd)
          rw [hd] at hb
          clear hd k4
          go_wp2
          go_ret
          exact ⟨by rw [Hr.out, Hst.out, Hh.out]; rfl, hg0⟩
      · have b4 : (n.kind == 4) = false := by simp [k4]
        by_cases k3 : n.kind = 3
        · have b3 : (n.kind == 3) = true := by simp [k3]
          have hb := beq_toList (txt (dig1 k)) s
          cases hd : decide (txt (dig1 k) = s)
          · have Hh : Hid (hit n s k = false) := Lib.hid (by rw [hh.out, if_neg k4, if_pos k3, hd])
            rw [hd] at hb
            clear hd k4 k3
            go_wp2_with (go_at_call 172; refine (decimal_small k _ (by omega)).mono ?_; rintro e w2 ⟨rfl, hg2⟩)
            go_roundw
            case rel => exact ⟨rfl, hg.trans hg2, k + 1, by omega, by go_num, by rw [Hr.out, Hst.out, Hh.out]; rfl⟩
            case measure => simp [intOf]; omega
          · have Hh : Hid (hit n s k = true) := Lib.hid (by rw [hh.out, if_neg k4, if_pos k3, hd])
            rw [hd] at hb
            clear hd k4 k3
            go_wp2_with (go_at_call 172; refine (decimal_small k _ (by omega)).mono ?_; rintro e w2 ⟨rfl, hg2⟩)
            go_ret
            exact ⟨by rw [Hr.out, Hst.out, Hh.out]; rfl, hg0.trans hg2⟩
        · have b3 : (n.kind == 3) = false := by simp [k3]
          have Hh : Hid (hit n s k = false) := Lib.hid (by rw [hh.out, if_neg k4, if_neg k3])
          clear k4 k3
          go_wp2
          go_roundw
          case rel => exact ⟨rfl, hg, k + 1, by omega, by go_num, by rw [Hr.out, Hst.out, Hh.out]; rfl⟩
          case measure => simp [intOf]; omega
    · go_wp2
      go_ret
      exact ⟨by rw [Hr.out, show n.kids.length - k = 0 by omega]; rfl, hg0⟩
end Go.Proofs.Ytgfnmhfdmmnaoaa
namespace Go.Proofs.Ytgfnmhfdmmnaoaa.Eng
open Go Go.RowKit
attribute [local simp] big size_mk ASt.pay Option.map_map Function.comp_def awant aop acall ado aev ofVal ofVal0 ASt.put ASt.add ASt.turn ASt.kill abox aalloc astore aload aloadD astoreD idOf ASt.at cellsTo afieldAddr afield aindexAddr aindex alen abin aint acmp astr aun apick aextract anil aslice abound abuild afill abuildSlice asCells aps avCells over upd aappend asrc amax amin aconv mkSt slots rowsOf_cons rowsOf_nil usedOf_cons usedOf_nil ZK.av List.replicate ASt.back ASt.addL ASt.killL nodeA nodeT nodeTL_eq nodeL_eq strsE_get strsE_len intsE_get intsE_len strsE_at intsE_at tab2 tab3 tab4 tab5 tab6 tab7 tab8 tab9 tab10 tab11 tab12 tab13 tab14 tab15 tab16 tab17 tab18 tab19 tab21 tab22 tab23 tab24 tab25 tab26 tab27 tab28 tab29 tab30 tab39 tab40 tab41 tab42 tab43 tab47 tab48 tab55 tab56 tab57 tab60 tab61 tab62 tab73 tab74 tab75 tab85 tab92 tab115 tab116 tab143 tab144 tab145 tab154 tab155 tab170 tab175 tab182 tab197 tab198 tab203 tab204 tab205 tab207 tab208 tab209
theorem decimal_AC (k : Nat) (hk : k < 10) : AC Try.prog 172 [.int .i64 (k : Int)] 0 (fun r => r = .str (txt (dig1 k))) := by
  refine AC.ofGrow (enters_of Try.func172 (by kernel_rfl) (by kernel_rfl)) (fun w _ S rb vs h => ?_)
  unfold RepL at h
  obtain ⟨v, vs', rfl, h1, h2⟩ := h
  unfold RepL at h2
  subst h2
  rw [rep_int] at h1
  subst h1
  refine (decimal_small k w hk).mono ?_
  rintro e w' ⟨rfl, hg⟩
  exact ⟨_, _, rfl, hg, rep_str.2 ⟨rfl, by show (txt (dig1 k)).data.size ≤ big; simp [txt, dig1, big]⟩, rfl⟩
def hitP (n : Nd) (st : ByteArray) (k : Nat) : Bool := (n.kind == 4 && eqs ((n.names[k]?).getD ByteArray.empty) st) || (n.kind == 3 && eqs (txt (dig1 k)) st)
def placeF (n : Nd) (st : ByteArray) : Nat → Nat → Int
  | 0, _ => -1
  | f + 1, k => if hitP n st k then k else placeF n st f (k + 1)
def placeI (n : Nd) (st : ByteArray) : Int := placeF n st n.kids.length 0
def Plc (n : Nd) : Prop := (n.kind = 4 → n.kids.length ≤ n.names.length) ∧ (n.kind = 3 → n.kids.length ≤ 10)
theorem i64_nat {n : Int} (h0 : -9223372036854775808 ≤ n) (h1 : n ≤ 9223372036854775807) : IntKind.i64.wrap n = n := IntWalk.i64_in _ (by omega)
theorem place_ok (t : VC) (n : Nd) (st : ByteArray) (hn : Plc n) : AC Try.prog 135 [nodeT t n, .str st] 0 (fun r => r = .int .i64 (placeI n st)) := by
  refine AC.of tab_ok mixed_ok Try.func135 (by rfl) (by kernel_rfl) ?_
  rintro ⟨P, T, hT, hm, w0, S0, rd0, k0⟩ hP hTT
  dsimp only at hP hTT
  subst hP hTT
  unfold nodeT initSt
  rw [nodeTL_eq, Try.ntmps135]
  repeat refine AW.seq ?_
  (refine AW.regionK [] (fun K hK => ?_); (repeat (refine arun_ks 4 rfl (fun C hC => ?_); (repeat ((conv => whnf); simp)); refine hC _ ?_; clear hC C; simp only [List.drop_succ_cons, List.drop_zero, List.drop_nil])); refine arun_nil ?_; refine hK _ ?_; clear hK K; simp only [thenA_normal, inBlockA_normal, endQ_normal, endR_normal])
  refine AW.fact (G := n.kids.length ≤ big) 0 rfl (fun w ρ v h => by
    obtain ⟨vs, _, _, h3⟩ := rep_agg.1 h
    obtain ⟨u, _, hu⟩ := h3.get (i := 4) rfl
    simpa using view_big hu) (fun hbig => ?_)
  unfold big at hbig
  repeat refine AW.seq ?_
  (refine AW.regionK [] (fun K hK => ?_); (repeat (refine arun_ks 4 rfl (fun C hC => ?_); (repeat ((conv => whnf); simp)); refine hC _ ?_; clear hC C; simp only [List.drop_succ_cons, List.drop_zero, List.drop_nil])); refine arun_nil ?_; refine hK _ ?_; clear hK K; simp only [thenA_normal, inBlockA_normal, endQ_normal, endR_normal])
  refine AW.block ?_
  refine AW.loopS (fun (i : Nat) => mkSt (slots 0 37 [(1, .str st), (2, .ptr true 5 1 2 0 0), (5, .int .i64 i)]) [(2, ⟨true, 30, 5, [nodeTL t n]⟩)] [2] (rd0.map fun _ => 0)) (fun i => n.kids.length - i) (fun i => i ≤ n.kids.length ∧ placeI n st = placeF n st (n.kids.length - i) i) 0 ?_ ⟨Nat.zero_le _, rfl⟩ ?_
  · rw [nodeTL_eq]
    exact less_a
  · rintro i ⟨hi, hpl⟩
    rw [nodeTL_eq]
    by_cases hlt : i < n.kids.length
    · have hw : IntKind.i64.wrap ((i : Int) + 1) = (i : Int) + 1 := i64_nat (by omega) (by omega)
      have hsub : n.kids.length - i = (n.kids.length - (i + 1)) + 1 := by omega
      rw [hsub, placeF] at hpl
      repeat refine AW.seq ?_
      (refine AW.regionK [] (fun K hK => ?_); (repeat (refine arun_ks 4 rfl (fun C hC => ?_); (repeat ((conv => whnf); simp)); refine hC _ ?_; clear hC C; simp only [List.drop_succ_cons, List.drop_zero, List.drop_nil])); refine arun_nil ?_; refine hK _ ?_; clear hK K; simp only [thenA_normal, inBlockA_normal, endQ_normal, endR_normal])
      refine AW.condT (by simp [aev, hlt]) ?_
      refine AW.skip ?_
      simp only [thenA_normal]
      repeat refine AW.seq ?_
      refine AW.block ?_
      repeat refine AW.seq ?_
      by_cases hk4 : n.kind = 4
      · have hnl := hn.1 hk4
        have hname : n.names[i]? = some n.names[i] := List.getElem?_eq_getElem (by omega)
        cases hb : (eqs n.names[i] st)
        · have hh : hitP n st i = false := by simp [hitP, hk4, hname, hb]
          (refine AW.regionK [] (fun K hK => ?_); (repeat (refine arun_ks 4 rfl (fun C hC => ?_); (repeat ((conv => whnf); simp [hk4, hname, hb])); refine hC _ ?_; clear hC C; simp only [List.drop_succ_cons, List.drop_zero, List.drop_nil])); refine arun_nil ?_; refine hK _ ?_; clear hK K; simp only [thenA_normal, inBlockA_normal, endQ_normal, endR_normal])
          refine AW.condF (by simp [aev, hb]) ?_
          refine AW.skip ?_
          simp only [thenA_normal, inBlockA_normal]
          (refine AW.regionK [] (fun K hK => ?_); (repeat (refine arun_ks 4 rfl (fun C hC => ?_); (repeat ((conv => whnf); simp [hw])); refine hC _ ?_; clear hC C; simp only [List.drop_succ_cons, List.drop_zero, List.drop_nil])); refine arun_nil ?_; refine hK _ ?_; clear hK K; simp only [thenA_normal, inBlockA_normal, endQ_normal, endR_normal])
          refine ⟨i + 1, by omega, ⟨by omega, by rw [hpl, hh]; rfl⟩, ?_⟩
          exact (less_of (by simp [lessL, mkSt, slots, hk4]) (by simp [upd, mkSt, rowsOf_cons, hk4]) (by simp [upd, mkSt, usedOf_cons, hk4]) (by first | exact rd_less (by omega) | simp [mkSt, hk4]) (by simp [slots, in_any, in_int, in_bool, in_str, in_ptr, in_own, in_agg, in_vnil, in_rdr, usedOf_cons, usedOf_nil, strs_in, ints_in, nodes_in, in_tup, hk4]) (by simp only [List.forall_mem_cons, List.not_mem_nil, false_implies, implies_true, and_true, true_and, hk4]; (repeat (first | with_reducible exact trivial | with_reducible refine And.intro ?_ ?_ | with_reducible exact in_int | with_reducible exact in_str | with_reducible exact in_bool | with_reducible exact strs_in _ | with_reducible exact nodes_in _ | with_reducible exact items_in _ | with_reducible exact in_vnil | with_reducible exact in_any | exact hin _ | with_reducible refine take_in ?_ | with_reducible exact strsE_in _ | with_reducible exact nodesE_in _ | with_reducible exact nodeL_in _ | with_reducible exact itemsE_in _ | with_reducible exact itemL_in _ | with_reducible refine app_in ?_ ?_ | with_reducible refine sing_in ?_ | (focus (simp [in_any, in_int, in_bool, in_str, in_ptr, in_own, in_agg, in_vnil, in_rdr, usedOf_cons, usedOf_nil, strs_in, ints_in, nodes_in, hk4]; done)))); done))
        · have hh : hitP n st i = true := by simp [hitP, hk4, hname, hb]
          (refine AW.regionK [] (fun K hK => ?_); (repeat (refine arun_ks 4 rfl (fun C hC => ?_); (repeat ((conv => whnf); simp [hk4, hname, hb])); refine hC _ ?_; clear hC C; simp only [List.drop_succ_cons, List.drop_zero, List.drop_nil])); refine arun_nil ?_; refine hK _ ?_; clear hK K; simp only [thenA_normal, inBlockA_normal, endQ_normal, endR_normal])
          refine AW.condT (by simp [aev, hb]) ?_
          repeat refine AW.seq ?_
          (refine AW.regionK [] (fun K hK => ?_); (repeat (refine arun_ks 4 rfl (fun C hC => ?_); (repeat ((conv => whnf); simp)); refine hC _ ?_; clear hC C; simp only [List.drop_succ_cons, List.drop_zero, List.drop_nil])); refine arun_nil ?_; refine hK _ ?_; clear hK K; simp only [thenA_normal, inBlockA_normal, endQ_normal, endR_normal])
          refine AW.ret ?_
          simp only [thenA_ret, inBlockA_ret, endQ_ret]
          exact ⟨.int .i64 i, by simp [ares, aresL], pur_int, by rw [hpl, hh]; rfl⟩
      · by_cases hk3 : n.kind = 3
        · have hk := hn.2 hk3
          cases hb : (eqs (txt (dig1 i)) st)
          · have hh : hitP n st i = false := by simp [hitP, hk3, hb]
            (refine AW.regionK [] (fun K hK => ?_); refine arun_kk 18 (fun C0 hC0 => ?_); simp only [List.take_succ_cons, List.take_zero, List.take_nil]; (repeat (refine arun_ks 4 rfl (fun C hC => ?_); (repeat ((conv => whnf); simp [hk3, hb])); refine hC _ ?_; clear hC C; simp only [List.drop_succ_cons, List.drop_zero, List.drop_nil])); refine arun_nil ?_; refine hC0 _ ?_; clear hC0 C0; simp only [List.drop_succ_cons, List.drop_zero, List.drop_nil])
            refine arun_call0 (by simp [awant]) rfl (by simp [aev, ofVal, ofVal0, nodeA, nodeT, nodeTL_eq, nodeL_eq, hb]) (decimal_AC i (by omega)) (by simp only [cloL]; repeat (first | exact trivial | refine And.intro ?_ ?_ | exact clo_int | exact clo_str | exact clo_bool | exact clo_rdr | exact node_clo _ | exact nodeT_clo _ _ | exact strs_clo _ | exact ints_clo _ | exact nodes_clo _)) ?_
            rintro r rfl
            ((repeat (refine arun_ks 4 rfl (fun C hC => ?_); (repeat ((conv => whnf); simp [hk3, hb])); refine hC _ ?_; clear hC C; simp only [List.drop_succ_cons, List.drop_zero, List.drop_nil])); refine arun_nil ?_; refine hK _ ?_; clear hK K; simp only [thenA_normal, inBlockA_normal, endQ_normal, endR_normal])
            refine AW.condF (by simp [aev, hb]) ?_
            refine AW.skip ?_
            simp only [thenA_normal, inBlockA_normal]
            (refine AW.regionK [] (fun K hK => ?_); (repeat (refine arun_ks 4 rfl (fun C hC => ?_); (repeat ((conv => whnf); simp [hw])); refine hC _ ?_; clear hC C; simp only [List.drop_succ_cons, List.drop_zero, List.drop_nil])); refine arun_nil ?_; refine hK _ ?_; clear hK K; simp only [thenA_normal, inBlockA_normal, endQ_normal, endR_normal])
            refine ⟨i + 1, by omega, ⟨by omega, by rw [hpl, hh]; rfl⟩, ?_⟩
            exact (less_of (by simp [lessL, mkSt, slots, hk3]) (by simp [upd, mkSt, rowsOf_cons, hk3]) (by simp [upd, mkSt, usedOf_cons, hk3]) (by first | exact rd_less (by omega) | simp [mkSt, hk3]) (by simp [slots, in_any, in_int, in_bool, in_str, in_ptr, in_own, in_agg, in_vnil, in_rdr, usedOf_cons, usedOf_nil, strs_in, ints_in, nodes_in, in_tup, hk3]) (by simp only [List.forall_mem_cons, List.not_mem_nil, false_implies, implies_true, and_true, true_and, hk3]; (repeat (first | with_reducible exact trivial | with_reducible refine And.intro ?_ ?_ | with_reducible exact in_int | with_reducible exact in_str | with_reducible exact in_bool | with_reducible exact strs_in _ | with_reducible exact nodes_in _ | with_reducible exact items_in _ | with_reducible exact in_vnil | with_reducible exact in_any | exact hin _ | with_reducible refine take_in ?_ | with_reducible exact strsE_in _ | with_reducible exact nodesE_in _ | with_reducible exact nodeL_in _ | with_reducible exact itemsE_in _ | with_reducible exact itemL_in _ | with_reducible refine app_in ?_ ?_ | with_reducible refine sing_in ?_ | (focus (simp [in_any, in_int, in_bool, in_str, in_ptr, in_own, in_agg, in_vnil, in_rdr, usedOf_cons, usedOf_nil, strs_in, ints_in, nodes_in, hk3]; done)))); done))
          · have hh : hitP n st i = true := by simp [hitP, hk3, hb]
            (refine AW.regionK [] (fun K hK => ?_); refine arun_kk 18 (fun C0 hC0 => ?_); simp only [List.take_succ_cons, List.take_zero, List.take_nil]; (repeat (refine arun_ks 4 rfl (fun C hC => ?_); (repeat ((conv => whnf); simp [hk3, hb])); refine hC _ ?_; clear hC C; simp only [List.drop_succ_cons, List.drop_zero, List.drop_nil])); refine arun_nil ?_; refine hC0 _ ?_; clear hC0 C0; simp only [List.drop_succ_cons, List.drop_zero, List.drop_nil])
            refine arun_call0 (by simp [awant]) rfl (by simp [aev, ofVal, ofVal0, nodeA, nodeT, nodeTL_eq, nodeL_eq, hb]) (decimal_AC i (by omega)) (by simp only [cloL]; repeat (first | exact trivial | refine And.intro ?_ ?_ | exact clo_int | exact clo_str | exact clo_bool | exact clo_rdr | exact node_clo _ | exact nodeT_clo _ _ | exact strs_clo _ | exact ints_clo _ | exact nodes_clo _)) ?_
            rintro r rfl
            ((repeat (refine arun_ks 4 rfl (fun C hC => ?_); (repeat ((conv => whnf); simp [hk3, hb])); refine hC _ ?_; clear hC C; simp only [List.drop_succ_cons, List.drop_zero, List.drop_nil])); refine arun_nil ?_; refine hK _ ?_; clear hK K; simp only [thenA_normal, inBlockA_normal, endQ_normal, endR_normal])
            refine AW.condT (by simp [aev, hb]) ?_
            repeat refine AW.seq ?_
            (refine AW.regionK [] (fun K hK => ?_); (repeat (refine arun_ks 4 rfl (fun C hC => ?_); (repeat ((conv => whnf); simp)); refine hC _ ?_; clear hC C; simp only [List.drop_succ_cons, List.drop_zero, List.drop_nil])); refine arun_nil ?_; refine hK _ ?_; clear hK K; simp only [thenA_normal, inBlockA_normal, endQ_normal, endR_normal])
            refine AW.ret ?_
            simp only [thenA_ret, inBlockA_ret, endQ_ret]
            exact ⟨.int .i64 i, by simp [ares, aresL], pur_int, by rw [hpl, hh]; rfl⟩
        · have hh : hitP n st i = false := by simp [hitP, hk3, hk4]
          (refine AW.regionK [] (fun K hK => ?_); (repeat (refine arun_ks 4 rfl (fun C hC => ?_); (repeat ((conv => whnf); simp [nbeq hk3, nbeq hk4])); refine hC _ ?_; clear hC C; simp only [List.drop_succ_cons, List.drop_zero, List.drop_nil])); refine arun_nil ?_; refine hK _ ?_; clear hK K; simp only [thenA_normal, inBlockA_normal, endQ_normal, endR_normal])
          refine AW.condF (by simp [aev, hk3, hk4]) ?_
          refine AW.skip ?_
          simp only [thenA_normal, inBlockA_normal]
          (refine AW.regionK [] (fun K hK => ?_); (repeat (refine arun_ks 4 rfl (fun C hC => ?_); (repeat ((conv => whnf); simp [hw])); refine hC _ ?_; clear hC C; simp only [List.drop_succ_cons, List.drop_zero, List.drop_nil])); refine arun_nil ?_; refine hK _ ?_; clear hK K; simp only [thenA_normal, inBlockA_normal, endQ_normal, endR_normal])
          refine ⟨i + 1, by omega, ⟨by omega, by rw [hpl, hh]; rfl⟩, ?_⟩
          exact less_a
    · have hi' : n.kids.length - i = 0 := by omega
      rw [hi', placeF] at hpl
      repeat refine AW.seq ?_
      (refine AW.regionK [] (fun K hK => ?_); (repeat (refine arun_ks 4 rfl (fun C hC => ?_); (repeat ((conv => whnf); simp)); refine hC _ ?_; clear hC C; simp only [List.drop_succ_cons, List.drop_zero, List.drop_nil])); refine arun_nil ?_; refine hK _ ?_; clear hK K; simp only [thenA_normal, inBlockA_normal, endQ_normal, endR_normal])
      refine AW.condF (by simp [aev, hlt]) ?_
      refine AW.exit ?_
      simp only [thenA_exit, inBlockA_exit, if_true, thenA_normal]
      repeat refine AW.seq ?_
      (refine AW.regionK [] (fun K hK => ?_); (repeat (refine arun_ks 4 rfl (fun C hC => ?_); (repeat ((conv => whnf); simp)); refine hC _ ?_; clear hC C; simp only [List.drop_succ_cons, List.drop_zero, List.drop_nil])); refine arun_nil ?_; refine hK _ ?_; clear hK K; simp only [thenA_normal, inBlockA_normal, endQ_normal, endR_normal])
      refine AW.ret ?_
      simp only [endQ_ret]
      exact ⟨.int .i64 (-1), by simp [ares, aresL], pur_int, by rw [hpl]⟩
def nodeO (n : Nd) (id : Nat) : AV := .agg [.int .i64 n.kind, .int .i64 n.num, .str n.text, .view .loose 1 (strsE n.names), .own id n.kids.length]
def kidsRow (n : Nd) : Row := ⟨false, 30, 5, n.kids.map nodeL⟩
theorem copyNode_step (n : Nd) (hs : Sml n) (ih : ∀ k ∈ n.kids, AC Try.prog 95 [nodeA k] 0 (fun r => r = nodeA k)) (t : VC) : ACR Try.prog 95 [nodeT t n] 0 (fun _ => False) (fun f R => f = nodeO n ∧ R = kidsRow n) := by
  have hs1 := hs.names
  have hs2 := hs.kids
  refine ACR.of tab_ok mixed_ok Try.func95 (by rfl) (by kernel_rfl) ?_
  rintro ⟨P, T, hT, hm, w0, S0, rd0, k0⟩ hP hTT
  dsimp only at hP hTT
  subst hP hTT
  unfold nodeT initSt
  rw [nodeTL_eq, Try.ntmps95]
  repeat refine AW.seq ?_
  (refine AW.regionK [] (fun K hK => ?_); (repeat (refine arun_ks 4 rfl (fun C hC => ?_); (repeat ((conv => whnf); simp)); refine hC _ ?_; clear hC C; simp only [List.drop_succ_cons, List.drop_zero, List.drop_nil])); refine arun_nil ?_; refine hK _ ?_; clear hK K; simp only [thenA_normal, inBlockA_normal, endQ_normal, endR_normal])
  repeat refine AW.seq ?_
  (refine AW.regionK [] (fun K hK => ?_); (repeat (refine arun_ks 4 rfl (fun C hC => ?_); (repeat ((conv => whnf); simp)); refine hC _ ?_; clear hC C; simp only [List.drop_succ_cons, List.drop_zero, List.drop_nil])); refine arun_nil ?_; refine hK _ ?_; clear hK K; simp only [thenA_normal, inBlockA_normal, endQ_normal, endR_normal])
  repeat refine AW.seq ?_
  (refine AW.regionK [] (fun K hK => ?_); (repeat (refine arun_ks 4 rfl (fun C hC => ?_); (repeat ((conv => whnf); simp)); refine hC _ ?_; clear hC C; simp only [List.drop_succ_cons, List.drop_zero, List.drop_nil])); refine arun_nil ?_; refine hK _ ?_; clear hK K; simp only [thenA_normal, inBlockA_normal, endQ_normal, endR_normal])
  refine AW.adopt 3 3 30 5 ⟨_, tab30, rfl⟩ rfl rfl ?_
  refine AW.block ?_
  refine AW.loopS (fun (i : Nat) => mkSt (slots 0 34 [(1, .ptr true 5 1 1 0 0), (2, .ptr true 5 1 2 0 0), (3, .own 3 i), (4, .int .i64 i)]) [(1, ⟨true, 30, 5, [nodeTL t n]⟩), (2, ⟨true, 30, 5, [[.int .i64 0, .int .i64 0, .str ⟨#[]⟩, .view .tight 0 [], .view .tight 0 []]]⟩), (3, ⟨false, 30, 5, (n.kids.map nodeL).take i⟩)] [1, 2, 3] (rd0.map fun _ => 0)) (fun i => n.kids.length - i) (fun i => i ≤ n.kids.length) 0 ?_ (Nat.zero_le _) ?_
  · rw [nodeTL_eq]
    exact (less_of (by simp [lessL, mkSt, slots, ASt.adopt, ASt.add]) (by simp [upd, mkSt, rowsOf_cons, ASt.adopt, ASt.add]) (by simp [upd, mkSt, usedOf_cons, ASt.adopt, ASt.add]) (by first | exact rd_less (by omega) | simp [mkSt, ASt.adopt, ASt.add]) (by simp [slots, in_any, in_int, in_bool, in_str, in_ptr, in_own, in_agg, in_vnil, in_rdr, usedOf_cons, usedOf_nil, strs_in, ints_in, nodes_in, in_tup, ASt.adopt, ASt.add]) (by simp only [List.forall_mem_cons, List.not_mem_nil, false_implies, implies_true, and_true, true_and, ASt.adopt, ASt.add]; (repeat (first | with_reducible exact trivial | with_reducible refine And.intro ?_ ?_ | with_reducible exact in_int | with_reducible exact in_str | with_reducible exact in_bool | with_reducible exact strs_in _ | with_reducible exact nodes_in _ | with_reducible exact items_in _ | with_reducible exact in_vnil | with_reducible exact in_any | exact hin _ | with_reducible refine take_in ?_ | with_reducible exact strsE_in _ | with_reducible exact nodesE_in _ | with_reducible exact nodeL_in _ | with_reducible exact itemsE_in _ | with_reducible exact itemL_in _ | with_reducible refine app_in ?_ ?_ | with_reducible refine sing_in ?_ | (focus (simp [in_any, in_int, in_bool, in_str, in_ptr, in_own, in_agg, in_vnil, in_rdr, usedOf_cons, usedOf_nil, strs_in, ints_in, nodes_in, ASt.adopt, ASt.add]; done)))); done))
  · intro i hi
    rw [nodeTL_eq]
    have hl : ((n.kids.map nodeL).take i).length = i := by rw [List.length_take, List.length_map]; omega
    by_cases hlt : i < n.kids.length
    · have hw : IntKind.i64.wrap ((i : Int) + 1) = (i : Int) + 1 := i64_nat (by omega) (by omega)
      have hk : n.kids[i]? = some n.kids[i] := List.getElem?_eq_getElem hlt
      generalize hkk : n.kids[i] = k at hk
      have hik := ih k (hkk ▸ List.getElem_mem hlt)
      have htk : (n.kids.map nodeL).take (i + 1) = (n.kids.map nodeL).take i ++ [nodeL k] := by
        rw [List.take_add_one, List.getElem?_map, hk]; rfl
      repeat refine AW.seq ?_
      (refine AW.regionK [] (fun K hK => ?_); (repeat (refine arun_ks 4 rfl (fun C hC => ?_); (repeat ((conv => whnf); simp)); refine hC _ ?_; clear hC C; simp only [List.drop_succ_cons, List.drop_zero, List.drop_nil])); refine arun_nil ?_; refine hK _ ?_; clear hK K; simp only [thenA_normal, inBlockA_normal, endQ_normal, endR_normal])
      refine AW.condT (by simp [aev, hlt]) ?_
      refine AW.skip ?_
      simp only [thenA_normal]
      repeat refine AW.seq ?_
      refine AW.block ?_
      repeat refine AW.seq ?_
      (refine AW.regionK [] (fun K hK => ?_); refine arun_kk 6 (fun C0 hC0 => ?_); simp only [List.take_succ_cons, List.take_zero, List.take_nil]; (repeat (refine arun_ks 4 rfl (fun C hC => ?_); (repeat ((conv => whnf); simp [hk, nodeL_eq])); refine hC _ ?_; clear hC C; simp only [List.drop_succ_cons, List.drop_zero, List.drop_nil])); refine arun_nil ?_; refine hC0 _ ?_; clear hC0 C0; simp only [List.drop_succ_cons, List.drop_zero, List.drop_nil])
      refine arun_call0 (by simp [awant]) rfl (by simp [aev, ofVal, ofVal0, nodeA, nodeT, nodeTL_eq, nodeL_eq, hk]) (hik) (by simp only [cloL]; repeat (first | exact trivial | refine And.intro ?_ ?_ | exact clo_int | exact clo_str | exact clo_bool | exact clo_rdr | exact node_clo _ | exact nodeT_clo _ _ | exact strs_clo _ | exact ints_clo _ | exact nodes_clo _)) ?_
      rintro r rfl
      unfold nodeA
      rw [nodeL_eq k]
      have hb1 : (i + 1) * 80 ≤ 140737488355328 := by omega
      have hb2 : i + 1 ≤ 140737488355328 := by omega
      ((repeat (refine arun_ks 4 rfl (fun C hC => ?_); (repeat ((conv => whnf); simp [hl, hk, hb1, hb2])); refine hC _ ?_; clear hC C; simp only [List.drop_succ_cons, List.drop_zero, List.drop_nil])); refine arun_nil ?_; refine hK _ ?_; clear hK K; simp only [thenA_normal, inBlockA_normal, endQ_normal, endR_normal])
      (refine AW.regionK [] (fun K hK => ?_); (repeat (refine arun_ks 4 rfl (fun C hC => ?_); (repeat ((conv => whnf); simp [hw])); refine hC _ ?_; clear hC C; simp only [List.drop_succ_cons, List.drop_zero, List.drop_nil])); refine arun_nil ?_; refine hK _ ?_; clear hK K; simp only [thenA_normal, inBlockA_normal, endQ_normal, endR_normal])
      refine ⟨i + 1, by omega, by omega, ?_⟩
      have hin : ∀ U : Nat → Bool, ∀ e ∈ (n.kids.map nodeL).take (i + 1), ∀ c ∈ e, AV.In U c := fun U e he => nodesE_in n.kids e (List.mem_of_mem_take he)
      rw [htk] at hin ⊢
      exact (less_of (by simp [lessL, mkSt, slots, nodeL_eq]) (by simp [upd, mkSt, rowsOf_cons, nodeL_eq]) (by simp [upd, mkSt, usedOf_cons, nodeL_eq]) (by first | exact rd_less (by omega) | simp [mkSt, nodeL_eq]) (by simp [slots, in_any, in_int, in_bool, in_str, in_ptr, in_own, in_agg, in_vnil, in_rdr, usedOf_cons, usedOf_nil, strs_in, ints_in, nodes_in, in_tup, nodeL_eq]) (by simp only [List.forall_mem_cons, List.not_mem_nil, false_implies, implies_true, and_true, true_and, nodeL_eq]; (repeat (first | with_reducible exact trivial | with_reducible refine And.intro ?_ ?_ | with_reducible exact in_int | with_reducible exact in_str | with_reducible exact in_bool | with_reducible exact strs_in _ | with_reducible exact nodes_in _ | with_reducible exact items_in _ | with_reducible exact in_vnil | with_reducible exact in_any | exact hin _ | with_reducible refine take_in ?_ | with_reducible exact strsE_in _ | with_reducible exact nodesE_in _ | with_reducible exact nodeL_in _ | with_reducible exact itemsE_in _ | with_reducible exact itemL_in _ | with_reducible refine app_in ?_ ?_ | with_reducible refine sing_in ?_ | (focus (simp [in_any, in_int, in_bool, in_str, in_ptr, in_own, in_agg, in_vnil, in_rdr, usedOf_cons, usedOf_nil, strs_in, ints_in, nodes_in, nodeL_eq]; done)))); done))
    · have hie : i = n.kids.length := by omega
      have hall : (n.kids.map nodeL).take i = n.kids.map nodeL := by rw [List.take_of_length_le (by rw [List.length_map]; omega)]
      rw [hall]
      repeat refine AW.seq ?_
      (refine AW.regionK [] (fun K hK => ?_); (repeat (refine arun_ks 4 rfl (fun C hC => ?_); (repeat ((conv => whnf); simp)); refine hC _ ?_; clear hC C; simp only [List.drop_succ_cons, List.drop_zero, List.drop_nil])); refine arun_nil ?_; refine hK _ ?_; clear hK K; simp only [thenA_normal, inBlockA_normal, endQ_normal, endR_normal])
      refine AW.condF (by simp [aev, hlt]) ?_
      refine AW.exit ?_
      simp only [thenA_exit, inBlockA_exit, if_true, thenA_normal]
      repeat refine AW.seq ?_
      have hb1 : n.names.length * 16 ≤ 140737488355328 := by omega
      have hb2 : n.names.length ≤ 140737488355328 := by omega
      (refine AW.regionDK [] (pcs [] []) (by kernel_rfl) (by kernel_rfl) (fun K hK => ?_); (repeat (refine arunD_ks 4 rfl (fun C hC => ?_); (repeat ((conv => whnf); simp [strsE_len, hb1, hb2])); refine hC _ ?_; clear hC C; simp only [List.drop_succ_cons, List.drop_zero, List.drop_nil, Nat.reduceAdd])); refine arunD_nil ?_; refine hK _ ?_; clear hK K; simp only [thenA_normal, inBlockA_normal, endQ_normal, endR_normal])
      refine AW.hold 31 ?_
      refine AW.ret ?_
      simp only [endR_ret]
      have hlen : (strsE n.names).length = n.names.length := strsE_len _
      refine ⟨nodeO n 3, ?_, .inr ⟨nodeO n, 3, kidsRow n, rfl, ?_, ?_, ?_, rfl, rfl⟩⟩
      · simp [ares, aresL, ASt.hold, upd, rowsOf_cons, AV.subL, AV.sub, Row.sub, nodeO, hlen, hie]
      · simp [ASt.hold, upd, rowsOf_cons, kidsRow, Row.sub]
        first | exact fun k _ => nodeL_sub k | simp [AV.subL, AV.sub]
      · exact Res1.agg [fun _ => .int .i64 n.kind, fun _ => .int .i64 n.num, fun _ => .str n.text, fun _ => .view .loose 1 (strsE n.names), fun id => .own id n.kids.length] (by
          simp only [List.forall_mem_cons, List.not_mem_nil, false_implies, implies_true, and_true]
          exact ⟨Res1.pur _ pur_int, Res1.pur _ pur_int, Res1.pur _ pur_str, Res1.pur _ (strs_pur _ (by decide)), Res1.own _ _⟩)
      · exact nodesE_pur n.kids
theorem nodeO_sub (n : Nd) : AV.sub 0 (kidsRow n).es.length (.view .loose (kidsRow n).sz (kidsRow n).es) (nodeO n 0) = nodeA n := by
  unfold nodeA
  rw [nodeL_eq]
  simp [nodeO, kidsRow, AV.sub, AV.subL]
theorem copyNode_AC : ∀ n, Sml n → ∀ t, AC Try.prog 95 [nodeT t n] 0 (fun r => r = nodeA n) := Nd.ind' _ (fun n ih hs t => by
  refine (AC.ofR (copyNode_step n hs (fun k hk => by have := ih k hk (hs.kid hk) .loose; rwa [nodeT_loose] at this) t) ?_).mono ?_
  · rintro r R ⟨rfl, rfl⟩
    rw [nodeO_sub]
    exact node_in n
  · rintro r (h | ⟨f, R, ⟨rfl, rfl⟩, rfl⟩)
    · exact h.elim
    · exact nodeO_sub n)
theorem copyNode_ACR (n : Nd) (hs : Sml n) (t : VC) : ACR Try.prog 95 [nodeT t n] 0 (fun _ => False) (fun f R => f = nodeO n ∧ R = kidsRow n) :=
  copyNode_step n hs (fun k hk => by have := copyNode_AC k (hs.kid hk) .loose; rwa [nodeT_loose] at this) t
theorem slot_AC (n : Nd) (t : VC) (st : ByteArray) (hk4 : n.kind = 4) (hnl : n.names.length = n.kids.length) (hs : Sml n) (hp : placeI n st < 0) : AC Try.prog 181 [nodeT t n, .str st] 0 (fun r => ∃ i : Nat, i ≤ n.kids.length ∧ r = .tup [.int .i64 i, .bool false]) := by
  have hs1 := hs.names
  have hs2 := hs.kids
  have hplc : Plc n := ⟨fun _ => by omega, fun h => by omega⟩
  refine AC.of tab_ok mixed_ok Try.func181 (by rfl) (by kernel_rfl) ?_
  rintro ⟨P, T, hT, hm, w0, S0, rd0, k0⟩ hP hTT
  dsimp only at hP hTT
  subst hP hTT
  unfold nodeT initSt
  rw [nodeTL_eq, Try.ntmps181]
  repeat refine AW.seq ?_
  (refine AW.regionK [] (fun K hK => ?_); (repeat (refine arun_ks 4 rfl (fun C hC => ?_); (repeat ((conv => whnf); simp)); refine hC _ ?_; clear hC C; simp only [List.drop_succ_cons, List.drop_zero, List.drop_nil])); refine arun_nil ?_; refine hK _ ?_; clear hK K; simp only [thenA_normal, inBlockA_normal, endQ_normal, endR_normal])
  repeat refine AW.seq ?_
  (refine AW.regionK [] (fun K hK => ?_); refine arun_kk 2 (fun C0 hC0 => ?_); simp only [List.take_succ_cons, List.take_zero, List.take_nil]; (repeat (refine arun_ks 4 rfl (fun C hC => ?_); (repeat ((conv => whnf); simp)); refine hC _ ?_; clear hC C; simp only [List.drop_succ_cons, List.drop_zero, List.drop_nil])); refine arun_nil ?_; refine hC0 _ ?_; clear hC0 C0; simp only [List.drop_succ_cons, List.drop_zero, List.drop_nil])
  refine arun_call0 (by simp [awant]) rfl (by simp [aev, ofVal, ofVal0, nodeA, nodeT, nodeTL_eq, nodeL_eq]) (place_ok t n st hplc) (by simp only [cloL]; repeat (first | exact trivial | refine And.intro ?_ ?_ | exact clo_int | exact clo_str | exact clo_bool | exact clo_rdr | exact node_clo _ | exact nodeT_clo _ _ | exact strs_clo _ | exact ints_clo _ | exact nodes_clo _)) ?_
  rintro r rfl
  ((repeat (refine arun_ks 4 rfl (fun C hC => ?_); (repeat ((conv => whnf); simp)); refine hC _ ?_; clear hC C; simp only [List.drop_succ_cons, List.drop_zero, List.drop_nil])); refine arun_nil ?_; refine hK _ ?_; clear hK K; simp only [thenA_normal, inBlockA_normal, endQ_normal, endR_normal])
  repeat refine AW.seq ?_
  (refine AW.regionK [] (fun K hK => ?_); (repeat (refine arun_ks 4 rfl (fun C hC => ?_); (repeat ((conv => whnf); simp)); refine hC _ ?_; clear hC C; simp only [List.drop_succ_cons, List.drop_zero, List.drop_nil])); refine arun_nil ?_; refine hK _ ?_; clear hK K; simp only [thenA_normal, inBlockA_normal, endQ_normal, endR_normal])
  have hp' : ¬ 0 ≤ placeI n st := by omega
  refine AW.condF (by simp [aev, hp']) ?_
  refine AW.skip ?_
  simp only [thenA_normal]
  repeat refine AW.seq ?_
  (refine AW.regionK [] (fun K hK => ?_); (repeat (refine arun_ks 4 rfl (fun C hC => ?_); (repeat ((conv => whnf); simp [hk4])); refine hC _ ?_; clear hC C; simp only [List.drop_succ_cons, List.drop_zero, List.drop_nil])); refine arun_nil ?_; refine hK _ ?_; clear hK K; simp only [thenA_normal, inBlockA_normal, endQ_normal, endR_normal])
  refine AW.condF (by simp [aev]) ?_
  refine AW.skip ?_
  simp only [thenA_normal]
  repeat refine AW.seq ?_
  (refine AW.regionK [] (fun K hK => ?_); (repeat (refine arun_ks 4 rfl (fun C hC => ?_); (repeat ((conv => whnf); simp)); refine hC _ ?_; clear hC C; simp only [List.drop_succ_cons, List.drop_zero, List.drop_nil])); refine arun_nil ?_; refine hK _ ?_; clear hK K; simp only [thenA_normal, inBlockA_normal, endQ_normal, endR_normal])
  refine AW.block ?_
  refine AW.loopS (fun (i : Nat) => mkSt (slots 0 62 [(1, .str st), (2, .ptr true 5 1 2 0 0), (7, .int .i64 i)]) [(2, ⟨true, 30, 5, [nodeTL t n]⟩)] [2] (rd0.map fun _ => 0)) (fun i => n.kids.length - i) (fun i => i ≤ n.kids.length) 0 ?_ (Nat.zero_le _) ?_
  · rw [nodeTL_eq]
    exact (less_of (by simp [lessL, mkSt, slots, hk4]) (by simp [upd, mkSt, rowsOf_cons, hk4]) (by simp [upd, mkSt, usedOf_cons, hk4]) (by first | exact rd_less (by omega) | simp [mkSt, hk4]) (by simp [slots, in_any, in_int, in_bool, in_str, in_ptr, in_own, in_agg, in_vnil, in_rdr, usedOf_cons, usedOf_nil, strs_in, ints_in, nodes_in, in_tup, hk4]) (by simp only [List.forall_mem_cons, List.not_mem_nil, false_implies, implies_true, and_true, true_and, hk4]; (repeat (first | with_reducible exact trivial | with_reducible refine And.intro ?_ ?_ | with_reducible exact in_int | with_reducible exact in_str | with_reducible exact in_bool | with_reducible exact strs_in _ | with_reducible exact nodes_in _ | with_reducible exact items_in _ | with_reducible exact in_vnil | with_reducible exact in_any | exact hin _ | with_reducible refine take_in ?_ | with_reducible exact strsE_in _ | with_reducible exact nodesE_in _ | with_reducible exact nodeL_in _ | with_reducible exact itemsE_in _ | with_reducible exact itemL_in _ | with_reducible refine app_in ?_ ?_ | with_reducible refine sing_in ?_ | (focus (simp [in_any, in_int, in_bool, in_str, in_ptr, in_own, in_agg, in_vnil, in_rdr, usedOf_cons, usedOf_nil, strs_in, ints_in, nodes_in, hk4]; done)))); done))
  · intro i hi
    rw [nodeTL_eq]
    have hw : IntKind.i64.wrap ((i : Int) + 1) = (i : Int) + 1 := i64_nat (by omega) (by omega)
    repeat refine AW.seq ?_
    (refine AW.regionK [] (fun K hK => ?_); (repeat (refine arun_ks 4 rfl (fun C hC => ?_); (repeat ((conv => whnf); simp [hk4, hi])); refine hC _ ?_; clear hC C; simp only [List.drop_succ_cons, List.drop_zero, List.drop_nil])); refine arun_nil ?_; refine hK _ ?_; clear hK K; simp only [thenA_normal, inBlockA_normal, endQ_normal, endR_normal])
    refine AW.condT (by simp [aev, hi]) ?_
    refine AW.skip ?_
    simp only [thenA_normal]
    repeat refine AW.seq ?_
    refine AW.block ?_
    repeat refine AW.seq ?_
    by_cases hlt : i < n.kids.length
    · have hne : ¬ i = n.kids.length := by omega
      have hname : n.names[i]? = some (n.names[i]'(by omega)) := List.getElem?_eq_getElem (by omega)
      generalize (n.names[i]'(by omega)) = nm at hname
      have hbi : ((i : Int) == (n.kids.length : Int)) = false := beq_false_of_ne (by omega)
      cases hb : (lts st nm)
      · (refine AW.regionK [] (fun K hK => ?_); (repeat (refine arun_ks 4 rfl (fun C hC => ?_); (repeat ((conv => whnf); simp [hbi, hname, hb])); refine hC _ ?_; clear hC C; simp only [List.drop_succ_cons, List.drop_zero, List.drop_nil])); refine arun_nil ?_; refine hK _ ?_; clear hK K; simp only [thenA_normal, inBlockA_normal, endQ_normal, endR_normal])
        refine AW.condF (by simp [aev]) ?_
        refine AW.skip ?_
        simp only [thenA_normal, inBlockA_normal]
        (refine AW.regionK [] (fun K hK => ?_); (repeat (refine arun_ks 4 rfl (fun C hC => ?_); (repeat ((conv => whnf); simp [hw])); refine hC _ ?_; clear hC C; simp only [List.drop_succ_cons, List.drop_zero, List.drop_nil])); refine arun_nil ?_; refine hK _ ?_; clear hK K; simp only [thenA_normal, inBlockA_normal, endQ_normal, endR_normal])
        refine ⟨i + 1, by omega, by omega, ?_⟩
        exact (less_of (by simp [lessL, mkSt, slots, hk4]) (by simp [upd, mkSt, rowsOf_cons, hk4]) (by simp [upd, mkSt, usedOf_cons, hk4]) (by first | exact rd_less (by omega) | simp [mkSt, hk4]) (by simp [slots, in_any, in_int, in_bool, in_str, in_ptr, in_own, in_agg, in_vnil, in_rdr, usedOf_cons, usedOf_nil, strs_in, ints_in, nodes_in, in_tup, hk4]) (by simp only [List.forall_mem_cons, List.not_mem_nil, false_implies, implies_true, and_true, true_and, hk4]; (repeat (first | with_reducible exact trivial | with_reducible refine And.intro ?_ ?_ | with_reducible exact in_int | with_reducible exact in_str | with_reducible exact in_bool | with_reducible exact strs_in _ | with_reducible exact nodes_in _ | with_reducible exact items_in _ | with_reducible exact in_vnil | with_reducible exact in_any | exact hin _ | with_reducible refine take_in ?_ | with_reducible exact strsE_in _ | with_reducible exact nodesE_in _ | with_reducible exact nodeL_in _ | with_reducible exact itemsE_in _ | with_reducible exact itemL_in _ | with_reducible refine app_in ?_ ?_ | with_reducible refine sing_in ?_ | (focus (simp [in_any, in_int, in_bool, in_str, in_ptr, in_own, in_agg, in_vnil, in_rdr, usedOf_cons, usedOf_nil, strs_in, ints_in, nodes_in, hk4]; done)))); done))
      · (refine AW.regionK [] (fun K hK => ?_); (repeat (refine arun_ks 4 rfl (fun C hC => ?_); (repeat ((conv => whnf); simp [hbi, hname, hb])); refine hC _ ?_; clear hC C; simp only [List.drop_succ_cons, List.drop_zero, List.drop_nil])); refine arun_nil ?_; refine hK _ ?_; clear hK K; simp only [thenA_normal, inBlockA_normal, endQ_normal, endR_normal])
        refine AW.condT (by simp [aev]) ?_
        repeat refine AW.seq ?_
        (refine AW.regionK [] (fun K hK => ?_); (repeat (refine arun_ks 4 rfl (fun C hC => ?_); (repeat ((conv => whnf); simp)); refine hC _ ?_; clear hC C; simp only [List.drop_succ_cons, List.drop_zero, List.drop_nil])); refine arun_nil ?_; refine hK _ ?_; clear hK K; simp only [thenA_normal, inBlockA_normal, endQ_normal, endR_normal])
        refine AW.ret ?_
        simp only [thenA_ret, inBlockA_ret, endQ_ret]
        exact ⟨.tup [.int .i64 i, .bool false], by simp [ares, aresL], pur_tup (by simp [pur_int, pur_bool]), i, by omega, rfl⟩
    · obtain rfl : i = n.kids.length := by omega
      (refine AW.regionK [] (fun K hK => ?_); (repeat (refine arun_ks 4 rfl (fun C hC => ?_); (repeat ((conv => whnf); simp)); refine hC _ ?_; clear hC C; simp only [List.drop_succ_cons, List.drop_zero, List.drop_nil])); refine arun_nil ?_; refine hK _ ?_; clear hK K; simp only [thenA_normal, inBlockA_normal, endQ_normal, endR_normal])
      refine AW.condT (by simp [aev]) ?_
      repeat refine AW.seq ?_
      (refine AW.regionK [] (fun K hK => ?_); (repeat (refine arun_ks 4 rfl (fun C hC => ?_); (repeat ((conv => whnf); simp)); refine hC _ ?_; clear hC C; simp only [List.drop_succ_cons, List.drop_zero, List.drop_nil])); refine arun_nil ?_; refine hK _ ?_; clear hK K; simp only [thenA_normal, inBlockA_normal, endQ_normal, endR_normal])
      refine AW.ret ?_
      simp only [thenA_ret, inBlockA_ret, endQ_ret]
      exact ⟨.tup [.int .i64 n.kids.length, .bool false], by simp [ares, aresL], pur_tup (by simp [pur_int, pur_bool]), n.kids.length, by omega, rfl⟩
def nodeN (n : Nd) (id : Nat) : AV := .agg [.int .i64 n.kind, .int .i64 n.num, .str n.text, .own id n.names.length, .view .loose 5 (n.kids.map nodeL)]
def namesRow (n : Nd) : Row := ⟨false, 9, 1, strsE n.names⟩
def addN (n : Nd) (i : Nat) (st : ByteArray) (v : Nd) : Nd := ⟨n.kind, 0, ⟨#[]⟩, n.names.take i ++ [st] ++ n.names.drop i, n.kids.take i ++ [v] ++ n.kids.drop i⟩
theorem addN_names (n : Nd) (i : Nat) (st : ByteArray) (v : Nd) : strsE (addN n i st v).names = (strsE n.names).take i ++ [[.str st]] ++ (strsE n.names).drop i := by
  simp [addN, strsE, List.map_take, List.map_drop]
theorem addN_kids (n : Nd) (i : Nat) (st : ByteArray) (v : Nd) : (addN n i st v).kids.map nodeL = (n.kids.map nodeL).take i ++ [nodeL v] ++ (n.kids.map nodeL).drop i := by
  simp [addN, List.map_take, List.map_drop]
theorem addHere_ACR (n v : Nd) (t : VC) (st : ByteArray) (hk4 : n.kind = 4) (hnl : n.names.length = n.kids.length) (hs : Sml n) (hv : Sml v) (hp : placeI n st < 0) :
    ACR Try.prog 157 [nodeT t n, .str st, nodeA v] 0 (fun _ => False) (fun f R => ∃ i, i ≤ n.kids.length ∧ f = (fun id => .tup [nodeN (addN n i st v) id, .bool true]) ∧ R = namesRow (addN n i st v)) := by
  have hs1 := hs.names
  have hs2 := hs.kids
  refine ACR.of tab_ok mixed_ok Try.func157 (by rfl) (by kernel_rfl) ?_
  rintro ⟨P, T, hT, hm, w0, S0, rd0, k0⟩ hP hTT
  dsimp only at hP hTT
  subst hP hTT
  unfold nodeT nodeA initSt
  rw [nodeTL_eq, nodeL_eq, Try.ntmps157]
  repeat refine AW.seq ?_
  (refine AW.regionK [] (fun K hK => ?_); (repeat (refine arun_ks 4 rfl (fun C hC => ?_); (repeat ((conv => whnf); simp)); refine hC _ ?_; clear hC C; simp only [List.drop_succ_cons, List.drop_zero, List.drop_nil])); refine arun_nil ?_; refine hK _ ?_; clear hK K; simp only [thenA_normal, inBlockA_normal, endQ_normal, endR_normal])
  repeat refine AW.seq ?_
  (refine AW.regionK [] (fun K hK => ?_); refine arun_kk 2 (fun C0 hC0 => ?_); simp only [List.take_succ_cons, List.take_zero, List.take_nil]; (repeat (refine arun_ks 4 rfl (fun C hC => ?_); (repeat ((conv => whnf); simp)); refine hC _ ?_; clear hC C; simp only [List.drop_succ_cons, List.drop_zero, List.drop_nil])); refine arun_nil ?_; refine hC0 _ ?_; clear hC0 C0; simp only [List.drop_succ_cons, List.drop_zero, List.drop_nil])
  refine arun_call0 (by simp [awant]) rfl (by simp [aev, ofVal, ofVal0, nodeA, nodeT, nodeTL_eq, nodeL_eq]) (slot_AC n t st hk4 hnl hs hp) (by simp only [cloL]; repeat (first | exact trivial | refine And.intro ?_ ?_ | exact clo_int | exact clo_str | exact clo_bool | exact clo_rdr | exact node_clo _ | exact nodeT_clo _ _ | exact strs_clo _ | exact ints_clo _ | exact nodes_clo _)) ?_
  rintro r ⟨i, hi, rfl⟩
  ((repeat (refine arun_ks 4 rfl (fun C hC => ?_); (repeat ((conv => whnf); simp)); refine hC _ ?_; clear hC C; simp only [List.drop_succ_cons, List.drop_zero, List.drop_nil])); refine arun_nil ?_; refine hK _ ?_; clear hK K; simp only [thenA_normal, inBlockA_normal, endQ_normal, endR_normal])
  repeat refine AW.seq ?_
  (refine AW.regionK [] (fun K hK => ?_); (repeat (refine arun_ks 4 rfl (fun C hC => ?_); (repeat ((conv => whnf); simp)); refine hC _ ?_; clear hC C; simp only [List.drop_succ_cons, List.drop_zero, List.drop_nil])); refine arun_nil ?_; refine hK _ ?_; clear hK K; simp only [thenA_normal, inBlockA_normal, endQ_normal, endR_normal])
  have hi0 : ¬ ((i : Int) < 0) := by omega
  refine AW.condF (by simp [aev, hi0]) ?_
  refine AW.skip ?_
  simp only [thenA_normal]
  repeat refine AW.seq ?_
  (refine AW.regionK [] (fun K hK => ?_); (repeat (refine arun_ks 4 rfl (fun C hC => ?_); (repeat ((conv => whnf); simp)); refine hC _ ?_; clear hC C; simp only [List.drop_succ_cons, List.drop_zero, List.drop_nil])); refine arun_nil ?_; refine hK _ ?_; clear hK K; simp only [thenA_normal, inBlockA_normal, endQ_normal, endR_normal])
  refine AW.condF (by simp [aev]) ?_
  refine AW.skip ?_
  simp only [thenA_normal]
  repeat refine AW.seq ?_
  (refine AW.regionK [] (fun K hK => ?_); refine arun_kk 1 (fun C0 hC0 => ?_); simp only [List.take_succ_cons, List.take_zero, List.take_nil]; (repeat (refine arun_ks 4 rfl (fun C hC => ?_); (repeat ((conv => whnf); simp)); refine hC _ ?_; clear hC C; simp only [List.drop_succ_cons, List.drop_zero, List.drop_nil])); refine arun_nil ?_; refine hC0 _ ?_; clear hC0 C0; simp only [List.drop_succ_cons, List.drop_zero, List.drop_nil])
  refine arun_call0 (by simp [awant]) rfl (by simp [aev, ofVal, ofVal0, nodeA, nodeT, nodeTL_eq, nodeL_eq]) (copyNode_AC n hs t) (by simp only [cloL]; repeat (first | exact trivial | refine And.intro ?_ ?_ | exact clo_int | exact clo_str | exact clo_bool | exact clo_rdr | exact node_clo _ | exact nodeT_clo _ _ | exact strs_clo _ | exact ints_clo _ | exact nodes_clo _)) ?_
  rintro r rfl
  unfold nodeA
  rw [nodeL_eq]
  ((repeat (refine arun_ks 4 rfl (fun C hC => ?_); (repeat ((conv => whnf); simp)); refine hC _ ?_; clear hC C; simp only [List.drop_succ_cons, List.drop_zero, List.drop_nil])); refine arun_nil ?_; refine hK _ ?_; clear hK K; simp only [thenA_normal, inBlockA_normal, endQ_normal, endR_normal])
  have hl1 : ((n.kids.map nodeL).take i).length = i := by rw [List.length_take, List.length_map]; omega
  have hl2 : ((n.kids.map nodeL).drop i).length = n.kids.length - i := by rw [List.length_drop, List.length_map]
  have hl3 : ((strsE n.names).take i).length = i := by rw [List.length_take, strsE_len]; omega
  have hl4 : ((strsE n.names).drop i).length = n.kids.length - i := by rw [List.length_drop, strsE_len]; omega
  have hb1 : i * 80 ≤ 140737488355328 := by omega
  have hb2 : i ≤ 140737488355328 := by omega
  have hb3 : (i + 1) * 80 ≤ 140737488355328 := by omega
  have hb4 : i + 1 ≤ 140737488355328 := by omega
  have hb5 : (i + 1 + (n.kids.length - i)) * 80 ≤ 140737488355328 := by omega
  have hb6 : i + 1 + (n.kids.length - i) ≤ 140737488355328 := by omega
  have hb7 : i * 16 ≤ 140737488355328 := by omega
  have hb8 : (i + 1) * 16 ≤ 140737488355328 := by omega
  have hb9 : (i + 1 + (n.kids.length - i)) * 16 ≤ 140737488355328 := by omega
  have hin : i ≤ n.names.length := by omega
  have htk1 : (n.kids.map nodeL).take n.kids.length = n.kids.map nodeL := List.take_of_length_le (by rw [List.length_map]; exact Nat.le_refl _)
  have htk2 : (strsE n.names).take n.names.length = strsE n.names := List.take_of_length_le (by rw [strsE_len]; exact Nat.le_refl _)
  repeat refine AW.seq ?_
  (refine AW.regionDK [] (pcs [(7, 0, fun r => r = nodeA v)] []) (by kernel_rfl) (by kernel_rfl) (fun K hK => ?_); refine arunD_kk 7 (fun C0 hC0 => ?_); simp only [List.take_succ_cons, List.take_zero, List.take_nil]; (repeat (refine arunD_ks 4 rfl (fun C hC => ?_); (repeat ((conv => whnf); simp [hi, hl1, hb1, hb2])); refine hC _ ?_; clear hC C; simp only [List.drop_succ_cons, List.drop_zero, List.drop_nil, Nat.reduceAdd])); refine arunD_nil ?_; refine hC0 _ ?_; clear hC0 C0; simp only [List.drop_succ_cons, List.drop_zero, List.drop_nil, Nat.reduceAdd])
  refine arunD_call (c := 0) rfl (by simp [awant]) rfl (by simp [aev, ofVal, ofVal0, nodeA, nodeT, nodeTL_eq, nodeL_eq]) ((copyNode_AC v hv .loose)) rfl (by simp only [List.forall_mem_cons, List.not_mem_nil, false_implies, implies_true, and_true]; repeat (first | refine And.intro ?_ ?_ | (first | exact clo_int | exact clo_str | exact clo_bool | exact clo_rdr | exact node_clo _ | exact nodeT_clo _ _ | exact strs_clo _ | exact ints_clo _ | exact nodes_clo _ | assumption | exact clo_lit _ (by decide) | exact clo_lit _ rfl))) (can_of (by first | exact Nat.le_refl _ | simp; done | omega)) ?_ ?_
  · exact ⟨_, rfl, node_in v⟩
  rintro r rfl -
  unfold nodeA
  rw [nodeL_eq]
  ((repeat (refine arunD_ks 4 rfl (fun C hC => ?_); (repeat ((conv => whnf); simp [hl1, hb3, hb4])); refine hC _ ?_; clear hC C; simp only [List.drop_succ_cons, List.drop_zero, List.drop_nil, Nat.reduceAdd])); refine arunD_nil ?_; refine hK _ ?_; clear hK K; simp only [thenA_normal, inBlockA_normal, endQ_normal, endR_normal])
  repeat refine AW.seq ?_
  (refine AW.regionK [] (fun K hK => ?_); (repeat (refine arun_ks 4 rfl (fun C hC => ?_); (repeat ((conv => whnf); simp [hi, hl1, hl2, hb5, hb6, htk1])); refine hC _ ?_; clear hC C; simp only [List.drop_succ_cons, List.drop_zero, List.drop_nil])); refine arun_nil ?_; refine hK _ ?_; clear hK K; simp only [thenA_normal, inBlockA_normal, endQ_normal, endR_normal])
  repeat refine AW.seq ?_
  (refine AW.regionK [] (fun K hK => ?_); (repeat (refine arun_ks 4 rfl (fun C hC => ?_); (repeat ((conv => whnf); simp [hk4])); refine hC _ ?_; clear hC C; simp only [List.drop_succ_cons, List.drop_zero, List.drop_nil])); refine arun_nil ?_; refine hK _ ?_; clear hK K; simp only [thenA_normal, inBlockA_normal, endQ_normal, endR_normal])
  refine AW.condF (by simp [aev]) ?_
  refine AW.skip ?_
  simp only [thenA_normal]
  repeat refine AW.seq ?_
  (refine AW.regionK [] (fun K hK => ?_); (repeat (refine arun_ks 4 rfl (fun C hC => ?_); (repeat ((conv => whnf); simp [hin, hl3, strsE_len, hb7, hb8, hb2, hb4])); refine hC _ ?_; clear hC C; simp only [List.drop_succ_cons, List.drop_zero, List.drop_nil])); refine arun_nil ?_; refine hK _ ?_; clear hK K; simp only [thenA_normal, inBlockA_normal, endQ_normal, endR_normal])
  repeat refine AW.seq ?_
  (refine AW.regionK [] (fun K hK => ?_); (repeat (refine arun_ks 4 rfl (fun C hC => ?_); (repeat ((conv => whnf); simp [hin, hl3, hl4, strsE_len, hb9, hb6, htk2])); refine hC _ ?_; clear hC C; simp only [List.drop_succ_cons, List.drop_zero, List.drop_nil])); refine arun_nil ?_; refine hK _ ?_; clear hK K; simp only [thenA_normal, inBlockA_normal, endQ_normal, endR_normal])
  repeat refine AW.seq ?_
  (refine AW.regionK [] (fun K hK => ?_); (repeat (refine arun_ks 4 rfl (fun C hC => ?_); (repeat ((conv => whnf); simp)); refine hC _ ?_; clear hC C; simp only [List.drop_succ_cons, List.drop_zero, List.drop_nil])); refine arun_nil ?_; refine hK _ ?_; clear hK K; simp only [thenA_normal, inBlockA_normal, endQ_normal, endR_normal])
  refine AW.hold 34 ?_
  refine AW.ret ?_
  simp only [endR_ret]
  have e1 : nodeN (addN n i st v) 58 = .agg [.int .i64 4, .int .i64 0, .str ⟨#[]⟩, .own 58 (i + (n.kids.length - i + 1)), .view .loose 5 ((n.kids.map nodeL).take i ++ nodeL v :: (n.kids.map nodeL).drop i)] := by
    unfold nodeN
    rw [addN_kids, ← strsE_len, addN_names]
    simp [addN, hk4, hl3, hl4]
  rw [nodeL_eq] at e1
  refine ⟨.tup [nodeN (addN n i st v) 58, .bool true], ?_, .inr ⟨fun id => .tup [nodeN (addN n i st v) id, .bool true], 58, namesRow (addN n i st v), rfl, ?_, ?_, ?_, i, hi, rfl, rfl⟩⟩
  · rw [e1]
    simp [ares, aresL, ASt.hold, upd, rowsOf_cons, AV.subL, AV.sub, Row.sub, hl1, hl2]
  · simp [ASt.hold, upd, rowsOf_cons, namesRow, addN_names, Row.sub, strsE_sub, AV.subL, AV.sub]
  · exact Res1.tup [fun id => nodeN (addN n i st v) id, fun _ => .bool true] (by
      simp only [List.forall_mem_cons, List.not_mem_nil, false_implies, implies_true, and_true]
      refine ⟨Res1.agg [fun _ => .int .i64 n.kind, fun _ => .int .i64 0, fun _ => .str ⟨#[]⟩, fun id => .own id (addN n i st v).names.length, fun _ => .view .loose 5 ((addN n i st v).kids.map nodeL)] ?_, Res1.pur _ pur_bool⟩
      simp only [List.forall_mem_cons, List.not_mem_nil, false_implies, implies_true, and_true]
      exact ⟨Res1.pur _ pur_int, Res1.pur _ pur_int, Res1.pur _ pur_str, Res1.own _ _, Res1.pur _ (nodes_pur _ (by decide))⟩)
  · exact strsE_pur _
theorem AC.more {P : Program} {f : FuncId} {args : List AV} {c d : Nat} {Q : AV → Prop} (h : AC P f args c Q) (hd : c ≤ d) : AC P f args d Q :=
  ⟨h.1, fun w L S rb k vs h0 h1 h2 h3 => h.2 w L S rb k vs h0 h1 (fun b hb => ⟨(h2 b hb).1, (h2 b hb).2.less (by omega)⟩) h3⟩
theorem of_AC (t : VC) (xs : List ByteArray) (h1 : 1 ≤ xs.length) (h2 : xs.length ≤ 1000) : AC Try.prog 163 [.rdr, .view t 1 (strsE xs)] 1 (fun r => ∃ x ∈ xs, r = .str x) := by
  refine AC.of tab_ok mixed_ok Try.func163 (by rfl) (by kernel_rfl) ?_
  rintro ⟨P, T, hT, hm, w0, S0, rd0, k0⟩ hP hTT
  dsimp only at hP hTT
  subst hP hTT
  unfold initSt
  rw [Try.ntmps163]
  repeat refine AW.seq ?_
  (refine AW.regionK [] (fun K hK => ?_); (repeat (refine arun_ks 4 rfl (fun C hC => ?_); (repeat ((conv => whnf); simp)); refine hC _ ?_; clear hC C; simp only [List.drop_succ_cons, List.drop_zero, List.drop_nil])); refine arun_nil ?_; refine hK _ ?_; clear hK K; simp only [thenA_normal, inBlockA_normal, endQ_normal, endR_normal])
  repeat refine AW.seq ?_
  (refine AW.regionK [] (fun K hK => ?_); refine arun_kk 4 (fun C0 hC0 => ?_); simp only [List.take_succ_cons, List.take_zero, List.take_nil]; (repeat (refine arun_ks 4 rfl (fun C hC => ?_); (repeat ((conv => whnf); simp)); refine hC _ ?_; clear hC C; simp only [List.drop_succ_cons, List.drop_zero, List.drop_nil])); refine arun_nil ?_; refine hC0 _ ?_; clear hC0 C0; simp only [List.drop_succ_cons, List.drop_zero, List.drop_nil])
  refine arun_call (c := 1) (by simp [awant]) rfl (by simp [aev, ofVal, ofVal0, nodeA, nodeT, nodeTL_eq, nodeL_eq]) (pick_AC xs.length (by omega) (by omega)) (by simp only [cloL]; repeat (first | exact trivial | refine And.intro ?_ ?_ | exact clo_int | exact clo_str | exact clo_bool | exact clo_rdr | exact node_clo _ | exact nodeT_clo _ _ | exact strs_clo _ | exact ints_clo _ | exact nodes_clo _)) (can_of (by first | exact Nat.le_refl _ | simp; done | omega)) ?_
  rintro r ⟨v, rfl, hv⟩
  obtain ⟨v0, v1⟩ := hv.1 (by omega)
  obtain ⟨k, rfl⟩ := Int.eq_ofNat_of_zero_le v0
  have hk : k < xs.length := by omega
  have hx : xs[k]? = some xs[k] := List.getElem?_eq_getElem hk
  ((repeat (refine arun_ks 4 rfl (fun C hC => ?_); (repeat ((conv => whnf); simp [hx, hk])); refine hC _ ?_; clear hC C; simp only [List.drop_succ_cons, List.drop_zero, List.drop_nil])); refine arun_nil ?_; refine hK _ ?_; clear hK K; simp only [thenA_normal, inBlockA_normal, endQ_normal, endR_normal])
  refine AW.ret ?_
  simp only [endQ_ret]
  exact ⟨.str xs[k], by simp [ares, aresL], pur_str, xs[k], List.getElem_mem _, rfl⟩
theorem one_AC (t : VC) (xs : List Int) (h1 : 1 ≤ xs.length) (h2 : xs.length ≤ 1000) : AC Try.prog 129 [.rdr, .view t 1 (intsE xs)] 1 (fun r => ∃ x ∈ xs, r = .int .i64 x) := by
  refine AC.of tab_ok mixed_ok Try.func129 (by rfl) (by kernel_rfl) ?_
  rintro ⟨P, T, hT, hm, w0, S0, rd0, k0⟩ hP hTT
  dsimp only at hP hTT
  subst hP hTT
  unfold initSt
  rw [Try.ntmps129]
  repeat refine AW.seq ?_
  (refine AW.regionK [] (fun K hK => ?_); (repeat (refine arun_ks 4 rfl (fun C hC => ?_); (repeat ((conv => whnf); simp)); refine hC _ ?_; clear hC C; simp only [List.drop_succ_cons, List.drop_zero, List.drop_nil])); refine arun_nil ?_; refine hK _ ?_; clear hK K; simp only [thenA_normal, inBlockA_normal, endQ_normal, endR_normal])
  repeat refine AW.seq ?_
  (refine AW.regionK [] (fun K hK => ?_); refine arun_kk 4 (fun C0 hC0 => ?_); simp only [List.take_succ_cons, List.take_zero, List.take_nil]; (repeat (refine arun_ks 4 rfl (fun C hC => ?_); (repeat ((conv => whnf); simp)); refine hC _ ?_; clear hC C; simp only [List.drop_succ_cons, List.drop_zero, List.drop_nil])); refine arun_nil ?_; refine hC0 _ ?_; clear hC0 C0; simp only [List.drop_succ_cons, List.drop_zero, List.drop_nil])
  refine arun_call (c := 1) (by simp [awant]) rfl (by simp [aev, ofVal, ofVal0, nodeA, nodeT, nodeTL_eq, nodeL_eq]) (pick_AC xs.length (by omega) (by omega)) (by simp only [cloL]; repeat (first | exact trivial | refine And.intro ?_ ?_ | exact clo_int | exact clo_str | exact clo_bool | exact clo_rdr | exact node_clo _ | exact nodeT_clo _ _ | exact strs_clo _ | exact ints_clo _ | exact nodes_clo _)) (can_of (by first | exact Nat.le_refl _ | simp; done | omega)) ?_
  rintro r ⟨v, rfl, hv⟩
  obtain ⟨v0, v1⟩ := hv.1 (by omega)
  obtain ⟨k, rfl⟩ := Int.eq_ofNat_of_zero_le v0
  have hk : k < xs.length := by omega
  have hx : xs[k]? = some xs[k] := List.getElem?_eq_getElem hk
  ((repeat (refine arun_ks 4 rfl (fun C hC => ?_); (repeat ((conv => whnf); simp [hx, hk])); refine hC _ ?_; clear hC C; simp only [List.drop_succ_cons, List.drop_zero, List.drop_nil])); refine arun_nil ?_; refine hK _ ?_; clear hK K; simp only [thenA_normal, inBlockA_normal, endQ_normal, endR_normal])
  refine AW.ret ?_
  simp only [endQ_ret]
  exact ⟨.int .i64 xs[k], by simp [ares, aresL], pur_int, xs[k], List.getElem_mem _, rfl⟩
theorem all_mem {α : Type} {l : List α} {x : α} (h : x ∈ l) (p : α → Prop) [DecidablePred p] (ha : l.all (fun y => decide (p y)) = true) : p x := by
  rw [List.all_eq_true] at ha
  simpa using ha x h
def strOf (e : List AV) : ByteArray := match e with | [.str x] => x | _ => ByteArray.empty
def intOf (e : List AV) : Int := match e with | [.int _ x] => x | _ => 0
theorem of_ACU (t : VC) (es : List (List AV)) (he : es = strsE (es.map strOf)) (h1 : 1 ≤ es.length) (h2 : es.length ≤ 1000) : AC Try.prog 163 [.rdr, .view t 1 es] 1 (fun r => ∃ x ∈ es.map strOf, r = .str x) := by
  have := of_AC t (es.map strOf) (by simpa using h1) (by simpa using h2)
  rw [← he] at this
  exact this
theorem one_ACU (t : VC) (es : List (List AV)) (he : es = intsE (es.map intOf)) (h1 : 1 ≤ es.length) (h2 : es.length ≤ 1000) : AC Try.prog 129 [.rdr, .view t 1 es] 1 (fun r => ∃ x ∈ es.map intOf, r = .int .i64 x) := by
  have := one_AC t (es.map intOf) (by simpa using h1) (by simpa using h2)
  rw [← he] at this
  exact this
theorem someText_AC : AC Try.prog 178 [.rdr] 1 (fun r => ∃ x : ByteArray, x.size ≤ 12 ∧ r = .str x) := by
  refine AC.of tab_ok mixed_ok Try.func178 (by rfl) (by kernel_rfl) ?_
  rintro ⟨P, T, hT, hm, w0, S0, rd0, k0⟩ hP hTT
  dsimp only at hP hTT
  subst hP hTT
  unfold initSt
  rw [Try.ntmps178]
  repeat refine AW.seq ?_
  (refine AW.regionK [] (fun K hK => ?_); (repeat (refine arun_ks 4 rfl (fun C hC => ?_); (repeat ((conv => whnf); simp)); refine hC _ ?_; clear hC C; simp only [List.drop_succ_cons, List.drop_zero, List.drop_nil])); refine arun_nil ?_; refine hK _ ?_; clear hK K; simp only [thenA_normal, inBlockA_normal, endQ_normal, endR_normal])
  repeat refine AW.seq ?_
  (refine AW.regionK [] (fun K hK => ?_); refine arun_kk 2 (fun C0 hC0 => ?_); simp only [List.take_succ_cons, List.take_zero, List.take_nil]; (repeat (refine arun_ks 4 rfl (fun C hC => ?_); (repeat ((conv => whnf); simp)); refine hC _ ?_; clear hC C; simp only [List.drop_succ_cons, List.drop_zero, List.drop_nil])); refine arun_nil ?_; refine hC0 _ ?_; clear hC0 C0; simp only [List.drop_succ_cons, List.drop_zero, List.drop_nil])
  refine arun_callU (c := 1) (by simp [awant]) rfl (of_ACU _ _ (by rfl) (by decide) (by decide)) (by simp only [List.map_cons, List.map_nil, aev, ofVal, ofVal0, cloL]; repeat (first | exact trivial | refine And.intro ?_ ?_ | exact clo_int | exact clo_str | exact clo_bool | exact clo_rdr | exact node_clo _ | exact nodeT_clo _ _ | exact strs_clo _ | exact ints_clo _ | exact nodes_clo _ | exact clo_lit _ (by decide) | exact clo_lit _ rfl)) (can_of (by first | exact Nat.le_refl _ | simp; done | omega)) ?_
  rintro r ⟨x, hx, rfl⟩
  have hs : x.size ≤ 12 := all_mem hx (fun x => x.size ≤ 12) (by rfl)
  clear hx
  ((repeat (refine arun_ks 4 rfl (fun C hC => ?_); (repeat ((conv => whnf); simp)); refine hC _ ?_; clear hC C; simp only [List.drop_succ_cons, List.drop_zero, List.drop_nil])); refine arun_nil ?_; refine hK _ ?_; clear hK K; simp only [thenA_normal, inBlockA_normal, endQ_normal, endR_normal])
  refine AW.ret ?_
  simp only [endQ_ret]
  exact ⟨.str x, by simp [ares, aresL], pur_str, x, hs, rfl⟩
theorem someName_AC : AC Try.prog 179 [.rdr] 1 (fun r => ∃ x : ByteArray, x.size ≤ 12 ∧ r = .str x) := by
  refine AC.of tab_ok mixed_ok Try.func179 (by rfl) (by kernel_rfl) ?_
  rintro ⟨P, T, hT, hm, w0, S0, rd0, k0⟩ hP hTT
  dsimp only at hP hTT
  subst hP hTT
  unfold initSt
  rw [Try.ntmps179]
  repeat refine AW.seq ?_
  (refine AW.regionK [] (fun K hK => ?_); (repeat (refine arun_ks 4 rfl (fun C hC => ?_); (repeat ((conv => whnf); simp)); refine hC _ ?_; clear hC C; simp only [List.drop_succ_cons, List.drop_zero, List.drop_nil])); refine arun_nil ?_; refine hK _ ?_; clear hK K; simp only [thenA_normal, inBlockA_normal, endQ_normal, endR_normal])
  repeat refine AW.seq ?_
  (refine AW.regionK [] (fun K hK => ?_); refine arun_kk 2 (fun C0 hC0 => ?_); simp only [List.take_succ_cons, List.take_zero, List.take_nil]; (repeat (refine arun_ks 4 rfl (fun C hC => ?_); (repeat ((conv => whnf); simp)); refine hC _ ?_; clear hC C; simp only [List.drop_succ_cons, List.drop_zero, List.drop_nil])); refine arun_nil ?_; refine hC0 _ ?_; clear hC0 C0; simp only [List.drop_succ_cons, List.drop_zero, List.drop_nil])
  refine arun_callU (c := 1) (by simp [awant]) rfl (of_ACU _ _ (by rfl) (by decide) (by decide)) (by simp only [List.map_cons, List.map_nil, aev, ofVal, ofVal0, cloL]; repeat (first | exact trivial | refine And.intro ?_ ?_ | exact clo_int | exact clo_str | exact clo_bool | exact clo_rdr | exact node_clo _ | exact nodeT_clo _ _ | exact strs_clo _ | exact ints_clo _ | exact nodes_clo _ | exact clo_lit _ (by decide) | exact clo_lit _ rfl)) (can_of (by first | exact Nat.le_refl _ | simp; done | omega)) ?_
  rintro r ⟨x, hx, rfl⟩
  have hs : x.size ≤ 12 := all_mem hx (fun x => x.size ≤ 12) (by rfl)
  clear hx
  ((repeat (refine arun_ks 4 rfl (fun C hC => ?_); (repeat ((conv => whnf); simp)); refine hC _ ?_; clear hC C; simp only [List.drop_succ_cons, List.drop_zero, List.drop_nil])); refine arun_nil ?_; refine hK _ ?_; clear hK K; simp only [thenA_normal, inBlockA_normal, endQ_normal, endR_normal])
  refine AW.ret ?_
  simp only [endQ_ret]
  exact ⟨.str x, by simp [ares, aresL], pur_str, x, hs, rfl⟩
end Go.Proofs.Ytgfnmhfdmmnaoaa.Eng
