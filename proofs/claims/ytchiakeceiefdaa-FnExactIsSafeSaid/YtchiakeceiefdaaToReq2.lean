/-
  The walk of the law's copy of a request. (Printed by gentoreq.py.)
-/
import Derived.Test.YtchiakeceiefdaaToReq
namespace Go.Proofs.Ytchiakeceiefdaa
open Go.RowKit

theorem OpsR.mono {w : World} {S T : Nat → Prop} (hS : ∀ k, S k → T k) {a : Option Addr} {c : Nat} {l : List Opn} (hs : OpsR w S a c l) : OpsR w T a c l := by
  obtain ⟨h1, h2, h4⟩ := hs
  refine ⟨h1, h2, h4.imp id ?_⟩
  rintro ⟨b, o, rfl, hb, hc⟩
  refine ⟨b, o, rfl, hS b hb, fun i hi => ?_⟩
  obtain ⟨pa, pc, fa, fc, na, nc, ka, kc, g0, g1, g2, g3, g4, g5, g6, g7, g⟩ := hc i hi
  exact ⟨pa, pc, fa, fc, na, nc, ka, kc, g0, g1, g2, g3, g4, g5, g6, g7, g.mono hS⟩

set_option maxHeartbeats 4000000 in
theorem toRequest_ok (q : Reqn) (v : Value) (w : World) (hcost : costR q ≤ 1048576) (hn : ReqR w any q v) :
    Calls Try.prog 33 #[v] w fun e w' => ∃ v', e = .returned v' ∧ Grow w w' ∧ ReqR w' (upB w.heap.size) q v' := by
  obtain ⟨wa, wc, va, vc, na, nc, ka, kc, oa, oc, rfl, hz, hw, hv, hb, ho⟩ := hn
  rw [costR_eq] at hcost
  have hcw : q.want.length ≤ 1048576 := by have : q.want.length ≤ costS q.want := by simp [costS]
                                           omega
  have hcv : q.avoid.length ≤ 1048576 := by have : q.avoid.length ≤ costS q.avoid := by simp [costS]
                                            omega
  have hcb : costN q.body ≤ 1048576 := by omega
  have hco : costOs q.ops ≤ 1048576 := by omega
  have Hz := Lib.hid hz
  have Hw := Lib.hid hw
  have Hv := Lib.hid hv
  have Hb := Lib.hid hb
  have Ho := Lib.hid ho
  clear hz hw hv hb ho hcost
  unfold reqCells at *
  go_enter Try.func33, Try.ntmps33
  go_wp2_with fail
  refine (toStringS_up _ _ q.want _ (Hw.out.grow (by repeat (first | with_reducible exact Ext.refl _ _ | with_reducible refine Ext.trans ?_ (by assumption) | with_reducible refine Ext.drew ?_ | with_reducible refine Ext.drewN ?_ _ | with_reducible refine Ext.alloc ?_ _ | with_reducible refine Ext.setNew ?_ (by simp; done) _ | with_reducible refine Ext.setNew ?_ (by simp; omega) _))) hcw).mono ?_
  rintro e w1 ⟨a1, c1, rfl, hg1, hs1⟩
  have B0 := (((BoxN.new w _ _).grow ((Ext.refl nil _).alloc _)).grow ((Ext.refl nil _).alloc _)).grow hg1
  have B1 := ((BoxN.new (w.alloc _) _ _).grow ((Ext.refl nil _).alloc _)).grow hg1
  have B2 := (BoxN.new ((w.alloc _).alloc _) _ _).grow hg1
  simp only [World.size_alloc] at B0 B1 B2 hs1
  have hg1' : Grow w w1 := (by repeat (first | with_reducible exact Ext.refl _ _ | with_reducible refine Ext.trans ?_ (by assumption) | with_reducible refine Ext.drew ?_ | with_reducible refine Ext.drewN ?_ _ | with_reducible refine Ext.alloc ?_ _ | with_reducible refine Ext.setNew ?_ (by simp; done) _ | with_reducible refine Ext.setNew ?_ (by simp; omega) _))
  have HB0 := Lib.hid B0
  have HB1 := Lib.hid B1
  have HB2 := Lib.hid B2
  have Hs1 := Lib.hid hs1
  have hz1 : w.heap.size + 1 + 1 < w1.heap.size := B2.lt
  clear hg1 hs1
  have p3 := B0.cell 3 _ rfl
  have q2 := B2.cell 2 _ rfl
  have qf := B2.fr
  clear B0 B1 B2
  go_wp2_with fail
  refine (toStringS_up _ _ q.avoid _ (Hv.out.ext (hg1'.setNew (by simp; omega) _) (fun _ _ h => h)) hcv).mono ?_
  rintro e w2 ⟨a2, c2, rfl, hg2, hs2⟩
  have B0 := ((HB0.out.other (p := ⟨w.heap.size + 1 + 1, 2, none⟩) (by simp; omega) (.slice a1 q.want.length c1))).grow hg2
  have B1 := ((HB1.out.other (p := ⟨w.heap.size + 1 + 1, 2, none⟩) (by simp) (.slice a1 q.want.length c1))).grow hg2
  have B2 := ((HB2.out.set 2 (by simp) (.slice a1 q.want.length c1))).grow hg2
  have e12 : Ext (fun k => k = w.heap.size + 1 ∨ k = w.heap.size + 1 + 1) w1 w2 := Ext.trans (Ext.setIn (X := fun k => k = w.heap.size + 1 ∨ k = w.heap.size + 1 + 1) (Ext.refl _ w1) (p := ⟨w.heap.size + 1 + 1, 2, none⟩) (.inr rfl) (.slice a1 q.want.length c1)) (hg2.mono (fun _ h => False.elim h))
  have hg2' : Grow w w2 := hg1'.inner e12 (by intro i hi; omega)
  clear p3 q2 qf HB0 HB1 HB2
  have HB0 := Lib.hid B0
  have HB1 := Lib.hid B1
  have HB2 := Lib.hid B2
  have Hs2 := Lib.hid hs2
  have E12 := Lib.hid e12
  have hz2 : w.heap.size + 1 + 1 < w2.heap.size := B2.lt
  clear hs2 hg2 e12
  have p4 := B0.cell 4 _ rfl
  have p5 := B0.cell 5 _ rfl
  have p6 := B0.cell 6 _ rfl
  have p7 := B0.cell 7 _ rfl
  have p8 := B0.cell 8 _ rfl
  have q3 := B2.cell 3 _ rfl
  have qf := B2.fr
  clear B0 B1 B2
  go_wp2_with fail
  refine (toNode_up q.body (nodeV q.body na nc ka kc) _ hcb ⟨na, nc, ka, kc, rfl, Hb.out.ext (hg2'.setNew (by simp; omega) _) (fun _ _ h => h)⟩).mono ?_
  rintro e w3 ⟨a3, c3, a4, c4, rfl, hg3, hs3⟩
  have B0 := ((HB0.out.other (p := ⟨w.heap.size + 1 + 1, 3, none⟩) (by simp; omega) (.slice a2 q.avoid.length c2))).grow hg3
  have B1 := ((HB1.out.other (p := ⟨w.heap.size + 1 + 1, 3, none⟩) (by simp) (.slice a2 q.avoid.length c2))).grow hg3
  have B2 := ((HB2.out.set 3 (by simp) (.slice a2 q.avoid.length c2))).grow hg3
  have e23 : Ext (fun k => k = w.heap.size + 1 ∨ k = w.heap.size + 1 + 1) w2 w3 := Ext.trans (Ext.setIn (X := fun k => k = w.heap.size + 1 ∨ k = w.heap.size + 1 + 1) (Ext.refl _ w2) (p := ⟨w.heap.size + 1 + 1, 3, none⟩) (.inr rfl) (.slice a2 q.avoid.length c2)) (hg3.mono (fun _ h => False.elim h))
  have hg3' : Grow w w3 := hg2'.inner e23 (by intro i hi; omega)
  clear p4 p5 p6 p7 p8 q3 qf HB0 HB1 HB2
  have HB0 := Lib.hid B0
  have HB1 := Lib.hid B1
  have HB2 := Lib.hid B2
  have Hs3 := Lib.hid hs3
  have E23 := Lib.hid e23
  have hz3 : w.heap.size + 1 + 1 < w3.heap.size := B2.lt
  clear hs3 hg3 e23
  have p9 := B0.cell 9 _ rfl
  have q4 := B2.cell 4 _ rfl
  have q5 := B2.cell 5 _ rfl
  have q6 := B2.cell 6 _ rfl
  have q7 := B2.cell 7 _ rfl
  have q8 := B2.cell 8 _ rfl
  have qf := B2.fr
  clear B0 B1 B2
  unfold nodeV
  go_wp2_with fail
  refine (toOpS_ok _ _ q.ops _ hco (Ho.out.ext (((((hg3'.setNew (by simp; omega) _).setNew (by simp; omega) _).setNew (by simp; omega) _).setNew (by simp; omega) _).setNew (by simp; omega) _) (fun _ _ h => h))).mono ?_
  rintro e w4 ⟨a5, c5, rfl, hg4, hs4⟩
  have B0 := ((((((HB0.out.other (p := ⟨w.heap.size + 1 + 1, 4, none⟩) (by simp; omega) (.int .i64 q.body.kind)).other (p := ⟨w.heap.size + 1 + 1, 5, none⟩) (by simp; omega) (.int .i64 q.body.num)).other (p := ⟨w.heap.size + 1 + 1, 6, none⟩) (by simp; omega) (.string q.body.text)).other (p := ⟨w.heap.size + 1 + 1, 7, none⟩) (by simp; omega) (.slice a3 q.body.names.length c3)).other (p := ⟨w.heap.size + 1 + 1, 8, none⟩) (by simp; omega) (.slice a4 q.body.kids.length c4))).grow hg4
  have B1 := ((((((HB1.out.other (p := ⟨w.heap.size + 1 + 1, 4, none⟩) (by simp) (.int .i64 q.body.kind)).other (p := ⟨w.heap.size + 1 + 1, 5, none⟩) (by simp) (.int .i64 q.body.num)).other (p := ⟨w.heap.size + 1 + 1, 6, none⟩) (by simp) (.string q.body.text)).other (p := ⟨w.heap.size + 1 + 1, 7, none⟩) (by simp) (.slice a3 q.body.names.length c3)).other (p := ⟨w.heap.size + 1 + 1, 8, none⟩) (by simp) (.slice a4 q.body.kids.length c4))).grow hg4
  have B2 := ((((((HB2.out.set 4 (by simp) (.int .i64 q.body.kind)).set 5 (by simp) (.int .i64 q.body.num)).set 6 (by simp) (.string q.body.text)).set 7 (by simp) (.slice a3 q.body.names.length c3)).set 8 (by simp) (.slice a4 q.body.kids.length c4))).grow hg4
  have e34 : Ext (fun k => k = w.heap.size + 1 ∨ k = w.heap.size + 1 + 1) w3 w4 := Ext.trans (Ext.setIn (X := fun k => k = w.heap.size + 1 ∨ k = w.heap.size + 1 + 1) (Ext.setIn (X := fun k => k = w.heap.size + 1 ∨ k = w.heap.size + 1 + 1) (Ext.setIn (X := fun k => k = w.heap.size + 1 ∨ k = w.heap.size + 1 + 1) (Ext.setIn (X := fun k => k = w.heap.size + 1 ∨ k = w.heap.size + 1 + 1) (Ext.setIn (X := fun k => k = w.heap.size + 1 ∨ k = w.heap.size + 1 + 1) (Ext.refl _ w3) (p := ⟨w.heap.size + 1 + 1, 4, none⟩) (.inr rfl) (.int .i64 q.body.kind)) (p := ⟨w.heap.size + 1 + 1, 5, none⟩) (.inr rfl) (.int .i64 q.body.num)) (p := ⟨w.heap.size + 1 + 1, 6, none⟩) (.inr rfl) (.string q.body.text)) (p := ⟨w.heap.size + 1 + 1, 7, none⟩) (.inr rfl) (.slice a3 q.body.names.length c3)) (p := ⟨w.heap.size + 1 + 1, 8, none⟩) (.inr rfl) (.slice a4 q.body.kids.length c4)) (hg4.mono (fun _ h => False.elim h))
  have hg4' : Grow w w4 := hg3'.inner e34 (by intro i hi; omega)
  clear p9 q4 q5 q6 q7 q8 qf HB0 HB1 HB2
  have HB0 := Lib.hid B0
  have HB1 := Lib.hid B1
  have HB2 := Lib.hid B2
  have Hs4 := Lib.hid hs4
  have E34 := Lib.hid e34
  have hz4 : w.heap.size + 1 + 1 < w4.heap.size := B2.lt
  clear hs4 hg4 e34
  have q0 := B2.cell 0 _ rfl
  have q1 := B2.cell 1 _ rfl
  have q2 := B2.cell 2 _ rfl
  have q3 := B2.cell 3 _ rfl
  have q4 := B2.cell 4 _ rfl
  have q5 := B2.cell 5 _ rfl
  have q6 := B2.cell 6 _ rfl
  have q7 := B2.cell 7 _ rfl
  have q8 := B2.cell 8 _ rfl
  have q9 := B2.cell 9 _ rfl
  have p0 := B1.cell 0 _ rfl
  have p1 := B1.cell 1 _ rfl
  have p2 := B1.cell 2 _ rfl
  have p3 := B1.cell 3 _ rfl
  have p4 := B1.cell 4 _ rfl
  have p5 := B1.cell 5 _ rfl
  have p6 := B1.cell 6 _ rfl
  have p7 := B1.cell 7 _ rfl
  have p8 := B1.cell 8 _ rfl
  have p9 := B1.cell 9 _ rfl
  have qf := B2.fr
  have pf := B1.fr
  clear B0 B1 B2
  go_wp2_with fail
  have BF := (((((((((((HB1.out.other (p := ⟨w.heap.size + 1 + 1, 9, none⟩) (by simp) (.slice a5 q.ops.length c5)).set 0 (by simp) (.int .i64 q.method)).set 1 (by simp) (.string q.name)).set 2 (by simp) (.slice a1 q.want.length c1)).set 3 (by simp) (.slice a2 q.avoid.length c2)).set 4 (by simp) (.int .i64 q.body.kind)).set 5 (by simp) (.int .i64 q.body.num)).set 6 (by simp) (.string q.body.text)).set 7 (by simp) (.slice a3 q.body.names.length c3)).set 8 (by simp) (.slice a4 q.body.kids.length c4)).set 9 (by simp) (.slice a5 q.ops.length c5))
  have r0 := BF.cell 0 _ rfl
  have r1 := BF.cell 1 _ rfl
  have r2 := BF.cell 2 _ rfl
  have r3 := BF.cell 3 _ rfl
  have r4 := BF.cell 4 _ rfl
  have r5 := BF.cell 5 _ rfl
  have r6 := BF.cell 6 _ rfl
  have r7 := BF.cell 7 _ rfl
  have r8 := BF.cell 8 _ rfl
  have r9 := BF.cell 9 _ rfl
  clear BF
  have fin : ∀ W, Ext (fun k => k = w.heap.size + 1 ∨ k = w.heap.size + 1 + 1) w4 W → ∃ v', Ending.returned (.agg (reqCells q a1 c1 a2 c2 a3 c3 a4 c4 a5 c5)) = Ending.returned v' ∧ Grow w W ∧ ReqR W (upB w.heap.size) q v' := by
    intro W hW
    have h2 := Hs2.out
    have h3 := Hs3.out
    have h4 := Hs4.out
    simp only [size_setCell] at h2 h3 h4
    have z1 := hg1'.size
    have z2 := hg2'.size
    have z3 := hg3'.size
    have x1 : ∀ k, upB (w.heap.size + 1 + 1 + 1) k → ¬ (k = w.heap.size + 1 ∨ k = w.heap.size + 1 + 1) := fun k hk => by unfold upB at hk; omega
    have x2 : ∀ k, upB w1.heap.size k → ¬ (k = w.heap.size + 1 ∨ k = w.heap.size + 1 + 1) := fun k hk => by unfold upB at hk; omega
    have x3 : ∀ k, upB w2.heap.size k → ¬ (k = w.heap.size + 1 ∨ k = w.heap.size + 1 + 1) := fun k hk => by unfold upB at hk; omega
    have x4 : ∀ k, upB w3.heap.size k → ¬ (k = w.heap.size + 1 ∨ k = w.heap.size + 1 + 1) := fun k hk => by unfold upB at hk; omega
    refine ⟨_, rfl, hg4'.inner hW (by intro i hi; omega), _, _, _, _, _, _, _, _, _, _, rfl, Hz.out, ?_, ?_, ?_, ?_⟩
    · exact StrsR.mono (fun k hk => by unfold upB at *; omega) (Hs1.out.ext (((E12.out.trans E23.out).trans E34.out).trans hW) x1)
    · exact StrsR.mono (fun k hk => by unfold upB at *; omega) (h2.ext ((E23.out.trans E34.out).trans hW) x2)
    · exact NodeC.mono (fun k hk => by unfold upB at *; omega) (h3.ext (E34.out.trans hW) x3)
    · exact OpsR.mono (fun k hk => by unfold upB at *; omega) (h4.ext hW x4)
  refine bodyPost_ret (v := .agg (reqCells q a1 c1 a2 c2 a3 c3 a4 c4 a5 c5)) ?_ rfl ?_
  · simp [results, Try.results33, go_sem, reqCells, r0, r1, r2, r3, r4, r5, r6, r7, r8, r9]
  · refine fin _ ?_
    exact (by repeat (first | with_reducible exact Ext.refl _ _ | with_reducible refine Ext.setIn ?_ (by simp) _ | with_reducible refine Ext.trans ?_ (Ext.mono (by assumption) (fun _ h => False.elim h))))

end Go.Proofs.Ytchiakeceiefdaa
