/-
  Texts of this claim, joined.
-/
import Derived.ProofKit
import Derived.Deep.Slices
import Derived.Deep.Fields
import Derived.Lib.Bytealg
import Derived.Test.YtgfnmhfdmmnaoaaOnF

set_option linter.unusedSimpArgs false
set_option linter.unusedVariables false
set_option linter.unnecessarySimpa false
set_option maxRecDepth 100000
set_option maxHeartbeats 16000000
namespace Go.Proofs.Ytgfnmhfdmmnaoaa
open Go.RowKit
theorem toOpr_ok (x : Opr) (cs : List Value) (w : World) (hcost : costOpr x ≤ 1048576) (hx : oprRep.R w any x cs) :
    Calls Try.prog 21 #[.agg cs.toArray] w fun e w' => ∃ cs' fp, e = .returned (.agg (cs' : List Value).toArray) ∧ Grow w w' ∧ oprRep.F w' x cs' fp ∧ Free w.heap.size w' fp := by
  have hce : costOpr x = costS x.2.1 + costS x.2.2.1 + costN x.2.2.2 := rfl
  rw [hce] at hcost
  obtain ⟨a1, c1, a2, c2, na3, nc3, ka3, kc3, rfl, h1, h2, h3⟩ := oprRep_open hx
  have H1 := Lib.hid h1
  have H2 := Lib.hid h2
  have H3 := Lib.hid h3
  clear hx hce h1 h2 h3
  have B0 := ((BoxN.new w (oprL x a1 c1 a2 c2 na3 nc3 ka3 kc3) 43).grow ((Ext.refl nil _).alloc (.cells #[.int .i64 0, .slice none 0 0, .slice none 0 0, .int .i64 0, .int .i64 0, .string ⟨#[]⟩, .slice none 0 0, .slice none 0 0] 48))).grow ((Ext.refl nil _).alloc (.cells #[.int .i64 x.1, .slice none 0 0, .slice none 0 0, .int .i64 0, .int .i64 0, .string ⟨#[]⟩, .slice none 0 0, .slice none 0 0] 48))
  have B1 := (BoxN.new1 w (.cells (oprL x a1 c1 a2 c2 na3 nc3 ka3 kc3).toArray 43) [.int .i64 0, .slice none 0 0, .slice none 0 0, .int .i64 0, .int .i64 0, .string ⟨#[]⟩, .slice none 0 0, .slice none 0 0] 48).grow ((Ext.refl nil _).alloc (.cells #[.int .i64 x.1, .slice none 0 0, .slice none 0 0, .int .i64 0, .int .i64 0, .string ⟨#[]⟩, .slice none 0 0, .slice none 0 0] 48))
  have B2 := BoxN.new2 w (.cells (oprL x a1 c1 a2 c2 na3 nc3 ka3 kc3).toArray 43) (.cells #[.int .i64 0, .slice none 0 0, .slice none 0 0, .int .i64 0, .int .i64 0, .string ⟨#[]⟩, .slice none 0 0, .slice none 0 0] 48) [.int .i64 x.1, .slice none 0 0, .slice none 0 0, .int .i64 0, .int .i64 0, .string ⟨#[]⟩, .slice none 0 0, .slice none 0 0] 48
  have hgp : Grow w (((w.alloc (.cells (oprL x a1 c1 a2 c2 na3 nc3 ka3 kc3).toArray 43)).alloc (.cells #[.int .i64 0, .slice none 0 0, .slice none 0 0, .int .i64 0, .int .i64 0, .string ⟨#[]⟩, .slice none 0 0, .slice none 0 0] 48)).alloc (.cells #[.int .i64 x.1, .slice none 0 0, .slice none 0 0, .int .i64 0, .int .i64 0, .string ⟨#[]⟩, .slice none 0 0, .slice none 0 0] 48)) := (by repeat (first | with_reducible exact Ext.refl _ _ | with_reducible refine Ext.trans ?_ (by assumption) | with_reducible refine Ext.drew ?_ | with_reducible refine Ext.drewN ?_ _ | with_reducible refine Ext.alloc ?_ _ | with_reducible refine Ext.setNew ?_ (by simp; done) _ | with_reducible refine Ext.setNew ?_ (by simp; omega) _))
  have HB0 := Lib.hid B0
  have HB1 := Lib.hid B1
  have HB2 := Lib.hid B2
  have Hgp := Lib.hid hgp
  clear B0 B1 B2 hgp
  unfold oprL at *
  go_enter Try.func21, Try.ntmps21
  go_wp2_with fail
  refine (toStringS_ok _ _ x.2.1 _ (H1.out.grow (Hgp.out)) (Nat.le_trans (show x.2.1.length ≤ costS x.2.1 from Nat.le_add_right _ _) (by omega))).mono ?_
  rintro e w1 ⟨a1', c1', f1, rfl, hg, hF, hf⟩
  have e0 := Ext.trans (Ext.refl (fun k => k = w.heap.size + 1 ∨ k = w.heap.size + 1 + 1) _) (hg.toX' (X := (fun k => k = w.heap.size + 1 ∨ k = w.heap.size + 1 + 1)))
  have B0 := HB0.out.grow hg
  have B1 := HB1.out.grow hg
  have B2 := HB2.out.grow hg
  have hgp := Hgp.out.inner e0 (by intro i hi; omega)
  simp only [World.size_alloc] at hf
  have Hf1 := Lib.hid hf
  have HF1 := Lib.hid hF
  have HE0 := Lib.hid e0
  clear hg hF hf e0 HB0 HB1 HB2 Hgp
  have HB0 := Lib.hid B0
  have HB1 := Lib.hid B1
  have HB2 := Lib.hid B2
  have Hgp := Lib.hid hgp
  clear B0 B1 B2 hgp
  have p0 := HB0.out.cell 0 _ rfl
  have p1 := HB0.out.cell 1 _ rfl
  have p2 := HB0.out.cell 2 _ rfl
  have p3 := HB0.out.cell 3 _ rfl
  have p4 := HB0.out.cell 4 _ rfl
  have p5 := HB0.out.cell 5 _ rfl
  have p6 := HB0.out.cell 6 _ rfl
  have p7 := HB0.out.cell 7 _ rfl
  have q0 := HB2.out.cell 0 _ rfl
  have q1 := HB2.out.cell 1 _ rfl
  have q2 := HB2.out.cell 2 _ rfl
  have q3 := HB2.out.cell 3 _ rfl
  have q4 := HB2.out.cell 4 _ rfl
  have q5 := HB2.out.cell 5 _ rfl
  have q6 := HB2.out.cell 6 _ rfl
  have q7 := HB2.out.cell 7 _ rfl
  have qf := HB2.out.fr
  have z1 : w.heap.size + 1 + 1 < w1.heap.size := HB2.out.lt
  go_wp2_with fail
  clear p0 q0 p1 q1 p2 q2 p3 q3 p4 q4 p5 q5 p6 q6 p7 q7 qf
  refine (toStringS_ok _ _ x.2.2.1 _ (H2.out.grow (Hgp.out.setNew (by simp; omega) _)) (Nat.le_trans (show x.2.2.1.length ≤ costS x.2.2.1 from Nat.le_add_right _ _) (by omega))).mono ?_
  rintro e w2 ⟨a2', c2', f2, rfl, hg, hF, hf⟩
  have e1 := Ext.trans ((Ext.refl (fun k => k = w.heap.size + 1 ∨ k = w.heap.size + 1 + 1) w1).setIn (p := ⟨w.heap.size + 1 + 1, 1, none⟩) (.inr rfl) (.slice a1' x.2.1.length c1')) (hg.toX' (X := (fun k => k = w.heap.size + 1 ∨ k = w.heap.size + 1 + 1)))
  have B0 := (HB0.out.other (p := ⟨w.heap.size + 1 + 1, 1, none⟩) (by simp; omega) (.slice a1' x.2.1.length c1')).grow hg
  have B1 := (HB1.out.other (p := ⟨w.heap.size + 1 + 1, 1, none⟩) (by simp) (.slice a1' x.2.1.length c1')).grow hg
  have B2 := (HB2.out.set 1 (by simp) (.slice a1' x.2.1.length c1')).grow hg
  have hgp := Hgp.out.inner e1 (by intro i hi; omega)
  simp only [size_setCell] at hf
  have Hf2 := Lib.hid hf
  have HF2 := Lib.hid hF
  have HE1 := Lib.hid e1
  clear hg hF hf e1 HB0 HB1 HB2 Hgp
  have HB0 := Lib.hid B0
  have HB1 := Lib.hid B1
  have HB2 := Lib.hid B2
  have Hgp := Lib.hid hgp
  clear B0 B1 B2 hgp
  have p0 := HB0.out.cell 0 _ rfl
  have p1 := HB0.out.cell 1 _ rfl
  have p2 := HB0.out.cell 2 _ rfl
  have p3 := HB0.out.cell 3 _ rfl
  have p4 := HB0.out.cell 4 _ rfl
  have p5 := HB0.out.cell 5 _ rfl
  have p6 := HB0.out.cell 6 _ rfl
  have p7 := HB0.out.cell 7 _ rfl
  have q0 := HB2.out.cell 0 _ rfl
  have q1 := HB2.out.cell 1 _ rfl
  have q2 := HB2.out.cell 2 _ rfl
  have q3 := HB2.out.cell 3 _ rfl
  have q4 := HB2.out.cell 4 _ rfl
  have q5 := HB2.out.cell 5 _ rfl
  have q6 := HB2.out.cell 6 _ rfl
  have q7 := HB2.out.cell 7 _ rfl
  have qf := HB2.out.fr
  have z2 : w.heap.size + 1 + 1 < w2.heap.size := HB2.out.lt
  go_wp2_with fail
  clear p0 q0 p1 q1 p2 q2 p3 q3 p4 q4 p5 q5 p6 q6 p7 q7 qf
  refine (toNode_ok x.2.2.2 (nodeV x.2.2.2 na3 nc3 ka3 kc3) _ (by omega) ⟨_, _, _, _, rfl, H3.out.grow' (Hgp.out.setNew (by simp; omega) _)⟩).mono ?_
  rintro e w3 ⟨v3, f3, rfl, hg, hF, hf⟩
  obtain ⟨na3', nc3', ka3', kc3', rfl, hF⟩ := hF
  have e2 := Ext.trans ((Ext.refl (fun k => k = w.heap.size + 1 ∨ k = w.heap.size + 1 + 1) w2).setIn (p := ⟨w.heap.size + 1 + 1, 2, none⟩) (.inr rfl) (.slice a2' x.2.2.1.length c2')) (hg.toX' (X := (fun k => k = w.heap.size + 1 ∨ k = w.heap.size + 1 + 1)))
  have B0 := (HB0.out.other (p := ⟨w.heap.size + 1 + 1, 2, none⟩) (by simp; omega) (.slice a2' x.2.2.1.length c2')).grow hg
  have B1 := (HB1.out.other (p := ⟨w.heap.size + 1 + 1, 2, none⟩) (by simp) (.slice a2' x.2.2.1.length c2')).grow hg
  have B2 := (HB2.out.set 2 (by simp) (.slice a2' x.2.2.1.length c2')).grow hg
  have hgp := Hgp.out.inner e2 (by intro i hi; omega)
  simp only [size_setCell] at hf
  have Hf3 := Lib.hid hf
  have HF3 := Lib.hid hF
  have HE2 := Lib.hid e2
  clear hg hF hf e2 HB0 HB1 HB2 Hgp
  have HB0 := Lib.hid B0
  have HB1 := Lib.hid B1
  have HB2 := Lib.hid B2
  have Hgp := Lib.hid hgp
  clear B0 B1 B2 hgp
  unfold nodeV
  have p0 := HB0.out.cell 0 _ rfl
  have p1 := HB0.out.cell 1 _ rfl
  have p2 := HB0.out.cell 2 _ rfl
  have p3 := HB0.out.cell 3 _ rfl
  have p4 := HB0.out.cell 4 _ rfl
  have p5 := HB0.out.cell 5 _ rfl
  have p6 := HB0.out.cell 6 _ rfl
  have p7 := HB0.out.cell 7 _ rfl
  have q0 := HB2.out.cell 0 _ rfl
  have q1 := HB2.out.cell 1 _ rfl
  have q2 := HB2.out.cell 2 _ rfl
  have q3 := HB2.out.cell 3 _ rfl
  have q4 := HB2.out.cell 4 _ rfl
  have q5 := HB2.out.cell 5 _ rfl
  have q6 := HB2.out.cell 6 _ rfl
  have q7 := HB2.out.cell 7 _ rfl
  have qf := HB2.out.fr
  have r0 := HB1.out.cell 0 _ rfl
  have r1 := HB1.out.cell 1 _ rfl
  have r2 := HB1.out.cell 2 _ rfl
  have r3 := HB1.out.cell 3 _ rfl
  have r4 := HB1.out.cell 4 _ rfl
  have r5 := HB1.out.cell 5 _ rfl
  have r6 := HB1.out.cell 6 _ rfl
  have r7 := HB1.out.cell 7 _ rfl
  have rf := HB1.out.fr
  have z3 : w.heap.size + 1 + 1 < w3.heap.size := HB2.out.lt
  go_wp2_with fail
  clear p0 q0 p1 q1 p2 q2 p3 q3 p4 q4 p5 q5 p6 q6 p7 q7 qf rf r0 r1 r2 r3 r4 r5 r6 r7
  have BF := (((((((((((((HB1.out.other (p := ⟨w.heap.size + 1 + 1, 3, none⟩) (by simp) (.int .i64 x.2.2.2.kind)).other (p := ⟨w.heap.size + 1 + 1, 4, none⟩) (by simp) (.int .i64 x.2.2.2.num)).other (p := ⟨w.heap.size + 1 + 1, 5, none⟩) (by simp) (.string x.2.2.2.text)).other (p := ⟨w.heap.size + 1 + 1, 6, none⟩) (by simp) (.slice na3' x.2.2.2.names.length nc3')).other (p := ⟨w.heap.size + 1 + 1, 7, none⟩) (by simp) (.slice ka3' x.2.2.2.kids.length kc3')).set 0 (by simp) (.int .i64 x.1)).set 1 (by simp) (.slice a1' x.2.1.length c1')).set 2 (by simp) (.slice a2' x.2.2.1.length c2')).set 3 (by simp) (.int .i64 x.2.2.2.kind)).set 4 (by simp) (.int .i64 x.2.2.2.num)).set 5 (by simp) (.string x.2.2.2.text)).set 6 (by simp) (.slice na3' x.2.2.2.names.length nc3')).set 7 (by simp) (.slice ka3' x.2.2.2.kids.length kc3'))
  have x1 : ∀ b ∈ f1, ¬ (b = w.heap.size + 1 ∨ b = w.heap.size + 1 + 1) := fun b hb => by have := (Hf1.out.2 b hb).1; omega
  have x2 : ∀ b ∈ f2, ¬ (b = w.heap.size + 1 ∨ b = w.heap.size + 1 + 1) := fun b hb => by have := (Hf2.out.2 b hb).1; omega
  have x3 : ∀ b ∈ f3, ¬ (b = w.heap.size + 1 ∨ b = w.heap.size + 1 + 1) := fun b hb => by have := (Hf3.out.2 b hb).1; omega
  have fin : ∀ W, Ext (fun k => k = w.heap.size + 1 ∨ k = w.heap.size + 1 + 1) w3 W → ∃ cs' fp, Ending.returned (.agg ([.int .i64 x.1, .slice a1' x.2.1.length c1', .slice a2' x.2.2.1.length c2', .int .i64 x.2.2.2.kind, .int .i64 x.2.2.2.num, .string x.2.2.2.text, .slice na3' x.2.2.2.names.length nc3', .slice ka3' x.2.2.2.kids.length kc3'] : List Value).toArray) = Ending.returned (.agg (cs' : List Value).toArray) ∧ Grow w W ∧ oprRep.F W x cs' fp ∧ Free w.heap.size W fp := by
    intro W hW
    have g3 : Ext (fun k => k = w.heap.size + 1 ∨ k = w.heap.size + 1 + 1) w3 W := hW
    have F3 := Hf3.out.ext g3 x3
    have k3 := HF3.out.keep (g3.keeps Hf3.out x3)
    have g2 : Ext (fun k => k = w.heap.size + 1 ∨ k = w.heap.size + 1 + 1) w2 W := HE2.out.trans g3
    have F2 := Hf2.out.ext g2 x2
    have k2 := HF2.out.keep (g2.keeps Hf2.out x2)
    have g1 : Ext (fun k => k = w.heap.size + 1 ∨ k = w.heap.size + 1 + 1) w1 W := HE1.out.trans g2
    have F1 := Hf1.out.ext g1 x1
    have k1 := HF1.out.keep (g1.keeps Hf1.out x1)
    refine ⟨_, ([] ++ (f1 ++ (f2 ++ f3))), rfl, Hgp.out.inner hW (by intro i hi; omega), ⟨[.int .i64 x.1], [.slice a1' x.2.1.length c1', .slice a2' x.2.2.1.length c2', .int .i64 x.2.2.2.kind, .int .i64 x.2.2.2.num, .string x.2.2.2.text, .slice na3' x.2.2.2.names.length nc3', .slice ka3' x.2.2.2.kids.length kc3'], [], (f1 ++ (f2 ++ f3)), rfl, rfl, ⟨rfl, rfl⟩, ⟨[.slice a1' x.2.1.length c1'], [.slice a2' x.2.2.1.length c2', .int .i64 x.2.2.2.kind, .int .i64 x.2.2.2.num, .string x.2.2.2.text, .slice na3' x.2.2.2.names.length nc3', .slice ka3' x.2.2.2.kids.length kc3'], f1, (f2 ++ f3), rfl, rfl, ⟨a1', c1', rfl, k1⟩, ⟨[.slice a2' x.2.2.1.length c2'], [.int .i64 x.2.2.2.kind, .int .i64 x.2.2.2.num, .string x.2.2.2.text, .slice na3' x.2.2.2.names.length nc3', .slice ka3' x.2.2.2.kids.length kc3'], f2, f3, rfl, rfl, ⟨a2', c2', rfl, k2⟩, ⟨na3', nc3', ka3', kc3', rfl, k3⟩⟩⟩⟩, ?_⟩
    simp only [List.nil_append]
    refine Free.app2 (F1.mono (by omega)) (Free.app2 (F2.mono (by omega)) (F3.mono (by omega)) (fun a ha hb => by have h1 := (Hf2.out.2 a ha).2.1; have h2 := (Hf3.out.2 a hb).1; omega)) (fun a ha hb => ?_)
    have h1 := (Hf1.out.2 a ha).2.1
    have s1 := HE1.out.size
    rcases List.mem_append.1 hb with h | h
    · have h2 := (Hf2.out.2 a h).1; omega
    · have h2 := (Hf3.out.2 a h).1; omega
  have r0 := BF.cell 0 _ rfl
  have r1 := BF.cell 1 _ rfl
  have r2 := BF.cell 2 _ rfl
  have r3 := BF.cell 3 _ rfl
  have r4 := BF.cell 4 _ rfl
  have r5 := BF.cell 5 _ rfl
  have r6 := BF.cell 6 _ rfl
  have r7 := BF.cell 7 _ rfl
  refine bodyPost_ret (v := .agg #[.int .i64 x.1, .slice a1' x.2.1.length c1', .slice a2' x.2.2.1.length c2', .int .i64 x.2.2.2.kind, .int .i64 x.2.2.2.num, .string x.2.2.2.text, .slice na3' x.2.2.2.names.length nc3', .slice ka3' x.2.2.2.kids.length kc3']) ?_ rfl ?_
  · simp [results, Try.results21, go_sem, r0, r1, r2, r3, r4, r5, r6, r7]
  · refine fin _ ?_
    exact (by repeat (first | with_reducible exact Ext.refl _ _ | with_reducible refine Ext.setIn ?_ (by simp) _ | with_reducible refine Ext.trans ?_ (Ext.mono (by assumption) (fun _ h => False.elim h))))
end Go.Proofs.Ytgfnmhfdmmnaoaa
namespace Go.Proofs.Ytgfnmhfdmmnaoaa
open Go.RowKit
def oprV (x : Opr) (a1 : Option Addr) (c1 : Nat) (a2 : Option Addr) (c2 : Nat) (na : Option Addr) (nc : Nat) (ka : Option Addr) (kc : Nat) : Value := .agg #[.int .i64 x.1, .slice a1 x.2.1.length c1, .slice a2 x.2.2.1.length c2, .int .i64 x.2.2.2.kind, .int .i64 x.2.2.2.num, .string x.2.2.2.text, .slice na x.2.2.2.names.length nc, .slice ka x.2.2.2.kids.length kc]
theorem opr_open {w : World} {S : Nat → Prop} {x : Opr} {v : Value} (h : RV oprRep packA w S x v) : ∃ a1 c1 a2 c2 na nc ka kc, v = oprV x a1 c1 a2 c2 na nc ka kc ∧ StrsR w S a1 c1 x.2.1 ∧ StrsR w S a2 c2 x.2.2.1 ∧ NodeC w S x.2.2.2 na nc ka kc := by
  obtain ⟨cs, rfl, h⟩ := h
  obtain ⟨a1, c1, a2, c2, na, nc, ka, kc, rfl, h1, h2, h3⟩ := oprRep_open h
  exact ⟨a1, c1, a2, c2, na, nc, ka, kc, rfl, h1, h2, h3⟩
theorem openV_opr {w : World} {S : Nat → Prop} {x : Opr} {v : Value} (h : RV oprRep packA w S x v) : ∃ a1 c1 a2 c2 na nc ka kc, v = oprV x a1 c1 a2 c2 na nc ka kc := by
  obtain ⟨a1, c1, a2, c2, na, nc, ka, kc, h, _⟩ := opr_open h; exact ⟨a1, c1, a2, c2, na, nc, ka, kc, h⟩
theorem opr_openF {w : World} {x : Opr} {v : Value} {fp : List Nat} (h : FV oprRep packA w x v fp) : ∃ a1 c1 a2 c2 na nc ka kc f1 f2 f3, v = oprV x a1 c1 a2 c2 na nc ka kc ∧ fp = f1 ++ (f2 ++ f3) ∧ StrsF w a1 c1 x.2.1 f1 ∧ StrsF w a2 c2 x.2.2.1 f2 ∧ NodeF w x.2.2.2 na nc ka kc f3 := by
  obtain ⟨cs, rfl, _, _, f0, g0, rfl, rfl, ⟨rfl, rfl⟩, _, _, f1, g1, rfl, rfl, ⟨a1, c1, rfl, h1⟩, _, _, f2, g2, rfl, rfl, ⟨a2, c2, rfl, h2⟩, na, nc, ka, kc, rfl, h3⟩ := h
  exact ⟨a1, c1, a2, c2, na, nc, ka, kc, f1, f2, g2, rfl, rfl, h1, h2, h3⟩
theorem opr_shutF {w : World} {x : Opr} {a1 : Option Addr} {c1 : Nat} {a2 : Option Addr} {c2 : Nat} {na : Option Addr} {nc : Nat} {ka : Option Addr} {kc : Nat} {f1 f2 f3 : List Nat} (h1 : StrsF w a1 c1 x.2.1 f1) (h2 : StrsF w a2 c2 x.2.2.1 f2) (h3 : NodeF w x.2.2.2 na nc ka kc f3) : FV oprRep packA w x (oprV x a1 c1 a2 c2 na nc ka kc) (f1 ++ (f2 ++ f3)) :=
  ⟨_, rfl, [_], _, [], _, rfl, rfl, ⟨rfl, rfl⟩, [_], _, f1, _, rfl, rfl, ⟨a1, c1, rfl, h1⟩, [_], _, f2, f3, rfl, rfl, ⟨a2, c2, rfl, h2⟩, na, nc, ka, kc, rfl, h3⟩
theorem uSzOpr (x : Opr) (v : Value) (left : Int) (w : World) (h0 : 0 ≤ left) (h1 : left ≤ 1048576) (h : RV oprRep packA w any x v) :
    Calls Try.prog 19 #[v, .int .i64 left] w fun e w' => e = .returned (.int .i64 (szR (costOpr x) left)) ∧ Grow w w' := by
  obtain ⟨cs, rfl, h⟩ := h
  exact szOpr_ok x cs left w h0 h1 h
theorem uToOpr (x : Opr) (v : Value) (w : World) (hc : costOpr x ≤ 1048576) (h : RV oprRep packA w any x v) :
    Calls Try.prog 21 #[v] w fun e w' => ∃ v' fp, e = .returned v' ∧ Grow w w' ∧ FV oprRep packA w' x v' fp ∧ Free w.heap.size w' fp := by
  obtain ⟨cs, rfl, h⟩ := h
  refine (toOpr_ok x cs w hc h).mono ?_
  rintro e w' ⟨cs', fp, rfl, hg, hF, hfr⟩
  exact ⟨_, fp, rfl, hg, ⟨cs', rfl, hF⟩, hfr⟩
theorem uEqOpr (x : Opr) (v u : Value) (w : World) (h : RV oprRep packA w any x v) (h' : RV oprRep packA w any x u) :
    Calls Try.prog 24 #[v, u] w fun e w' => e = .returned (.bool true) ∧ Grow w w' := by
  obtain ⟨cs, rfl, h⟩ := h
  obtain ⟨ds, rfl, h'⟩ := h'
  exact eqOpr_same x cs ds w h h'
def cntOpr (x : Opr) : Nat := x.2.1.length + x.2.2.1.length + cntT x.2.2.2
def mkOpr (k : Nat) (x : Opr) : Opr := (x.1, mkSS k x.2.1, mkSS (k + x.2.1.length) x.2.2.1, mkT (k + x.2.1.length + x.2.2.1.length) x.2.2.2)
theorem cntOpr_le (x : Opr) : cntOpr x ≤ 3 * costOpr x := by
  have := cntT_le x.2.2.2
  unfold cntOpr costOpr costS; omega
theorem uMarkOpr (x : Opr) (v : Value) (fp : List Nat) (B k : Nat) (i : Int) (w : World) (hi : i = (k : Int)) (hF : FV oprRep packA w x v fp) (hfr : Free B w fp) (h1 : 0 < k) (h2 : k + cntOpr x ≤ 1000000000) :
    Calls Try.prog 25 #[v, .int .i64 i] w fun e w' => e = .returned (.int .i64 ((k + cntOpr x : Nat) : Int)) ∧ Ext (inl fp) w w' ∧ Free B w' fp ∧ FV oprRep packA w' (mkOpr k x) v fp := by
  subst hi
  obtain ⟨a1, c1, a2, c2, na, nc, ka, kc, f1, f2, f3, rfl, rfl, hs1, hs2, hn⟩ := opr_openF hF
  have hct : cntOpr x = x.2.1.length + x.2.2.1.length + cntT x.2.2.2 := rfl
  have hnd := List.nodup_append.1 hfr.1
  have hnd2 := List.nodup_append.1 hnd.2.1
  have Hf1 := Lib.hid (show Free B w f1 from ⟨hnd.1, fun y hy => hfr.2 y (by simp [hy])⟩)
  have Hf2 := Lib.hid (show Free B w f2 from ⟨hnd2.1, fun y hy => hfr.2 y (by simp [hy])⟩)
  have Hf3 := Lib.hid (show Free B w f3 from ⟨hnd2.2.1, fun y hy => hfr.2 y (by simp [hy])⟩)
  have Hd12 := Lib.hid (show ∀ y, y ∈ f1 → y ∈ f2 → False from fun y h1 h2 => hnd.2.2 y h1 y (by simp [h2]) rfl)
  have Hd13 := Lib.hid (show ∀ y, y ∈ f1 → y ∈ f3 → False from fun y h1 h2 => hnd.2.2 y h1 y (by simp [h2]) rfl)
  have Hd23 := Lib.hid (show ∀ y, y ∈ f2 → y ∈ f3 → False from fun y h1 h2 => hnd2.2.2 y h1 y h2 rfl)
  have Hct := Lib.hid hct
  have Hs1 := Lib.hid hs1
  have Hs2 := Lib.hid hs2
  have Hn := Lib.hid hn
  have Hlt := Lib.hid (show ∀ y ∈ f1 ++ (f2 ++ f3), y < w.heap.size from fun y hy => (hfr.2 y hy).2.1)
  clear hct hs1 hs2 hn hnd hnd2 hF hfr
  unfold oprV
  go_enter Try.func25, Try.ntmps25
  go_wp2_with fail
  have hga : Grow w (w.alloc (.cells #[.int .i64 x.1, .slice a1 x.2.1.length c1, .slice a2 x.2.2.1.length c2, .int .i64 x.2.2.2.kind, .int .i64 x.2.2.2.num, .string x.2.2.2.text, .slice na x.2.2.2.names.length nc, .slice ka x.2.2.2.kids.length kc] 48)) := (Ext.refl nil w).alloc _
  have HB0 := Lib.hid (BoxN.new w [.int .i64 x.1, .slice a1 x.2.1.length c1, .slice a2 x.2.2.1.length c2, .int .i64 x.2.2.2.kind, .int .i64 x.2.2.2.num, .string x.2.2.2.text, .slice na x.2.2.2.names.length nc, .slice ka x.2.2.2.kids.length kc] 48)
  have Kp : ∀ {w' : World} {f : List Nat}, (∀ y ∈ f, y < w.heap.size) → Grow w w' → ∀ y ∈ f, ∀ o, w'.cell? ⟨y, o, none⟩ = w.cell? ⟨y, o, none⟩ := fun hl hg y hy o => hg.cell (p := ⟨y, o, none⟩) (hl y hy) (fun h => h)
  refine (markStringS_i a1 c1 x.2.1 f1 B k _ _ rfl (Hs1.out.keep (hga.keeps Hf1.out (fun _ _ h => h))) (Hf1.out.ext hga (fun _ _ h => h)) (by omega) (by have := Hct.out; omega)).mono ?_
  rintro e w2 ⟨rfl, hx2, hfr2, hF2⟩
  have B2 := HB0.out.ext hx2 (fun h => by have := Hlt.out _ (List.mem_append_left _ h); omega)
  have p0 := B2.cell 0 _ rfl; have p1 := B2.cell 1 _ rfl; have p2 := B2.cell 2 _ rfl; have p3 := B2.cell 3 _ rfl; have p4 := B2.cell 4 _ rfl; have p5 := B2.cell 5 _ rfl; have p6 := B2.cell 6 _ rfl; have p7 := B2.cell 7 _ rfl
  have HB2 := Lib.hid B2
  have Hs22 := Lib.hid ((Hs2.out.keep (hga.keeps Hf2.out (fun _ _ h => h))).keep (w' := w2) (hx2.keeps (Hf2.out.ext hga (fun _ _ h => h)) (fun y hy h => Hd12.out y h hy)))
  have Hf22 := Lib.hid ((Hf2.out.ext hga (fun _ _ h => h)).ext hx2 (fun y hy h => Hd12.out y h hy))
  have Hn2 := Lib.hid ((Hn.out.keep (hga.keeps Hf3.out (fun _ _ h => h))).keep (w' := w2) (hx2.keeps (Hf3.out.ext hga (fun _ _ h => h)) (fun y hy h => Hd13.out y h hy)))
  have Hf32 := Lib.hid ((Hf3.out.ext hga (fun _ _ h => h)).ext hx2 (fun y hy h => Hd13.out y h hy))
  have Hx2 := Lib.hid (hga.toX'.trans (hx2.mono (Y := inl (f1 ++ (f2 ++ f3))) (fun y hy => List.mem_append_left _ hy)))
  have Hfr2 := Lib.hid hfr2
  have HF2 := Lib.hid hF2
  clear hx2 hfr2 hF2 B2 hga Kp
  go_wp2_with fail
  refine (markStringS_i a2 c2 x.2.2.1 f2 B (k + x.2.1.length) _ _ (by simp) Hs22.out Hf22.out (by omega) (by have := Hct.out; omega)).mono ?_
  rintro e w3 ⟨rfl, hx3, hfr3, hF3⟩
  clear p0 p1 p2 p3 p4 p5 p6 p7
  have B3 := HB2.out.ext hx3 (fun h => by have := Hlt.out _ (List.mem_append_right f1 (List.mem_append_left f3 h)); omega)
  have p0 := B3.cell 0 _ rfl; have p1 := B3.cell 1 _ rfl; have p2 := B3.cell 2 _ rfl; have p3 := B3.cell 3 _ rfl; have p4 := B3.cell 4 _ rfl; have p5 := B3.cell 5 _ rfl; have p6 := B3.cell 6 _ rfl; have p7 := B3.cell 7 _ rfl
  have Hs13 := Lib.hid (HF2.out.keep (w' := w3) (hx3.keeps Hfr2.out (fun y hy h => Hd12.out y hy h)))
  have Hf13 := Lib.hid (Hfr2.out.ext hx3 (fun y hy h => Hd12.out y hy h))
  have Hn3 := Lib.hid (Hn2.out.keep (w' := w3) (hx3.keeps Hf32.out (fun y hy h => Hd23.out y h hy)))
  have Hf33 := Lib.hid (Hf32.out.ext hx3 (fun y hy h => Hd23.out y h hy))
  have Hx3 := Lib.hid (Hx2.out.trans (hx3.mono (Y := inl (f1 ++ (f2 ++ f3))) (fun y hy => List.mem_append_right f1 (List.mem_append_left f3 hy))))
  have Hfr3 := Lib.hid hfr3
  have HF3 := Lib.hid hF3
  clear hx3 hfr3 hF3 B3
  go_wp2_with fail
  refine (markNode_ok x.2.2.2 na nc ka kc f3 B (k + x.2.1.length + x.2.2.1.length) _ _ (by simp) Hn3.out Hf33.out (by omega) (by have := Hct.out; omega)).mono ?_
  rintro e w4 ⟨rfl, hx4, hfr4, hF4⟩
  clear p0 p1 p2 p3 p4 p5 p6 p7
  have Hres : Hid (Ext (inl (f1 ++ (f2 ++ f3))) w w4 ∧ Free B w4 (f1 ++ (f2 ++ f3)) ∧ FV oprRep packA w4 (mkOpr k x) (oprV x a1 c1 a2 c2 na nc ka kc) (f1 ++ (f2 ++ f3))) := Lib.hid ⟨Hx3.out.trans (hx4.mono (fun y hy => List.mem_append_right f1 (List.mem_append_right f2 hy))), by
    have g1 := Hf13.out.ext hx4 (fun y hy h => Hd13.out y hy h)
    have g2 := Hfr3.out.ext hx4 (fun y hy h => Hd23.out y hy h)
    exact g1.app2 (g2.app2 hfr4 Hd23.out) (fun y hy h => (List.mem_append.1 h).elim (Hd12.out y hy) (Hd13.out y hy)), by
    have g1 := Hs13.out.keep (w' := w4) (hx4.keeps Hf13.out (fun y hy h => Hd13.out y hy h))
    have g2 := HF3.out.keep (w' := w4) (hx4.keeps Hfr3.out (fun y hy h => Hd23.out y hy h))
    have := opr_shutF (x := mkOpr k x) g1 g2 hF4
    unfold oprV mkOpr mkSS mkT at this ⊢
    simpa only [mkS_len, mkL_len] using this⟩
  clear hx4 hfr4 hF4
  go_wp2_with fail
  go_ret
  exact ⟨by rw [Hct.out]; simp; omega, Hres.out⟩
end Go.Proofs.Ytgfnmhfdmmnaoaa
namespace Go.Proofs.Ytgfnmhfdmmnaoaa
open Go.RowKit
theorem cntK_eqV (n : Nd) : cntK n = 3 + n.names.length + cntL n.kids := by cases n; simp [cntK]
theorem cntK_good : ∀ n : Nd, Good n → cntK n ≤ 9 * n.count := Nd.ind' _ (fun n ih h => by
  have aux : ∀ l : List Nd, (∀ k ∈ l, Good k ∧ (Good k → cntK k ≤ 9 * k.count)) → cntL l ≤ 9 * countL l := fun l => by
    induction l with
    | nil => intro _; simp [cntL]
    | cons x l ihl =>
      intro hl
      have h1 := (hl x (by simp)).2 (hl x (by simp)).1
      have h2 := ihl (fun k hk => hl k (by simp [hk]))
      rw [cntL, countL]
      omega
  have h1 := aux n.kids (fun k hk => ⟨h.kid hk, ih k hk⟩)
  have h2 := h.len
  have h3 := h.kids6
  rw [cntK_eqV, Nd.count_eq]
  omega)
theorem cntT_valid {n : Nd} (h : validB n = true) : cntT n ≤ 360 := by
  unfold validB at h
  rw [Bool.and_eq_true, decide_eq_true_eq] at h
  have hg : Good n := ⟨5, h.1⟩
  have h1 := cntK_good n hg
  rw [cntK_eqV] at h1
  unfold cntT
  omega
end Go.Proofs.Ytgfnmhfdmmnaoaa
-- EV: fresh
namespace Go.Proofs.Ytgfnmhfdmmnaoaa.Eng
open Go Go.RowKit
theorem arg_opr {w : World} {o : Opr} {v : Value} (h : RV oprRep packA w Go.Proofs.Ytgfnmhfdmmnaoaa.any o v) : Rep w (pureC nil (fun k => k < w.heap.size) none) (oprA o) v := by
  obtain ⟨a1, c1, a2, c2, na, nc, ka, kc, rfl, h1, h2, h3⟩ := opr_open h.under
  obtain ⟨r1, r2, r3⟩ := nodeC_to_rep _ _ _ _ _ h3
  unfold oprA oprV
  refine rep_agg.2 ⟨[_, _, _, _, _, _, _, _], rfl, ?_, ?_⟩
  · intro u hu
    simp only [List.mem_cons, List.not_mem_nil, or_false] at hu
    rcases hu with rfl | rfl | rfl | rfl | rfl | rfl | rfl | rfl <;> rfl
  · unfold RepL; refine ⟨_, _, rfl, rep_int.2 rfl, ?_⟩
    unfold RepL; refine ⟨_, _, rfl, strs_to_rep h1, ?_⟩
    unfold RepL; refine ⟨_, _, rfl, strs_to_rep h2, ?_⟩
    unfold RepL; refine ⟨_, _, rfl, rep_int.2 rfl, ?_⟩
    unfold RepL; refine ⟨_, _, rfl, rep_int.2 rfl, ?_⟩
    unfold RepL; refine ⟨_, _, rfl, r1, ?_⟩
    unfold RepL; refine ⟨_, _, rfl, r2, ?_⟩
    unfold RepL; refine ⟨_, _, rfl, r3, ?_⟩
    unfold RepL; rfl
theorem oprB_sml (o : Opr) (h : oprB o = true) : Sml o.2.2.2 := by
  obtain ⟨k, hk, k1, k6, hp, hf, hvv⟩ := oprB_parts h
  exact (Shp.of hvv).sml
end Go.Proofs.Ytgfnmhfdmmnaoaa.Eng
namespace Go.Proofs.Ytgfnmhfdmmnaoaa
open Go.RowKit
theorem implOpToNode_ok (o : Opr) (v : Value) (w : World) (h : RV oprRep packA w any o v) :
    Calls Try.prog 22 #[v] w fun e w' => ∃ r fp, e = .returned (.tuple #[r, .bool (o2nB o)]) ∧ Grow w w' ∧ FV nodeRep packA w' (o2nN o) r fp ∧ Free w.heap.size w' fp :=
  Eng.acf_nb (Eng.implOpToNode_ACF o) w [v] (Eng.args1 (Eng.arg_opr h))
theorem specOpToNode_ok (o : Opr) (v : Value) (w : World) (h : RV oprRep packA w any o v) :
    Calls Try.prog 20 #[v] w fun e w' => ∃ r, e = .returned (.tuple #[r, .bool (o2nB o)]) ∧ Grow w w' ∧ RV nodeRep packA w' any (o2nN o) r :=
  Eng.ac_nb (Eng.specOpToNode_AC o (Eng.oprB_sml o)) w [v] (Eng.args1 (Eng.arg_opr h))
theorem o2nN_cnt (o : Opr) : cntT (o2nN o) ≤ 360 := by
  unfold o2nN
  cases h : o2nB o
  · rw [if_neg (by simp), cntT_zero]; omega
  · rw [if_pos rfl]
    unfold o2nB at h
    rw [Bool.and_eq_true] at h
    exact cntT_valid h.2
end Go.Proofs.Ytgfnmhfdmmnaoaa
namespace Go.Proofs.Ytgfnmhfdmmnaoaa
open Go.RowKit
theorem lawO2n_big (o : Opr) (v0 : Value) (w : World) (h0 : RV oprRep packA w any o v0) (hbig : ¬ costOpr o ≤ 1048576) :
    Calls Try.prog 4 #[v0] w fun e w' => e = .returned (.bool true) ∧ Grow w w' := by
  have HV0 := Lib.hid h0
  obtain ⟨pa0, pc0, fa0, fc0, na0, nc0, ka0, kc0, rfl⟩ := openV_opr h0
  clear h0
  unfold oprV at *
  by_cases c0 : (costOpr o : Int) ≤ 1048576
  rotate_left
  ·
    have Hs0 := Lib.hid (szR_neg (c := costOpr o) (left := 1048576) (by omega))
    clear c0 hbig
    have HB0 := Lib.hid (BoxN.new w [.int .i64 o.1, .slice pa0 o.2.1.length pc0, .slice fa0 o.2.2.1.length fc0, .int .i64 o.2.2.2.kind, .int .i64 o.2.2.2.num, .string o.2.2.2.text, .slice na0 o.2.2.2.names.length nc0, .slice ka0 o.2.2.2.kids.length kc0] 43)
    go_enter Try.func4, Try.ntmps4
    go_wp2_with fail
    refine (uSzOpr o _ _ _ (by omega) (by omega) (HV0.out.grow (by repeat (first | with_reducible exact Ext.refl _ _ | with_reducible refine Ext.trans ?_ (by assumption) | with_reducible refine Ext.drew ?_ | with_reducible refine Ext.drewN ?_ _ | with_reducible refine Ext.alloc ?_ _ | with_reducible refine Ext.setNew ?_ (by simp; done) _ | with_reducible refine Ext.setNew ?_ (by simp; omega) _)))).mono ?_
    rintro e w1 ⟨rfl, hg1⟩
    simp only [Hs0.out]
    have z1 := hg1.size
    try simp only [World.size_alloc] at z1
    go_wp2_with fail
    go_ret
    exact ⟨by simp, (by repeat (first | with_reducible exact Ext.refl _ _ | with_reducible refine Ext.trans ?_ (by assumption) | with_reducible refine Ext.drew ?_ | with_reducible refine Ext.drewN ?_ _ | with_reducible refine Ext.alloc ?_ _ | with_reducible refine Ext.setNew ?_ (by simp; done) _ | with_reducible refine Ext.setNew ?_ (by simp; omega) _))⟩
  have Hs0 := Lib.hid (szR_pos (c := costOpr o) (left := 1048576) (by omega))
  omega
theorem lawO2n_main (o : Opr) (v0 : Value) (w : World) (h0 : RV oprRep packA w any o v0) (hcost : costOpr o ≤ 1048576) :
    Calls Try.prog 4 #[v0] w fun e w' => e = .returned (.bool true) ∧ Grow w w' := by
  have HV0 := Lib.hid h0
  obtain ⟨pa0, pc0, fa0, fc0, na0, nc0, ka0, kc0, rfl⟩ := openV_opr h0
  clear h0
  unfold oprV at *
  have Hs0 := Lib.hid (szR_pos (c := costOpr o) (left := 1048576) (by omega))
  have C0 : Hid (costOpr o ≤ 1048576) := Lib.hid (by omega)
  have HB0 := Lib.hid (BoxN.new w [.int .i64 o.1, .slice pa0 o.2.1.length pc0, .slice fa0 o.2.2.1.length fc0, .int .i64 o.2.2.2.kind, .int .i64 o.2.2.2.num, .string o.2.2.2.text, .slice na0 o.2.2.2.names.length nc0, .slice ka0 o.2.2.2.kids.length kc0] 43)
  go_enter Try.func4, Try.ntmps4
  go_wp2_with fail
  refine (uSzOpr o _ _ _ (by omega) (by omega) (HV0.out.grow (by repeat (first | with_reducible exact Ext.refl _ _ | with_reducible refine Ext.trans ?_ (by assumption) | with_reducible refine Ext.drew ?_ | with_reducible refine Ext.drewN ?_ _ | with_reducible refine Ext.alloc ?_ _ | with_reducible refine Ext.setNew ?_ (by simp; done) _ | with_reducible refine Ext.setNew ?_ (by simp; omega) _)))).mono ?_
  rintro e w1 ⟨rfl, hg1⟩
  simp only [Hs0.out]
  have z1 := hg1.size
  try simp only [World.size_alloc] at z1
  have pB := HB0.out.grow (w' := w1) (by repeat (first | with_reducible exact Ext.refl _ _ | with_reducible refine Ext.trans ?_ (by assumption) | with_reducible refine Ext.drew ?_ | with_reducible refine Ext.drewN ?_ _ | with_reducible refine Ext.alloc ?_ _ | with_reducible refine Ext.setNew ?_ (by simp; done) _ | with_reducible refine Ext.setNew ?_ (by simp; omega) _))
  have p0 := pB.cell 0 _ rfl; have p1 := pB.cell 1 _ rfl; have p2 := pB.cell 2 _ rfl; have p3 := pB.cell 3 _ rfl; have p4 := pB.cell 4 _ rfl; have p5 := pB.cell 5 _ rfl; have p6 := pB.cell 6 _ rfl; have p7 := pB.cell 7 _ rfl
  go_wp2_with fail
  refine (uToOpr o _ _ C0.out (HV0.out.grow (by repeat (first | with_reducible exact Ext.refl _ _ | with_reducible refine Ext.trans ?_ (by assumption) | with_reducible refine Ext.drew ?_ | with_reducible refine Ext.drewN ?_ _ | with_reducible refine Ext.alloc ?_ _ | with_reducible refine Ext.setNew ?_ (by simp; done) _ | with_reducible refine Ext.setNew ?_ (by simp; omega) _)))).mono ?_
  rintro e w2 ⟨us, fs, rfl, hg2, hF, hfr⟩
  have z2 := hg2.size
  try simp only [World.size_alloc] at z2
  have RUs := Lib.hid hF.rv
  clear hF hfr p0 p1 p2 p3 p4 p5 p6 p7 pB
  go_wp2_with fail
  refine (specOpToNode_ok o _ _  RUs.out).mono ?_
  rintro e w3 ⟨rs, rfl, hg3, hR⟩
  have z3 := hg3.size
  try simp only [World.size_alloc] at z3
  have RW := Lib.hid hR.under
  obtain ⟨nas, ncs, kas, kcs, rfl⟩ := openV_node hR
  unfold nodeV
  clear hR
  have HBs := Lib.hid (BoxN.new w3 [.int .i64 (o2nN o).kind, .int .i64 (o2nN o).num, .string (o2nN o).text, .slice nas (o2nN o).names.length ncs, .slice kas (o2nN o).kids.length kcs] 30)
  have ys : w3.heap.size ≤ w3.heap.size := Nat.le_refl _
  have hpB := HB0.out.grow (w' := w3) (by repeat (first | with_reducible exact Ext.refl _ _ | with_reducible refine Ext.trans ?_ (by assumption) | with_reducible refine Ext.drew ?_ | with_reducible refine Ext.drewN ?_ _ | with_reducible refine Ext.alloc ?_ _ | with_reducible refine Ext.setNew ?_ (by simp; done) _ | with_reducible refine Ext.setNew ?_ (by simp; omega) _))
  have p0 := hpB.cell 0 _ rfl; have p1 := hpB.cell 1 _ rfl; have p2 := hpB.cell 2 _ rfl; have p3 := hpB.cell 3 _ rfl; have p4 := hpB.cell 4 _ rfl; have p5 := hpB.cell 5 _ rfl; have p6 := hpB.cell 6 _ rfl; have p7 := hpB.cell 7 _ rfl; have pz := hpB.lt
  go_wp2_with fail
  refine (uToOpr o _ _ C0.out (HV0.out.grow (by repeat (first | with_reducible exact Ext.refl _ _ | with_reducible refine Ext.trans ?_ (by assumption) | with_reducible refine Ext.drew ?_ | with_reducible refine Ext.drewN ?_ _ | with_reducible refine Ext.alloc ?_ _ | with_reducible refine Ext.setNew ?_ (by simp; done) _ | with_reducible refine Ext.setNew ?_ (by simp; omega) _)))).mono ?_
  rintro e w4 ⟨y0, f0, rfl, hg4, hF, hfr⟩
  have z4 := hg4.size
  try simp only [World.size_alloc] at z4
  try simp only [World.size_alloc] at hfr
  have F0 := Lib.hid hF
  have S0 := Lib.hid (Seg.of hfr)
  obtain ⟨pax0, pcx0, fax0, fcx0, nax0, ncx0, kax0, kcx0, rfl⟩ := openV_opr hF.rv
  unfold oprV at *
  clear hF hfr p0 p1 p2 p3 p4 p5 p6 p7 hpB pz
  have HBx0 := Lib.hid (BoxN.new w4 [.int .i64 o.1, .slice pax0 o.2.1.length pcx0, .slice fax0 o.2.2.1.length fcx0, .int .i64 o.2.2.2.kind, .int .i64 o.2.2.2.num, .string o.2.2.2.text, .slice nax0 o.2.2.2.names.length ncx0, .slice kax0 o.2.2.2.kids.length kcx0] 48)
  go_wp2_with fail
  refine (implOpToNode_ok o _ _  (F0.out.rv.grow (by repeat (first | with_reducible exact Ext.refl _ _ | with_reducible refine Ext.trans ?_ (by assumption) | with_reducible refine Ext.drew ?_ | with_reducible refine Ext.drewN ?_ _ | with_reducible refine Ext.alloc ?_ _ | with_reducible refine Ext.setNew ?_ (by simp; done) _ | with_reducible refine Ext.setNew ?_ (by simp; omega) _)))).mono ?_
  rintro e w5 ⟨rg, fg, rfl, hg5, hF, hfr⟩
  have z5 := hg5.size
  try simp only [World.size_alloc] at z5
  try simp only [World.size_alloc] at hfr
  have FG := Lib.hid hF
  have SG := Lib.hid (Seg.of hfr)
  obtain ⟨nag, ncg, kag, kcg, rfl⟩ := openV_node hF.rv
  unfold nodeV at *
  have HBg := Lib.hid (BoxN.new w5 [.int .i64 (o2nN o).kind, .int .i64 (o2nN o).num, .string (o2nN o).text, .slice nag (o2nN o).names.length ncg, .slice kag (o2nN o).kids.length kcg] 30)
  clear hF hfr
  have tB := HBs.out.grow (w' := w5) (by repeat (first | with_reducible exact Ext.refl _ _ | with_reducible refine Ext.trans ?_ (by assumption) | with_reducible refine Ext.drew ?_ | with_reducible refine Ext.drewN ?_ _ | with_reducible refine Ext.alloc ?_ _ | with_reducible refine Ext.setNew ?_ (by simp; done) _ | with_reducible refine Ext.setNew ?_ (by simp; omega) _))
  have t0 := tB.cell 0 _ rfl; have t1 := tB.cell 1 _ rfl; have t2 := tB.cell 2 _ rfl; have t3 := tB.cell 3 _ rfl; have t4 := tB.cell 4 _ rfl; have tz := tB.lt
  go_wp2_with fail
  refine (uEqN ((o2nN o)) _ _ _ (FG.out.rv.grow (by repeat (first | with_reducible exact Ext.refl _ _ | with_reducible refine Ext.trans ?_ (by assumption) | with_reducible refine Ext.drew ?_ | with_reducible refine Ext.drewN ?_ _ | with_reducible refine Ext.alloc ?_ _ | with_reducible refine Ext.setNew ?_ (by simp; done) _ | with_reducible refine Ext.setNew ?_ (by simp; omega) _))) (RW.out.any.grow (by repeat (first | with_reducible exact Ext.refl _ _ | with_reducible refine Ext.trans ?_ (by assumption) | with_reducible refine Ext.drew ?_ | with_reducible refine Ext.drewN ?_ _ | with_reducible refine Ext.alloc ?_ _ | with_reducible refine Ext.setNew ?_ (by simp; done) _ | with_reducible refine Ext.setNew ?_ (by simp; omega) _)))).mono ?_
  rintro e w6 ⟨rfl, hg6⟩
  have z6 := hg6.size
  try simp only [World.size_alloc] at z6
  clear t0 t1 t2 t3 t4 tB tz
  go_wp2_with fail
  have pB := HBx0.out.grow (w' := w6) (by repeat (first | with_reducible exact Ext.refl _ _ | with_reducible refine Ext.trans ?_ (by assumption) | with_reducible refine Ext.drew ?_ | with_reducible refine Ext.drewN ?_ _ | with_reducible refine Ext.alloc ?_ _ | with_reducible refine Ext.setNew ?_ (by simp; done) _ | with_reducible refine Ext.setNew ?_ (by simp; omega) _))
  have p0 := pB.cell 0 _ rfl; have p1 := pB.cell 1 _ rfl; have p2 := pB.cell 2 _ rfl; have p3 := pB.cell 3 _ rfl; have p4 := pB.cell 4 _ rfl; have p5 := pB.cell 5 _ rfl; have p6 := pB.cell 6 _ rfl; have p7 := pB.cell 7 _ rfl
  have qB := HB0.out.grow (w' := w6) (by repeat (first | with_reducible exact Ext.refl _ _ | with_reducible refine Ext.trans ?_ (by assumption) | with_reducible refine Ext.drew ?_ | with_reducible refine Ext.drewN ?_ _ | with_reducible refine Ext.alloc ?_ _ | with_reducible refine Ext.setNew ?_ (by simp; done) _ | with_reducible refine Ext.setNew ?_ (by simp; omega) _))
  have q0 := qB.cell 0 _ rfl; have q1 := qB.cell 1 _ rfl; have q2 := qB.cell 2 _ rfl; have q3 := qB.cell 3 _ rfl; have q4 := qB.cell 4 _ rfl; have q5 := qB.cell 5 _ rfl; have q6 := qB.cell 6 _ rfl; have q7 := qB.cell 7 _ rfl
  refine wp_region_stab Grow (fun i => if i = 2 then some (fun v w' => RV oprRep packA w' any o v) else if i = 3 then some (fun v _ => v = .bool true) else none) (by kernel_rfl) (by kernel_rfl) ⟨Ext.refl nil, fun _ _ h1 h2 => h2.trans h1, ?_⟩ ?_
  · intro i V hV v w1 w2 hr hv
    by_cases h1 : i = 2
    · simp only [h1, if_true, Option.some.injEq] at hV; subst hV; exact RV.grow hv hr
    · by_cases h3 : i = 3
      · simp [h3] at hV; subst hV; exact hv
      · simp [h1, h3] at hV
  (refine wpStab_quiet (by kernel_rfl) (by kernel_rfl) (by simp) ?_; intro K hK; go_big_quiet_op; go_big_quiet_on)
  (refine wpStab_quiet (by kernel_rfl) (by kernel_rfl) (by simp) ?_; intro K hK; go_big_quiet_op; go_big_quiet_on)
  refine wpStab_made (fun v w' => RV oprRep packA w' any o v) ?_ ?_ ?_ ?_
  · go_simp
  · simp
  · intro y _
    refine stabAt_call (f := 21) (args := #[.agg #[.int .i64 o.1, .slice pa0 o.2.1.length pc0, .slice fa0 o.2.2.1.length fc0, .int .i64 o.2.2.2.kind, .int .i64 o.2.2.2.num, .string o.2.2.2.text, .slice na0 o.2.2.2.names.length nc0, .slice ka0 o.2.2.2.kids.length kc0]]) ?_ ?_
    · go_simp
    · refine (uToOpr o _ _ C0.out (HV0.out.grow (((by repeat (first | with_reducible exact Ext.refl _ _ | with_reducible refine Ext.trans ?_ (by assumption) | with_reducible refine Ext.drew ?_ | with_reducible refine Ext.drewN ?_ _ | with_reducible refine Ext.alloc ?_ _ | with_reducible refine Ext.setNew ?_ (by simp; done) _ | with_reducible refine Ext.setNew ?_ (by simp; omega) _)) : Grow w w6).trans (later_grow _ _)))).mono ?_
      rintro e w' ⟨v', fp, rfl, hg, hF, _⟩
      exact ⟨_, rfl, hg, hF.rv⟩
  intro vt
  go_frame
  refine wpStab_const (.bool true) ?_ ?_ ?_ ?_
  · go_simp
  · simp
  · intro y hE
    have Hr6 : RV oprRep packA (later w6 y) any o vt := (hE ⟨2, .data⟩ (by simp) (by decide)).2 rfl
    clear hE
    refine stabAt_call (f := 24) (args := #[.agg #[.int .i64 o.1, .slice pax0 o.2.1.length pcx0, .slice fax0 o.2.2.1.length fcx0, .int .i64 o.2.2.2.kind, .int .i64 o.2.2.2.num, .string o.2.2.2.text, .slice nax0 o.2.2.2.names.length ncx0, .slice kax0 o.2.2.2.kids.length kcx0], vt]) ?_ ?_
    · go_simp
    · refine (uEqOpr o _ _ _ (F0.out.rv.grow (((by repeat (first | with_reducible exact Ext.refl _ _ | with_reducible refine Ext.trans ?_ (by assumption) | with_reducible refine Ext.drew ?_ | with_reducible refine Ext.drewN ?_ _ | with_reducible refine Ext.alloc ?_ _ | with_reducible refine Ext.setNew ?_ (by simp; done) _ | with_reducible refine Ext.setNew ?_ (by simp; omega) _)) : Grow _ w6).trans (later_grow _ _))) Hr6).mono ?_
      rintro e w' ⟨rfl, hg⟩
      exact ⟨_, rfl, hg, rfl⟩
  go_frame
  (refine wpStab_quiet (by kernel_rfl) (by kernel_rfl) (by simp) ?_; intro K hK; go_big_quiet_op; go_big_quiet_on)
  refine wpStab_end ?_
  intro w7 hg7
  clear p0 p1 p2 p3 p4 p5 p6 p7 pB q0 q1 q2 q3 q4 q5 q6 q7 qB
  have z7 := hg7.size
  replace F0 := Lib.hid (F0.out.grow S0.out (w' := w7) (by repeat (first | with_reducible exact Ext.refl _ _ | with_reducible refine Ext.trans ?_ (by assumption) | with_reducible refine Ext.drew ?_ | with_reducible refine Ext.drewN ?_ _ | with_reducible refine Ext.alloc ?_ _ | with_reducible refine Ext.setNew ?_ (by simp; done) _ | with_reducible refine Ext.setNew ?_ (by simp; omega) _)))
  replace S0 := Lib.hid (S0.out.grow (w' := w7) (by repeat (first | with_reducible exact Ext.refl _ _ | with_reducible refine Ext.trans ?_ (by assumption) | with_reducible refine Ext.drew ?_ | with_reducible refine Ext.drewN ?_ _ | with_reducible refine Ext.alloc ?_ _ | with_reducible refine Ext.setNew ?_ (by simp; done) _ | with_reducible refine Ext.setNew ?_ (by simp; omega) _)))
  replace FG := Lib.hid (FG.out.grow SG.out (w' := w7) (by repeat (first | with_reducible exact Ext.refl _ _ | with_reducible refine Ext.trans ?_ (by assumption) | with_reducible refine Ext.drew ?_ | with_reducible refine Ext.drewN ?_ _ | with_reducible refine Ext.alloc ?_ _ | with_reducible refine Ext.setNew ?_ (by simp; done) _ | with_reducible refine Ext.setNew ?_ (by simp; omega) _)))
  replace SG := Lib.hid (SG.out.grow (w' := w7) (by repeat (first | with_reducible exact Ext.refl _ _ | with_reducible refine Ext.trans ?_ (by assumption) | with_reducible refine Ext.drew ?_ | with_reducible refine Ext.drewN ?_ _ | with_reducible refine Ext.alloc ?_ _ | with_reducible refine Ext.setNew ?_ (by simp; done) _ | with_reducible refine Ext.setNew ?_ (by simp; omega) _)))
  replace RW := Lib.hid (RW.out.grow (w' := w7) (by repeat (first | with_reducible exact Ext.refl _ _ | with_reducible refine Ext.trans ?_ (by assumption) | with_reducible refine Ext.drew ?_ | with_reducible refine Ext.drewN ?_ _ | with_reducible refine Ext.alloc ?_ _ | with_reducible refine Ext.setNew ?_ (by simp; done) _ | with_reducible refine Ext.setNew ?_ (by simp; omega) _)))
  replace HB0 := Lib.hid (HB0.out.grow (w' := w7) (by repeat (first | with_reducible exact Ext.refl _ _ | with_reducible refine Ext.trans ?_ (by assumption) | with_reducible refine Ext.drew ?_ | with_reducible refine Ext.drewN ?_ _ | with_reducible refine Ext.alloc ?_ _ | with_reducible refine Ext.setNew ?_ (by simp; done) _ | with_reducible refine Ext.setNew ?_ (by simp; omega) _)))
  replace HBx0 := Lib.hid (HBx0.out.grow (w' := w7) (by repeat (first | with_reducible exact Ext.refl _ _ | with_reducible refine Ext.trans ?_ (by assumption) | with_reducible refine Ext.drew ?_ | with_reducible refine Ext.drewN ?_ _ | with_reducible refine Ext.alloc ?_ _ | with_reducible refine Ext.setNew ?_ (by simp; done) _ | with_reducible refine Ext.setNew ?_ (by simp; omega) _)))
  replace HBs := Lib.hid (HBs.out.grow (w' := w7) (by repeat (first | with_reducible exact Ext.refl _ _ | with_reducible refine Ext.trans ?_ (by assumption) | with_reducible refine Ext.drew ?_ | with_reducible refine Ext.drewN ?_ _ | with_reducible refine Ext.alloc ?_ _ | with_reducible refine Ext.setNew ?_ (by simp; done) _ | with_reducible refine Ext.setNew ?_ (by simp; omega) _)))
  replace HBg := Lib.hid (HBg.out.grow (w' := w7) (by repeat (first | with_reducible exact Ext.refl _ _ | with_reducible refine Ext.trans ?_ (by assumption) | with_reducible refine Ext.drew ?_ | with_reducible refine Ext.drewN ?_ _ | with_reducible refine Ext.alloc ?_ _ | with_reducible refine Ext.setNew ?_ (by simp; done) _ | with_reducible refine Ext.setNew ?_ (by simp; omega) _)))
  have lHB0 := HB0.out.lt
  have lHBx0 := HBx0.out.lt
  have lHBs := HBs.out.lt
  have lHBg := HBg.out.lt
  have hgA : Grow w w7 := (by repeat (first | with_reducible exact Ext.refl _ _ | with_reducible refine Ext.trans ?_ (by assumption) | with_reducible refine Ext.drew ?_ | with_reducible refine Ext.drewN ?_ _ | with_reducible refine Ext.alloc ?_ _ | with_reducible refine Ext.setNew ?_ (by simp; done) _ | with_reducible refine Ext.setNew ?_ (by simp; omega) _))
  clear hg1 hg2 hg3 hg4 hg5 hg6 hg7
  have m0 := cntOpr_le o
  have mg := o2nN_cnt o
  have p0 := HBx0.out.cell 0 _ rfl; have p1 := HBx0.out.cell 1 _ rfl; have p2 := HBx0.out.cell 2 _ rfl; have p3 := HBx0.out.cell 3 _ rfl; have p4 := HBx0.out.cell 4 _ rfl; have p5 := HBx0.out.cell 5 _ rfl; have p6 := HBx0.out.cell 6 _ rfl; have p7 := HBx0.out.cell 7 _ rfl
  go_wp2_with fail
  refine (uMarkOpr o _ f0 _ (1) _ _ (by rfl) F0.out S0.out.1 (by omega) (by omega)).mono ?_
  rintro e w8 ⟨rfl, hx, _, _⟩
  clear p0 p1 p2 p3 p4 p5 p6 p7
  replace FG := Lib.hid (FG.out.keep (SG.out.keeps S0.out (by omega) hx))
  replace SG := Lib.hid (SG.out.ext S0.out (by omega) hx)
  replace HB0 := Lib.hid (S0.out.box HB0.out hx (by omega))
  replace HBx0 := Lib.hid (S0.out.box HBx0.out hx (by omega))
  replace HBs := Lib.hid (S0.out.box HBs.out hx (by omega))
  replace HBg := Lib.hid (S0.out.box HBg.out hx (by omega))
  replace RW := Lib.hid (S0.out.rv RW.out hx (by omega))
  replace hgA := S0.out.inner hgA hx (by omega)
  clear hx F0
  have r0 := HBg.out.cell 0 _ rfl; have r1 := HBg.out.cell 1 _ rfl; have r2 := HBg.out.cell 2 _ rfl; have r3 := HBg.out.cell 3 _ rfl; have r4 := HBg.out.cell 4 _ rfl
  have t0 := HBs.out.cell 0 _ rfl; have t1 := HBs.out.cell 1 _ rfl; have t2 := HBs.out.cell 2 _ rfl; have t3 := HBs.out.cell 3 _ rfl; have t4 := HBs.out.cell 4 _ rfl
  go_wp2_with fail
  refine (uEqN ((o2nN o)) _ _ _ FG.out.rv RW.out.any).mono ?_
  rintro e w9 ⟨rfl, hg⟩
  clear r0 r1 r2 r3 r4 t0 t1 t2 t3 t4
  replace FG := Lib.hid (FG.out.grow SG.out hg)
  replace SG := Lib.hid (SG.out.grow hg)
  replace RW := Lib.hid (RW.out.grow hg)
  replace HB0 := Lib.hid (HB0.out.grow hg)
  replace HBx0 := Lib.hid (HBx0.out.grow hg)
  replace HBs := Lib.hid (HBs.out.grow hg)
  replace HBg := Lib.hid (HBg.out.grow hg)
  replace hgA := hgA.trans hg
  clear hg
  have r0 := HBg.out.cell 0 _ rfl; have r1 := HBg.out.cell 1 _ rfl; have r2 := HBg.out.cell 2 _ rfl; have r3 := HBg.out.cell 3 _ rfl; have r4 := HBg.out.cell 4 _ rfl
  go_wp2_with fail
  refine (uMarkN ((o2nN o)) _ fg _ 1 _ _ (by rfl) FG.out SG.out.1 (by omega) (by omega)).mono ?_
  rintro e w10 ⟨rfl, hx, hfr, hF⟩
  clear r0 r1 r2 r3 r4
  replace HB0 := Lib.hid (SG.out.box HB0.out hx (by omega))
  replace HBx0 := Lib.hid (SG.out.box HBx0.out hx (by omega))
  replace HBs := Lib.hid (SG.out.box HBs.out hx (by omega))
  replace HBg := Lib.hid (SG.out.box HBg.out hx (by omega))
  replace RW := Lib.hid (SG.out.rv RW.out hx (by omega))
  replace hgA := SG.out.inner hgA hx (by omega)
  replace FG := Lib.hid hF
  replace SG := Lib.hid (SG.out.marked hfr)
  clear hx hfr hF
  have r0 := HBg.out.cell 0 _ rfl; have r1 := HBg.out.cell 1 _ rfl; have r2 := HBg.out.cell 2 _ rfl; have r3 := HBg.out.cell 3 _ rfl; have r4 := HBg.out.cell 4 _ rfl
  go_wp2_with fail
  refine (uHeldN ((o2nN o)) _ 1 _ _ (by rfl) FG.out.rv (by omega) (by omega)).mono ?_
  rintro e w11 ⟨rfl, hg⟩
  clear r0 r1 r2 r3 r4
  replace FG := Lib.hid (FG.out.grow SG.out hg)
  replace SG := Lib.hid (SG.out.grow hg)
  replace RW := Lib.hid (RW.out.grow hg)
  replace HB0 := Lib.hid (HB0.out.grow hg)
  replace HBx0 := Lib.hid (HBx0.out.grow hg)
  replace HBs := Lib.hid (HBs.out.grow hg)
  replace HBg := Lib.hid (HBg.out.grow hg)
  replace hgA := hgA.trans hg
  clear hg
  have hbb : ((1 + cntT ((o2nN o)) : Nat) != (1 + cntT ((o2nN o)) : Nat)) = false := by simp
  have hgc := hgA
  have pB := HB0.out.grow (w' := w11) (by repeat (first | with_reducible exact Ext.refl _ _ | with_reducible refine Ext.trans ?_ (by assumption) | with_reducible refine Ext.drew ?_ | with_reducible refine Ext.drewN ?_ _ | with_reducible refine Ext.alloc ?_ _ | with_reducible refine Ext.setNew ?_ (by simp; done) _ | with_reducible refine Ext.setNew ?_ (by simp; omega) _))
  have p0 := pB.cell 0 _ rfl; have p1 := pB.cell 1 _ rfl; have p2 := pB.cell 2 _ rfl; have p3 := pB.cell 3 _ rfl; have p4 := pB.cell 4 _ rfl; have p5 := pB.cell 5 _ rfl; have p6 := pB.cell 6 _ rfl; have p7 := pB.cell 7 _ rfl
  go_wp2_with fail
  refine (uToOpr o _ _ C0.out (HV0.out.grow (by repeat (first | with_reducible exact Ext.refl _ _ | with_reducible refine Ext.trans ?_ (by assumption) | with_reducible refine Ext.drew ?_ | with_reducible refine Ext.drewN ?_ _ | with_reducible refine Ext.alloc ?_ _ | with_reducible refine Ext.setNew ?_ (by simp; done) _ | with_reducible refine Ext.setNew ?_ (by simp; omega) _)))).mono ?_
  rintro e w12 ⟨uh, fh, rfl, hg12, hF, hfr⟩
  have z12 := hg12.size
  try simp only [World.size_alloc] at z12
  have RUh := Lib.hid hF.rv
  clear hF hfr p0 p1 p2 p3 p4 p5 p6 p7 pB
  go_wp2_with fail
  refine (implOpToNode_ok o _ _  RUh.out).mono ?_
  rintro e w13 ⟨rh, fh, rfl, hg13, hF, hfr⟩
  have z13 := hg13.size
  try simp only [World.size_alloc] at z13
  have hR := hF.rv
  clear hF hfr
  have RH := Lib.hid hR
  obtain ⟨nah, nch, kah, kch, rfl⟩ := openV_node hR
  unfold nodeV
  have HBh := Lib.hid (BoxN.new w13 [.int .i64 (o2nN o).kind, .int .i64 (o2nN o).num, .string (o2nN o).text, .slice nah (o2nN o).names.length nch, .slice kah (o2nN o).kids.length kch] 30)
  clear hR
  have tB := HBs.out.grow (w' := w13) (by repeat (first | with_reducible exact Ext.refl _ _ | with_reducible refine Ext.trans ?_ (by assumption) | with_reducible refine Ext.drew ?_ | with_reducible refine Ext.drewN ?_ _ | with_reducible refine Ext.alloc ?_ _ | with_reducible refine Ext.setNew ?_ (by simp; done) _ | with_reducible refine Ext.setNew ?_ (by simp; omega) _))
  have t0 := tB.cell 0 _ rfl; have t1 := tB.cell 1 _ rfl; have t2 := tB.cell 2 _ rfl; have t3 := tB.cell 3 _ rfl; have t4 := tB.cell 4 _ rfl; have tz := tB.lt
  go_wp2_with fail
  refine (uEqN ((o2nN o)) _ _ _ (RH.out.grow (by repeat (first | with_reducible exact Ext.refl _ _ | with_reducible refine Ext.trans ?_ (by assumption) | with_reducible refine Ext.drew ?_ | with_reducible refine Ext.drewN ?_ _ | with_reducible refine Ext.alloc ?_ _ | with_reducible refine Ext.setNew ?_ (by simp; done) _ | with_reducible refine Ext.setNew ?_ (by simp; omega) _))) (RW.out.any.grow (by repeat (first | with_reducible exact Ext.refl _ _ | with_reducible refine Ext.trans ?_ (by assumption) | with_reducible refine Ext.drew ?_ | with_reducible refine Ext.drewN ?_ _ | with_reducible refine Ext.alloc ?_ _ | with_reducible refine Ext.setNew ?_ (by simp; done) _ | with_reducible refine Ext.setNew ?_ (by simp; omega) _)))).mono ?_
  rintro e w14 ⟨rfl, hg14⟩
  have z14 := hg14.size
  try simp only [World.size_alloc] at z14
  clear t0 t1 t2 t3 t4 tB tz
  have rB := HBg.out.grow (w' := w14) (by repeat (first | with_reducible exact Ext.refl _ _ | with_reducible refine Ext.trans ?_ (by assumption) | with_reducible refine Ext.drew ?_ | with_reducible refine Ext.drewN ?_ _ | with_reducible refine Ext.alloc ?_ _ | with_reducible refine Ext.setNew ?_ (by simp; done) _ | with_reducible refine Ext.setNew ?_ (by simp; omega) _))
  have r0 := rB.cell 0 _ rfl; have r1 := rB.cell 1 _ rfl; have r2 := rB.cell 2 _ rfl; have r3 := rB.cell 3 _ rfl; have r4 := rB.cell 4 _ rfl; have rz := rB.lt
  go_wp2_with fail
  refine (uHeldN ((o2nN o)) _ 1 _ _ (by rfl) (FG.out.rv.grow (by repeat (first | with_reducible exact Ext.refl _ _ | with_reducible refine Ext.trans ?_ (by assumption) | with_reducible refine Ext.drew ?_ | with_reducible refine Ext.drewN ?_ _ | with_reducible refine Ext.alloc ?_ _ | with_reducible refine Ext.setNew ?_ (by simp; done) _ | with_reducible refine Ext.setNew ?_ (by simp; omega) _))) (by omega) (by omega)).mono ?_
  rintro e w15 ⟨rfl, hg15⟩
  have z15 := hg15.size
  try simp only [World.size_alloc] at z15
  clear r0 r1 r2 r3 r4 rB rz
  go_wp2_with fail
  go_ret
  exact ⟨by simp, (by repeat (first | with_reducible exact Ext.refl _ _ | with_reducible refine Ext.trans ?_ (by assumption) | with_reducible refine Ext.drew ?_ | with_reducible refine Ext.drewN ?_ _ | with_reducible refine Ext.alloc ?_ _ | with_reducible refine Ext.setNew ?_ (by simp; done) _ | with_reducible refine Ext.setNew ?_ (by simp; omega) _))⟩
theorem lawO2n_ok (o : Opr) (v0 : Value) (w : World) (h0 : RV oprRep packA w any o v0) :
    Calls Try.prog 4 #[v0] w fun e w' => e = .returned (.bool true) ∧ Grow w w' := by
  by_cases hc : costOpr o ≤ 1048576
  · exact lawO2n_main o v0 w h0 hc
  · exact lawO2n_big o v0 w h0 hc
end Go.Proofs.Ytgfnmhfdmmnaoaa
namespace Go.Proofs.Ytgfnmhfdmmnaoaa
open Go.RowKit Go.ChangeShapes Go.WideShapes Go.Deep
section
variable {H : Type} {enc : TypeId × Value → H} {W : World} {base : Nat} {sp : Nat → Bool} {held : Bool}
theorem addr_spot {w : World} {a : Addr} {v : Value} (h : w.cell? a = some v) : ∃ b o, a = ⟨b, o, none⟩ := by
  have := World.cell?_spot h
  exact ⟨a.block, a.off, by cases a; simp_all⟩
theorem add_mk (b o i : Nat) : (⟨b, o, none⟩ : Addr).add i = ⟨b, o + i, none⟩ := by
  unfold Addr.add; split
  · rename_i h; subst h; rfl
  · rfl
theorem open_strs' {fuel : Nat} {cs : List Value} {x : DataW H × List MemPlace} (h : DataW.trod enc Try.prog W base sp held fuel 23 cs = some x) :
    ∃ a c xs, cs = [.slice a xs.length c] ∧ StrsR W any a c xs := by
  rcases open_slice Try.underlying23 h with ⟨rfl, _⟩ | ⟨a, len, cap, m, n, D, Pl, rfl, _, hl, hm, hmm, _, hi⟩
  · exact ⟨none, 0, [], rfl, by simp, by simp, by simp, .inl rfl⟩
  · have hlm : len ≤ m := by rw [hmm]; split <;> omega
    have hel : ∀ i, i < len → ∃ s : ByteArray, W.cell? (a.add i) = some (.string s) ∧ s.size ≤ maxLen := fun i hi' => by
      obtain ⟨cs', h1, h2⟩ := hi i (by omega)
      have hc : Try.prog.cellsOf 9 = 1 := by kernel_rfl
      rw [hc] at h1
      obtain ⟨_, hlen, hat⟩ := World.cells?_some h1
      obtain ⟨s, rfl, _, hs⟩ := DataW.trod_string Try.underlying9 h2
      have := hat 0 (by omega)
      exact ⟨s, by simpa [Go.Deep.add_add] using this, hs⟩
    have : Inhabited ByteArray := ⟨ByteArray.empty⟩
    obtain ⟨f, hf⟩ := choose_lt hel
    refine ⟨some a, cap, (List.range len).map f, by simp, by simpa using hl, by simp; unfold maxLen at hm; unfold big; omega, ?_, ?_⟩
    · intro x hx
      obtain ⟨i, hi', rfl⟩ := List.mem_map.1 hx
      have := (hf i (List.mem_range.1 hi')).2
      unfold maxLen at this; unfold big; omega
    · by_cases h0 : len = 0
      · subst h0; exact .inl rfl
      · obtain ⟨b, o, ha⟩ := addr_spot (hf 0 (by omega)).1
        have ha' : a = ⟨b, o, none⟩ := by simpa [Addr.add] using ha
        subst ha'
        refine .inr ⟨b, o, rfl, trivial, fun i hi' => ?_⟩
        simp at hi'
        have := (hf i hi').1
        rw [add_mk] at this
        simpa using this
theorem open_node : ∀ (fuel : Nat) (cs : List Value) (x : DataW H × List MemPlace), DataW.trod enc Try.prog W base sp held fuel 41 cs = some x →
    ∃ n na nc ka kc, cs = [.int .i64 n.kind, .int .i64 n.num, .string n.text, .slice na n.names.length nc, .slice ka n.kids.length kc] ∧ NodeC W any n na nc ka kc := by
  intro fuel
  induction fuel using Nat.strongRecOn with
  | ind fuel ih =>
    intro cs x h
    obtain ⟨xs, n, rfl, _, hlen, hxs, hf⟩ := DataW.trod_struct Try.underlying41 h
    have hc : Try.prog.cellsOf 41 = 5 := by kernel_rfl
    have c3 : Try.prog.cellsOf 3 = 1 := by kernel_rfl
    have c9 : Try.prog.cellsOf 9 = 1 := by kernel_rfl
    have c23 : Try.prog.cellsOf 23 = 1 := by kernel_rfl
    have c57 : Try.prog.cellsOf 39 = 1 := by kernel_rfl
    rw [hc] at hlen
    match cs, hlen with
    | [v0, v1, v2, v3, v4], _ =>
      obtain ⟨y0, g0⟩ : ∃ y, DataW.trod enc Try.prog W base sp held n 3 [v0] = some y := ⟨xs[0]'(by simp at hxs; omega), by
        have h := hf 0 _ rfl
        rw [List.getElem?_eq_getElem (by simp at hxs; omega)] at h
        simpa [c3, c9, c23, c57] using h⟩
      obtain ⟨y1, g1⟩ : ∃ y, DataW.trod enc Try.prog W base sp held n 3 [v1] = some y := ⟨xs[1]'(by simp at hxs; omega), by
        have h := hf 1 _ rfl
        rw [List.getElem?_eq_getElem (by simp at hxs; omega)] at h
        simpa [c3, c9, c23, c57] using h⟩
      obtain ⟨y2, g2⟩ : ∃ y, DataW.trod enc Try.prog W base sp held n 9 [v2] = some y := ⟨xs[2]'(by simp at hxs; omega), by
        have h := hf 2 _ rfl
        rw [List.getElem?_eq_getElem (by simp at hxs; omega)] at h
        simpa [c3, c9, c23, c57] using h⟩
      obtain ⟨y3, g3⟩ : ∃ y, DataW.trod enc Try.prog W base sp held n 23 [v3] = some y := ⟨xs[3]'(by simp at hxs; omega), by
        have h := hf 3 _ rfl
        rw [List.getElem?_eq_getElem (by simp at hxs; omega)] at h
        simpa [c3, c9, c23, c57] using h⟩
      obtain ⟨y4, g4⟩ : ∃ y, DataW.trod enc Try.prog W base sp held n 39 [v4] = some y := ⟨xs[4]'(by simp at hxs; omega), by
        have h := hf 4 _ rfl
        rw [List.getElem?_eq_getElem (by simp at hxs; omega)] at h
        simpa [c3, c9, c23, c57] using h⟩
      clear hf
      obtain ⟨kind, e0, _, _⟩ := DataW.trod_int Try.underlying3 g0
      obtain ⟨num, e1, _, _⟩ := DataW.trod_int Try.underlying3 g1
      obtain ⟨text, e2, _, hts⟩ := DataW.trod_string Try.underlying9 g2
      obtain ⟨na, nc, names, e3, hns⟩ := open_strs' g3
      simp only [List.cons.injEq, and_true] at e0 e1 e2 e3
      subst e0 e1 e2 e3
      have htx : text.size ≤ big := by unfold maxLen at hts; unfold big; omega
      rcases DataW.trod_slice Try.underlying39 g4 with ⟨e4, _⟩ | ⟨a, len, cap, elems, rest, n', rfl, e4, _, _, hl, hm, hel, hi, _, _⟩
      · simp only [List.cons.injEq, and_true] at e4
        subst e4
        exact ⟨⟨kind, num, text, names, []⟩, na, nc, none, 0, rfl, NodeC.mk htx hns ⟨by simp, by simp, .inl rfl⟩⟩
      · simp only [List.cons.injEq, and_true] at e4
        subst e4
        rw [hc] at hi
        have key : ∀ i, i < len → ∃ (k : Nd × (Option Addr × Nat × Option Addr × Nat)), W.cell? (a.add (i * 5)) = some (.int .i64 k.1.kind) ∧ W.cell? (a.add (i * 5 + 1)) = some (.int .i64 k.1.num) ∧ W.cell? (a.add (i * 5 + 2)) = some (.string k.1.text) ∧
            W.cell? (a.add (i * 5 + 3)) = some (.slice k.2.1 k.1.names.length k.2.2.1) ∧ W.cell? (a.add (i * 5 + 4)) = some (.slice k.2.2.2.1 k.1.kids.length k.2.2.2.2) ∧ NodeC W any k.1 k.2.1 k.2.2.1 k.2.2.2.1 k.2.2.2.2 := fun i hi' => by
          have h := hi i hi'
          rw [List.getElem?_eq_getElem (by omega)] at h
          obtain ⟨cs', h1, h2⟩ := Option.bind_eq_some_iff.1 h
          obtain ⟨_, hl5, hat⟩ := World.cells?_some h1
          obtain ⟨m, na', nc', ka', kc', rfl, hn'⟩ := ih n' (by omega) cs' _ h2
          refine ⟨⟨m, na', nc', ka', kc'⟩, ?_, ?_, ?_, ?_, ?_, hn'⟩
          · simpa [Go.Deep.add_add] using hat 0 (by omega)
          · simpa [Go.Deep.add_add] using hat 1 (by omega)
          · simpa [Go.Deep.add_add] using hat 2 (by omega)
          · simpa [Go.Deep.add_add] using hat 3 (by omega)
          · simpa [Go.Deep.add_add] using hat 4 (by omega)
        have : Inhabited (Nd × (Option Addr × Nat × Option Addr × Nat)) := ⟨⟨⟨0, 0, ByteArray.empty, [], []⟩, none, 0, none, 0⟩⟩
        obtain ⟨f, hf⟩ := choose_lt key
        have hkl : ((List.range len).map fun i => (f i).1).length = len := by simp
        have hbig : len ≤ big := by unfold maxLen at hm; unfold big; omega
        refine ⟨⟨kind, num, text, names, (List.range len).map fun i => (f i).1⟩, na, nc, some a, cap, by simp, NodeC.mk htx hns ⟨by rw [hkl]; exact hl, by rw [hkl]; exact hbig, ?_⟩⟩
        by_cases h0 : len = 0
        · subst h0; exact .inl rfl
        · obtain ⟨b, o, ha⟩ := addr_spot (hf 0 (by omega)).1
          have ha' : a = ⟨b, o, none⟩ := by simpa [Addr.add] using ha
          subst ha'
          refine .inr ⟨b, o, rfl, trivial, KidsR.of_get (fun i hi' => ?_)⟩
          rw [hkl] at hi'
          obtain ⟨k0, k1, k2, k3, k4, kn⟩ := hf i hi'
          rw [add_mk] at k0 k1 k2 k3 k4
          simp only [List.getElem_map, List.getElem_range]
          exact ⟨_, _, _, _, k0, by rw [Nat.add_assoc]; exact k1, by rw [Nat.add_assoc]; exact k2, by rw [Nat.add_assoc]; exact k3, by rw [Nat.add_assoc]; exact k4, kn⟩
end
end Go.Proofs.Ytgfnmhfdmmnaoaa
namespace Go.Proofs.Ytgfnmhfdmmnaoaa
open Go.RowKit
end Go.Proofs.Ytgfnmhfdmmnaoaa
namespace Go.Proofs.Ytgfnmhfdmmnaoaa
open Go.RowKit
end Go.Proofs.Ytgfnmhfdmmnaoaa
namespace Go.Proofs.Ytgfnmhfdmmnaoaa
open Go.RowKit
end Go.Proofs.Ytgfnmhfdmmnaoaa
namespace Go.Proofs.Ytgfnmhfdmmnaoaa
open Go.RowKit
end Go.Proofs.Ytgfnmhfdmmnaoaa
namespace Go.Proofs.Ytgfnmhfdmmnaoaa
open Go.RowKit Go.ChangeShapes Go.WideShapes Go.Deep
section
variable {H : Type} {enc : TypeId × Value → H} {W : World} {base : Nat} {sp : Nat → Bool} {held : Bool}
end
end Go.Proofs.Ytgfnmhfdmmnaoaa
namespace Go.Proofs.Ytgfnmhfdmmnaoaa
open Go.RowKit Go.ChangeShapes Go.WideShapes Go.Deep
section
variable {H : Type} {enc : TypeId × Value → H} {W : World} {base : Nat} {sp : Nat → Bool} {held : Bool}
end
end Go.Proofs.Ytgfnmhfdmmnaoaa
namespace Go.Proofs.Ytgfnmhfdmmnaoaa
open Go.RowKit
end Go.Proofs.Ytgfnmhfdmmnaoaa
namespace Go.Proofs.Ytgfnmhfdmmnaoaa
open Go.RowKit
end Go.Proofs.Ytgfnmhfdmmnaoaa
namespace Go.Proofs.Ytgfnmhfdmmnaoaa
open Go.RowKit
theorem lt_trans {a b c : ByteArray} (h1 : lt a b = true) (h2 : lt b c = true) : lt a c = true := bl_trans _ _ _ h1 h2
end Go.Proofs.Ytgfnmhfdmmnaoaa
namespace Go.Proofs.Ytgfnmhfdmmnaoaa
open Go.RowKit Go.ChangeShapes Go.WideShapes Go.Deep
section
variable {H : Type} {enc : TypeId × Value → H} {W : World} {base : Nat} {sp : Nat → Bool} {held : Bool}
end
end Go.Proofs.Ytgfnmhfdmmnaoaa
namespace Go.Proofs.Ytgfnmhfdmmnaoaa
open Go.RowKit Go.ChangeShapes Go.WideShapes Go.Deep
section
variable {H : Type} {enc : TypeId × Value → H} {W : World} {base : Nat} {sp : Nat → Bool} {held : Bool}
theorem rv_opr {fuel : Nat} {cs : Array Value} {x : DataW H × List MemPlace} (h : DataW.trod enc Try.prog W base sp held fuel 43 cs.toList = some x) : ∃ y, RV oprRep packA W any y (.agg cs) := by
  obtain ⟨xs, n, rfl, _, hlen, hxs, hf⟩ := DataW.trod_struct Try.underlying43 h
  have hc : Try.prog.cellsOf 43 = 8 := by kernel_rfl
  have cI : Try.prog.cellsOf 3 = 1 := by kernel_rfl
  have cS : Try.prog.cellsOf 23 = 1 := by kernel_rfl
  have cN : Try.prog.cellsOf 41 = 5 := by kernel_rfl
  rw [hc] at hlen
  obtain ⟨l⟩ := cs
  match l, hlen with
  | [v0, v1, v2, v3, v4, v5, v6, v7], _ =>
    obtain ⟨y0, g0⟩ : ∃ y, DataW.trod enc Try.prog W base sp held n 3 [v0] = some y := ⟨xs[0]'(by simp at hxs; omega), by
      have h := hf 0 _ rfl
      rw [List.getElem?_eq_getElem (by simp at hxs; omega)] at h
      simpa [cS, cI, cN] using h⟩
    obtain ⟨y1, g1⟩ : ∃ y, DataW.trod enc Try.prog W base sp held n 23 [v1] = some y := ⟨xs[1]'(by simp at hxs; omega), by
      have h := hf 1 _ rfl
      rw [List.getElem?_eq_getElem (by simp at hxs; omega)] at h
      simpa [cS, cI, cN] using h⟩
    obtain ⟨y2, g2⟩ : ∃ y, DataW.trod enc Try.prog W base sp held n 23 [v2] = some y := ⟨xs[2]'(by simp at hxs; omega), by
      have h := hf 2 _ rfl
      rw [List.getElem?_eq_getElem (by simp at hxs; omega)] at h
      simpa [cS, cI, cN] using h⟩
    obtain ⟨y3, g3⟩ : ∃ y, DataW.trod enc Try.prog W base sp held n 41 [v3, v4, v5, v6, v7] = some y := ⟨xs[3]'(by simp at hxs; omega), by
      have h := hf 3 _ rfl
      rw [List.getElem?_eq_getElem (by simp at hxs; omega)] at h
      simpa [cS, cI, cN] using h⟩
    obtain ⟨k, e0, _⟩ := DataW.trod_int Try.underlying3 g0
    obtain ⟨a, c, ss, e1, hs⟩ := open_strs' g1
    obtain ⟨a', c', ss', e2, hs'⟩ := open_strs' g2
    obtain ⟨q, na, nc, ka, kc, e3, hq⟩ := open_node _ _ _ g3
    have e0' : v0 = .int .i64 k := by simpa using e0
    exact ⟨(k, ss, ss', q), [v0, v1, v2, v3, v4, v5, v6, v7], rfl, [v0], [v1, v2, v3, v4, v5, v6, v7], rfl, by simp [e0', intRep], [v1], [v2, v3, v4, v5, v6, v7], rfl, ⟨a, c, e1, hs⟩, [v2], [v3, v4, v5, v6, v7], rfl, ⟨a', c', e2, hs'⟩, na, nc, ka, kc, e3, hq⟩
end
end Go.Proofs.Ytgfnmhfdmmnaoaa
