/-
  The walks of the laws' copies of operations and requests.
-/
import Derived.Test.YtchiakeceiefdaaSzReq
namespace Go.Proofs.Ytchiakeceiefdaa
open Go.RowKit

/-- Blocks from B on. -/
def upB (B : Nat) (k : Nat) : Prop := B ≤ k

/-- A local struct. -/
structure BoxN (w : World) (b : Nat) (cs : List Value) : Prop where
  cell : ∀ i v, cs[i]? = some v → w.cell? ⟨b, i, none⟩ = some v
  fr : ∀ o, w.frozen? ⟨b, o, none⟩ = false
  lt : b < w.heap.size

theorem BoxN.new (w : World) (cs : List Value) (t : TypeId) : BoxN (w.alloc (.cells cs.toArray t)) w.heap.size cs :=
  ⟨fun i v h => by rw [World.cell?_alloc_new]; simpa using h, fun o => World.frozen?_alloc_new w _ t o, by simp⟩
theorem BoxN.ext {X : Nat → Prop} {w w' : World} {b : Nat} {cs : List Value} (hb : BoxN w b cs) (h : Ext X w w') (hx : ¬ X b) : BoxN w' b cs :=
  ⟨fun i v hi => by rw [h.cell hb.lt hx]; exact hb.cell i v hi, fun o => by rw [h.frozen (p := ⟨b, o, none⟩) hb.lt hx]; exact hb.fr o, Nat.lt_of_lt_of_le hb.lt h.size⟩
theorem BoxN.grow {w w' : World} {b : Nat} {cs : List Value} (hb : BoxN w b cs) (h : Grow w w') : BoxN w' b cs := hb.ext h (fun h => h)
theorem BoxN.other {w : World} {b : Nat} {cs : List Value} (hb : BoxN w b cs) {p : Addr} (hp : p.block ≠ b) (v : Value) : BoxN (w.setCell p v) b cs :=
  hb.ext (X := fun k => k = p.block) (Ext.setIn (X := fun k => k = p.block) (Ext.refl _ w) (p := p) rfl v) (fun h => hp h.symm)
theorem BoxN.set {w : World} {b : Nat} {cs : List Value} (hb : BoxN w b cs) (i : Nat) (hi : i < cs.length) (v : Value) : BoxN (w.setCell ⟨b, i, none⟩ v) b (cs.set i v) := by
  refine ⟨fun j u h => ?_, fun o => by rw [World.frozen?_setCell]; exact hb.fr o, by rw [size_setCell]; exact hb.lt⟩
  rw [cell_set (hb.cell i cs[i] (List.getElem?_eq_getElem hi))]
  rw [List.getElem?_set] at h
  by_cases e : j = i
  · subst e; simpa [hi] using h
  · rw [if_neg (by intro h'; cases h'; exact e rfl)]
    rw [if_neg (fun h' => e h'.symm)] at h
    exact hb.cell j u h

mutual
theorem NodeC.mono {w : World} {S T : Nat → Prop} (hS : ∀ k, S k → T k) : ∀ {n : Nd} {na : Option Addr} {nc : Nat} {ka : Option Addr} {kc : Nat}, NodeC w S n na nc ka kc → NodeC w T n na nc ka kc
  | ⟨_, _, _, _, kids⟩, na, nc, ka, kc, hn => by
    unfold NodeC at hn ⊢
    obtain ⟨h1, h2, h3, h4, h5⟩ := hn
    refine ⟨h1, h2.mono hS, h3, h4, h5.imp id ?_⟩
    rintro ⟨b, o, e, hb, hk⟩
    exact ⟨b, o, e, hS b hb, KidsR.mono hS hk⟩
theorem KidsR.mono {w : World} {S T : Nat → Prop} (hS : ∀ k, S k → T k) {b : Nat} : ∀ {l : List Nd} {o : Nat}, KidsR w S b o l → KidsR w T b o l
  | [], _, _ => by unfold KidsR; trivial
  | k :: ks, o, hk => by
    unfold KidsR at hk ⊢
    obtain ⟨⟨na, nc, ka, kc, c0, c1, c2, c3, c4, hn⟩, hr⟩ := hk
    exact ⟨⟨na, nc, ka, kc, c0, c1, c2, c3, c4, NodeC.mono hS hn⟩, KidsR.mono hS hr⟩
end

theorem OpC.mono {w : World} {S T : Nat → Prop} (hS : ∀ k, S k → T k) {o : Opn} {pa : Option Addr} {pc : Nat} {fa : Option Addr} {fc : Nat} {na : Option Addr} {nc : Nat} {ka : Option Addr} {kc : Nat}
    (h : OpC w S o pa pc fa fc na nc ka kc) : OpC w T o pa pc fa fc na nc ka kc := ⟨h.1.mono hS, h.2.1.mono hS, h.2.2.mono hS⟩

theorem toStringS_up (a : Option Addr) (c : Nat) (xs : List ByteArray) (w : World) (ha : StrsR w any a c xs) (hb : xs.length ≤ 1048576) :
    Calls Try.prog 75 #[.slice a xs.length c] w fun e w' => ∃ a' c', e = .returned (.slice a' xs.length c') ∧ Grow w w' ∧ StrsR w' (upB w.heap.size) a' c' xs := by
  refine (toStringS_ok a c xs w ha hb).mono ?_
  rintro e w' ⟨a', c', fp, he, hg, hs, hf⟩
  exact ⟨a', c', he, hg, hs.toR (fun b h => (hf.2 b h).1)⟩

theorem toNode_up (n : Nd) (v : Value) (w : World) (hc : costN n ≤ 1048576) (hn : NodeR w any n v) :
    Calls Try.prog 28 #[v] w fun e w' => ∃ na nc ka kc, e = .returned (nodeV n na nc ka kc) ∧ Grow w w' ∧ NodeC w' (upB w.heap.size) n na nc ka kc := by
  refine (toNode_ok n v w hc hn).mono ?_
  rintro e w' ⟨v', fp, he, hg, ⟨na, nc, ka, kc, rfl, hs⟩, hf⟩
  exact ⟨na, nc, ka, kc, he, hg, hs.toC (fun b h => (hf.2 b h).1)⟩

set_option maxHeartbeats 2000000 in
theorem toOp_ok (o : Opn) (v : Value) (w : World) (hcost : costO o ≤ 1048576) (hn : OpR w any o v) :
    Calls Try.prog 45 #[v] w fun e w' => ∃ pa pc fa fc na nc ka kc, e = .returned (opV o pa pc fa fc na nc ka kc) ∧ Grow w w' ∧ OpC w' (upB w.heap.size) o pa pc fa fc na nc ka kc := by
  obtain ⟨pa, pc, fa, fc, na, nc, ka, kc, rfl, hp, hf, hc⟩ := hn
  have hcp : o.path.length ≤ 1048576 := by have : o.path.length ≤ costS o.path := by simp [costS]
                                           rw [costO_eq] at hcost; omega
  have hcf : o.frm.length ≤ 1048576 := by have : o.frm.length ≤ costS o.frm := by simp [costS]
                                          rw [costO_eq] at hcost; omega
  have hcv : costN o.val ≤ 1048576 := by rw [costO_eq] at hcost; omega
  have Hp := Lib.hid hp
  have Hf := Lib.hid hf
  have Hc := Lib.hid hc
  clear hp hf hc hcost
  unfold opV at *
  go_enter Try.func45, Try.ntmps45
  go_wp2_with fail
  refine (toStringS_up _ _ o.path _ (Hp.out.grow (by repeat (first | with_reducible exact Ext.refl _ _ | with_reducible refine Ext.trans ?_ (by assumption) | with_reducible refine Ext.drew ?_ | with_reducible refine Ext.drewN ?_ _ | with_reducible refine Ext.alloc ?_ _ | with_reducible refine Ext.setNew ?_ (by simp; done) _ | with_reducible refine Ext.setNew ?_ (by simp; omega) _))) hcp).mono ?_
  rintro e w1 ⟨a1, c1, rfl, hg1, hs1⟩
  have B0 := (((BoxN.new w _ _).grow ((Ext.refl nil _).alloc _)).grow ((Ext.refl nil _).alloc _)).grow hg1
  have B1 := ((BoxN.new (w.alloc _) _ _).grow ((Ext.refl nil _).alloc _)).grow hg1
  have B2 := (BoxN.new ((w.alloc _).alloc _) _ _).grow hg1
  simp only [World.size_alloc] at B0 B1 B2 hs1
  have hg1' : Grow w w1 := (by repeat (first | with_reducible exact Ext.refl _ _ | with_reducible refine Ext.trans ?_ (by assumption) | with_reducible refine Ext.drew ?_ | with_reducible refine Ext.drewN ?_ _ | with_reducible refine Ext.alloc ?_ _ | with_reducible refine Ext.setNew ?_ (by simp; done) _ | with_reducible refine Ext.setNew ?_ (by simp; omega) _))
  have hz : w.heap.size + 1 + 1 < w1.heap.size := B2.lt
  have HB0 := Lib.hid B0
  have HB1 := Lib.hid B1
  have HB2 := Lib.hid B2
  have Hs1 := Lib.hid hs1
  have p2 := B0.cell 2 _ rfl
  have q1 := B2.cell 1 _ rfl
  have qf := B2.fr
  clear hg1 hs1 B0 B1 B2
  go_wp2_with fail
  refine (toStringS_up _ _ o.frm _ (Hf.out.ext (hg1'.setNew (by simp; omega) _) (fun _ _ h => h)) hcf).mono ?_
  rintro e w2 ⟨a2, c2, rfl, hg2, hs2⟩
  have B0 := (HB0.out.other (p := ⟨w.heap.size + 1 + 1, 1, none⟩) (by simp; omega) (.slice a1 o.path.length c1)).grow hg2
  have B1 := (HB1.out.other (p := ⟨w.heap.size + 1 + 1, 1, none⟩) (by simp) (.slice a1 o.path.length c1)).grow hg2
  have B2 := (HB2.out.set 1 (by simp) (.slice a1 o.path.length c1)).grow hg2
  have e12 : Ext (fun k => k = w.heap.size + 1 ∨ k = w.heap.size + 1 + 1) w1 w2 := Ext.trans (Ext.setIn (X := fun k => k = w.heap.size + 1 ∨ k = w.heap.size + 1 + 1) (Ext.refl _ w1) (p := ⟨w.heap.size + 1 + 1, 1, none⟩) (.inr rfl) (.slice a1 o.path.length c1)) (hg2.mono (fun _ h => False.elim h))
  have hg2' : Grow w w2 := hg1'.inner e12 (by intro i hi; omega)
  clear p2 q1 qf HB0 HB1 HB2
  have HB0 := Lib.hid B0
  have HB1 := Lib.hid B1
  have HB2 := Lib.hid B2
  have Hs2 := Lib.hid hs2
  have p3 := B0.cell 3 _ rfl
  have p4 := B0.cell 4 _ rfl
  have p5 := B0.cell 5 _ rfl
  have p6 := B0.cell 6 _ rfl
  have p7 := B0.cell 7 _ rfl
  have q2 := B2.cell 2 _ rfl
  have qf := B2.fr
  have hz2 : w.heap.size + 1 + 1 < w2.heap.size := B2.lt
  have E12 := Lib.hid e12
  clear hs2 B0 B1 B2 hg2 e12
  go_wp2_with fail
  refine (toNode_up o.val (nodeV o.val na nc ka kc) _ hcv ⟨na, nc, ka, kc, rfl, Hc.out.ext (hg2'.setNew (by simp; omega) _) (fun _ _ h => h)⟩).mono ?_
  rintro e w3 ⟨a3, c3, a4, c4, rfl, hg3, hs3⟩
  have B1 := (HB1.out.other (p := ⟨w.heap.size + 1 + 1, 2, none⟩) (by simp) (.slice a2 o.frm.length c2)).grow hg3
  have B2 := (HB2.out.set 2 (by simp) (.slice a2 o.frm.length c2)).grow hg3
  have e23 : Ext (fun k => k = w.heap.size + 1 ∨ k = w.heap.size + 1 + 1) w2 w3 := Ext.trans (Ext.setIn (X := fun k => k = w.heap.size + 1 ∨ k = w.heap.size + 1 + 1) (Ext.refl _ w2) (p := ⟨w.heap.size + 1 + 1, 2, none⟩) (.inr rfl) (.slice a2 o.frm.length c2)) (hg3.mono (fun _ h => False.elim h))
  have hg3' : Grow w w3 := hg2'.inner e23 (by intro i hi; omega)
  clear p3 p4 p5 p6 p7 q2 qf HB0 HB1 HB2
  have HB1 := Lib.hid B1
  have HB2 := Lib.hid B2
  have Hs3 := Lib.hid hs3
  have E23 := Lib.hid e23
  have q0 := B2.cell 0 _ rfl
  have q1 := B2.cell 1 _ rfl
  have q2 := B2.cell 2 _ rfl
  have q3 := B2.cell 3 _ rfl
  have q4 := B2.cell 4 _ rfl
  have q5 := B2.cell 5 _ rfl
  have q6 := B2.cell 6 _ rfl
  have q7 := B2.cell 7 _ rfl
  have qf := B2.fr
  have p0 := B1.cell 0 _ rfl
  have p1 := B1.cell 1 _ rfl
  have p2 := B1.cell 2 _ rfl
  have p3 := B1.cell 3 _ rfl
  have p4 := B1.cell 4 _ rfl
  have p5 := B1.cell 5 _ rfl
  have p6 := B1.cell 6 _ rfl
  have p7 := B1.cell 7 _ rfl
  have pf := B1.fr
  clear hs3 B1 B2 hg3 e23
  unfold nodeV
  go_wp2_with fail
  have BF := (((((((((((((HB1.out.other (p := ⟨w.heap.size + 1 + 1, 3, none⟩) (by simp) (.int .i64 o.val.kind)).other (p := ⟨w.heap.size + 1 + 1, 4, none⟩) (by simp) (.int .i64 o.val.num)).other (p := ⟨w.heap.size + 1 + 1, 5, none⟩) (by simp) (.string o.val.text)).other (p := ⟨w.heap.size + 1 + 1, 6, none⟩) (by simp) (.slice a3 o.val.names.length c3)).other (p := ⟨w.heap.size + 1 + 1, 7, none⟩) (by simp) (.slice a4 o.val.kids.length c4)).set 0 (by simp) (.int .i64 o.kind)).set 1 (by simp) (.slice a1 o.path.length c1)).set 2 (by simp) (.slice a2 o.frm.length c2)).set 3 (by simp) (.int .i64 o.val.kind)).set 4 (by simp) (.int .i64 o.val.num)).set 5 (by simp) (.string o.val.text)).set 6 (by simp) (.slice a3 o.val.names.length c3)).set 7 (by simp) (.slice a4 o.val.kids.length c4))
  have r0 := BF.cell 0 _ rfl
  have r1 := BF.cell 1 _ rfl
  have r2 := BF.cell 2 _ rfl
  have r3 := BF.cell 3 _ rfl
  have r4 := BF.cell 4 _ rfl
  have r5 := BF.cell 5 _ rfl
  have r6 := BF.cell 6 _ rfl
  have r7 := BF.cell 7 _ rfl
  clear BF
  have fin : ∀ W, Ext (fun k => k = w.heap.size + 1 ∨ k = w.heap.size + 1 + 1) w3 W → ∃ pa pc fa fc na nc ka kc, Ending.returned (opV o a1 c1 a2 c2 a3 c3 a4 c4) = Ending.returned (opV o pa pc fa fc na nc ka kc) ∧ Grow w W ∧ OpC W (upB w.heap.size) o pa pc fa fc na nc ka kc := by
    intro W hW
    have h2 := Hs2.out
    have h3 := Hs3.out
    rw [size_setCell] at h2 h3
    have z1 := hg1'.size
    have z2 := hg2'.size
    have x1 : ∀ k, upB (w.heap.size + 1 + 1 + 1) k → ¬ (k = w.heap.size + 1 ∨ k = w.heap.size + 1 + 1) := fun k hk => by unfold upB at hk; omega
    have x2 : ∀ k, upB w1.heap.size k → ¬ (k = w.heap.size + 1 ∨ k = w.heap.size + 1 + 1) := fun k hk => by unfold upB at hk; omega
    have x3 : ∀ k, upB w2.heap.size k → ¬ (k = w.heap.size + 1 ∨ k = w.heap.size + 1 + 1) := fun k hk => by unfold upB at hk; omega
    refine ⟨_, _, _, _, _, _, _, _, rfl, hg3'.inner hW (by intro i hi; omega), ?_, ?_, ?_⟩
    · exact StrsR.mono (fun k hk => by unfold upB at *; omega) (Hs1.out.ext ((E12.out.trans E23.out).trans hW) x1)
    · exact StrsR.mono (fun k hk => by unfold upB at *; omega) (h2.ext (E23.out.trans hW) x2)
    · exact NodeC.mono (fun k hk => by unfold upB at *; omega) (h3.ext hW x3)
  refine bodyPost_ret (v := opV o a1 c1 a2 c2 a3 c3 a4 c4) ?_ rfl ?_
  · simp [results, Try.results45, go_sem, opV, r0, r1, r2, r3, r4, r5, r6, r7]
  · refine fin _ ?_
    exact (by repeat (first | with_reducible exact Ext.refl _ _ | with_reducible refine Ext.setIn ?_ (by simp) _ | with_reducible refine Ext.trans ?_ (Ext.mono (by assumption) (fun _ h => False.elim h))))

/-! ### Eight cells are stored -/

def store8 (w : World) (b o : Nat) (v0 v1 v2 v3 v4 v5 v6 v7 : Value) : World :=
  (((((((w.setCell ⟨b, o, none⟩ v0).setCell ⟨b, o + 1, none⟩ v1).setCell ⟨b, o + 2, none⟩ v2).setCell ⟨b, o + 3, none⟩ v3).setCell ⟨b, o + 4, none⟩ v4).setCell ⟨b, o + 5, none⟩ v5).setCell ⟨b, o + 6, none⟩ v6).setCell ⟨b, o + 7, none⟩ v7
theorem store8_ext (w : World) (b o : Nat) (v0 v1 v2 v3 v4 v5 v6 v7 : Value) : Ext (fun k => k = b) w (store8 w b o v0 v1 v2 v3 v4 v5 v6 v7) :=
  ((((((((Ext.refl (fun k => k = b) w).setIn (p := ⟨b, o, none⟩) rfl v0).setIn (p := ⟨b, o + 1, none⟩) rfl v1).setIn (p := ⟨b, o + 2, none⟩) rfl v2).setIn (p := ⟨b, o + 3, none⟩) rfl v3).setIn (p := ⟨b, o + 4, none⟩) rfl v4).setIn (p := ⟨b, o + 5, none⟩) rfl v5).setIn (p := ⟨b, o + 6, none⟩) rfl v6).setIn (p := ⟨b, o + 7, none⟩) rfl v7
theorem store8_row {w : World} {b n : Nat} (hr : RowIn w b n) (o : Nat) (v0 v1 v2 v3 v4 v5 v6 v7 : Value) : RowIn (store8 w b o v0 v1 v2 v3 v4 v5 v6 v7) b n :=
  (((((((hr.setCell _ _).setCell _ _).setCell _ _).setCell _ _).setCell _ _).setCell _ _).setCell _ _).setCell _ _
theorem store8_cell {w : World} {b n o : Nat} (hr : RowIn w b n) (ho : o + 8 ≤ n) (v0 v1 v2 v3 v4 v5 v6 v7 : Value) (q : Nat) :
    (store8 w b o v0 v1 v2 v3 v4 v5 v6 v7).cell? ⟨b, q, none⟩ = if q = o then some v0 else if q = o + 1 then some v1 else if q = o + 2 then some v2 else if q = o + 3 then some v3 else if q = o + 4 then some v4 else if q = o + 5 then some v5 else if q = o + 6 then some v6 else if q = o + 7 then some v7 else w.cell? ⟨b, q, none⟩ := by
  unfold store8
  have h0 := hr
  have h1 := h0.setCell ⟨b, o, none⟩ v0
  have h2 := h1.setCell ⟨b, o + 1, none⟩ v1
  have h3 := h2.setCell ⟨b, o + 2, none⟩ v2
  have h4 := h3.setCell ⟨b, o + 3, none⟩ v3
  have h5 := h4.setCell ⟨b, o + 4, none⟩ v4
  have h6 := h5.setCell ⟨b, o + 5, none⟩ v5
  have h7 := h6.setCell ⟨b, o + 6, none⟩ v6
  obtain ⟨u0, e0⟩ := h0.2.1 o (by omega)
  obtain ⟨u1, e1⟩ := h1.2.1 (o + 1) (by omega)
  obtain ⟨u2, e2⟩ := h2.2.1 (o + 2) (by omega)
  obtain ⟨u3, e3⟩ := h3.2.1 (o + 3) (by omega)
  obtain ⟨u4, e4⟩ := h4.2.1 (o + 4) (by omega)
  obtain ⟨u5, e5⟩ := h5.2.1 (o + 5) (by omega)
  obtain ⟨u6, e6⟩ := h6.2.1 (o + 6) (by omega)
  obtain ⟨u7, e7⟩ := h7.2.1 (o + 7) (by omega)
  rw [cell_set e7, cell_set e6, cell_set e5, cell_set e4, cell_set e3, cell_set e2, cell_set e1, cell_set e0]
  simp only [Addr.mk.injEq, true_and, and_true]
  by_cases c0 : q = o
  · subst c0; simp
  by_cases c1 : q = o + 1
  · subst c1; simp
  by_cases c2 : q = o + 2
  · subst c2; simp
  by_cases c3 : q = o + 3
  · subst c3; simp
  by_cases c4 : q = o + 4
  · subst c4; simp
  by_cases c5 : q = o + 5
  · subst c5; simp
  by_cases c6 : q = o + 6
  · subst c6; simp
  by_cases c7 : q = o + 7
  · subst c7; simp
  simp [c0, c1, c2, c3, c4, c5, c6, c7]

/-- An operation lies in eight cells. -/
def OpAt (w : World) (S : Nat → Prop) (b o : Nat) (x : Opn) : Prop := ∃ pa pc fa fc na nc ka kc,
    w.cell? ⟨b, o, none⟩ = some (.int .i64 x.kind) ∧ w.cell? ⟨b, o + 1, none⟩ = some (.slice pa x.path.length pc) ∧ w.cell? ⟨b, o + 2, none⟩ = some (.slice fa x.frm.length fc) ∧
    w.cell? ⟨b, o + 3, none⟩ = some (.int .i64 x.val.kind) ∧ w.cell? ⟨b, o + 4, none⟩ = some (.int .i64 x.val.num) ∧ w.cell? ⟨b, o + 5, none⟩ = some (.string x.val.text) ∧
    w.cell? ⟨b, o + 6, none⟩ = some (.slice na x.val.names.length nc) ∧ w.cell? ⟨b, o + 7, none⟩ = some (.slice ka x.val.kids.length kc) ∧ OpC w S x pa pc fa fc na nc ka kc

theorem OpAt.keep {X S : Nat → Prop} {w w' : World} {b o : Nat} {x : Opn} (h : OpAt w S b o x) (he : Ext X w w') (hS : ∀ k, S k → ¬ X k) (hc : ∀ q, q < o + 8 → o ≤ q → w'.cell? ⟨b, q, none⟩ = w.cell? ⟨b, q, none⟩) : OpAt w' S b o x := by
  obtain ⟨pa, pc, fa, fc, na, nc, ka, kc, g0, g1, g2, g3, g4, g5, g6, g7, g⟩ := h
  exact ⟨pa, pc, fa, fc, na, nc, ka, kc, by rw [hc _ (by omega) (by omega)]; exact g0, by rw [hc _ (by omega) (by omega)]; exact g1, by rw [hc _ (by omega) (by omega)]; exact g2, by rw [hc _ (by omega) (by omega)]; exact g3,
    by rw [hc _ (by omega) (by omega)]; exact g4, by rw [hc _ (by omega) (by omega)]; exact g5, by rw [hc _ (by omega) (by omega)]; exact g6, by rw [hc _ (by omega) (by omega)]; exact g7, g.ext he hS⟩

theorem info_Op : (Try.prog.info? 93).map (fun i => (i.zero, i.size, i.bytes)) = some (some (.agg #[.int .i64 0, .slice none 0 0, .slice none 0 0, .int .i64 0, .int .i64 0, .string ⟨#[]⟩, .slice none 0 0, .slice none 0 0]), 8, 136) := by kernel_rfl

theorem costOs_get (l : List Opn) (k : Nat) (h : k < l.length) : costO l[k] ≤ sumO l := by
  have h1 := sumO_take l (k + 1)
  rw [take_snoc' _ _ h, sumO_snoc] at h1
  omega

set_option maxHeartbeats 2000000 in
theorem toOpS_ok (a : Option Addr) (c : Nat) (l : List Opn) (w : World) (hcost : costOs l ≤ 1048576) (hn : OpsR w any a c l) :
    Calls Try.prog 84 #[.slice a l.length c] w fun e w' => ∃ a' c', e = .returned (.slice a' l.length c') ∧ Grow w w' ∧ OpsR w' (upB w.heap.size) a' c' l := by
  rw [costOs_eq] at hcost
  have hb : l.length ≤ 1048576 := by omega
  have Hn := Lib.hid hn
  clear hn
  have hmk := run_mk (P := Try.prog) 72 93 _ 8 136 Try.underlying72 info_Op .i64 .i64 l.length (by omega) (by omega)
  go_enter Try.func84, Try.ntmps84
  go_wp2
  clear hmk
  go_loopw [4] (fun i wr => ∃ k : Nat, k ≤ l.length ∧ i = .int .i64 k ∧ Grow w wr ∧ RowIn wr w.heap.size (l.length * 8) ∧ ∀ j (h : j < l.length), j < k → OpAt wr (upB (w.heap.size + 1)) w.heap.size (j * 8) l[j]) (fun i _ => l.length - (intOf i).toNat)
  case atStart => exact ⟨0, Nat.zero_le _, rfl, (Ext.refl _ _).alloc _, RowIn.made _ _ _ _, fun j h h0 => absurd h0 (by omega)⟩
  case round =>
    obtain ⟨k, hk, rfl, hg, hrow, hkf⟩ := hrel
    have Hrow := Lib.hid hrow
    have Hkf := Lib.hid hkf
    clear hrow hkf
    by_cases hlt : k < l.length
    · obtain ⟨_, _, hks⟩ := (Hn.out).ext hg (fun _ _ h => h)
      rcases hks with hks | ⟨bk, ok, rfl, _, hkr⟩
      · simp [hks] at hlt
      obtain ⟨pa, pc, fa, fc, na, nc, ka, kc, c0, c1, c2, c3, c4, c5, c6, c7, hkc⟩ := hkr k hlt
      have Hkc : Hid (OpR wr any l[k] (opV l[k] pa pc fa fc na nc ka kc)) := Lib.hid ⟨pa, pc, fa, fc, na, nc, ka, kc, rfl, hkc⟩
      have hck := costOs_get l k hlt
      clear hkr hkc
      go_wp2_with fail
      refine (toOp_ok l[k] _ _ (by omega) Hkc.out).mono ?_
      rintro e w2 ⟨pa2, pc2, fa2, fc2, na2, nc2, ka2, kc2, rfl, hg2, hN⟩
      clear c0 c1 c2 c3 c4 c5 c6 c7
      have HN := Lib.hid hN
      have hrow2 := Hrow.out.ext hg2 (fun h => h)
      have hfz := hrow2.2.2
      obtain ⟨u0, d0⟩ := hrow2.2.1 (k * 8) (by omega)
      obtain ⟨u1, d1⟩ := hrow2.2.1 (k * 8 + 1) (by omega)
      obtain ⟨u2, d2⟩ := hrow2.2.1 (k * 8 + 2) (by omega)
      obtain ⟨u3, d3⟩ := hrow2.2.1 (k * 8 + 3) (by omega)
      obtain ⟨u4, d4⟩ := hrow2.2.1 (k * 8 + 4) (by omega)
      obtain ⟨u5, d5⟩ := hrow2.2.1 (k * 8 + 5) (by omega)
      obtain ⟨u6, d6⟩ := hrow2.2.1 (k * 8 + 6) (by omega)
      obtain ⟨u7, d7⟩ := hrow2.2.1 (k * 8 + 7) (by omega)
      have Hrow2 := Lib.hid hrow2
      clear hrow2 hN
      unfold opV
      go_wp2_with fail
      clear d0 d1 d2 d3 d4 d5 d6 d7 hfz
      go_roundw
      case rel =>
        refine ⟨k + 1, by omega, by go_num, Grow.inner (hg.trans hg2) (store8_ext w2 w.heap.size (k * 8) _ _ _ _ _ _ _ _) (by intro i hi; omega), store8_row Hrow2.out _ _ _ _ _ _ _ _ _, fun j h hj => ?_⟩
        have hcell := fun q => store8_cell Hrow2.out (o := k * 8) (by omega) (.int .i64 l[k].kind) (.slice pa2 l[k].path.length pc2) (.slice fa2 l[k].frm.length fc2) (.int .i64 l[k].val.kind) (.int .i64 l[k].val.num) (.string l[k].val.text) (.slice na2 l[k].val.names.length nc2) (.slice ka2 l[k].val.kids.length kc2) q
        have hext := store8_ext w2 w.heap.size (k * 8) (.int .i64 l[k].kind) (.slice pa2 l[k].path.length pc2) (.slice fa2 l[k].frm.length fc2) (.int .i64 l[k].val.kind) (.int .i64 l[k].val.num) (.string l[k].val.text) (.slice na2 l[k].val.names.length nc2) (.slice ka2 l[k].val.kids.length kc2)
        have hS : ∀ x, upB (w.heap.size + 1) x → ¬ x = w.heap.size := fun x hx => by unfold upB at hx; omega
        by_cases e : j = k
        · subst e
          have hu : ∀ x, upB wr.heap.size x → upB (w.heap.size + 1) x := fun x hx => by have := Hrow.out.1; unfold upB at *; omega
          refine ⟨pa2, pc2, fa2, fc2, na2, nc2, ka2, kc2, ?_, ?_, ?_, ?_, ?_, ?_, ?_, ?_, ?_⟩
          · refine (hcell _).trans ?_; rw [if_pos rfl]
          · refine (hcell _).trans ?_; rw [if_neg (by omega), if_pos rfl]
          · refine (hcell _).trans ?_; rw [if_neg (by omega), if_neg (by omega), if_pos rfl]
          · refine (hcell _).trans ?_; rw [if_neg (by omega), if_neg (by omega), if_neg (by omega), if_pos rfl]
          · refine (hcell _).trans ?_; rw [if_neg (by omega), if_neg (by omega), if_neg (by omega), if_neg (by omega), if_pos rfl]
          · refine (hcell _).trans ?_; rw [if_neg (by omega), if_neg (by omega), if_neg (by omega), if_neg (by omega), if_neg (by omega), if_pos rfl]
          · refine (hcell _).trans ?_; rw [if_neg (by omega), if_neg (by omega), if_neg (by omega), if_neg (by omega), if_neg (by omega), if_neg (by omega), if_pos rfl]
          · refine (hcell _).trans ?_; rw [if_neg (by omega), if_neg (by omega), if_neg (by omega), if_neg (by omega), if_neg (by omega), if_neg (by omega), if_neg (by omega), if_pos rfl]
          · exact OpC.ext hext hS (OpC.mono hu HN.out)
        · have h1 := (Hkf.out j h (by omega)).keep (X := nil) hg2 (fun _ _ h => h) (fun q _ _ => hg2.cell (p := ⟨w.heap.size, q, none⟩) Hrow.out.1 (fun h => h))
          exact h1.keep hext hS (fun q hq1 hq2 => by
            refine (hcell q).trans ?_
            rw [if_neg (by omega), if_neg (by omega), if_neg (by omega), if_neg (by omega), if_neg (by omega), if_neg (by omega), if_neg (by omega), if_neg (by omega)])
      case measure => simp [intOf]; omega
    · have hke : k = l.length := by omega
      subst hke
      go_wp2
      go_ret
      refine ⟨_, _, rfl, hg, Nat.le_refl _, Hn.out.2.1, ?_⟩
      by_cases hne : l = []
      · exact .inl hne
      · refine .inr ⟨_, 0, rfl, Nat.le_refl _, fun i hi => ?_⟩
        obtain ⟨pa, pc, fa, fc, na, nc, ka, kc, g⟩ := Hkf.out i hi hi
        rw [Nat.zero_add]
        obtain ⟨g0, g1, g2, g3, g4, g5, g6, g7, g⟩ := g
        exact ⟨pa, pc, fa, fc, na, nc, ka, kc, g0, g1, g2, g3, g4, g5, g6, g7, g.mono (fun x hx => by unfold upB at *; omega)⟩

end Go.Proofs.Ytchiakeceiefdaa
