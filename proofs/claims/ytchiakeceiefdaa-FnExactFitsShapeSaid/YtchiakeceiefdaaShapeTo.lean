/-
  The walks of the laws' copies of shapes.
-/
import Derived.Test.YtchiakeceiefdaaShapeLaw
namespace Go.Proofs.Ytchiakeceiefdaa
open Go.RowKit

theorem info_bool : (Try.prog.info? 4).map (fun i => (i.zero, i.size, i.bytes)) = some (some (.bool false), 1, 1) := by kernel_rfl
theorem info_Shape : (Try.prog.info? 27).map (fun i => (i.zero, i.size, i.bytes)) = some (some (.agg #[.int .i64 0, .slice none 0 0, .slice none 0 0, .slice none 0 0]), 4, 80) := by kernel_rfl

set_option maxHeartbeats 400000 in
theorem toBoolS_ok (a : Option Addr) (c : Nat) (xs : List Bool) (w : World) (ha : BoolsR w any a c xs) (hb : xs.length ≤ 1048576) :
    Calls Try.prog 76 #[.slice a xs.length c] w fun e w' => ∃ a' c' fp, e = .returned (.slice a' xs.length c') ∧ Grow w w' ∧ BoolsF w' a' c' xs fp ∧ Free w.heap.size w' fp := by
  have Ha := Lib.hid ha
  clear ha
  have hmk := run_mk (P := Try.prog) 24 4 _ 1 1 Try.underlying24 info_bool .i64 .i64 xs.length (by omega) (by omega)
  go_enter Try.func76, Try.ntmps76
  go_wp2
  clear hmk
  go_loopw [4] (fun i wr => ∃ k : Nat, k ≤ xs.length ∧ i = .int .i64 k ∧ Grow w wr ∧ RowIn wr w.heap.size xs.length ∧ ∀ j (h : j < xs.length), j < k → wr.cell? ⟨w.heap.size, j, none⟩ = some (.bool xs[j])) (fun i _ => xs.length - (intOf i).toNat)
  case atStart => exact ⟨0, Nat.zero_le _, rfl, (Ext.refl _ _).alloc _, by simpa using RowIn.made w _ xs.length _, fun j h h0 => absurd h0 (by omega)⟩
  case round =>
    obtain ⟨k, hk, rfl, hg, hrow, hc⟩ := hrel
    by_cases hlt : k < xs.length
    · obtain ⟨_, _, ha4⟩ := (Ha.out).ext hg (fun _ _ h => h)
      rcases ha4 with rfl | ⟨ba, oa, rfl, _, hca⟩
      · simp at hlt
      have hx := hca k hlt
      obtain ⟨u, hu⟩ := hrow.2.1 k hlt
      have hfk := hrow.2.2 k
      have Hrow := Lib.hid hrow
      have Hc := Lib.hid hc
      have Hu := Lib.hid hu
      clear hca hrow hc
      obtain ⟨z, hz⟩ : ∃ z, z = xs[k] := ⟨_, rfl⟩
      rw [← hz] at hx
      have Hz := Lib.hid hz
      clear hz
      go_wp2
      go_roundw
      case rel =>
        refine ⟨k + 1, by omega, by go_num, hg.setNew (by simp) _, Hrow.out.setCell _ _, fun j h hj => ?_⟩
        rw [cell_set Hu.out]
        by_cases e : j = k
        · subst e; rw [if_pos rfl, Hz.out]
        · rw [if_neg (by intro h'; cases h'; exact e rfl)]; exact Hc.out j h (by omega)
      case measure => simp [intOf]; omega
    · have Ha' := (Ha.out).ext hg (fun _ _ h => h)
      have Hrow := Lib.hid hrow
      have Hc := Lib.hid hc
      clear hrow hc
      go_wp2
      go_ret
      by_cases hne : xs = []
      · subst hne
        exact ⟨_, _, [], rfl, hg, ⟨Nat.le_refl _, by simp, .inl ⟨rfl, rfl⟩⟩, Free.nil _ _⟩
      · exact ⟨_, _, [w.heap.size], rfl, hg, ⟨Nat.le_refl _, Ha'.2.1, .inr ⟨_, 0, hne, rfl, rfl, fun j h => by rw [Nat.zero_add]; exact Hc.out j h (by omega)⟩⟩, Free.one Hrow.out (Nat.le_refl _)⟩

def ToPOk (n : Shp) : Prop := ∀ (v : Value) (w : World), costP n ≤ 1048576 → ShapeR w any n v →
    Calls Try.prog 27 #[v] w fun e w' => ∃ v' fp, e = .returned v' ∧ Grow w w' ∧ ShapeO w' n v' fp ∧ Free w.heap.size w' fp

set_option maxHeartbeats 2000000 in
theorem toShape_of (n : Shp) (hk : ∀ (a : Option Addr) (c : Nat) (w : World), ShpLR w any a c n.kids →
      Calls Try.prog 77 #[.slice a n.kids.length c] w fun e w' => ∃ a' c' fp, e = .returned (.slice a' n.kids.length c') ∧ Grow w w' ∧ ShpLF w' a' c' n.kids fp ∧ Free w.heap.size w' fp) : ToPOk n := by
  intro v w hcost hn
  rw [costP_eq] at hcost
  have Hk := Lib.hid hk
  clear hk
  obtain ⟨na, nc, ba, bc, ka, kc, rfl, hc⟩ := hn
  obtain ⟨hns, hbs, hks⟩ := hc.parts'
  have Hns := Lib.hid hns
  have Hks := Lib.hid hks
  have Hbs := Lib.hid hbs
  clear hns hks hc hbs
  unfold shapeV at *
  go_enter Try.func27, Try.ntmps27
  go_wp2_with fail
  refine (toStringS_ok _ _ n.names _ (Hns.out.grow (by repeat (first | with_reducible exact Ext.refl _ _ | with_reducible refine Ext.trans ?_ (by assumption) | with_reducible refine Ext.drew ?_ | with_reducible refine Ext.drewN ?_ _ | with_reducible refine Ext.alloc ?_ _ | with_reducible refine Ext.setNew ?_ (by simp; done) _ | with_reducible refine Ext.setNew ?_ (by simp; omega) _))) ?_).mono ?_
  · have : n.names.length ≤ costS n.names := by simp [costS]
    omega
  rintro e w1 ⟨a1, c1, f1, rfl, hg1, hF1, hf1⟩
  have B0 := (((BoxN.new w (shapeL' n na nc ba bc ka kc) 56).grow ((Ext.refl nil _).alloc _)).grow ((Ext.refl nil _).alloc _)).grow hg1
  have B1 := ((BoxN.new1 w _ [.int .i64 0, .slice none 0 0, .slice none 0 0, .slice none 0 0] 27).grow ((Ext.refl nil _).alloc _)).grow hg1
  have B2 := (BoxN.new2 w _ _ [.int .i64 n.kind, .slice none 0 0, .slice none 0 0, .slice none 0 0] 27).grow hg1
  have hg1' : Grow w w1 := (by repeat (first | with_reducible exact Ext.refl _ _ | with_reducible refine Ext.trans ?_ (by assumption) | with_reducible refine Ext.drew ?_ | with_reducible refine Ext.drewN ?_ _ | with_reducible refine Ext.alloc ?_ _ | with_reducible refine Ext.setNew ?_ (by simp; done) _ | with_reducible refine Ext.setNew ?_ (by simp; omega) _))
  simp only [World.size_alloc] at hf1
  have HB0 := Lib.hid B0
  have HB1 := Lib.hid B1
  have HB2 := Lib.hid B2
  have p2 := B0.cell 2 _ rfl
  have p3 := B0.cell 3 _ rfl
  have q1 := B2.cell 1 _ rfl
  have qf := B2.fr
  have z1 : w.heap.size + 1 + 1 < w1.heap.size := B2.lt
  have HF1 := Lib.hid hF1
  have Hf1 := Lib.hid hf1
  clear hg1 hF1 hf1 B0 B1 B2
  go_wp2_with fail
  refine (toBoolS_ok _ _ n.needs _ (Hbs.out.grow (hg1'.setNew (by simp; omega) _)) (by omega)).mono ?_
  rintro e w2 ⟨a2, c2, f2, rfl, hg2, hF2, hf2⟩
  have B0 := (HB0.out.other (p := ⟨w.heap.size + 1 + 1, 1, none⟩) (by simp; omega) (.slice a1 n.names.length c1)).grow hg2
  have B1 := (HB1.out.other (p := ⟨w.heap.size + 1 + 1, 1, none⟩) (by simp) (.slice a1 n.names.length c1)).grow hg2
  have B2 := (HB2.out.set 1 (by simp) (.slice a1 n.names.length c1)).grow hg2
  have e12 : Ext (fun k => k = w.heap.size + 1 ∨ k = w.heap.size + 1 + 1) w1 w2 := Ext.trans (Ext.setIn (X := fun k => k = w.heap.size + 1 ∨ k = w.heap.size + 1 + 1) (Ext.refl _ w1) (p := ⟨w.heap.size + 1 + 1, 1, none⟩) (.inr rfl) (.slice a1 n.names.length c1)) (hg2.mono (fun _ h => False.elim h))
  have hg2' : Grow w w2 := hg1'.inner e12 (by intro i hi; omega)
  rw [size_setCell] at hf2
  clear p2 p3 q1 qf HB0 HB1 HB2
  have HB0 := Lib.hid B0
  have HB1 := Lib.hid B1
  have HB2 := Lib.hid B2
  have p3 := B0.cell 3 _ rfl
  have q2 := B2.cell 2 _ rfl
  have qf := B2.fr
  have z2 : w.heap.size + 1 + 1 < w2.heap.size := B2.lt
  have HF2 := Lib.hid hF2
  have Hf2 := Lib.hid hf2
  have E12 := Lib.hid e12
  clear hF2 hf2 B0 B1 B2 hg2 e12
  go_wp2_with fail
  refine (Hk.out _ _ _ (Hks.out.grow (hg2'.setNew (by simp; omega) _))).mono ?_
  rintro e w3 ⟨a3, c3, f3, rfl, hg3, hF3, hf3⟩
  have B1 := (HB1.out.other (p := ⟨w.heap.size + 1 + 1, 2, none⟩) (by simp) (.slice a2 n.needs.length c2)).grow hg3
  have B2 := (HB2.out.set 2 (by simp) (.slice a2 n.needs.length c2)).grow hg3
  have e23 : Ext (fun k => k = w.heap.size + 1 ∨ k = w.heap.size + 1 + 1) w2 w3 := Ext.trans (Ext.setIn (X := fun k => k = w.heap.size + 1 ∨ k = w.heap.size + 1 + 1) (Ext.refl _ w2) (p := ⟨w.heap.size + 1 + 1, 2, none⟩) (.inr rfl) (.slice a2 n.needs.length c2)) (hg3.mono (fun _ h => False.elim h))
  have hg3' : Grow w w3 := hg2'.inner e23 (by intro i hi; omega)
  rw [size_setCell] at hf3
  clear p3 q2 qf HB0 HB1 HB2
  have HB1 := Lib.hid B1
  have HB2 := Lib.hid B2
  have q0 := B2.cell 0 _ rfl
  have q1 := B2.cell 1 _ rfl
  have q2 := B2.cell 2 _ rfl
  have q3 := B2.cell 3 _ rfl
  have qf := B2.fr
  have p0 := B1.cell 0 _ rfl
  have p1 := B1.cell 1 _ rfl
  have p2 := B1.cell 2 _ rfl
  have p3 := B1.cell 3 _ rfl
  have pf := B1.fr
  have HF3 := Lib.hid hF3
  have Hf3 := Lib.hid hf3
  have E23 := Lib.hid e23
  clear hF3 hf3 B1 B2 hg3 e23
  go_wp2_with fail
  have BF := ((((HB1.out.other (p := ⟨w.heap.size + 1 + 1, 3, none⟩) (by simp) (.slice a3 n.kids.length c3)).set 0 (by simp) (.int .i64 n.kind)).set 1 (by simp) (.slice a1 n.names.length c1)).set 2 (by simp) (.slice a2 n.needs.length c2)).set 3 (by simp) (.slice a3 n.kids.length c3)
  have x1 : ∀ b ∈ f1, ¬ (b = w.heap.size + 1 ∨ b = w.heap.size + 1 + 1) := fun b hb => by have := (Hf1.out.2 b hb).1; omega
  have x2 : ∀ b ∈ f2, ¬ (b = w.heap.size + 1 ∨ b = w.heap.size + 1 + 1) := fun b hb => by have := (Hf2.out.2 b hb).1; omega
  have x3 : ∀ b ∈ f3, ¬ (b = w.heap.size + 1 ∨ b = w.heap.size + 1 + 1) := fun b hb => by have := (Hf3.out.2 b hb).1; omega
  have fin : ∀ W, Ext (fun k => k = w.heap.size + 1 ∨ k = w.heap.size + 1 + 1) w3 W → ∃ v' fp, Ending.returned (shapeV n a1 c1 a2 c2 a3 c3) = Ending.returned v' ∧ Grow w W ∧ ShapeO W n v' fp ∧ Free w.heap.size W fp := by
    intro W hW
    have e13 := E12.out.trans (E23.out.trans hW)
    have e2W := E23.out.trans hW
    have F1 := Hf1.out.ext e13 x1
    have F2 := Hf2.out.ext e2W x2
    have F3 := Hf3.out.ext hW x3
    refine ⟨_, f1 ++ f2 ++ f3, rfl, hg3'.inner hW (by intro i hi; omega), ⟨_, _, _, _, _, _, rfl, ShapeF.mk (HF1.out.keep (e13.keeps Hf1.out x1)) (HF2.out.keep (e2W.keeps Hf2.out x2)) (?_)⟩, ?_⟩
    · obtain ⟨g1, g2, g3⟩ := HF3.out
      refine ⟨g1, g2, g3.imp id ?_⟩
      rintro ⟨b, o, f, hne, he, hfe, hs⟩
      have kk := hW.keeps Hf3.out x3
      exact ⟨b, o, f, hne, he, hfe, hs.keep (fun x hx => kk x (by rw [hfe]; simp [hx])) (fun o' _ _ => kk b (by rw [hfe]; simp) o')⟩
    · refine ⟨?_, fun b hb => ?_⟩
      · refine List.nodup_append.2 ⟨List.nodup_append.2 ⟨F1.1, F2.1, fun a ha b hb e => ?_⟩, F3.1, fun a ha b hb e => ?_⟩
        · subst e
          have := (Hf1.out.2 a ha).2.1
          have := (Hf2.out.2 a hb).1
          omega
        · subst e
          have h3 := (Hf3.out.2 a hb).1
          rcases List.mem_append.1 ha with h | h
          · have := (Hf1.out.2 a h).2.1; have := E12.out.size; omega
          · have := (Hf2.out.2 a h).2.1; omega
      · rcases List.mem_append.1 hb with h | h
        · rcases List.mem_append.1 h with h | h
          · exact ⟨by have := (Hf1.out.2 b h).1; omega, (F1.2 b h).2⟩
          · exact ⟨by have := (Hf2.out.2 b h).1; omega, (F2.2 b h).2⟩
        · exact ⟨by have := (Hf3.out.2 b h).1; omega, (F3.2 b h).2⟩
  have r0 := BF.cell 0 _ rfl
  have r1 := BF.cell 1 _ rfl
  have r2 := BF.cell 2 _ rfl
  have r3 := BF.cell 3 _ rfl
  refine bodyPost_ret (v := shapeV n a1 c1 a2 c2 a3 c3) ?_ rfl ?_
  · simp [results, Try.results27, go_sem, shapeV, r0, r1, r2, r3]
  · refine fin _ ?_
    exact (by repeat (first | with_reducible exact Ext.refl _ _ | with_reducible refine Ext.setIn ?_ (by simp) _ | with_reducible refine Ext.trans ?_ (Ext.mono (by assumption) (fun _ h => False.elim h))))

theorem store4_eq (w : World) (b o : Nat) (v0 v1 v2 v3 : Value) : (((w.setCell ⟨b, o, none⟩ v0).setCell ⟨b, o + 1, none⟩ v1).setCell ⟨b, o + 2, none⟩ v2).setCell ⟨b, o + 3, none⟩ v3 = storeL w b o [v0, v1, v2, v3] := rfl

set_option maxHeartbeats 1000000 in
theorem toShapeS_of (l : List Shp) (ih : ∀ k ∈ l, ToPOk k) (a : Option Addr) (c : Nat) (w : World) (hcost : costPL l ≤ 1048576) (hn : ShpLR w any a c l) :
    Calls Try.prog 77 #[.slice a l.length c] w fun e w' => ∃ a' c' fp, e = .returned (.slice a' l.length c') ∧ Grow w w' ∧ ShpLF w' a' c' l fp ∧ Free w.heap.size w' fp := by
  have hb : l.length ≤ 1048576 := Nat.le_trans (costPL_len l) hcost
  have Ih := Lib.hid ih
  have Hn := Lib.hid hn
  clear ih hn
  have hmk := run_mk (P := Try.prog) 25 27 _ 4 80 Try.underlying25 info_Shape .i64 .i64 l.length (by omega) (by omega)
  go_enter Try.func77, Try.ntmps77
  go_wp2
  clear hmk
  go_loopw [4] (fun i wr => ∃ (k : Nat) (fp : List Nat), k ≤ l.length ∧ i = .int .i64 k ∧ Grow w wr ∧ RowIn wr w.heap.size (l.length * 4) ∧ ShpsF wr w.heap.size 0 (l.take k) fp ∧ Free (w.heap.size + 1) wr fp) (fun i _ => l.length - (intOf i).toNat)
  case atStart => exact ⟨0, [], Nat.zero_le _, rfl, (Ext.refl _ _).alloc _, RowIn.made _ _ _ _, by simp [ShpsF], Free.nil _ _⟩
  case round =>
    obtain ⟨k, fp, hk, rfl, hg, hrow, hkf, hfr⟩ := hrel
    have Hrow := Lib.hid hrow
    have Hkf := Lib.hid hkf
    have Hfr := Lib.hid hfr
    clear hrow hkf hfr
    by_cases hlt : k < l.length
    · obtain ⟨_, _, hks⟩ := (Hn.out).grow hg
      rcases hks with hks | ⟨bk, ok, rfl, _, hkr⟩
      · simp [hks] at hlt
      obtain ⟨na', nc', ba', bc', ka', kc', c0, c1, c2, c3, hkc⟩ := hkr.get k hlt
      have Hkc : Hid (ShapeR wr any l[k] (shapeV l[k] na' nc' ba' bc' ka' kc')) := Lib.hid ⟨_, _, _, _, _, _, rfl, hkc⟩
      have hck := costPL_get l k hlt
      clear hkr hkc
      go_wp2_with fail
      refine (Ih.out _ (List.getElem_mem hlt) _ _ (by omega) Hkc.out).mono ?_
      rintro e w2 ⟨v', f', rfl, hg2, hN, hf'⟩
      clear c0 c1 c2 c3
      obtain ⟨na2, nc2, ba2, bc2, ka2, kc2, rfl, hN⟩ := hN
      have hrow2 := Hrow.out.ext hg2 (fun h => h)
      have hfz := hrow2.2.2
      obtain ⟨u0, d0⟩ := hrow2.2.1 (k * 4) (by omega)
      obtain ⟨u1, d1⟩ := hrow2.2.1 (k * 4 + 1) (by omega)
      obtain ⟨u2, d2⟩ := hrow2.2.1 (k * 4 + 2) (by omega)
      obtain ⟨u3, d3⟩ := hrow2.2.1 (k * 4 + 3) (by omega)
      have Hrow2 := Lib.hid hrow2
      clear hrow2
      unfold shapeV
      go_wp2_with fail
      clear d0 d1 d2 d3 hfz
      have hl : (l.take k).length = k := by simp; omega
      have hbf : w.heap.size ∉ fp := fun h => by have := (Hfr.out.2 _ h).1; omega
      have hbf' : w.heap.size ∉ f' := fun h => by have := (hf'.2 _ h).1; have := Hrow.out.1; omega
      have hfr2 := Hfr.out.ext hg2 (fun _ _ h => h)
      have hkf2 := Hkf.out.keep (hg2.keeps Hfr.out (fun _ _ h => h)) (fun o' _ ho => hg2.cell (p := ⟨w.heap.size, o', none⟩) Hrow.out.1 (fun h => h))
      have hlay := ShpsF.lay Hrow2.out hkf2 hN (by rw [hl]; omega) hbf hbf'
      rw [hl] at hlay
      have hfr3 := Free.append Hfr.out hf' hg2 (Nat.le_refl _) (by have := Hrow.out.1; omega)
      go_roundw
      case rel =>
        rw [store4_eq]
        exact ⟨k + 1, fp ++ f', by omega, by go_num, Grow.inner (hg.trans hg2) (storeL_ext w.heap.size (shapeL' l[k] na2 nc2 ba2 bc2 ka2 kc2) w2 (k * 4)) (by intro i hi; omega), storeL_row _ _ _ Hrow2.out, by rw [take_snoc' _ _ hlt]; exact hlay, storeL_free _ _ _ hfr3⟩
      case measure => simp [intOf]; omega
    · have hke : k = l.length := by omega
      subst hke
      go_wp2
      go_ret
      rw [List.take_length] at Hkf
      by_cases hne : l = []
      · subst hne
        exact ⟨_, _, [], rfl, hg, ⟨Nat.le_refl _, by simp, .inl ⟨rfl, rfl⟩⟩, Free.nil _ _⟩
      · exact ⟨_, _, w.heap.size :: fp, rfl, hg, ⟨Nat.le_refl _, Hn.out.2.1, .inr ⟨_, 0, fp, hne, rfl, rfl, Hkf.out⟩⟩, Free.cons Hrow.out (Nat.le_refl _) Hfr.out⟩

theorem toShape_ok : ∀ n, ToPOk n := by
  refine Shp.ind' ToPOk ?_
  intro n ih
  intro v w hcost hn
  have hk : costPL n.kids ≤ 1048576 := by rw [costP_eq] at hcost; omega
  exact toShape_of n (fun a c w h => toShapeS_of n.kids ih a c w hk h) v w hcost hn

end Go.Proofs.Ytchiakeceiefdaa
