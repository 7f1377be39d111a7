/-
  The walks of the laws' own helpers on texts and nodes: sizes, copies.
-/
import Derived.Test.YtchiakeceiefdaaOwn
import Derived.Test.YtchiakeceiefdaaLeaf
namespace Go.Proofs.Ytchiakeceiefdaa
open Go.RowKit

def costS (xs : List ByteArray) : Nat := xs.length + (xs.map (·.size)).sum
mutual
def costN : Nd → Nat
  | ⟨_, _, text, names, kids⟩ => text.size + costS names + costL kids
def costL : List Nd → Nat
  | [] => 0
  | k :: ks => 1 + costN k + costL ks
end
theorem costN_eq (n : Nd) : costN n = n.text.size + costS n.names + costL n.kids := by cases n; simp [costN]
theorem costL_len (l : List Nd) : l.length ≤ costL l := by
  induction l with
  | nil => simp
  | cons a l ih => simp [costL]; omega
theorem costL_get (l : List Nd) (k : Nat) (h : k < l.length) : costN l[k] ≤ costL l := by
  induction l generalizing k with
  | nil => simp at h
  | cons a l ih => cases k with
    | zero => simp [costL]; omega
    | succ k => have := ih k (by simpa using h); simp [costL]; omega

theorem run_mk {P : Program} (t e : TypeId) (z : Value) (size bytes : Nat) (ht : P.underlying t = some (.slice e)) (hinfo : (P.info? e).map (fun i => (i.zero, i.size, i.bytes)) = some (some z, size, bytes))
    (kl kc : IntKind) (n : Nat) (hbytes : bytes * n ≤ 281474976710656) (h63 : n ≤ 9223372036854775807) (w : World) :
    (Instr.makeSlice t (.int kl (n : Int)) (.int kc (n : Int))).run P w = .ok (.slice (some ⟨w.heap.size, 0, none⟩) n n) (w.alloc (.cells (madeCells z.cells (n * size)) e)) := by
  obtain ⟨i, hi, hzz⟩ := Option.map_eq_some_iff.1 hinfo
  simp only [Prod.mk.injEq] at hzz
  obtain ⟨hz, hs, hb⟩ := hzz
  have hb' : (i.bytes : Int) * (n : Int) ≤ 281474976710656 := by
    have h : ((i.bytes * n : Nat) : Int) ≤ 281474976710656 := by rw [hb]; omega
    rwa [Int.natCast_mul] at h
  have hr := run_make (P := P) w t e i z ht hi hz kl kc n n (by omega) (Int.le_refl _) hb' (by omega)
  simp only [Int.toNat_natCast, hs] at hr
  exact hr

theorem info_string : (Try.prog.info? 9).map (fun i => (i.zero, i.size, i.bytes)) = some (some (.string ⟨#[]⟩), 1, 16) := by kernel_rfl
theorem info_Node : (Try.prog.info? 30).map (fun i => (i.zero, i.size, i.bytes)) = some (some (.agg #[.int .i64 0, .int .i64 0, .string ⟨#[]⟩, .slice none 0 0, .slice none 0 0]), 5, 80) := by kernel_rfl

set_option maxHeartbeats 400000 in
theorem toStringS_ok (a : Option Addr) (c : Nat) (xs : List ByteArray) (w : World) (ha : StrsR w any a c xs) (hb : xs.length ≤ 1048576) :
    Calls Try.prog 75 #[.slice a xs.length c] w fun e w' => ∃ a' c' fp, e = .returned (.slice a' xs.length c') ∧ Grow w w' ∧ StrsF w' a' c' xs fp ∧ Free w.heap.size w' fp := by
  have Ha := Lib.hid ha
  clear ha
  have hmk := run_mk (P := Try.prog) 23 9 _ 1 16 Try.underlying23 info_string .i64 .i64 xs.length (by omega) (by omega)
  go_enter Try.func75, Try.ntmps75
  go_wp2
  clear hmk
  go_loopw [4] (fun i wr => ∃ k : Nat, k ≤ xs.length ∧ i = .int .i64 k ∧ Grow w wr ∧ RowIn wr w.heap.size xs.length ∧ ∀ j (h : j < xs.length), j < k → wr.cell? ⟨w.heap.size, j, none⟩ = some (.string xs[j])) (fun i _ => xs.length - (intOf i).toNat)
  case atStart => exact ⟨0, Nat.zero_le _, rfl, (Ext.refl _ _).alloc _, RowIn.made _ _ _ _, fun j h h0 => absurd h0 (by omega)⟩
  case round =>
    obtain ⟨k, hk, rfl, hg, hrow, hc⟩ := hrel
    by_cases hlt : k < xs.length
    · obtain ⟨_, _, hxs, ha4⟩ := (Ha.out).ext hg (fun _ _ h => h)
      rcases ha4 with rfl | ⟨ba, oa, rfl, _, hca⟩
      · simp at hlt
      have hx := hca k hlt
      obtain ⟨u, hu⟩ := hrow.2.1 k hlt
      have hfk := hrow.2.2 k
      have Hrow := Lib.hid hrow
      have Hc := Lib.hid hc
      have Hu := Lib.hid hu
      clear hca hrow hc
      go_wp2
      go_roundw
      case rel =>
        refine ⟨k + 1, by omega, by go_num, hg.setNew (by simp) _, Hrow.out.setCell _ _, fun j h hj => ?_⟩
        rw [cell_set Hu.out]
        by_cases e : j = k
        · subst e; simp
        · rw [if_neg (by intro h'; cases h'; exact e rfl)]; exact Hc.out j h (by omega)
      case measure => simp [intOf]; omega
    · have Ha' := (Ha.out).ext hg (fun _ _ h => h)
      have Hrow := Lib.hid hrow
      have Hc := Lib.hid hc
      clear hrow hc
      go_wp2
      go_ret
      by_cases hne : xs = []
      · subst hne
        exact ⟨_, _, [], rfl, hg, ⟨Nat.le_refl _, by simp, by simp, .inl ⟨rfl, rfl⟩⟩, Free.nil _ _⟩
      · exact ⟨_, _, [w.heap.size], rfl, hg, ⟨Nat.le_refl _, Ha'.2.1, Ha'.2.2.1, .inr ⟨_, 0, hne, rfl, rfl, fun j h => by rw [Nat.zero_add]; exact Hc.out j h (by omega)⟩⟩, Free.one Hrow.out (Nat.le_refl _)⟩

def ToOk (n : Nd) : Prop := ∀ (v : Value) (w : World), costN n ≤ 1048576 → NodeR w any n v →
    Calls Try.prog 28 #[v] w fun e w' => ∃ v' fp, e = .returned v' ∧ Grow w w' ∧ NodeO w' n v' fp ∧ Free w.heap.size w' fp

theorem bfroz {w w' : World} (hg : Grow w w') : (∀ b o, b < w.heap.size → w'.frozen? ⟨b, o, none⟩ = w.frozen? ⟨b, o, none⟩) := fun b o h => hg.frozen (p := ⟨b, o, none⟩) h (fun h => h)

set_option maxHeartbeats 400000 in
theorem toNode_of (n : Nd) (hk : ∀ (a : Option Addr) (c : Nat) (w : World), NodesR w any a c n.kids →
      Calls Try.prog 78 #[.slice a n.kids.length c] w fun e w' => ∃ a' c' fp, e = .returned (.slice a' n.kids.length c') ∧ Grow w w' ∧ NodesF w' a' c' n.kids fp ∧ Free w.heap.size w' fp) : ToOk n := by
  intro v w hcost hn
  rw [costN_eq] at hcost
  have Hk := Lib.hid hk
  have Hn := Lib.hid hn
  clear hk
  obtain ⟨na, nc, ka, kc, rfl, hc⟩ := hn
  obtain ⟨htx, hns, hks⟩ := hc.parts
  have Hns := Lib.hid hns
  have Hks := Lib.hid hks
  have Htx := Lib.hid htx
  clear hns hks hc htx
  unfold nodeV at *
  go_enter Try.func28, Try.ntmps28
  go_wp2_with fail
  refine (toStringS_ok _ _ n.names _ (Hns.out.grow (by repeat (first | with_reducible exact Ext.refl _ _ | with_reducible refine Ext.trans ?_ (by assumption) | with_reducible refine Ext.drew ?_ | with_reducible refine Ext.drewN ?_ _ | with_reducible refine Ext.alloc ?_ _ | with_reducible refine Ext.setNew ?_ (by simp; done) _ | with_reducible refine Ext.setNew ?_ (by simp; omega) _))) ?_).mono ?_
  · have : n.names.length ≤ costS n.names := by simp [costS]
    omega
  rintro e w1 ⟨a1, c1, f1, rfl, hg1, hF1, hf1⟩
  have B1 := ((Box5.new (w.alloc _) _ _ _ _ _ _).grow ((Ext.refl nil _).alloc _)).grow hg1
  have B2 := (Box5.new ((w.alloc _).alloc _) _ _ _ _ _ _).grow hg1
  have B0 := (((Box5.new w _ _ _ _ _ _).grow ((Ext.refl nil _).alloc _)).grow ((Ext.refl nil _).alloc _)).grow hg1
  simp only [World.size_alloc] at B0 B1 B2
  have hg1' : Grow w w1 := (by repeat (first | with_reducible exact Ext.refl _ _ | with_reducible refine Ext.trans ?_ (by assumption) | with_reducible refine Ext.drew ?_ | with_reducible refine Ext.drewN ?_ _ | with_reducible refine Ext.alloc ?_ _ | with_reducible refine Ext.setNew ?_ (by simp; done) _ | with_reducible refine Ext.setNew ?_ (by simp; omega) _))
  have hz : w.heap.size + 1 + 1 < w1.heap.size := B2.lt
  have HB0 := Lib.hid B0
  have HB1 := Lib.hid B1
  have HB2 := Lib.hid B2
  obtain ⟨p0, p1, p2, p3, p4, pf, pl⟩ := B0
  obtain ⟨q0, q1, q2, q3, q4, qf, ql⟩ := B2
  clear hg1
  go_wp2_with fail
  refine (Hk.out _ _ _ (Hks.out.ext (hg1'.setNew (by simp; omega) _) (fun _ _ h => h))).mono ?_
  rintro e w2 ⟨a2, c2, f2, rfl, hg2, hF2, hf2⟩
  have B1 := (HB1.out.other (p := ⟨w.heap.size + 1 + 1, 3, none⟩) (by simp) (.slice a1 n.names.length c1)).grow hg2
  have B2 := (HB2.out.set3 (.slice a1 n.names.length c1)).grow hg2
  have HB2 := Lib.hid B2
  have HB1 := Lib.hid B1
  clear p0 p1 p2 p3 p4 pf pl q0 q1 q2 q3 q4 qf ql
  obtain ⟨p0, p1, p2, p3, p4, pf, pl⟩ := B1
  obtain ⟨q0, q1, q2, q3, q4, qf, ql⟩ := B2
  go_wp2_with fail
  have BF := (((((HB1.out.other (p := ⟨w.heap.size + 1 + 1, 4, none⟩) (by simp) (.slice a2 n.kids.length c2)).set0 (.int .i64 n.kind)).set1 (.int .i64 n.num)).set2 (.string n.text)).set3 (.slice a1 n.names.length c1)).set4 (.slice a2 n.kids.length c2)
  simp only [World.size_alloc] at hf1
  rw [size_setCell] at hf2
  have x1 : ∀ b ∈ f1, ¬ (b = w.heap.size + 1 ∨ b = w.heap.size + 1 + 1) := fun b hb => by have := (hf1.2 b hb).1; omega
  have x2 : ∀ b ∈ f2, ¬ (b = w.heap.size + 1 ∨ b = w.heap.size + 1 + 1) := fun b hb => by have := (hf2.2 b hb).1; have := hg1'.size; omega
  have fin : ∀ W, Ext (fun k => k = w.heap.size + 1 ∨ k = w.heap.size + 1 + 1) w2 W → ∃ v' fp, Ending.returned (nodeV n a1 c1 a2 c2) = Ending.returned v' ∧ Grow w W ∧ NodeO W n v' fp ∧ Free w.heap.size W fp := by
    intro W hW
    have e12 : Ext (fun k => k = w.heap.size + 1 ∨ k = w.heap.size + 1 + 1) w1 w2 := Ext.trans (Ext.setIn (X := fun k => k = w.heap.size + 1 ∨ k = w.heap.size + 1 + 1) (Ext.refl _ w1) (p := ⟨w.heap.size + 1 + 1, 3, none⟩) (.inr rfl) (.slice a1 n.names.length c1)) (hg2.mono (fun _ h => False.elim h))
    have e1W := e12.trans hW
    have k1 := e1W.keeps hf1 x1
    have k2 := hW.keeps hf2 x2
    have F1 := hf1.ext e1W x1
    have F2 := hf2.ext hW x2
    refine ⟨_, f1 ++ f2, rfl, hg1'.inner e1W (by intro i hi; omega), ⟨_, _, _, _, rfl, NodeF.mk Htx.out (hF1.keep k1) (hF2.keep k2)⟩, ?_⟩
    refine ⟨List.nodup_append.2 ⟨F1.1, F2.1, fun a ha b hb e => ?_⟩, fun b hb => ?_⟩
    · subst e
      have := (hf1.2 a ha).2.1
      have := (hf2.2 a hb).1
      omega
    · rcases List.mem_append.1 hb with h | h
      · exact ⟨by have := (hf1.2 b h).1; omega, (F1.2 b h).2⟩
      · exact ⟨by have := (hf2.2 b h).1; have := hg1'.size; omega, (F2.2 b h).2⟩
  obtain ⟨r0, r1, r2, r3, r4, _, _⟩ := BF
  refine bodyPost_ret (v := nodeV n a1 c1 a2 c2) ?_ rfl ?_
  · simp [results, Try.results28, go_sem, nodeV, r0, r1, r2, r3, r4]
  · refine fin _ ?_
    exact (by repeat (first | with_reducible exact Ext.refl _ _ | with_reducible refine Ext.setIn ?_ (by simp) _ | with_reducible refine Ext.trans ?_ (Ext.mono (by assumption) (fun _ h => False.elim h))))

theorem info_Node' : Try.prog.underlying 28 = some (.slice 30) := Try.underlying28

set_option maxHeartbeats 400000 in
theorem toNodeS_of (l : List Nd) (ih : ∀ k ∈ l, ToOk k) (a : Option Addr) (c : Nat) (w : World) (hcost : costL l ≤ 1048576) (hn : NodesR w any a c l) :
    Calls Try.prog 78 #[.slice a l.length c] w fun e w' => ∃ a' c' fp, e = .returned (.slice a' l.length c') ∧ Grow w w' ∧ NodesF w' a' c' l fp ∧ Free w.heap.size w' fp := by
  have hb : l.length ≤ 1048576 := Nat.le_trans (costL_len l) hcost
  have Ih := Lib.hid ih
  have Hn := Lib.hid hn
  clear ih hn
  have hmk := run_mk (P := Try.prog) 28 30 _ 5 80 Try.underlying28 info_Node .i64 .i64 l.length (by omega) (by omega)
  go_enter Try.func78, Try.ntmps78
  go_wp2
  clear hmk
  go_loopw [4] (fun i wr => ∃ (k : Nat) (fp : List Nat), k ≤ l.length ∧ i = .int .i64 k ∧ Grow w wr ∧ RowIn wr w.heap.size (l.length * 5) ∧ KidsF wr w.heap.size 0 (l.take k) fp ∧ Free (w.heap.size + 1) wr fp) (fun i _ => l.length - (intOf i).toNat)
  case atStart => exact ⟨0, [], Nat.zero_le _, rfl, (Ext.refl _ _).alloc _, RowIn.made _ _ _ _, by simp [KidsF], Free.nil _ _⟩
  case round =>
    obtain ⟨k, fp, hk, rfl, hg, hrow, hkf, hfr⟩ := hrel
    have Hrow := Lib.hid hrow
    have Hkf := Lib.hid hkf
    have Hfr := Lib.hid hfr
    clear hrow hkf hfr
    by_cases hlt : k < l.length
    · obtain ⟨_, _, hks⟩ := (Hn.out).ext hg (fun _ _ h => h)
      rcases hks with hks | ⟨bk, ok, rfl, _, hkr⟩
      · simp [hks] at hlt
      obtain ⟨na', nc', ka', kc', c0, c1, c2, c3, c4, hkc⟩ := hkr.get k hlt
      have Hkc : Hid (NodeR wr any l[k] (nodeV l[k] na' nc' ka' kc')) := Lib.hid ⟨_, _, _, _, rfl, hkc⟩
      have hck := costL_get l k hlt
      clear hkr hkc
      go_wp2_with fail
      refine (Ih.out _ (List.getElem_mem hlt) _ _ (by omega) Hkc.out).mono ?_
      rintro e w2 ⟨v', f', rfl, hg2, hN, hf'⟩
      clear c0 c1 c2 c3 c4
      obtain ⟨na2, nc2, ka2, kc2, rfl, hN⟩ := hN
      have hrow2 := Hrow.out.ext hg2 (fun h => h)
      have hfz := hrow2.2.2
      obtain ⟨u0, d0⟩ := hrow2.2.1 (k * 5) (by omega)
      obtain ⟨u1, d1⟩ := hrow2.2.1 (k * 5 + 1) (by omega)
      obtain ⟨u2, d2⟩ := hrow2.2.1 (k * 5 + 2) (by omega)
      obtain ⟨u3, d3⟩ := hrow2.2.1 (k * 5 + 3) (by omega)
      obtain ⟨u4, d4⟩ := hrow2.2.1 (k * 5 + 4) (by omega)
      have Hrow2 := Lib.hid hrow2
      clear hrow2
      unfold nodeV
      go_wp2_with fail
      clear d0 d1 d2 d3 d4 hfz
      have hl : (l.take k).length = k := by simp; omega
      have hbf : w.heap.size ∉ fp := fun h => by have := (Hfr.out.2 _ h).1; omega
      have hbf' : w.heap.size ∉ f' := fun h => by have := (hf'.2 _ h).1; have := Hrow.out.1; omega
      have hfr2 := Hfr.out.ext hg2 (fun _ _ h => h)
      have hkf2 := Hkf.out.keep (hg2.keeps Hfr.out (fun _ _ h => h)) (fun o' _ ho => hg2.cell (p := ⟨w.heap.size, o', none⟩) Hrow.out.1 (fun h => h))
      have hlay := KidsF.lay Hrow2.out hkf2 hN (by rw [hl]; omega) hbf hbf'
      rw [hl] at hlay
      have hfr3 := Free.append Hfr.out hf' hg2 (Nat.le_refl _) (by have := Hrow.out.1; omega)
      go_roundw
      case rel => exact ⟨k + 1, fp ++ f', by omega, by go_num, Grow.inner (hg.trans hg2) (store5_ext w2 w.heap.size (k * 5) _ _ _ _ _) (by intro i hi; omega), store5_row Hrow2.out _ _ _ _ _ _, by rw [take_snoc' _ _ hlt]; exact hlay, store5_free hfr3 _ _ _ _ _ _ _⟩
      case measure => simp [intOf]; omega
    · have hke : k = l.length := by omega
      subst hke
      go_wp2
      go_ret
      rw [List.take_length] at Hkf
      by_cases hne : l = []
      · subst hne
        exact ⟨_, _, [], rfl, hg, ⟨Nat.le_refl _, by simp, .inl ⟨rfl, rfl⟩⟩, Free.nil _ _⟩
      · exact ⟨_, _, w.heap.size :: fp, rfl, hg, ⟨Nat.le_refl _, Hn.out.2.1, .inr ⟨_, 0, fp, hne, rfl, rfl, Hkf.out⟩⟩, Free.cons Hrow.out (Nat.le_refl _) Hfr.out⟩

theorem toNode_ok : ∀ n, ToOk n := by
  refine Nd.ind' ToOk ?_
  intro n ih
  intro v w hcost hn
  have hk : costL n.kids ≤ 1048576 := by rw [costN_eq] at hcost; omega
  exact toNode_of n (fun a c w h => toNodeS_of n.kids ih a c w hk h) v w hcost hn

theorem toNodeS_ok (l : List Nd) (a : Option Addr) (c : Nat) (w : World) (hcost : costL l ≤ 1048576) (hn : NodesR w any a c l) :
    Calls Try.prog 78 #[.slice a l.length c] w fun e w' => ∃ a' c' fp, e = .returned (.slice a' l.length c') ∧ Grow w w' ∧ NodesF w' a' c' l fp ∧ Free w.heap.size w' fp :=
  toNodeS_of l (fun k _ => toNode_ok k) a c w hcost hn

end Go.Proofs.Ytchiakeceiefdaa
