/-
  The walk of measureNode and what hangs on it: the number of nodes, the depth, whether all parts are valid.
-/
import Derived.Test.YtchiakeceiefdaaLeaf
namespace Go.Proofs.Ytchiakeceiefdaa
open Go.RowKit

mutual
def Nd.count : Nd → Nat
  | ⟨_, _, _, _, kids⟩ => 1 + countL kids
def countL : List Nd → Nat
  | [] => 0
  | k :: ks => k.count + countL ks
end
mutual
def Nd.depth : Nd → Nat
  | ⟨_, _, _, _, kids⟩ => 1 + depthL kids
def depthL : List Nd → Nat
  | [] => 0
  | k :: ks => max k.depth (depthL ks)
end
mutual
def shapeB : Nd → Nat → Bool
  | ⟨kind, num, text, names, kids⟩, d => decide (0 < d) && partsB ⟨kind, num, text, names, kids⟩ && shapeL kids (d - 1)
def shapeL : List Nd → Nat → Bool
  | [], _ => true
  | k :: ks, d => shapeB k d && shapeL ks d
end

theorem Nd.count_eq (n : Nd) : n.count = 1 + countL n.kids := by cases n; simp [Nd.count]
theorem Nd.depth_eq (n : Nd) : n.depth = 1 + depthL n.kids := by cases n; simp [Nd.depth]
theorem shapeB_eq (n : Nd) (d : Nat) : shapeB n d = (decide (0 < d) && partsB n && shapeL n.kids (d - 1)) := by cases n; simp [shapeB]

theorem countL_snoc (l : List Nd) (x : Nd) : countL (l ++ [x]) = countL l + x.count := by
  induction l with
  | nil => simp [countL]
  | cons a l ih => simp [countL, ih]; omega
theorem depthL_snoc (l : List Nd) (x : Nd) : depthL (l ++ [x]) = max (depthL l) x.depth := by
  induction l with
  | nil => simp [depthL]
  | cons a l ih => simp only [List.cons_append, depthL, ih]; omega
theorem shapeL_snoc (l : List Nd) (x : Nd) (d : Nat) : shapeL (l ++ [x]) d = (shapeL l d && shapeB x d) := by
  induction l with
  | nil => simp [shapeL]
  | cons a l ih => simp [shapeL, ih, Bool.and_assoc]
theorem shapeL_all (l : List Nd) (d : Nat) : shapeL l d = l.all (fun k => shapeB k d) := by
  induction l with
  | nil => simp [shapeL]
  | cons a l ih => simp [shapeL, ih]

theorem partsB_kids {n : Nd} (h : partsB n = true) : n.kids.length ≤ 6 := by
  unfold partsB areNamesB at h
  simp only [Bool.and_eq_true] at h
  obtain ⟨_, h⟩ := h
  split at h
  · simp at h; simp [h]
  · split at h
    · simp at h; simp [h]
    · split at h
      · simp at h; simp [h]
      · split at h
        · simpa using h
        · split at h
          · simp at h; omega
          · simp at h

def cb : Nat → Nat
  | 0 => 0
  | d + 1 => 1 + 6 * cb d

theorem countL_le (l : List Nd) (c : Nat) (h : ∀ k ∈ l, k.count ≤ c) : countL l ≤ l.length * c := by
  induction l with
  | nil => simp [countL]
  | cons a l ih =>
    have h1 := h a (by simp)
    have h2 := ih (fun k hk => h k (by simp [hk]))
    simp [countL, Nat.succ_mul]; omega

theorem count_le : ∀ (d : Nat) (n : Nd), shapeB n d = true → n.count ≤ cb d
  | 0, n, h => by rw [shapeB_eq] at h; simp at h
  | d + 1, n, h => by
    rw [shapeB_eq] at h
    simp only [Bool.and_eq_true, Nat.add_sub_cancel, shapeL_all, List.all_eq_true] at h
    obtain ⟨⟨_, hp⟩, hk⟩ := h
    have h1 := partsB_kids hp
    have h2 := countL_le n.kids (cb d) (fun k hk' => count_le d k (hk k hk'))
    rw [Nd.count_eq, cb]
    have : n.kids.length * cb d ≤ 6 * cb d := Nat.mul_le_mul_right _ h1
    omega

theorem depth_le : ∀ (d : Nat) (n : Nd), shapeB n d = true → n.depth ≤ d
  | 0, n, h => by rw [shapeB_eq] at h; simp at h
  | d + 1, n, h => by
    rw [shapeB_eq] at h
    simp only [Bool.and_eq_true, Nat.add_sub_cancel, shapeL_all, List.all_eq_true] at h
    obtain ⟨⟨_, hp⟩, hk⟩ := h
    have : ∀ l : List Nd, (∀ k ∈ l, k.depth ≤ d) → depthL l ≤ d := by
      intro l
      induction l with
      | nil => simp [depthL]
      | cons a l ih => intro h; have h1 := h a (by simp); have h2 := ih (fun k hk => h k (by simp [hk])); simp only [depthL]; omega
    have := this n.kids (fun k hk' => depth_le d k (hk k hk'))
    rw [Nd.depth_eq]; omega

theorem cb_le (d : Nat) (h : d ≤ 5) : cb d ≤ 1555 := by
  match d, h with
  | 0, _ => simp [cb]
  | 1, _ => simp [cb]
  | 2, _ => simp [cb]
  | 3, _ => simp [cb]
  | 4, _ => simp [cb]
  | 5, _ => simp [cb]

def measV (n : Nd) (d : Nat) : Value :=
  if shapeB n d then .tuple #[.int .i64 n.count, .int .i64 n.depth, .bool true] else .tuple #[.int .i64 0, .int .i64 0, .bool false]

def MeasureOk (n : Nd) : Prop := ∀ (d : Nat) (level : Int) (v : Value) (w : World), d ≤ 5 → level = 6 - (d : Int) → NodeR w any n v →
    Calls Try.prog 61 #[v, .int .i64 level] w fun e w' => e = .returned (measV n d) ∧ Grow w w'


theorem shapeL_get {l : List Nd} {d : Nat} {k : Nat} (hk : k < l.length) (h : shapeB l[k] d = false) : shapeL l d = false := by
  rw [shapeL_all, List.all_eq_false]
  exact ⟨l[k], List.getElem_mem hk, by simp [h]⟩

theorem measV_no {n : Nd} {d : Nat} (h : shapeB n d = false) : measV n d = .tuple #[.int .i64 0, .int .i64 0, .bool false] := by simp [measV, h]
theorem measV_yes {n : Nd} {d : Nat} (h : shapeB n d = true) : measV n d = .tuple #[.int .i64 n.count, .int .i64 n.depth, .bool true] := by simp [measV, h]

set_option maxHeartbeats 1000000 in
theorem measureNode_ok : ∀ n, MeasureOk n := by
  refine Nd.ind' MeasureOk ?_
  intro n ih d level v w hd hlev hn
  have hl1 : 1 ≤ level := by omega
  have hl2 : level ≤ 6 := by omega
  have Hlev := Lib.hid hlev
  have Hn := Lib.hid hn
  have Ih := Lib.hid ih
  have Hd := Lib.hid hd
  clear ih hlev hd
  obtain ⟨na, nc, ka, kc, rfl, hc⟩ := hn
  obtain ⟨htx, hns, hks⟩ := hc.parts
  have hkl : n.kids.length ≤ 9223372036854775807 := hks.2.1
  have Hks := Lib.hid hks
  clear htx hns hc hks
  unfold nodeV at *
  by_cases hd0 : d = 0
  · have : 5 < level := by have := Hlev.out; omega
    have Hf := Lib.hid (measV_no (n := n) (d := d) (by rw [shapeB_eq]; simp [hd0]))
    clear hd0
    go_enter Try.func61, Try.ntmps61
    go_wp2_with fail
    go_ret3
    exact ⟨by simp [Hf.out], (Ext.refl _ _).alloc _⟩
  · have h5 : level ≤ 5 := by have := Hlev.out; omega
    clear hl2
    cases hp : partsB n
    · have Hf := Lib.hid (measV_no (n := n) (d := d) (by rw [shapeB_eq]; simp [hp]))
      go_enter Try.func61, Try.ntmps61
      go_wp2_with (go_at_call 116; refine (hasValidParts_ok n _ _ any ((Hn.out).ext ((Ext.refl nil w).alloc _) (fun _ _ h => h))).mono ?_; rintro e w' ⟨rfl, hg⟩)
      go_ret3
      exact ⟨by simp [Hf.out], ((Ext.refl _ _).alloc _).trans hg⟩
    · obtain ⟨d, rfl⟩ : ∃ d', d = d' + 1 := ⟨d - 1, by omega⟩
      have hk6 := partsB_kids hp
      have Hp := Lib.hid hp
      clear hkl hd0
      go_enter Try.func61, Try.ntmps61
      go_wp2_with (go_at_call 116; refine (hasValidParts_ok n _ _ any ((Hn.out).ext ((Ext.refl nil w).alloc _) (fun _ _ h => h))).mono ?_; rintro e w1 ⟨rfl, hg⟩; simp only [hp]; have hcc := bcell hg)
      have hg0 : Grow w w1 := ((Ext.refl _ _).alloc _).trans hg
      clear hg hcc
      go_loopw [4, 5, 6, 22] (fun t4 t5 t6 i wr => t6 = .bool false ∧ Grow w wr ∧ ∃ k : Nat, k ≤ n.kids.length ∧ i = .int .i64 k ∧ t4 = .int .i64 ((1 + countL (n.kids.take k) : Nat) : Int) ∧ t5 = .int .i64 ((1 + depthL (n.kids.take k) : Nat) : Int) ∧ shapeL (n.kids.take k) d = true) (fun _ _ _ i _ => n.kids.length - (intOf i).toNat)
      case atStart => exact ⟨rfl, hg0, 0, Nat.zero_le _, rfl, by simp [countL], by simp [depthL], by simp [shapeL]⟩
      case round =>
        obtain ⟨rfl, hgr, k, hk, rfl, rfl, rfl, hs⟩ := hrel
        by_cases hlt : k < n.kids.length
        · obtain ⟨_, _, hks⟩ := (Hks.out).ext hgr (fun _ _ h => h)
          rcases hks with hks | ⟨bk, ok, rfl, _, hkr⟩
          · simp [hks] at hlt
          obtain ⟨na', nc', ka', kc', c0, c1, c2, c3, c4, hkc⟩ := hkr.get k hlt
          have Hkc : Hid (NodeR wr any n.kids[k] (nodeV n.kids[k] na' nc' ka' kc')) := Lib.hid ⟨_, _, _, _, rfl, hkc⟩
          have Hkr := Lib.hid hkr
          have Hs := Lib.hid hs
          clear hkr hs hkc
          have hb1 : countL (n.kids.take k) ≤ 10000 := by
            have := countL_le (n.kids.take k) 1555 (fun x hx => by
              have hx' := Hs.out
              rw [shapeL_all, List.all_eq_true] at hx'
              exact Nat.le_trans (count_le d x (hx' x hx)) (cb_le d (by have := Hd.out; omega)))
            have h2 : (n.kids.take k).length ≤ 6 := by simp; omega
            have : (n.kids.take k).length * 1555 ≤ 6 * 1555 := Nat.mul_le_mul_right _ h2
            omega
          have hb2 : depthL (n.kids.take k) ≤ 10000 := by
            have : ∀ l : List Nd, shapeL l d = true → depthL l ≤ d := by
              intro l
              induction l with
              | nil => simp [depthL]
              | cons a l ih => intro h; simp only [shapeL, Bool.and_eq_true] at h; have h1 := depth_le d a h.1; have h2 := ih h.2; simp only [depthL]; omega
            have := this _ Hs.out
            have := Hd.out
            omega
          cases hsk : shapeB n.kids[k] d
          · have Hf := Lib.hid (measV_no hsk)
            have Hff : Hid (measV n (d + 1) = .tuple #[.int .i64 0, .int .i64 0, .bool false]) := Lib.hid (measV_no (by rw [shapeB_eq]; simp [shapeL_get hlt hsk]))
            clear hsk
            go_wp2_with (go_at_call 61; refine (Ih.out _ (List.getElem_mem hlt) d _ _ _ (by have := Hd.out; omega) (by have := Hlev.out; omega) ((Hkc.out).ext ((Ext.refl nil wr).alloc _) (fun _ _ h => h))).mono ?_; rintro e w2 ⟨rfl, hg2⟩; simp only [Hf.out])
            go_ret3
            exact ⟨by simp [Hff.out], (hgr.alloc _).trans hg2⟩
          · have Hf := Lib.hid (measV_yes hsk)
            have hb3 : n.kids[k].count ≤ 10000 := Nat.le_trans (count_le d _ hsk) (Nat.le_trans (cb_le d (by have := Hd.out; omega)) (by omega))
            have hb4 : n.kids[k].depth ≤ 10000 := Nat.le_trans (depth_le d _ hsk) (by have := Hd.out; omega)
            have Hsk := Lib.hid hsk
            clear hsk
            go_wp2_with (go_at_call 61; refine (Ih.out _ (List.getElem_mem hlt) d _ _ _ (by have := Hd.out; omega) (by have := Hlev.out; omega) ((Hkc.out).ext ((Ext.refl nil wr).alloc _) (fun _ _ h => h))).mono ?_; rintro e w2 ⟨rfl, hg2⟩; simp only [Hf.out])
            go_roundw
            case rel => exact ⟨rfl, (hgr.alloc _).trans hg2, k + 1, by omega, by go_num, by rw [take_snoc' _ _ hlt, countL_snoc]; go_num, by rw [take_snoc' _ _ hlt, depthL_snoc]; go_num, by rw [take_snoc' _ _ hlt, shapeL_snoc, Hs.out, Hsk.out]; rfl⟩
            case measure => simp [intOf]; omega
        · have hke : k = n.kids.length := by omega
          have Hff : Hid (measV n (d + 1) = .tuple #[.int .i64 n.count, .int .i64 n.depth, .bool true]) := Lib.hid (measV_yes (by
            rw [hke, List.take_length] at hs
            rw [shapeB_eq]; simp [hs, Hp.out]))
          have Hke := Lib.hid hke
          clear hke hs
          go_wp2
          go_ret3
          exact ⟨by rw [Hff.out, Hke.out]; simp [Nd.count_eq, Nd.depth_eq], hgr⟩
end Go.Proofs.Ytchiakeceiefdaa
