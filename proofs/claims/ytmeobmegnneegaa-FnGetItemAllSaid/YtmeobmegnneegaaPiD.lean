/-
  Texts of this claim, joined: Measure, NameIn, Decimal, EPlace, ECopy, ESlot, EAdd, EOf, EGen, ERand, ERandM.
-/
import Derived.Laws.IdiomStrings
import Derived.Test.YtmeobmegnneegaaPiC

set_option linter.unusedSimpArgs false
set_option linter.unusedVariables false

/-
  The walk of measureNode and what hangs on it: the number of nodes, the depth, whether all parts are valid.
-/
namespace Go.Proofs.Ytmeobmegnneegaa
open Go.RowKit

mutual
def Nd.count : Nd → Nat
  | ⟨_, _, _, _, kids⟩ => 1 + countL kids
def countL : List Nd → Nat
  | [] => 0
  | k :: ks => k.count + countL ks
end
mutual
def Nd.depth : Nd → Nat
  | ⟨_, _, _, _, kids⟩ => 1 + depthL kids
def depthL : List Nd → Nat
  | [] => 0
  | k :: ks => max k.depth (depthL ks)
end
mutual
def shapeB : Nd → Nat → Bool
  | ⟨kind, num, text, names, kids⟩, d => decide (0 < d) && partsB ⟨kind, num, text, names, kids⟩ && shapeL kids (d - 1)
def shapeL : List Nd → Nat → Bool
  | [], _ => true
  | k :: ks, d => shapeB k d && shapeL ks d
end

theorem Nd.count_eq (n : Nd) : n.count = 1 + countL n.kids := by cases n; simp [Nd.count]
theorem Nd.depth_eq (n : Nd) : n.depth = 1 + depthL n.kids := by cases n; simp [Nd.depth]
theorem shapeB_eq (n : Nd) (d : Nat) : shapeB n d = (decide (0 < d) && partsB n && shapeL n.kids (d - 1)) := by cases n; simp [shapeB]

theorem countL_snoc (l : List Nd) (x : Nd) : countL (l ++ [x]) = countL l + x.count := by
  induction l with
  | nil => simp [countL]
  | cons a l ih => simp [countL, ih]; omega
theorem depthL_snoc (l : List Nd) (x : Nd) : depthL (l ++ [x]) = max (depthL l) x.depth := by
  induction l with
  | nil => simp [depthL]
  | cons a l ih => simp only [List.cons_append, depthL, ih]; omega
theorem shapeL_snoc (l : List Nd) (x : Nd) (d : Nat) : shapeL (l ++ [x]) d = (shapeL l d && shapeB x d) := by
  induction l with
  | nil => simp [shapeL]
  | cons a l ih => simp [shapeL, ih, Bool.and_assoc]
theorem shapeL_all (l : List Nd) (d : Nat) : shapeL l d = l.all (fun k => shapeB k d) := by
  induction l with
  | nil => simp [shapeL]
  | cons a l ih => simp [shapeL, ih]

theorem partsB_kids {n : Nd} (h : partsB n = true) : n.kids.length ≤ 6 := by
  unfold partsB areNamesB at h
  simp only [Bool.and_eq_true] at h
  obtain ⟨_, h⟩ := h
  split at h
  · simp at h; simp [h]
  · split at h
    · simp at h; simp [h]
    · split at h
      · simp at h; simp [h]
      · split at h
        · simpa using h
        · split at h
          · simp at h; omega
          · simp at h

def cb : Nat → Nat
  | 0 => 0
  | d + 1 => 1 + 6 * cb d

theorem countL_le (l : List Nd) (c : Nat) (h : ∀ k ∈ l, k.count ≤ c) : countL l ≤ l.length * c := by
  induction l with
  | nil => simp [countL]
  | cons a l ih =>
    have h1 := h a (by simp)
    have h2 := ih (fun k hk => h k (by simp [hk]))
    simp [countL, Nat.succ_mul]; omega

theorem count_le : ∀ (d : Nat) (n : Nd), shapeB n d = true → n.count ≤ cb d
  | 0, n, h => by rw [shapeB_eq] at h; simp at h
  | d + 1, n, h => by
    rw [shapeB_eq] at h
    simp only [Bool.and_eq_true, Nat.add_sub_cancel, shapeL_all, List.all_eq_true] at h
    obtain ⟨⟨_, hp⟩, hk⟩ := h
    have h1 := partsB_kids hp
    have h2 := countL_le n.kids (cb d) (fun k hk' => count_le d k (hk k hk'))
    rw [Nd.count_eq, cb]
    have : n.kids.length * cb d ≤ 6 * cb d := Nat.mul_le_mul_right _ h1
    omega

theorem depth_le : ∀ (d : Nat) (n : Nd), shapeB n d = true → n.depth ≤ d
  | 0, n, h => by rw [shapeB_eq] at h; simp at h
  | d + 1, n, h => by
    rw [shapeB_eq] at h
    simp only [Bool.and_eq_true, Nat.add_sub_cancel, shapeL_all, List.all_eq_true] at h
    obtain ⟨⟨_, hp⟩, hk⟩ := h
    have : ∀ l : List Nd, (∀ k ∈ l, k.depth ≤ d) → depthL l ≤ d := by
      intro l
      induction l with
      | nil => simp [depthL]
      | cons a l ih => intro h; have h1 := h a (by simp); have h2 := ih (fun k hk => h k (by simp [hk])); simp only [depthL]; omega
    have := this n.kids (fun k hk' => depth_le d k (hk k hk'))
    rw [Nd.depth_eq]; omega

theorem cb_le (d : Nat) (h : d ≤ 5) : cb d ≤ 1555 := by
  match d, h with
  | 0, _ => simp [cb]
  | 1, _ => simp [cb]
  | 2, _ => simp [cb]
  | 3, _ => simp [cb]
  | 4, _ => simp [cb]
  | 5, _ => simp [cb]

def measV (n : Nd) (d : Nat) : Value :=
  if shapeB n d then .tuple #[.int .i64 n.count, .int .i64 n.depth, .bool true] else .tuple #[.int .i64 0, .int .i64 0, .bool false]

def MeasureOk (n : Nd) : Prop := ∀ (d : Nat) (level : Int) (v : Value) (w : World), d ≤ 5 → level = 6 - (d : Int) → NodeR w any n v →
    Calls Try.prog 115 #[v, .int .i64 level] w fun e w' => e = .returned (measV n d) ∧ Grow w w'


theorem shapeL_get {l : List Nd} {d : Nat} {k : Nat} (hk : k < l.length) (h : shapeB l[k] d = false) : shapeL l d = false := by
  rw [shapeL_all, List.all_eq_false]
  exact ⟨l[k], List.getElem_mem hk, by simp [h]⟩

theorem measV_no {n : Nd} {d : Nat} (h : shapeB n d = false) : measV n d = .tuple #[.int .i64 0, .int .i64 0, .bool false] := by simp [measV, h]
theorem measV_yes {n : Nd} {d : Nat} (h : shapeB n d = true) : measV n d = .tuple #[.int .i64 n.count, .int .i64 n.depth, .bool true] := by simp [measV, h]

set_option maxHeartbeats 1000000 in
theorem measureNode_ok : ∀ n, MeasureOk n := by
  refine Nd.ind' MeasureOk ?_
  intro n ih d level v w hd hlev hn
  have hl1 : 1 ≤ level := by omega
  have hl2 : level ≤ 6 := by omega
  have Hlev := Lib.hid hlev
  have Hn := Lib.hid hn
  have Ih := Lib.hid ih
  have Hd := Lib.hid hd
  clear ih hlev hd
  obtain ⟨na, nc, ka, kc, rfl, hc⟩ := hn
  obtain ⟨htx, hns, hks⟩ := hc.parts
  have hkl : n.kids.length ≤ 9223372036854775807 := hks.2.1
  have Hks := Lib.hid hks
  clear htx hns hc hks
  unfold nodeV at *
  by_cases hd0 : d = 0
  · have : 5 < level := by have := Hlev.out; omega
    have Hf := Lib.hid (measV_no (n := n) (d := d) (by rw [shapeB_eq]; simp [hd0]))
    clear hd0
    go_enter Try.func115, Try.ntmps115
    go_wp2_with fail
    go_ret3
    exact ⟨by simp [Hf.out], (Ext.refl _ _).alloc _⟩
  · have h5 : level ≤ 5 := by have := Hlev.out; omega
    clear hl2
    cases hp : partsB n
    · have Hf := Lib.hid (measV_no (n := n) (d := d) (by rw [shapeB_eq]; simp [hp]))
      go_enter Try.func115, Try.ntmps115
      go_wp2_with (go_at_call 130; refine (hasValidParts_ok n _ _ any ((Hn.out).ext ((Ext.refl nil w).alloc _) (fun _ _ h => h))).mono ?_; rintro e w' ⟨rfl, hg⟩)
      go_ret3
      exact ⟨by simp [Hf.out], ((Ext.refl _ _).alloc _).trans hg⟩
    · obtain ⟨d, rfl⟩ : ∃ d', d = d' + 1 := ⟨d - 1, by omega⟩
      have hk6 := partsB_kids hp
      have Hp := Lib.hid hp
      clear hkl hd0
      go_enter Try.func115, Try.ntmps115
      go_wp2_with (go_at_call 130; refine (hasValidParts_ok n _ _ any ((Hn.out).ext ((Ext.refl nil w).alloc _) (fun _ _ h => h))).mono ?_; rintro e w1 ⟨rfl, hg⟩; simp only [hp]; have hcc := bcell hg)
      have hg0 : Grow w w1 := ((Ext.refl _ _).alloc _).trans hg
      clear hg hcc
      go_loopw [4, 5, 6, 22] (fun t4 t5 t6 i wr => t6 = .bool false ∧ Grow w wr ∧ ∃ k : Nat, k ≤ n.kids.length ∧ i = .int .i64 k ∧ t4 = .int .i64 ((1 + countL (n.kids.take k) : Nat) : Int) ∧ t5 = .int .i64 ((1 + depthL (n.kids.take k) : Nat) : Int) ∧ shapeL (n.kids.take k) d = true) (fun _ _ _ i _ => n.kids.length - (intOf i).toNat)
      case atStart => exact ⟨rfl, hg0, 0, Nat.zero_le _, rfl, by simp [countL], by simp [depthL], by simp [shapeL]⟩
      case round =>
        obtain ⟨rfl, hgr, k, hk, rfl, rfl, rfl, hs⟩ := hrel
        by_cases hlt : k < n.kids.length
        · obtain ⟨_, _, hks⟩ := (Hks.out).ext hgr (fun _ _ h => h)
          rcases hks with hks | ⟨bk, ok, rfl, _, hkr⟩
          · simp [hks] at hlt
          obtain ⟨na', nc', ka', kc', c0, c1, c2, c3, c4, hkc⟩ := hkr.get k hlt
          have Hkc : Hid (NodeR wr any n.kids[k] (nodeV n.kids[k] na' nc' ka' kc')) := Lib.hid ⟨_, _, _, _, rfl, hkc⟩
          have Hkr := Lib.hid hkr
          have Hs := Lib.hid hs
          clear hkr hs hkc
          have hb1 : countL (n.kids.take k) ≤ 10000 := by
            have := countL_le (n.kids.take k) 1555 (fun x hx => by
              have hx' := Hs.out
              rw [shapeL_all, List.all_eq_true] at hx'
              exact Nat.le_trans (count_le d x (hx' x hx)) (cb_le d (by have := Hd.out; omega)))
            have h2 : (n.kids.take k).length ≤ 6 := by simp; omega
            have : (n.kids.take k).length * 1555 ≤ 6 * 1555 := Nat.mul_le_mul_right _ h2
            omega
          have hb2 : depthL (n.kids.take k) ≤ 10000 := by
            have : ∀ l : List Nd, shapeL l d = true → depthL l ≤ d := by
              intro l
              induction l with
              | nil => simp [depthL]
              | cons a l ih => intro h; simp only [shapeL, Bool.and_eq_true] at h; have h1 := depth_le d a h.1; have h2 := ih h.2; simp only [depthL]; omega
            have := this _ Hs.out
            have := Hd.out
            omega
          cases hsk : shapeB n.kids[k] d
          · have Hf := Lib.hid (measV_no hsk)
            have Hff : Hid (measV n (d + 1) = .tuple #[.int .i64 0, .int .i64 0, .bool false]) := Lib.hid (measV_no (by rw [shapeB_eq]; simp [shapeL_get hlt hsk]))
            clear hsk
            go_wp2_with (go_at_call 115; refine (Ih.out _ (List.getElem_mem hlt) d _ _ _ (by have := Hd.out; omega) (by have := Hlev.out; omega) ((Hkc.out).ext ((Ext.refl nil wr).alloc _) (fun _ _ h => h))).mono ?_; rintro e w2 ⟨rfl, hg2⟩; simp only [Hf.out])
            go_ret3
            exact ⟨by simp [Hff.out], (hgr.alloc _).trans hg2⟩
          · have Hf := Lib.hid (measV_yes hsk)
            have hb3 : n.kids[k].count ≤ 10000 := Nat.le_trans (count_le d _ hsk) (Nat.le_trans (cb_le d (by have := Hd.out; omega)) (by omega))
            have hb4 : n.kids[k].depth ≤ 10000 := Nat.le_trans (depth_le d _ hsk) (by have := Hd.out; omega)
            have Hsk := Lib.hid hsk
            clear hsk
            go_wp2_with (go_at_call 115; refine (Ih.out _ (List.getElem_mem hlt) d _ _ _ (by have := Hd.out; omega) (by have := Hlev.out; omega) ((Hkc.out).ext ((Ext.refl nil wr).alloc _) (fun _ _ h => h))).mono ?_; rintro e w2 ⟨rfl, hg2⟩; simp only [Hf.out])
            go_roundw
            case rel => exact ⟨rfl, (hgr.alloc _).trans hg2, k + 1, by omega, by go_num, by rw [take_snoc' _ _ hlt, countL_snoc]; go_num, by rw [take_snoc' _ _ hlt, depthL_snoc]; go_num, by rw [take_snoc' _ _ hlt, shapeL_snoc, Hs.out, Hsk.out]; rfl⟩
            case measure => simp [intOf]; omega
        · have hke : k = n.kids.length := by omega
          have Hff : Hid (measV n (d + 1) = .tuple #[.int .i64 n.count, .int .i64 n.depth, .bool true]) := Lib.hid (measV_yes (by
            rw [hke, List.take_length] at hs
            rw [shapeB_eq]; simp [hs, Hp.out]))
          have Hke := Lib.hid hke
          clear hke hs
          go_wp2
          go_ret3
          exact ⟨by rw [Hff.out, Hke.out]; simp [Nd.count_eq, Nd.depth_eq], hgr⟩
end Go.Proofs.Ytmeobmegnneegaa

/-
  The walk of impl.nameIn.
-/
namespace Go.Proofs.Ytmeobmegnneegaa
open Go.RowKit

def Nd.zero : Nd := ⟨0, 0, ⟨#[]⟩, [], []⟩
theorem lb_lt {xs : List ByteArray} {s : ByteArray} (ha : Asc xs) (h : mem xs s = true) : ∃ h : lbound xs s < xs.length, xs[lbound xs s] = s := by
  obtain ⟨i, hi, rfl⟩ := List.getElem_of_mem (mem_iff.1 h)
  have : lbound xs xs[i] = i := by
    refine lb_of (Nat.le_of_lt hi) (fun t ht hti => ha t i ht hi hti) (fun t ht hti => ?_)
    rcases Nat.eq_or_lt_of_le hti with rfl | h'
    · exact lt_irr _
    · exact bl_asymm _ _ (ha i t hi ht h')
  exact ⟨by rw [this]; exact hi, by simp only [this]⟩

def kidOf (n : Nd) (s : ByteArray) : Nd := if mem n.names s then n.kids[lbound n.names s]?.getD Nd.zero else Nd.zero

theorem kidOf_no {n : Nd} {s : ByteArray} (h : mem n.names s = false) : kidOf n s = Nd.zero := by simp [kidOf, h]
theorem kidOf_yes {n : Nd} {s : ByteArray} (h : mem n.names s = true) (hl : lbound n.names s < n.kids.length) : kidOf n s = n.kids[lbound n.names s] := by simp [kidOf, h, hl]
theorem kidOf_mem {n : Nd} {s : ByteArray} (ha : Asc n.names) (hl : n.names.length ≤ n.kids.length) (h : mem n.names s = true) : kidOf n s ∈ n.kids := by
  obtain ⟨h1, _⟩ := lb_lt ha h
  rw [kidOf_yes h (by omega)]
  exact List.getElem_mem _

end Go.Proofs.Ytmeobmegnneegaa

/-
  The walk of spec.decimal at one digit, and of spec.place.
-/
namespace Go.Proofs.Ytmeobmegnneegaa
open Go.RowKit

def txt (l : List UInt8) : ByteArray := ⟨l.toArray⟩
def dig1 (k : Nat) : List UInt8 := [48 + k.toUInt8]

theorem conv1 (k : Nat) (hk : k < 10) (w : World) : (convert 46 9 (.slice (some ⟨w.heap.size, 0, none⟩) 1 1)).run Try.prog (w.alloc (.cells #[.int .u8 (48 + (k : Int))] 5)) =
    .ok (.string (txt (dig1 k))) (w.alloc (.cells #[.int .u8 (48 + (k : Int))] 5)) := by
  refine run_convert_bytes_back (P := Try.prog) _ 46 9 5 ⟨w.heap.size, 0, none⟩ 1 (dig1 k) Try.underlying46 Try.underlying5 Try.underlying9 ?_
  intro j hj
  simp only [dig1, List.length_cons, List.length_nil] at hj
  obtain rfl : j = 0 := by omega
  show (w.alloc _).cell? ⟨w.heap.size, 0 + 0, none⟩ = _
  rw [World.cell?_alloc_new]
  simp [dig1]; omega

set_option maxRecDepth 100000 in
set_option maxHeartbeats 1000000 in
theorem decimal_small (k : Nat) (w : World) (hk : k < 10) :
    Calls Try.prog 146 #[.int .i64 (k : Int)] w fun e w' => e = .returned (.string (txt (dig1 k))) ∧ Grow w w' := by
  have hcv := conv1 k hk w
  go_enter Try.func146, Try.ntmps146
  go_wp2_with fail
  go_ret
  exact ⟨rfl, (by repeat (first | with_reducible exact Ext.refl _ _ | with_reducible refine Ext.trans ?_ (by assumption) | with_reducible refine Ext.drew ?_ | with_reducible refine Ext.drewN ?_ _ | with_reducible refine Ext.alloc ?_ _ | with_reducible refine Ext.setNew ?_ (by simp; done) _ | with_reducible refine Ext.setNew ?_ (by simp; omega) _))⟩

def hit (n : Nd) (s : ByteArray) (i : Nat) : Bool := if n.kind = 4 then decide (n.names[i]? = some s) else if n.kind = 3 then decide (txt (dig1 i) = s) else false
def placeFrom (n : Nd) (s : ByteArray) : Nat → Nat → Int
  | _, 0 => -1
  | i, m + 1 => if hit n s i then (i : Int) else placeFrom n s (i + 1) m
def placeOf (n : Nd) (s : ByteArray) : Int := placeFrom n s 0 n.kids.length

theorem placeFrom_step (n : Nd) (s : ByteArray) {k : Nat} (h : k < n.kids.length) : placeFrom n s k (n.kids.length - k) = if hit n s k then (k : Int) else placeFrom n s (k + 1) (n.kids.length - (k + 1)) := by
  obtain ⟨m, hm⟩ : ∃ m, n.kids.length - k = m + 1 := ⟨n.kids.length - k - 1, by omega⟩
  rw [hm, placeFrom, show n.kids.length - (k + 1) = m by omega]

set_option maxRecDepth 100000 in
set_option maxHeartbeats 4000000 in
theorem place_ok (n : Nd) (s : ByteArray) (v : Value) (w : World) (hm : n.kind = 4 → n.kids.length ≤ n.names.length) (h6 : n.kids.length ≤ 9) (hn : NodeR w any n v) :
    Calls Try.prog 143 #[v, .string s] w fun e w' => e = .returned (.int .i64 (placeOf n s)) ∧ Grow w w' := by
  obtain ⟨na, nc, ka, kc, rfl, hc⟩ := hn
  obtain ⟨htx, hns, hks⟩ := hc.parts
  have hnl : n.names.length ≤ 9223372036854775807 := hns.2.1
  have Hns := Lib.hid hns
  have HM := Lib.hid hm
  clear hc htx hns hks hm
  unfold nodeV
  go_enter Try.func143, Try.ntmps143
  go_wp2
  go_loopw [4, 5] (fun n4 i wr => n4 = .int .i64 0 ∧ Grow (w.alloc (.cells #[.int .i64 n.kind, .int .i64 n.num, .string n.text, .slice na n.names.length nc, .slice ka n.kids.length kc] 39)) wr ∧ ∃ k : Nat, k ≤ n.kids.length ∧ i = .int .i64 k ∧ placeOf n s = placeFrom n s k (n.kids.length - k)) (fun _ i _ => n.kids.length - (intOf i).toNat)
  case atStart => exact ⟨rfl, Ext.refl _ _, 0, Nat.zero_le _, rfl, rfl⟩
  case round =>
    obtain ⟨rfl, hg, k, hk, rfl, hr⟩ := hrel
    have Hr := Lib.hid hr
    clear hr
    have hcc := bcell hg
    have hg0 : Grow w wr := ((Ext.refl _ _).alloc _).trans hg
    by_cases hlt : k < n.kids.length
    · have Hst := Lib.hid (placeFrom_step n s hlt)
      have hh := Lib.hid (show hit n s k = if n.kind = 4 then decide (n.names[k]? = some s) else if n.kind = 3 then decide (txt (dig1 k) = s) else false from rfl)
      by_cases k4 : n.kind = 4
      · have hkn : k < n.names.length := by have := HM.out k4; omega
        rcases ((Hns.out).ext hg0 (fun _ _ h => h)).2.2.2 with hh0 | ⟨ba, oa, rfl, _, hca⟩
        · rw [hh0] at hkn; simp at hkn
        have cm := hca k hkn
        have b4 : (n.kind == 4) = true := by simp [k4]
        have hb := beq_toList n.names[k] s
        clear hca
        cases hd : decide (n.names[k] = s)
        · have Hh : Hid (hit n s k = false) := Lib.hid (by rw [hh.out, if_pos k4]; simpa [hkn] using hd)
          have b3 : (n.kind == 3) = false := by simp [k4]
          rw [hd] at hb
          clear hd k4
          go_wp2
          go_roundw
          case rel => exact ⟨rfl, hg, k + 1, by omega, by go_num, by rw [Hr.out, Hst.out, Hh.out]; rfl⟩
          case measure => simp [intOf]; omega
        · have Hh : Hid (hit n s k = true) := Lib.hid (by rw [hh.out, if_pos k4]; simpa [hkn] using hd)
          rw [hd] at hb
          clear hd k4
          go_wp2
          go_ret
          exact ⟨by rw [Hr.out, Hst.out, Hh.out]; rfl, hg0⟩
      · have b4 : (n.kind == 4) = false := by simp [k4]
        by_cases k3 : n.kind = 3
        · have b3 : (n.kind == 3) = true := by simp [k3]
          have hb := beq_toList (txt (dig1 k)) s
          cases hd : decide (txt (dig1 k) = s)
          · have Hh : Hid (hit n s k = false) := Lib.hid (by rw [hh.out, if_neg k4, if_pos k3, hd])
            rw [hd] at hb
            clear hd k4 k3
            go_wp2_with (go_at_call 146; refine (decimal_small k _ (by omega)).mono ?_; rintro e w2 ⟨rfl, hg2⟩)
            go_roundw
            case rel => exact ⟨rfl, hg.trans hg2, k + 1, by omega, by go_num, by rw [Hr.out, Hst.out, Hh.out]; rfl⟩
            case measure => simp [intOf]; omega
          · have Hh : Hid (hit n s k = true) := Lib.hid (by rw [hh.out, if_neg k4, if_pos k3, hd])
            rw [hd] at hb
            clear hd k4 k3
            go_wp2_with (go_at_call 146; refine (decimal_small k _ (by omega)).mono ?_; rintro e w2 ⟨rfl, hg2⟩)
            go_ret
            exact ⟨by rw [Hr.out, Hst.out, Hh.out]; rfl, hg0.trans hg2⟩
        · have b3 : (n.kind == 3) = false := by simp [k3]
          have Hh : Hid (hit n s k = false) := Lib.hid (by rw [hh.out, if_neg k4, if_neg k3])
          clear k4 k3
          go_wp2
          go_roundw
          case rel => exact ⟨rfl, hg, k + 1, by omega, by go_num, by rw [Hr.out, Hst.out, Hh.out]; rfl⟩
          case measure => simp [intOf]; omega
    · go_wp2
      go_ret
      exact ⟨by rw [Hr.out, show n.kids.length - k = 0 by omega]; rfl, hg0⟩

end Go.Proofs.Ytmeobmegnneegaa

/-
  spec.place.
-/
namespace Go.Proofs.Ytmeobmegnneegaa.Eng
open Go Go.RowKit
attribute [local simp] big size_mk ASt.pay Option.map_map Function.comp_def awant aop acall ado aev ofVal ofVal0 ASt.put ASt.add ASt.turn ASt.kill abox aalloc astore aload ASt.at cellsTo afieldAddr afield aindexAddr aindex alen abin aint acmp astr aun apick aextract anil aslice abound abuild afill abuildSlice asCells aps avCells over upd aappend asrc amax amin aconv mkSt slots rowsOf_cons rowsOf_nil usedOf_cons usedOf_nil ZK.av List.replicate nodeA nodeT nodeTL_eq nodeL_eq strsE_get strsE_len intsE_get intsE_len strsE_at intsE_at tab2 tab3 tab4 tab5 tab6 tab7 tab8 tab9 tab10 tab11 tab12 tab13 tab14 tab15 tab16 tab17 tab18 tab19 tab21 tab22 tab23 tab24 tab25 tab26 tab27 tab28 tab31 tab32 tab33 tab37 tab38 tab39 tab46 tab53 tab61 tab62 tab69 tab70 tab98 tab116 tab117 tab125 tab126 tab128 tab136 tab145 tab146 tab151 tab152 tab153 tab155 tab156 tab157

theorem decimal_AC (k : Nat) (hk : k < 10) : AC Try.prog 146 [.int .i64 (k : Int)] 0 (fun r => r = .str (txt (dig1 k))) := by
  refine AC.ofGrow (enters_of Try.func146 (by kernel_rfl) (by kernel_rfl)) (fun w _ S rb vs h => ?_)
  unfold RepL at h
  obtain ⟨v, vs', rfl, h1, h2⟩ := h
  unfold RepL at h2
  subst h2
  rw [rep_int] at h1
  subst h1
  refine (decimal_small k w hk).mono ?_
  rintro e w' ⟨rfl, hg⟩
  exact ⟨_, _, rfl, hg, rep_str.2 ⟨rfl, by show (txt (dig1 k)).data.size ≤ big; simp [txt, dig1, big]⟩, rfl⟩

def hitP (n : Nd) (st : ByteArray) (k : Nat) : Bool := (n.kind == 4 && eqs ((n.names[k]?).getD ByteArray.empty) st) || (n.kind == 3 && eqs (txt (dig1 k)) st)
def placeF (n : Nd) (st : ByteArray) : Nat → Nat → Int
  | 0, _ => -1
  | f + 1, k => if hitP n st k then k else placeF n st f (k + 1)
def placeI (n : Nd) (st : ByteArray) : Int := placeF n st n.kids.length 0

def Plc (n : Nd) : Prop := (n.kind = 4 → n.kids.length ≤ n.names.length) ∧ (n.kind = 3 → n.kids.length ≤ 10)

theorem i64_nat {n : Int} (h0 : -9223372036854775808 ≤ n) (h1 : n ≤ 9223372036854775807) : IntKind.i64.wrap n = n := IntWalk.i64_in _ (by omega)

set_option linter.unusedSimpArgs false
set_option maxRecDepth 100000 in
set_option maxHeartbeats 4000000 in
theorem place_ok (t : VC) (n : Nd) (st : ByteArray) (hn : Plc n) : AC Try.prog 143 [nodeT t n, .str st] 0 (fun r => r = .int .i64 (placeI n st)) := by
  refine AC.of tab_ok mixed_ok Try.func143 (by rfl) (by kernel_rfl) ?_
  rintro ⟨P, T, hT, hm, w0, S0, rd0, k0⟩ hP hTT
  dsimp only at hP hTT
  subst hP hTT
  unfold nodeT initSt
  rw [nodeTL_eq, Try.ntmps143]
  repeat refine AW.seq ?_
  (refine AW.regionK [] (fun K hK => ?_); (repeat (refine arun_ks 4 rfl (fun C hC => ?_); (repeat ((conv => whnf); simp)); refine hC _ ?_; clear hC C; simp only [List.drop_succ_cons, List.drop_zero, List.drop_nil])); refine arun_nil ?_; refine hK _ ?_; clear hK K; simp only [thenA_normal, inBlockA_normal, endQ_normal, endR_normal])
  refine AW.fact (G := n.kids.length ≤ big) 0 rfl (fun w ρ v h => by
    obtain ⟨vs, _, _, h3⟩ := rep_agg.1 h
    obtain ⟨u, _, hu⟩ := h3.get (i := 4) rfl
    simpa using view_big hu) (fun hbig => ?_)
  unfold big at hbig
  repeat refine AW.seq ?_
  (refine AW.regionK [] (fun K hK => ?_); (repeat (refine arun_ks 4 rfl (fun C hC => ?_); (repeat ((conv => whnf); simp)); refine hC _ ?_; clear hC C; simp only [List.drop_succ_cons, List.drop_zero, List.drop_nil])); refine arun_nil ?_; refine hK _ ?_; clear hK K; simp only [thenA_normal, inBlockA_normal, endQ_normal, endR_normal])
  refine AW.block ?_
  refine AW.loopS (fun (i : Nat) => mkSt (slots 0 37 [(1, .str st), (2, .ptr true 5 1 2 0 0), (5, .int .i64 i)]) [(2, ⟨true, 39, 5, [nodeTL t n]⟩)] [2] (rd0.map fun _ => 0)) (fun i => n.kids.length - i) (fun i => i ≤ n.kids.length ∧ placeI n st = placeF n st (n.kids.length - i) i) 0 ?_ ⟨Nat.zero_le _, rfl⟩ ?_
  · rw [nodeTL_eq]
    exact (less_of (by simp [lessL, mkSt, slots]) (by simp [upd, mkSt, rowsOf_cons]) (by simp [upd, mkSt, usedOf_cons]) (by first | exact rd_less (by omega) | simp [mkSt]) (by simp [slots, in_any, in_int, in_bool, in_str, in_ptr, in_own, in_agg, in_vnil, in_rdr, usedOf_cons, strs_in, ints_in, nodes_in, in_tup]) (by simp only [List.forall_mem_cons, List.not_mem_nil, false_implies, implies_true, and_true, true_and]; (repeat (first | with_reducible exact trivial | with_reducible refine And.intro ?_ ?_ | with_reducible exact in_int | with_reducible exact in_str | with_reducible exact in_bool | with_reducible exact strs_in _ | with_reducible exact nodes_in _ | with_reducible exact items_in _ | with_reducible exact in_vnil | with_reducible exact in_any | exact hin _ | with_reducible refine take_in ?_ | with_reducible exact strsE_in _ | with_reducible exact nodesE_in _ | with_reducible exact nodeL_in _ | with_reducible exact itemsE_in _ | with_reducible exact itemL_in _ | with_reducible refine app_in ?_ ?_ | with_reducible refine sing_in ?_ | (focus (simp [in_any, in_int, in_bool, in_str, in_ptr, in_own, in_agg, in_vnil, in_rdr, usedOf_cons, strs_in, ints_in, nodes_in]; done)))); done))
  · rintro i ⟨hi, hpl⟩
    rw [nodeTL_eq]
    by_cases hlt : i < n.kids.length
    · have hw : IntKind.i64.wrap ((i : Int) + 1) = (i : Int) + 1 := i64_nat (by omega) (by omega)
      have hsub : n.kids.length - i = (n.kids.length - (i + 1)) + 1 := by omega
      rw [hsub, placeF] at hpl
      repeat refine AW.seq ?_
      (refine AW.regionK [] (fun K hK => ?_); (repeat (refine arun_ks 4 rfl (fun C hC => ?_); (repeat ((conv => whnf); simp)); refine hC _ ?_; clear hC C; simp only [List.drop_succ_cons, List.drop_zero, List.drop_nil])); refine arun_nil ?_; refine hK _ ?_; clear hK K; simp only [thenA_normal, inBlockA_normal, endQ_normal, endR_normal])
      refine AW.condT (by simp [aev, hlt]) ?_
      refine AW.skip ?_
      simp only [thenA_normal]
      repeat refine AW.seq ?_
      refine AW.block ?_
      repeat refine AW.seq ?_
      by_cases hk4 : n.kind = 4
      · have hnl := hn.1 hk4
        have hname : n.names[i]? = some n.names[i] := List.getElem?_eq_getElem (by omega)
        cases hb : (eqs n.names[i] st)
        · have hh : hitP n st i = false := by simp [hitP, hk4, hname, hb]
          (refine AW.regionK [] (fun K hK => ?_); (repeat (refine arun_ks 4 rfl (fun C hC => ?_); (repeat ((conv => whnf); simp [hk4, hname, hb])); refine hC _ ?_; clear hC C; simp only [List.drop_succ_cons, List.drop_zero, List.drop_nil])); refine arun_nil ?_; refine hK _ ?_; clear hK K; simp only [thenA_normal, inBlockA_normal, endQ_normal, endR_normal])
          refine AW.condF (by simp [aev, hb]) ?_
          refine AW.skip ?_
          simp only [thenA_normal, inBlockA_normal]
          (refine AW.regionK [] (fun K hK => ?_); (repeat (refine arun_ks 4 rfl (fun C hC => ?_); (repeat ((conv => whnf); simp [hw])); refine hC _ ?_; clear hC C; simp only [List.drop_succ_cons, List.drop_zero, List.drop_nil])); refine arun_nil ?_; refine hK _ ?_; clear hK K; simp only [thenA_normal, inBlockA_normal, endQ_normal, endR_normal])
          refine ⟨i + 1, by omega, ⟨by omega, by rw [hpl, hh]; rfl⟩, ?_⟩
          exact (less_of (by simp [lessL, mkSt, slots, hk4]) (by simp [upd, mkSt, rowsOf_cons, hk4]) (by simp [upd, mkSt, usedOf_cons, hk4]) (by first | exact rd_less (by omega) | simp [mkSt, hk4]) (by simp [slots, in_any, in_int, in_bool, in_str, in_ptr, in_own, in_agg, in_vnil, in_rdr, usedOf_cons, strs_in, ints_in, nodes_in, in_tup, hk4]) (by simp only [List.forall_mem_cons, List.not_mem_nil, false_implies, implies_true, and_true, true_and, hk4]; (repeat (first | with_reducible exact trivial | with_reducible refine And.intro ?_ ?_ | with_reducible exact in_int | with_reducible exact in_str | with_reducible exact in_bool | with_reducible exact strs_in _ | with_reducible exact nodes_in _ | with_reducible exact items_in _ | with_reducible exact in_vnil | with_reducible exact in_any | exact hin _ | with_reducible refine take_in ?_ | with_reducible exact strsE_in _ | with_reducible exact nodesE_in _ | with_reducible exact nodeL_in _ | with_reducible exact itemsE_in _ | with_reducible exact itemL_in _ | with_reducible refine app_in ?_ ?_ | with_reducible refine sing_in ?_ | (focus (simp [in_any, in_int, in_bool, in_str, in_ptr, in_own, in_agg, in_vnil, in_rdr, usedOf_cons, strs_in, ints_in, nodes_in, hk4]; done)))); done))
        · have hh : hitP n st i = true := by simp [hitP, hk4, hname, hb]
          (refine AW.regionK [] (fun K hK => ?_); (repeat (refine arun_ks 4 rfl (fun C hC => ?_); (repeat ((conv => whnf); simp [hk4, hname, hb])); refine hC _ ?_; clear hC C; simp only [List.drop_succ_cons, List.drop_zero, List.drop_nil])); refine arun_nil ?_; refine hK _ ?_; clear hK K; simp only [thenA_normal, inBlockA_normal, endQ_normal, endR_normal])
          refine AW.condT (by simp [aev, hb]) ?_
          repeat refine AW.seq ?_
          (refine AW.regionK [] (fun K hK => ?_); (repeat (refine arun_ks 4 rfl (fun C hC => ?_); (repeat ((conv => whnf); simp)); refine hC _ ?_; clear hC C; simp only [List.drop_succ_cons, List.drop_zero, List.drop_nil])); refine arun_nil ?_; refine hK _ ?_; clear hK K; simp only [thenA_normal, inBlockA_normal, endQ_normal, endR_normal])
          refine AW.ret ?_
          simp only [thenA_ret, inBlockA_ret, endQ_ret]
          exact ⟨.int .i64 i, by simp [ares, aresL], pur_int, by rw [hpl, hh]; rfl⟩
      · by_cases hk3 : n.kind = 3
        · have hk := hn.2 hk3
          cases hb : (eqs (txt (dig1 i)) st)
          · have hh : hitP n st i = false := by simp [hitP, hk3, hb]
            (refine AW.regionK [] (fun K hK => ?_); refine arun_kk 18 (fun C0 hC0 => ?_); simp only [List.take_succ_cons, List.take_zero, List.take_nil]; (repeat (refine arun_ks 4 rfl (fun C hC => ?_); (repeat ((conv => whnf); simp [hk3, hb])); refine hC _ ?_; clear hC C; simp only [List.drop_succ_cons, List.drop_zero, List.drop_nil])); refine arun_nil ?_; refine hC0 _ ?_; clear hC0 C0; simp only [List.drop_succ_cons, List.drop_zero, List.drop_nil])
            refine arun_call0 (by simp [awant]) rfl (by simp [aev, ofVal, ofVal0, nodeA, nodeT, nodeTL_eq, nodeL_eq, hb]) (decimal_AC i (by omega)) (by simp only [cloL]; repeat (first | exact trivial | refine And.intro ?_ ?_ | exact clo_int | exact clo_str | exact clo_bool | exact clo_rdr | exact node_clo _ | exact nodeT_clo _ _ | exact strs_clo _ | exact ints_clo _ | exact nodes_clo _)) ?_
            rintro r rfl
            ((repeat (refine arun_ks 4 rfl (fun C hC => ?_); (repeat ((conv => whnf); simp [hk3, hb])); refine hC _ ?_; clear hC C; simp only [List.drop_succ_cons, List.drop_zero, List.drop_nil])); refine arun_nil ?_; refine hK _ ?_; clear hK K; simp only [thenA_normal, inBlockA_normal, endQ_normal, endR_normal])
            refine AW.condF (by simp [aev, hb]) ?_
            refine AW.skip ?_
            simp only [thenA_normal, inBlockA_normal]
            (refine AW.regionK [] (fun K hK => ?_); (repeat (refine arun_ks 4 rfl (fun C hC => ?_); (repeat ((conv => whnf); simp [hw])); refine hC _ ?_; clear hC C; simp only [List.drop_succ_cons, List.drop_zero, List.drop_nil])); refine arun_nil ?_; refine hK _ ?_; clear hK K; simp only [thenA_normal, inBlockA_normal, endQ_normal, endR_normal])
            refine ⟨i + 1, by omega, ⟨by omega, by rw [hpl, hh]; rfl⟩, ?_⟩
            exact (less_of (by simp [lessL, mkSt, slots, hk3]) (by simp [upd, mkSt, rowsOf_cons, hk3]) (by simp [upd, mkSt, usedOf_cons, hk3]) (by first | exact rd_less (by omega) | simp [mkSt, hk3]) (by simp [slots, in_any, in_int, in_bool, in_str, in_ptr, in_own, in_agg, in_vnil, in_rdr, usedOf_cons, strs_in, ints_in, nodes_in, in_tup, hk3]) (by simp only [List.forall_mem_cons, List.not_mem_nil, false_implies, implies_true, and_true, true_and, hk3]; (repeat (first | with_reducible exact trivial | with_reducible refine And.intro ?_ ?_ | with_reducible exact in_int | with_reducible exact in_str | with_reducible exact in_bool | with_reducible exact strs_in _ | with_reducible exact nodes_in _ | with_reducible exact items_in _ | with_reducible exact in_vnil | with_reducible exact in_any | exact hin _ | with_reducible refine take_in ?_ | with_reducible exact strsE_in _ | with_reducible exact nodesE_in _ | with_reducible exact nodeL_in _ | with_reducible exact itemsE_in _ | with_reducible exact itemL_in _ | with_reducible refine app_in ?_ ?_ | with_reducible refine sing_in ?_ | (focus (simp [in_any, in_int, in_bool, in_str, in_ptr, in_own, in_agg, in_vnil, in_rdr, usedOf_cons, strs_in, ints_in, nodes_in, hk3]; done)))); done))
          · have hh : hitP n st i = true := by simp [hitP, hk3, hb]
            (refine AW.regionK [] (fun K hK => ?_); refine arun_kk 18 (fun C0 hC0 => ?_); simp only [List.take_succ_cons, List.take_zero, List.take_nil]; (repeat (refine arun_ks 4 rfl (fun C hC => ?_); (repeat ((conv => whnf); simp [hk3, hb])); refine hC _ ?_; clear hC C; simp only [List.drop_succ_cons, List.drop_zero, List.drop_nil])); refine arun_nil ?_; refine hC0 _ ?_; clear hC0 C0; simp only [List.drop_succ_cons, List.drop_zero, List.drop_nil])
            refine arun_call0 (by simp [awant]) rfl (by simp [aev, ofVal, ofVal0, nodeA, nodeT, nodeTL_eq, nodeL_eq, hb]) (decimal_AC i (by omega)) (by simp only [cloL]; repeat (first | exact trivial | refine And.intro ?_ ?_ | exact clo_int | exact clo_str | exact clo_bool | exact clo_rdr | exact node_clo _ | exact nodeT_clo _ _ | exact strs_clo _ | exact ints_clo _ | exact nodes_clo _)) ?_
            rintro r rfl
            ((repeat (refine arun_ks 4 rfl (fun C hC => ?_); (repeat ((conv => whnf); simp [hk3, hb])); refine hC _ ?_; clear hC C; simp only [List.drop_succ_cons, List.drop_zero, List.drop_nil])); refine arun_nil ?_; refine hK _ ?_; clear hK K; simp only [thenA_normal, inBlockA_normal, endQ_normal, endR_normal])
            refine AW.condT (by simp [aev, hb]) ?_
            repeat refine AW.seq ?_
            (refine AW.regionK [] (fun K hK => ?_); (repeat (refine arun_ks 4 rfl (fun C hC => ?_); (repeat ((conv => whnf); simp)); refine hC _ ?_; clear hC C; simp only [List.drop_succ_cons, List.drop_zero, List.drop_nil])); refine arun_nil ?_; refine hK _ ?_; clear hK K; simp only [thenA_normal, inBlockA_normal, endQ_normal, endR_normal])
            refine AW.ret ?_
            simp only [thenA_ret, inBlockA_ret, endQ_ret]
            exact ⟨.int .i64 i, by simp [ares, aresL], pur_int, by rw [hpl, hh]; rfl⟩
        · have hh : hitP n st i = false := by simp [hitP, hk3, hk4]
          (refine AW.regionK [] (fun K hK => ?_); (repeat (refine arun_ks 4 rfl (fun C hC => ?_); (repeat ((conv => whnf); simp [nbeq hk3, nbeq hk4])); refine hC _ ?_; clear hC C; simp only [List.drop_succ_cons, List.drop_zero, List.drop_nil])); refine arun_nil ?_; refine hK _ ?_; clear hK K; simp only [thenA_normal, inBlockA_normal, endQ_normal, endR_normal])
          refine AW.condF (by simp [aev, hk3, hk4]) ?_
          refine AW.skip ?_
          simp only [thenA_normal, inBlockA_normal]
          (refine AW.regionK [] (fun K hK => ?_); (repeat (refine arun_ks 4 rfl (fun C hC => ?_); (repeat ((conv => whnf); simp [hw])); refine hC _ ?_; clear hC C; simp only [List.drop_succ_cons, List.drop_zero, List.drop_nil])); refine arun_nil ?_; refine hK _ ?_; clear hK K; simp only [thenA_normal, inBlockA_normal, endQ_normal, endR_normal])
          refine ⟨i + 1, by omega, ⟨by omega, by rw [hpl, hh]; rfl⟩, ?_⟩
          exact (less_of (by simp [lessL, mkSt, slots]) (by simp [upd, mkSt, rowsOf_cons]) (by simp [upd, mkSt, usedOf_cons]) (by first | exact rd_less (by omega) | simp [mkSt]) (by simp [slots, in_any, in_int, in_bool, in_str, in_ptr, in_own, in_agg, in_vnil, in_rdr, usedOf_cons, strs_in, ints_in, nodes_in, in_tup]) (by simp only [List.forall_mem_cons, List.not_mem_nil, false_implies, implies_true, and_true, true_and]; (repeat (first | with_reducible exact trivial | with_reducible refine And.intro ?_ ?_ | with_reducible exact in_int | with_reducible exact in_str | with_reducible exact in_bool | with_reducible exact strs_in _ | with_reducible exact nodes_in _ | with_reducible exact items_in _ | with_reducible exact in_vnil | with_reducible exact in_any | exact hin _ | with_reducible refine take_in ?_ | with_reducible exact strsE_in _ | with_reducible exact nodesE_in _ | with_reducible exact nodeL_in _ | with_reducible exact itemsE_in _ | with_reducible exact itemL_in _ | with_reducible refine app_in ?_ ?_ | with_reducible refine sing_in ?_ | (focus (simp [in_any, in_int, in_bool, in_str, in_ptr, in_own, in_agg, in_vnil, in_rdr, usedOf_cons, strs_in, ints_in, nodes_in]; done)))); done))
    · have hi' : n.kids.length - i = 0 := by omega
      rw [hi', placeF] at hpl
      repeat refine AW.seq ?_
      (refine AW.regionK [] (fun K hK => ?_); (repeat (refine arun_ks 4 rfl (fun C hC => ?_); (repeat ((conv => whnf); simp)); refine hC _ ?_; clear hC C; simp only [List.drop_succ_cons, List.drop_zero, List.drop_nil])); refine arun_nil ?_; refine hK _ ?_; clear hK K; simp only [thenA_normal, inBlockA_normal, endQ_normal, endR_normal])
      refine AW.condF (by simp [aev, hlt]) ?_
      refine AW.exit ?_
      simp only [thenA_exit, inBlockA_exit, if_true, thenA_normal]
      repeat refine AW.seq ?_
      (refine AW.regionK [] (fun K hK => ?_); (repeat (refine arun_ks 4 rfl (fun C hC => ?_); (repeat ((conv => whnf); simp)); refine hC _ ?_; clear hC C; simp only [List.drop_succ_cons, List.drop_zero, List.drop_nil])); refine arun_nil ?_; refine hK _ ?_; clear hK K; simp only [thenA_normal, inBlockA_normal, endQ_normal, endR_normal])
      refine AW.ret ?_
      simp only [endQ_ret]
      exact ⟨.int .i64 (-1), by simp [ares, aresL], pur_int, by rw [hpl]⟩
end Go.Proofs.Ytmeobmegnneegaa.Eng

/-
  spec.copyNode.
-/
namespace Go.Proofs.Ytmeobmegnneegaa.Eng
open Go Go.RowKit
attribute [local simp] big size_mk ASt.pay Option.map_map Function.comp_def awant aop acall ado aev ofVal ofVal0 ASt.put ASt.add ASt.turn ASt.kill abox aalloc astore aload ASt.at cellsTo afieldAddr afield aindexAddr aindex alen abin aint acmp astr aun apick aextract anil aslice abound abuild afill abuildSlice asCells aps avCells over upd aappend asrc amax amin aconv mkSt slots rowsOf_cons rowsOf_nil usedOf_cons usedOf_nil ZK.av List.replicate nodeA nodeT nodeTL_eq nodeL_eq strsE_get strsE_len intsE_get intsE_len strsE_at intsE_at tab2 tab3 tab4 tab5 tab6 tab7 tab8 tab9 tab10 tab11 tab12 tab13 tab14 tab15 tab16 tab17 tab18 tab19 tab21 tab22 tab23 tab24 tab25 tab26 tab27 tab28 tab31 tab32 tab33 tab37 tab38 tab39 tab46 tab53 tab61 tab62 tab69 tab70 tab98 tab116 tab117 tab125 tab126 tab128 tab136 tab145 tab146 tab151 tab152 tab153 tab155 tab156 tab157

def nodeO (n : Nd) (id : Nat) : AV := .agg [.int .i64 n.kind, .int .i64 n.num, .str n.text, .view .loose 1 (strsE n.names), .own id n.kids.length]
def kidsRow (n : Nd) : Row := ⟨false, 39, 5, n.kids.map nodeL⟩

set_option linter.unusedSimpArgs false
set_option maxRecDepth 100000 in
set_option maxHeartbeats 4000000 in
theorem copyNode_step (n : Nd) (hs : Sml n) (ih : ∀ k ∈ n.kids, AC Try.prog 113 [nodeA k] 0 (fun r => r = nodeA k)) (t : VC) : ACR Try.prog 113 [nodeT t n] 0 (fun _ => False) (fun f R => f = nodeO n ∧ R = kidsRow n) := by
  have hs1 := hs.names
  have hs2 := hs.kids
  refine ACR.of tab_ok mixed_ok Try.func113 (by rfl) (by kernel_rfl) ?_
  rintro ⟨P, T, hT, hm, w0, S0, rd0, k0⟩ hP hTT
  dsimp only at hP hTT
  subst hP hTT
  unfold nodeT initSt
  rw [nodeTL_eq, Try.ntmps113]
  repeat refine AW.seq ?_
  (refine AW.regionK [] (fun K hK => ?_); (repeat (refine arun_ks 4 rfl (fun C hC => ?_); (repeat ((conv => whnf); simp)); refine hC _ ?_; clear hC C; simp only [List.drop_succ_cons, List.drop_zero, List.drop_nil])); refine arun_nil ?_; refine hK _ ?_; clear hK K; simp only [thenA_normal, inBlockA_normal, endQ_normal, endR_normal])
  repeat refine AW.seq ?_
  (refine AW.regionK [] (fun K hK => ?_); (repeat (refine arun_ks 4 rfl (fun C hC => ?_); (repeat ((conv => whnf); simp)); refine hC _ ?_; clear hC C; simp only [List.drop_succ_cons, List.drop_zero, List.drop_nil])); refine arun_nil ?_; refine hK _ ?_; clear hK K; simp only [thenA_normal, inBlockA_normal, endQ_normal, endR_normal])
  repeat refine AW.seq ?_
  (refine AW.regionK [] (fun K hK => ?_); (repeat (refine arun_ks 4 rfl (fun C hC => ?_); (repeat ((conv => whnf); simp)); refine hC _ ?_; clear hC C; simp only [List.drop_succ_cons, List.drop_zero, List.drop_nil])); refine arun_nil ?_; refine hK _ ?_; clear hK K; simp only [thenA_normal, inBlockA_normal, endQ_normal, endR_normal])
  refine AW.adopt 3 3 39 5 ⟨_, tab39, rfl⟩ rfl rfl ?_
  refine AW.block ?_
  refine AW.loopS (fun (i : Nat) => mkSt (slots 0 34 [(1, .ptr true 5 1 1 0 0), (2, .ptr true 5 1 2 0 0), (3, .own 3 i), (4, .int .i64 i)]) [(1, ⟨true, 39, 5, [nodeTL t n]⟩), (2, ⟨true, 39, 5, [[.int .i64 0, .int .i64 0, .str ⟨#[]⟩, .view .tight 0 [], .view .tight 0 []]]⟩), (3, ⟨false, 39, 5, (n.kids.map nodeL).take i⟩)] [1, 2, 3] (rd0.map fun _ => 0)) (fun i => n.kids.length - i) (fun i => i ≤ n.kids.length) 0 ?_ (Nat.zero_le _) ?_
  · rw [nodeTL_eq]
    exact (less_of (by simp [lessL, mkSt, slots, ASt.adopt, ASt.add]) (by simp [upd, mkSt, rowsOf_cons, ASt.adopt, ASt.add]) (by simp [upd, mkSt, usedOf_cons, ASt.adopt, ASt.add]) (by first | exact rd_less (by omega) | simp [mkSt, ASt.adopt, ASt.add]) (by simp [slots, in_any, in_int, in_bool, in_str, in_ptr, in_own, in_agg, in_vnil, in_rdr, usedOf_cons, strs_in, ints_in, nodes_in, in_tup, ASt.adopt, ASt.add]) (by simp only [List.forall_mem_cons, List.not_mem_nil, false_implies, implies_true, and_true, true_and, ASt.adopt, ASt.add]; (repeat (first | with_reducible exact trivial | with_reducible refine And.intro ?_ ?_ | with_reducible exact in_int | with_reducible exact in_str | with_reducible exact in_bool | with_reducible exact strs_in _ | with_reducible exact nodes_in _ | with_reducible exact items_in _ | with_reducible exact in_vnil | with_reducible exact in_any | exact hin _ | with_reducible refine take_in ?_ | with_reducible exact strsE_in _ | with_reducible exact nodesE_in _ | with_reducible exact nodeL_in _ | with_reducible exact itemsE_in _ | with_reducible exact itemL_in _ | with_reducible refine app_in ?_ ?_ | with_reducible refine sing_in ?_ | (focus (simp [in_any, in_int, in_bool, in_str, in_ptr, in_own, in_agg, in_vnil, in_rdr, usedOf_cons, strs_in, ints_in, nodes_in, ASt.adopt, ASt.add]; done)))); done))
  · intro i hi
    rw [nodeTL_eq]
    have hl : ((n.kids.map nodeL).take i).length = i := by rw [List.length_take, List.length_map]; omega
    by_cases hlt : i < n.kids.length
    · have hw : IntKind.i64.wrap ((i : Int) + 1) = (i : Int) + 1 := i64_nat (by omega) (by omega)
      have hk : n.kids[i]? = some n.kids[i] := List.getElem?_eq_getElem hlt
      generalize hkk : n.kids[i] = k at hk
      have hik := ih k (hkk ▸ List.getElem_mem hlt)
      have htk : (n.kids.map nodeL).take (i + 1) = (n.kids.map nodeL).take i ++ [nodeL k] := by
        rw [List.take_add_one, List.getElem?_map, hk]; rfl
      repeat refine AW.seq ?_
      (refine AW.regionK [] (fun K hK => ?_); (repeat (refine arun_ks 4 rfl (fun C hC => ?_); (repeat ((conv => whnf); simp)); refine hC _ ?_; clear hC C; simp only [List.drop_succ_cons, List.drop_zero, List.drop_nil])); refine arun_nil ?_; refine hK _ ?_; clear hK K; simp only [thenA_normal, inBlockA_normal, endQ_normal, endR_normal])
      refine AW.condT (by simp [aev, hlt]) ?_
      refine AW.skip ?_
      simp only [thenA_normal]
      repeat refine AW.seq ?_
      refine AW.block ?_
      repeat refine AW.seq ?_
      (refine AW.regionK [] (fun K hK => ?_); refine arun_kk 6 (fun C0 hC0 => ?_); simp only [List.take_succ_cons, List.take_zero, List.take_nil]; (repeat (refine arun_ks 4 rfl (fun C hC => ?_); (repeat ((conv => whnf); simp [hk, nodeL_eq])); refine hC _ ?_; clear hC C; simp only [List.drop_succ_cons, List.drop_zero, List.drop_nil])); refine arun_nil ?_; refine hC0 _ ?_; clear hC0 C0; simp only [List.drop_succ_cons, List.drop_zero, List.drop_nil])
      refine arun_call0 (by simp [awant]) rfl (by simp [aev, ofVal, ofVal0, nodeA, nodeT, nodeTL_eq, nodeL_eq, hk]) (hik) (by simp only [cloL]; repeat (first | exact trivial | refine And.intro ?_ ?_ | exact clo_int | exact clo_str | exact clo_bool | exact clo_rdr | exact node_clo _ | exact nodeT_clo _ _ | exact strs_clo _ | exact ints_clo _ | exact nodes_clo _)) ?_
      rintro r rfl
      unfold nodeA
      rw [nodeL_eq k]
      have hb1 : (i + 1) * 80 ≤ 140737488355328 := by omega
      have hb2 : i + 1 ≤ 140737488355328 := by omega
      ((repeat (refine arun_ks 4 rfl (fun C hC => ?_); (repeat ((conv => whnf); simp [hl, hk, hb1, hb2])); refine hC _ ?_; clear hC C; simp only [List.drop_succ_cons, List.drop_zero, List.drop_nil])); refine arun_nil ?_; refine hK _ ?_; clear hK K; simp only [thenA_normal, inBlockA_normal, endQ_normal, endR_normal])
      (refine AW.regionK [] (fun K hK => ?_); (repeat (refine arun_ks 4 rfl (fun C hC => ?_); (repeat ((conv => whnf); simp [hw])); refine hC _ ?_; clear hC C; simp only [List.drop_succ_cons, List.drop_zero, List.drop_nil])); refine arun_nil ?_; refine hK _ ?_; clear hK K; simp only [thenA_normal, inBlockA_normal, endQ_normal, endR_normal])
      refine ⟨i + 1, by omega, by omega, ?_⟩
      have hin : ∀ U : Nat → Bool, ∀ e ∈ (n.kids.map nodeL).take (i + 1), ∀ c ∈ e, AV.In U c := fun U e he => nodesE_in n.kids e (List.mem_of_mem_take he)
      rw [htk] at hin ⊢
      exact (less_of (by simp [lessL, mkSt, slots, nodeL_eq]) (by simp [upd, mkSt, rowsOf_cons, nodeL_eq]) (by simp [upd, mkSt, usedOf_cons, nodeL_eq]) (by first | exact rd_less (by omega) | simp [mkSt, nodeL_eq]) (by simp [slots, in_any, in_int, in_bool, in_str, in_ptr, in_own, in_agg, in_vnil, in_rdr, usedOf_cons, strs_in, ints_in, nodes_in, in_tup, nodeL_eq]) (by simp only [List.forall_mem_cons, List.not_mem_nil, false_implies, implies_true, and_true, true_and, nodeL_eq]; (repeat (first | with_reducible exact trivial | with_reducible refine And.intro ?_ ?_ | with_reducible exact in_int | with_reducible exact in_str | with_reducible exact in_bool | with_reducible exact strs_in _ | with_reducible exact nodes_in _ | with_reducible exact items_in _ | with_reducible exact in_vnil | with_reducible exact in_any | exact hin _ | with_reducible refine take_in ?_ | with_reducible exact strsE_in _ | with_reducible exact nodesE_in _ | with_reducible exact nodeL_in _ | with_reducible exact itemsE_in _ | with_reducible exact itemL_in _ | with_reducible refine app_in ?_ ?_ | with_reducible refine sing_in ?_ | (focus (simp [in_any, in_int, in_bool, in_str, in_ptr, in_own, in_agg, in_vnil, in_rdr, usedOf_cons, strs_in, ints_in, nodes_in, nodeL_eq]; done)))); done))
    · have hie : i = n.kids.length := by omega
      have hall : (n.kids.map nodeL).take i = n.kids.map nodeL := by rw [List.take_of_length_le (by rw [List.length_map]; omega)]
      rw [hall]
      repeat refine AW.seq ?_
      (refine AW.regionK [] (fun K hK => ?_); (repeat (refine arun_ks 4 rfl (fun C hC => ?_); (repeat ((conv => whnf); simp)); refine hC _ ?_; clear hC C; simp only [List.drop_succ_cons, List.drop_zero, List.drop_nil])); refine arun_nil ?_; refine hK _ ?_; clear hK K; simp only [thenA_normal, inBlockA_normal, endQ_normal, endR_normal])
      refine AW.condF (by simp [aev, hlt]) ?_
      refine AW.exit ?_
      simp only [thenA_exit, inBlockA_exit, if_true, thenA_normal]
      repeat refine AW.seq ?_
      have hb1 : n.names.length * 16 ≤ 140737488355328 := by omega
      have hb2 : n.names.length ≤ 140737488355328 := by omega
      (refine AW.regionDK [] (pcs [] []) (by kernel_rfl) (by kernel_rfl) (fun K hK => ?_); (repeat (refine arunD_ks 4 rfl (fun C hC => ?_); (repeat ((conv => whnf); simp [strsE_len, hb1, hb2])); refine hC _ ?_; clear hC C; simp only [List.drop_succ_cons, List.drop_zero, List.drop_nil, Nat.reduceAdd])); refine arunD_nil ?_; refine hK _ ?_; clear hK K; simp only [thenA_normal, inBlockA_normal, endQ_normal, endR_normal])
      refine AW.hold 31 ?_
      refine AW.ret ?_
      simp only [endR_ret]
      have hlen : (strsE n.names).length = n.names.length := strsE_len _
      refine ⟨nodeO n 3, ?_, .inr ⟨nodeO n, 3, kidsRow n, rfl, ?_, ?_, ?_, rfl, rfl⟩⟩
      · simp [ares, aresL, ASt.hold, upd, rowsOf_cons, AV.subL, AV.sub, Row.sub, nodeO, hlen, hie]
      · simp [ASt.hold, upd, rowsOf_cons, kidsRow, Row.sub]
        first | exact fun k _ => nodeL_sub k | simp [AV.subL, AV.sub]
      · exact Res1.agg [fun _ => .int .i64 n.kind, fun _ => .int .i64 n.num, fun _ => .str n.text, fun _ => .view .loose 1 (strsE n.names), fun id => .own id n.kids.length] (by
          simp only [List.forall_mem_cons, List.not_mem_nil, false_implies, implies_true, and_true]
          exact ⟨Res1.pur _ pur_int, Res1.pur _ pur_int, Res1.pur _ pur_str, Res1.pur _ (strs_pur _ (by decide)), Res1.own _ _⟩)
      · exact nodesE_pur n.kids

theorem nodeO_sub (n : Nd) : AV.sub 0 (kidsRow n).es.length (.view .loose (kidsRow n).sz (kidsRow n).es) (nodeO n 0) = nodeA n := by
  unfold nodeA
  rw [nodeL_eq]
  simp [nodeO, kidsRow, AV.sub, AV.subL]

theorem copyNode_AC : ∀ n, Sml n → ∀ t, AC Try.prog 113 [nodeT t n] 0 (fun r => r = nodeA n) := Nd.ind' _ (fun n ih hs t => by
  refine (AC.ofR (copyNode_step n hs (fun k hk => by have := ih k hk (hs.kid hk) .loose; rwa [nodeT_loose] at this) t) ?_).mono ?_
  · rintro r R ⟨rfl, rfl⟩
    rw [nodeO_sub]
    exact node_in n
  · rintro r (h | ⟨f, R, ⟨rfl, rfl⟩, rfl⟩)
    · exact h.elim
    · exact nodeO_sub n)

end Go.Proofs.Ytmeobmegnneegaa.Eng

/-
  spec.slot: where a new name of a map goes.
-/
namespace Go.Proofs.Ytmeobmegnneegaa.Eng
open Go Go.RowKit
attribute [local simp] big size_mk ASt.pay Option.map_map Function.comp_def awant aop acall ado aev ofVal ofVal0 ASt.put ASt.add ASt.turn ASt.kill abox aalloc astore aload ASt.at cellsTo afieldAddr afield aindexAddr aindex alen abin aint acmp astr aun apick aextract anil aslice abound abuild afill abuildSlice asCells aps avCells over upd aappend asrc amax amin aconv mkSt slots rowsOf_cons rowsOf_nil usedOf_cons usedOf_nil ZK.av List.replicate nodeA nodeT nodeTL_eq nodeL_eq strsE_get strsE_len intsE_get intsE_len strsE_at intsE_at tab2 tab3 tab4 tab5 tab6 tab7 tab8 tab9 tab10 tab11 tab12 tab13 tab14 tab15 tab16 tab17 tab18 tab19 tab21 tab22 tab23 tab24 tab25 tab26 tab27 tab28 tab31 tab32 tab33 tab37 tab38 tab39 tab46 tab53 tab61 tab62 tab69 tab70 tab98 tab116 tab117 tab125 tab126 tab128 tab136 tab145 tab146 tab151 tab152 tab153 tab155 tab156 tab157

set_option linter.unusedSimpArgs false
set_option maxRecDepth 100000 in
set_option maxHeartbeats 4000000 in
theorem slot_AC (n : Nd) (t : VC) (st : ByteArray) (hk4 : n.kind = 4) (hnl : n.names.length = n.kids.length) (hs : Sml n) (hp : placeI n st < 0) : AC Try.prog 147 [nodeT t n, .str st] 0 (fun r => ∃ i : Nat, i ≤ n.kids.length ∧ r = .tup [.int .i64 i, .bool false]) := by
  have hs1 := hs.names
  have hs2 := hs.kids
  have hplc : Plc n := ⟨fun _ => by omega, fun h => by omega⟩
  refine AC.of tab_ok mixed_ok Try.func147 (by rfl) (by kernel_rfl) ?_
  rintro ⟨P, T, hT, hm, w0, S0, rd0, k0⟩ hP hTT
  dsimp only at hP hTT
  subst hP hTT
  unfold nodeT initSt
  rw [nodeTL_eq, Try.ntmps147]
  repeat refine AW.seq ?_
  (refine AW.regionK [] (fun K hK => ?_); (repeat (refine arun_ks 4 rfl (fun C hC => ?_); (repeat ((conv => whnf); simp)); refine hC _ ?_; clear hC C; simp only [List.drop_succ_cons, List.drop_zero, List.drop_nil])); refine arun_nil ?_; refine hK _ ?_; clear hK K; simp only [thenA_normal, inBlockA_normal, endQ_normal, endR_normal])
  repeat refine AW.seq ?_
  (refine AW.regionK [] (fun K hK => ?_); refine arun_kk 2 (fun C0 hC0 => ?_); simp only [List.take_succ_cons, List.take_zero, List.take_nil]; (repeat (refine arun_ks 4 rfl (fun C hC => ?_); (repeat ((conv => whnf); simp)); refine hC _ ?_; clear hC C; simp only [List.drop_succ_cons, List.drop_zero, List.drop_nil])); refine arun_nil ?_; refine hC0 _ ?_; clear hC0 C0; simp only [List.drop_succ_cons, List.drop_zero, List.drop_nil])
  refine arun_call0 (by simp [awant]) rfl (by simp [aev, ofVal, ofVal0, nodeA, nodeT, nodeTL_eq, nodeL_eq]) (place_ok t n st hplc) (by simp only [cloL]; repeat (first | exact trivial | refine And.intro ?_ ?_ | exact clo_int | exact clo_str | exact clo_bool | exact clo_rdr | exact node_clo _ | exact nodeT_clo _ _ | exact strs_clo _ | exact ints_clo _ | exact nodes_clo _)) ?_
  rintro r rfl
  ((repeat (refine arun_ks 4 rfl (fun C hC => ?_); (repeat ((conv => whnf); simp)); refine hC _ ?_; clear hC C; simp only [List.drop_succ_cons, List.drop_zero, List.drop_nil])); refine arun_nil ?_; refine hK _ ?_; clear hK K; simp only [thenA_normal, inBlockA_normal, endQ_normal, endR_normal])
  repeat refine AW.seq ?_
  (refine AW.regionK [] (fun K hK => ?_); (repeat (refine arun_ks 4 rfl (fun C hC => ?_); (repeat ((conv => whnf); simp)); refine hC _ ?_; clear hC C; simp only [List.drop_succ_cons, List.drop_zero, List.drop_nil])); refine arun_nil ?_; refine hK _ ?_; clear hK K; simp only [thenA_normal, inBlockA_normal, endQ_normal, endR_normal])
  have hp' : ¬ 0 ≤ placeI n st := by omega
  refine AW.condF (by simp [aev, hp']) ?_
  refine AW.skip ?_
  simp only [thenA_normal]
  repeat refine AW.seq ?_
  (refine AW.regionK [] (fun K hK => ?_); (repeat (refine arun_ks 4 rfl (fun C hC => ?_); (repeat ((conv => whnf); simp [hk4])); refine hC _ ?_; clear hC C; simp only [List.drop_succ_cons, List.drop_zero, List.drop_nil])); refine arun_nil ?_; refine hK _ ?_; clear hK K; simp only [thenA_normal, inBlockA_normal, endQ_normal, endR_normal])
  refine AW.condF (by simp [aev]) ?_
  refine AW.skip ?_
  simp only [thenA_normal]
  repeat refine AW.seq ?_
  (refine AW.regionK [] (fun K hK => ?_); (repeat (refine arun_ks 4 rfl (fun C hC => ?_); (repeat ((conv => whnf); simp)); refine hC _ ?_; clear hC C; simp only [List.drop_succ_cons, List.drop_zero, List.drop_nil])); refine arun_nil ?_; refine hK _ ?_; clear hK K; simp only [thenA_normal, inBlockA_normal, endQ_normal, endR_normal])
  refine AW.block ?_
  refine AW.loopS (fun (i : Nat) => mkSt (slots 0 62 [(1, .str st), (2, .ptr true 5 1 2 0 0), (7, .int .i64 i)]) [(2, ⟨true, 39, 5, [nodeTL t n]⟩)] [2] (rd0.map fun _ => 0)) (fun i => n.kids.length - i) (fun i => i ≤ n.kids.length) 0 ?_ (Nat.zero_le _) ?_
  · rw [nodeTL_eq]
    exact (less_of (by simp [lessL, mkSt, slots, hk4]) (by simp [upd, mkSt, rowsOf_cons, hk4]) (by simp [upd, mkSt, usedOf_cons, hk4]) (by first | exact rd_less (by omega) | simp [mkSt, hk4]) (by simp [slots, in_any, in_int, in_bool, in_str, in_ptr, in_own, in_agg, in_vnil, in_rdr, usedOf_cons, strs_in, ints_in, nodes_in, in_tup, hk4]) (by simp only [List.forall_mem_cons, List.not_mem_nil, false_implies, implies_true, and_true, true_and, hk4]; (repeat (first | with_reducible exact trivial | with_reducible refine And.intro ?_ ?_ | with_reducible exact in_int | with_reducible exact in_str | with_reducible exact in_bool | with_reducible exact strs_in _ | with_reducible exact nodes_in _ | with_reducible exact items_in _ | with_reducible exact in_vnil | with_reducible exact in_any | exact hin _ | with_reducible refine take_in ?_ | with_reducible exact strsE_in _ | with_reducible exact nodesE_in _ | with_reducible exact nodeL_in _ | with_reducible exact itemsE_in _ | with_reducible exact itemL_in _ | with_reducible refine app_in ?_ ?_ | with_reducible refine sing_in ?_ | (focus (simp [in_any, in_int, in_bool, in_str, in_ptr, in_own, in_agg, in_vnil, in_rdr, usedOf_cons, strs_in, ints_in, nodes_in, hk4]; done)))); done))
  · intro i hi
    rw [nodeTL_eq]
    have hw : IntKind.i64.wrap ((i : Int) + 1) = (i : Int) + 1 := i64_nat (by omega) (by omega)
    repeat refine AW.seq ?_
    (refine AW.regionK [] (fun K hK => ?_); (repeat (refine arun_ks 4 rfl (fun C hC => ?_); (repeat ((conv => whnf); simp [hk4, hi])); refine hC _ ?_; clear hC C; simp only [List.drop_succ_cons, List.drop_zero, List.drop_nil])); refine arun_nil ?_; refine hK _ ?_; clear hK K; simp only [thenA_normal, inBlockA_normal, endQ_normal, endR_normal])
    refine AW.condT (by simp [aev, hi]) ?_
    refine AW.skip ?_
    simp only [thenA_normal]
    repeat refine AW.seq ?_
    refine AW.block ?_
    repeat refine AW.seq ?_
    by_cases hlt : i < n.kids.length
    · have hne : ¬ i = n.kids.length := by omega
      have hname : n.names[i]? = some (n.names[i]'(by omega)) := List.getElem?_eq_getElem (by omega)
      generalize (n.names[i]'(by omega)) = nm at hname
      have hbi : ((i : Int) == (n.kids.length : Int)) = false := beq_false_of_ne (by omega)
      cases hb : (lts st nm)
      · (refine AW.regionK [] (fun K hK => ?_); (repeat (refine arun_ks 4 rfl (fun C hC => ?_); (repeat ((conv => whnf); simp [hbi, hname, hb])); refine hC _ ?_; clear hC C; simp only [List.drop_succ_cons, List.drop_zero, List.drop_nil])); refine arun_nil ?_; refine hK _ ?_; clear hK K; simp only [thenA_normal, inBlockA_normal, endQ_normal, endR_normal])
        refine AW.condF (by simp [aev]) ?_
        refine AW.skip ?_
        simp only [thenA_normal, inBlockA_normal]
        (refine AW.regionK [] (fun K hK => ?_); (repeat (refine arun_ks 4 rfl (fun C hC => ?_); (repeat ((conv => whnf); simp [hw])); refine hC _ ?_; clear hC C; simp only [List.drop_succ_cons, List.drop_zero, List.drop_nil])); refine arun_nil ?_; refine hK _ ?_; clear hK K; simp only [thenA_normal, inBlockA_normal, endQ_normal, endR_normal])
        refine ⟨i + 1, by omega, by omega, ?_⟩
        exact (less_of (by simp [lessL, mkSt, slots, hk4]) (by simp [upd, mkSt, rowsOf_cons, hk4]) (by simp [upd, mkSt, usedOf_cons, hk4]) (by first | exact rd_less (by omega) | simp [mkSt, hk4]) (by simp [slots, in_any, in_int, in_bool, in_str, in_ptr, in_own, in_agg, in_vnil, in_rdr, usedOf_cons, strs_in, ints_in, nodes_in, in_tup, hk4]) (by simp only [List.forall_mem_cons, List.not_mem_nil, false_implies, implies_true, and_true, true_and, hk4]; (repeat (first | with_reducible exact trivial | with_reducible refine And.intro ?_ ?_ | with_reducible exact in_int | with_reducible exact in_str | with_reducible exact in_bool | with_reducible exact strs_in _ | with_reducible exact nodes_in _ | with_reducible exact items_in _ | with_reducible exact in_vnil | with_reducible exact in_any | exact hin _ | with_reducible refine take_in ?_ | with_reducible exact strsE_in _ | with_reducible exact nodesE_in _ | with_reducible exact nodeL_in _ | with_reducible exact itemsE_in _ | with_reducible exact itemL_in _ | with_reducible refine app_in ?_ ?_ | with_reducible refine sing_in ?_ | (focus (simp [in_any, in_int, in_bool, in_str, in_ptr, in_own, in_agg, in_vnil, in_rdr, usedOf_cons, strs_in, ints_in, nodes_in, hk4]; done)))); done))
      · (refine AW.regionK [] (fun K hK => ?_); (repeat (refine arun_ks 4 rfl (fun C hC => ?_); (repeat ((conv => whnf); simp [hbi, hname, hb])); refine hC _ ?_; clear hC C; simp only [List.drop_succ_cons, List.drop_zero, List.drop_nil])); refine arun_nil ?_; refine hK _ ?_; clear hK K; simp only [thenA_normal, inBlockA_normal, endQ_normal, endR_normal])
        refine AW.condT (by simp [aev]) ?_
        repeat refine AW.seq ?_
        (refine AW.regionK [] (fun K hK => ?_); (repeat (refine arun_ks 4 rfl (fun C hC => ?_); (repeat ((conv => whnf); simp)); refine hC _ ?_; clear hC C; simp only [List.drop_succ_cons, List.drop_zero, List.drop_nil])); refine arun_nil ?_; refine hK _ ?_; clear hK K; simp only [thenA_normal, inBlockA_normal, endQ_normal, endR_normal])
        refine AW.ret ?_
        simp only [thenA_ret, inBlockA_ret, endQ_ret]
        exact ⟨.tup [.int .i64 i, .bool false], by simp [ares, aresL], pur_tup (by simp [pur_int, pur_bool]), i, by omega, rfl⟩
    · obtain rfl : i = n.kids.length := by omega
      (refine AW.regionK [] (fun K hK => ?_); (repeat (refine arun_ks 4 rfl (fun C hC => ?_); (repeat ((conv => whnf); simp)); refine hC _ ?_; clear hC C; simp only [List.drop_succ_cons, List.drop_zero, List.drop_nil])); refine arun_nil ?_; refine hK _ ?_; clear hK K; simp only [thenA_normal, inBlockA_normal, endQ_normal, endR_normal])
      refine AW.condT (by simp [aev]) ?_
      repeat refine AW.seq ?_
      (refine AW.regionK [] (fun K hK => ?_); (repeat (refine arun_ks 4 rfl (fun C hC => ?_); (repeat ((conv => whnf); simp)); refine hC _ ?_; clear hC C; simp only [List.drop_succ_cons, List.drop_zero, List.drop_nil])); refine arun_nil ?_; refine hK _ ?_; clear hK K; simp only [thenA_normal, inBlockA_normal, endQ_normal, endR_normal])
      refine AW.ret ?_
      simp only [thenA_ret, inBlockA_ret, endQ_ret]
      exact ⟨.tup [.int .i64 n.kids.length, .bool false], by simp [ares, aresL], pur_tup (by simp [pur_int, pur_bool]), n.kids.length, by omega, rfl⟩
end Go.Proofs.Ytmeobmegnneegaa.Eng

/-
  spec.addHere: a map with a new name.
-/
namespace Go.Proofs.Ytmeobmegnneegaa.Eng
open Go Go.RowKit
attribute [local simp] big size_mk ASt.pay Option.map_map Function.comp_def awant aop acall ado aev ofVal ofVal0 ASt.put ASt.add ASt.turn ASt.kill abox aalloc astore aload ASt.at cellsTo afieldAddr afield aindexAddr aindex alen abin aint acmp astr aun apick aextract anil aslice abound abuild afill abuildSlice asCells aps avCells over upd aappend asrc amax amin aconv mkSt slots rowsOf_cons rowsOf_nil usedOf_cons usedOf_nil ZK.av List.replicate nodeA nodeT nodeTL_eq nodeL_eq strsE_get strsE_len intsE_get intsE_len strsE_at intsE_at tab2 tab3 tab4 tab5 tab6 tab7 tab8 tab9 tab10 tab11 tab12 tab13 tab14 tab15 tab16 tab17 tab18 tab19 tab21 tab22 tab23 tab24 tab25 tab26 tab27 tab28 tab31 tab32 tab33 tab37 tab38 tab39 tab46 tab53 tab61 tab62 tab69 tab70 tab98 tab116 tab117 tab125 tab126 tab128 tab136 tab145 tab146 tab151 tab152 tab153 tab155 tab156 tab157

def nodeN (n : Nd) (id : Nat) : AV := .agg [.int .i64 n.kind, .int .i64 n.num, .str n.text, .own id n.names.length, .view .loose 5 (n.kids.map nodeL)]
def namesRow (n : Nd) : Row := ⟨false, 9, 1, strsE n.names⟩
def addN (n : Nd) (i : Nat) (st : ByteArray) (v : Nd) : Nd := ⟨n.kind, 0, ⟨#[]⟩, n.names.take i ++ [st] ++ n.names.drop i, n.kids.take i ++ [v] ++ n.kids.drop i⟩

theorem addN_names (n : Nd) (i : Nat) (st : ByteArray) (v : Nd) : strsE (addN n i st v).names = (strsE n.names).take i ++ [[.str st]] ++ (strsE n.names).drop i := by
  simp [addN, strsE, List.map_take, List.map_drop]
theorem addN_kids (n : Nd) (i : Nat) (st : ByteArray) (v : Nd) : (addN n i st v).kids.map nodeL = (n.kids.map nodeL).take i ++ [nodeL v] ++ (n.kids.map nodeL).drop i := by
  simp [addN, List.map_take, List.map_drop]

set_option linter.unusedSimpArgs false
set_option maxRecDepth 100000 in
set_option maxHeartbeats 8000000 in
theorem addHere_ACR (n v : Nd) (t : VC) (st : ByteArray) (hk4 : n.kind = 4) (hnl : n.names.length = n.kids.length) (hs : Sml n) (hv : Sml v) (hp : placeI n st < 0) :
    ACR Try.prog 144 [nodeT t n, .str st, nodeA v] 0 (fun _ => False) (fun f R => ∃ i, i ≤ n.kids.length ∧ f = (fun id => .tup [nodeN (addN n i st v) id, .bool true]) ∧ R = namesRow (addN n i st v)) := by
  have hs1 := hs.names
  have hs2 := hs.kids
  refine ACR.of tab_ok mixed_ok Try.func144 (by rfl) (by kernel_rfl) ?_
  rintro ⟨P, T, hT, hm, w0, S0, rd0, k0⟩ hP hTT
  dsimp only at hP hTT
  subst hP hTT
  unfold nodeT nodeA initSt
  rw [nodeTL_eq, nodeL_eq, Try.ntmps144]
  repeat refine AW.seq ?_
  (refine AW.regionK [] (fun K hK => ?_); (repeat (refine arun_ks 4 rfl (fun C hC => ?_); (repeat ((conv => whnf); simp)); refine hC _ ?_; clear hC C; simp only [List.drop_succ_cons, List.drop_zero, List.drop_nil])); refine arun_nil ?_; refine hK _ ?_; clear hK K; simp only [thenA_normal, inBlockA_normal, endQ_normal, endR_normal])
  repeat refine AW.seq ?_
  (refine AW.regionK [] (fun K hK => ?_); refine arun_kk 2 (fun C0 hC0 => ?_); simp only [List.take_succ_cons, List.take_zero, List.take_nil]; (repeat (refine arun_ks 4 rfl (fun C hC => ?_); (repeat ((conv => whnf); simp)); refine hC _ ?_; clear hC C; simp only [List.drop_succ_cons, List.drop_zero, List.drop_nil])); refine arun_nil ?_; refine hC0 _ ?_; clear hC0 C0; simp only [List.drop_succ_cons, List.drop_zero, List.drop_nil])
  refine arun_call0 (by simp [awant]) rfl (by simp [aev, ofVal, ofVal0, nodeA, nodeT, nodeTL_eq, nodeL_eq]) (slot_AC n t st hk4 hnl hs hp) (by simp only [cloL]; repeat (first | exact trivial | refine And.intro ?_ ?_ | exact clo_int | exact clo_str | exact clo_bool | exact clo_rdr | exact node_clo _ | exact nodeT_clo _ _ | exact strs_clo _ | exact ints_clo _ | exact nodes_clo _)) ?_
  rintro r ⟨i, hi, rfl⟩
  ((repeat (refine arun_ks 4 rfl (fun C hC => ?_); (repeat ((conv => whnf); simp)); refine hC _ ?_; clear hC C; simp only [List.drop_succ_cons, List.drop_zero, List.drop_nil])); refine arun_nil ?_; refine hK _ ?_; clear hK K; simp only [thenA_normal, inBlockA_normal, endQ_normal, endR_normal])
  repeat refine AW.seq ?_
  (refine AW.regionK [] (fun K hK => ?_); (repeat (refine arun_ks 4 rfl (fun C hC => ?_); (repeat ((conv => whnf); simp)); refine hC _ ?_; clear hC C; simp only [List.drop_succ_cons, List.drop_zero, List.drop_nil])); refine arun_nil ?_; refine hK _ ?_; clear hK K; simp only [thenA_normal, inBlockA_normal, endQ_normal, endR_normal])
  have hi0 : ¬ ((i : Int) < 0) := by omega
  refine AW.condF (by simp [aev, hi0]) ?_
  refine AW.skip ?_
  simp only [thenA_normal]
  repeat refine AW.seq ?_
  (refine AW.regionK [] (fun K hK => ?_); (repeat (refine arun_ks 4 rfl (fun C hC => ?_); (repeat ((conv => whnf); simp)); refine hC _ ?_; clear hC C; simp only [List.drop_succ_cons, List.drop_zero, List.drop_nil])); refine arun_nil ?_; refine hK _ ?_; clear hK K; simp only [thenA_normal, inBlockA_normal, endQ_normal, endR_normal])
  refine AW.condF (by simp [aev]) ?_
  refine AW.skip ?_
  simp only [thenA_normal]
  repeat refine AW.seq ?_
  (refine AW.regionK [] (fun K hK => ?_); refine arun_kk 1 (fun C0 hC0 => ?_); simp only [List.take_succ_cons, List.take_zero, List.take_nil]; (repeat (refine arun_ks 4 rfl (fun C hC => ?_); (repeat ((conv => whnf); simp)); refine hC _ ?_; clear hC C; simp only [List.drop_succ_cons, List.drop_zero, List.drop_nil])); refine arun_nil ?_; refine hC0 _ ?_; clear hC0 C0; simp only [List.drop_succ_cons, List.drop_zero, List.drop_nil])
  refine arun_call0 (by simp [awant]) rfl (by simp [aev, ofVal, ofVal0, nodeA, nodeT, nodeTL_eq, nodeL_eq]) (copyNode_AC n hs t) (by simp only [cloL]; repeat (first | exact trivial | refine And.intro ?_ ?_ | exact clo_int | exact clo_str | exact clo_bool | exact clo_rdr | exact node_clo _ | exact nodeT_clo _ _ | exact strs_clo _ | exact ints_clo _ | exact nodes_clo _)) ?_
  rintro r rfl
  unfold nodeA
  rw [nodeL_eq]
  ((repeat (refine arun_ks 4 rfl (fun C hC => ?_); (repeat ((conv => whnf); simp)); refine hC _ ?_; clear hC C; simp only [List.drop_succ_cons, List.drop_zero, List.drop_nil])); refine arun_nil ?_; refine hK _ ?_; clear hK K; simp only [thenA_normal, inBlockA_normal, endQ_normal, endR_normal])
  have hl1 : ((n.kids.map nodeL).take i).length = i := by rw [List.length_take, List.length_map]; omega
  have hl2 : ((n.kids.map nodeL).drop i).length = n.kids.length - i := by rw [List.length_drop, List.length_map]
  have hl3 : ((strsE n.names).take i).length = i := by rw [List.length_take, strsE_len]; omega
  have hl4 : ((strsE n.names).drop i).length = n.kids.length - i := by rw [List.length_drop, strsE_len]; omega
  have hb1 : i * 80 ≤ 140737488355328 := by omega
  have hb2 : i ≤ 140737488355328 := by omega
  have hb3 : (i + 1) * 80 ≤ 140737488355328 := by omega
  have hb4 : i + 1 ≤ 140737488355328 := by omega
  have hb5 : (i + 1 + (n.kids.length - i)) * 80 ≤ 140737488355328 := by omega
  have hb6 : i + 1 + (n.kids.length - i) ≤ 140737488355328 := by omega
  have hb7 : i * 16 ≤ 140737488355328 := by omega
  have hb8 : (i + 1) * 16 ≤ 140737488355328 := by omega
  have hb9 : (i + 1 + (n.kids.length - i)) * 16 ≤ 140737488355328 := by omega
  have hin : i ≤ n.names.length := by omega
  have htk1 : (n.kids.map nodeL).take n.kids.length = n.kids.map nodeL := List.take_of_length_le (by rw [List.length_map]; exact Nat.le_refl _)
  have htk2 : (strsE n.names).take n.names.length = strsE n.names := List.take_of_length_le (by rw [strsE_len]; exact Nat.le_refl _)
  repeat refine AW.seq ?_
  (refine AW.regionDK [] (pcs [(7, 0, fun r => r = nodeA v)] []) (by kernel_rfl) (by kernel_rfl) (fun K hK => ?_); refine arunD_kk 7 (fun C0 hC0 => ?_); simp only [List.take_succ_cons, List.take_zero, List.take_nil]; (repeat (refine arunD_ks 4 rfl (fun C hC => ?_); (repeat ((conv => whnf); simp [hi, hl1, hb1, hb2])); refine hC _ ?_; clear hC C; simp only [List.drop_succ_cons, List.drop_zero, List.drop_nil, Nat.reduceAdd])); refine arunD_nil ?_; refine hC0 _ ?_; clear hC0 C0; simp only [List.drop_succ_cons, List.drop_zero, List.drop_nil, Nat.reduceAdd])
  refine arunD_call (c := 0) rfl (by simp [awant]) rfl (by simp [aev, ofVal, ofVal0, nodeA, nodeT, nodeTL_eq, nodeL_eq]) ((copyNode_AC v hv .loose)) rfl (by simp only [List.forall_mem_cons, List.not_mem_nil, false_implies, implies_true, and_true]; repeat (first | refine And.intro ?_ ?_ | (first | exact clo_int | exact clo_str | exact clo_bool | exact clo_rdr | exact node_clo _ | exact nodeT_clo _ _ | exact strs_clo _ | exact ints_clo _ | exact nodes_clo _ | assumption | exact clo_lit _ (by decide) | exact clo_lit _ rfl))) (can_of (by first | exact Nat.le_refl _ | simp; done | omega)) ?_ ?_
  · exact ⟨_, rfl, node_in v⟩
  rintro r rfl -
  unfold nodeA
  rw [nodeL_eq]
  ((repeat (refine arunD_ks 4 rfl (fun C hC => ?_); (repeat ((conv => whnf); simp [hl1, hb3, hb4])); refine hC _ ?_; clear hC C; simp only [List.drop_succ_cons, List.drop_zero, List.drop_nil, Nat.reduceAdd])); refine arunD_nil ?_; refine hK _ ?_; clear hK K; simp only [thenA_normal, inBlockA_normal, endQ_normal, endR_normal])
  repeat refine AW.seq ?_
  (refine AW.regionK [] (fun K hK => ?_); (repeat (refine arun_ks 4 rfl (fun C hC => ?_); (repeat ((conv => whnf); simp [hi, hl1, hl2, hb5, hb6, htk1])); refine hC _ ?_; clear hC C; simp only [List.drop_succ_cons, List.drop_zero, List.drop_nil])); refine arun_nil ?_; refine hK _ ?_; clear hK K; simp only [thenA_normal, inBlockA_normal, endQ_normal, endR_normal])
  repeat refine AW.seq ?_
  (refine AW.regionK [] (fun K hK => ?_); (repeat (refine arun_ks 4 rfl (fun C hC => ?_); (repeat ((conv => whnf); simp [hk4])); refine hC _ ?_; clear hC C; simp only [List.drop_succ_cons, List.drop_zero, List.drop_nil])); refine arun_nil ?_; refine hK _ ?_; clear hK K; simp only [thenA_normal, inBlockA_normal, endQ_normal, endR_normal])
  refine AW.condF (by simp [aev]) ?_
  refine AW.skip ?_
  simp only [thenA_normal]
  repeat refine AW.seq ?_
  (refine AW.regionK [] (fun K hK => ?_); (repeat (refine arun_ks 4 rfl (fun C hC => ?_); (repeat ((conv => whnf); simp [hin, hl3, strsE_len, hb7, hb8, hb2, hb4])); refine hC _ ?_; clear hC C; simp only [List.drop_succ_cons, List.drop_zero, List.drop_nil])); refine arun_nil ?_; refine hK _ ?_; clear hK K; simp only [thenA_normal, inBlockA_normal, endQ_normal, endR_normal])
  repeat refine AW.seq ?_
  (refine AW.regionK [] (fun K hK => ?_); (repeat (refine arun_ks 4 rfl (fun C hC => ?_); (repeat ((conv => whnf); simp [hin, hl3, hl4, strsE_len, hb9, hb6, htk2])); refine hC _ ?_; clear hC C; simp only [List.drop_succ_cons, List.drop_zero, List.drop_nil])); refine arun_nil ?_; refine hK _ ?_; clear hK K; simp only [thenA_normal, inBlockA_normal, endQ_normal, endR_normal])
  repeat refine AW.seq ?_
  (refine AW.regionK [] (fun K hK => ?_); (repeat (refine arun_ks 4 rfl (fun C hC => ?_); (repeat ((conv => whnf); simp)); refine hC _ ?_; clear hC C; simp only [List.drop_succ_cons, List.drop_zero, List.drop_nil])); refine arun_nil ?_; refine hK _ ?_; clear hK K; simp only [thenA_normal, inBlockA_normal, endQ_normal, endR_normal])
  refine AW.hold 34 ?_
  refine AW.ret ?_
  simp only [endR_ret]
  have e1 : nodeN (addN n i st v) 58 = .agg [.int .i64 4, .int .i64 0, .str ⟨#[]⟩, .own 58 (i + (n.kids.length - i + 1)), .view .loose 5 ((n.kids.map nodeL).take i ++ nodeL v :: (n.kids.map nodeL).drop i)] := by
    unfold nodeN
    rw [addN_kids, ← strsE_len, addN_names]
    simp [addN, hk4, hl3, hl4]
  rw [nodeL_eq] at e1
  refine ⟨.tup [nodeN (addN n i st v) 58, .bool true], ?_, .inr ⟨fun id => .tup [nodeN (addN n i st v) id, .bool true], 58, namesRow (addN n i st v), rfl, ?_, ?_, ?_, i, hi, rfl, rfl⟩⟩
  · rw [e1]
    simp [ares, aresL, ASt.hold, upd, rowsOf_cons, AV.subL, AV.sub, Row.sub, hl1, hl2]
  · simp [ASt.hold, upd, rowsOf_cons, namesRow, addN_names, Row.sub, strsE_sub, AV.subL, AV.sub]
  · exact Res1.tup [fun id => nodeN (addN n i st v) id, fun _ => .bool true] (by
      simp only [List.forall_mem_cons, List.not_mem_nil, false_implies, implies_true, and_true]
      refine ⟨Res1.agg [fun _ => .int .i64 n.kind, fun _ => .int .i64 0, fun _ => .str ⟨#[]⟩, fun id => .own id (addN n i st v).names.length, fun _ => .view .loose 5 ((addN n i st v).kids.map nodeL)] ?_, Res1.pur _ pur_bool⟩
      simp only [List.forall_mem_cons, List.not_mem_nil, false_implies, implies_true, and_true]
      exact ⟨Res1.pur _ pur_int, Res1.pur _ pur_int, Res1.pur _ pur_str, Res1.own _ _, Res1.pur _ (nodes_pur _ (by decide))⟩)
  · exact strsE_pur _
end Go.Proofs.Ytmeobmegnneegaa.Eng

/-
  The reader's choices.
-/
namespace Go.Proofs.Ytmeobmegnneegaa.Eng
open Go Go.RowKit
attribute [local simp] big size_mk ASt.pay Option.map_map Function.comp_def awant aop acall ado aev ofVal ofVal0 ASt.put ASt.add ASt.turn ASt.kill abox aalloc astore aload ASt.at cellsTo afieldAddr afield aindexAddr aindex alen abin aint acmp astr aun apick aextract anil aslice abound abuild afill abuildSlice asCells aps avCells over upd aappend asrc amax amin aconv mkSt slots rowsOf_cons rowsOf_nil usedOf_cons usedOf_nil ZK.av List.replicate nodeA nodeT nodeTL_eq nodeL_eq strsE_get strsE_len intsE_get intsE_len strsE_at intsE_at tab2 tab3 tab4 tab5 tab6 tab7 tab8 tab9 tab10 tab11 tab12 tab13 tab14 tab15 tab16 tab17 tab18 tab19 tab21 tab22 tab23 tab24 tab25 tab26 tab27 tab28 tab31 tab32 tab33 tab37 tab38 tab39 tab46 tab53 tab61 tab62 tab69 tab70 tab98 tab116 tab117 tab125 tab126 tab128 tab136 tab145 tab146 tab151 tab152 tab153 tab155 tab156 tab157

theorem AC.more {P : Program} {f : FuncId} {args : List AV} {c d : Nat} {Q : AV → Prop} (h : AC P f args c Q) (hd : c ≤ d) : AC P f args d Q :=
  ⟨h.1, fun w L S rb k vs h0 h1 h2 h3 => h.2 w L S rb k vs h0 h1 (fun b hb => ⟨(h2 b hb).1, (h2 b hb).2.less (by omega)⟩) h3⟩

set_option linter.unusedSimpArgs false
set_option maxRecDepth 100000 in
set_option maxHeartbeats 4000000 in
theorem of_AC (t : VC) (xs : List ByteArray) (h1 : 1 ≤ xs.length) (h2 : xs.length ≤ 1000) : AC Try.prog 133 [.rdr, .view t 1 (strsE xs)] 1 (fun r => ∃ x ∈ xs, r = .str x) := by
  refine AC.of tab_ok mixed_ok Try.func133 (by rfl) (by kernel_rfl) ?_
  rintro ⟨P, T, hT, hm, w0, S0, rd0, k0⟩ hP hTT
  dsimp only at hP hTT
  subst hP hTT
  unfold initSt
  rw [Try.ntmps133]
  repeat refine AW.seq ?_
  (refine AW.regionK [] (fun K hK => ?_); (repeat (refine arun_ks 4 rfl (fun C hC => ?_); (repeat ((conv => whnf); simp)); refine hC _ ?_; clear hC C; simp only [List.drop_succ_cons, List.drop_zero, List.drop_nil])); refine arun_nil ?_; refine hK _ ?_; clear hK K; simp only [thenA_normal, inBlockA_normal, endQ_normal, endR_normal])
  repeat refine AW.seq ?_
  (refine AW.regionK [] (fun K hK => ?_); refine arun_kk 4 (fun C0 hC0 => ?_); simp only [List.take_succ_cons, List.take_zero, List.take_nil]; (repeat (refine arun_ks 4 rfl (fun C hC => ?_); (repeat ((conv => whnf); simp)); refine hC _ ?_; clear hC C; simp only [List.drop_succ_cons, List.drop_zero, List.drop_nil])); refine arun_nil ?_; refine hC0 _ ?_; clear hC0 C0; simp only [List.drop_succ_cons, List.drop_zero, List.drop_nil])
  refine arun_call (c := 1) (by simp [awant]) rfl (by simp [aev, ofVal, ofVal0, nodeA, nodeT, nodeTL_eq, nodeL_eq]) (pick_AC xs.length (by omega) (by omega)) (by simp only [cloL]; repeat (first | exact trivial | refine And.intro ?_ ?_ | exact clo_int | exact clo_str | exact clo_bool | exact clo_rdr | exact node_clo _ | exact nodeT_clo _ _ | exact strs_clo _ | exact ints_clo _ | exact nodes_clo _)) (can_of (by first | exact Nat.le_refl _ | simp; done | omega)) ?_
  rintro r ⟨v, rfl, hv⟩
  obtain ⟨v0, v1⟩ := hv.1 (by omega)
  obtain ⟨k, rfl⟩ := Int.eq_ofNat_of_zero_le v0
  have hk : k < xs.length := by omega
  have hx : xs[k]? = some xs[k] := List.getElem?_eq_getElem hk
  ((repeat (refine arun_ks 4 rfl (fun C hC => ?_); (repeat ((conv => whnf); simp [hx, hk])); refine hC _ ?_; clear hC C; simp only [List.drop_succ_cons, List.drop_zero, List.drop_nil])); refine arun_nil ?_; refine hK _ ?_; clear hK K; simp only [thenA_normal, inBlockA_normal, endQ_normal, endR_normal])
  refine AW.ret ?_
  simp only [endQ_ret]
  exact ⟨.str xs[k], by simp [ares, aresL], pur_str, xs[k], List.getElem_mem _, rfl⟩

set_option maxRecDepth 100000 in
set_option maxHeartbeats 4000000 in
theorem one_AC (t : VC) (xs : List Int) (h1 : 1 ≤ xs.length) (h2 : xs.length ≤ 1000) : AC Try.prog 120 [.rdr, .view t 1 (intsE xs)] 1 (fun r => ∃ x ∈ xs, r = .int .i64 x) := by
  refine AC.of tab_ok mixed_ok Try.func120 (by rfl) (by kernel_rfl) ?_
  rintro ⟨P, T, hT, hm, w0, S0, rd0, k0⟩ hP hTT
  dsimp only at hP hTT
  subst hP hTT
  unfold initSt
  rw [Try.ntmps120]
  repeat refine AW.seq ?_
  (refine AW.regionK [] (fun K hK => ?_); (repeat (refine arun_ks 4 rfl (fun C hC => ?_); (repeat ((conv => whnf); simp)); refine hC _ ?_; clear hC C; simp only [List.drop_succ_cons, List.drop_zero, List.drop_nil])); refine arun_nil ?_; refine hK _ ?_; clear hK K; simp only [thenA_normal, inBlockA_normal, endQ_normal, endR_normal])
  repeat refine AW.seq ?_
  (refine AW.regionK [] (fun K hK => ?_); refine arun_kk 4 (fun C0 hC0 => ?_); simp only [List.take_succ_cons, List.take_zero, List.take_nil]; (repeat (refine arun_ks 4 rfl (fun C hC => ?_); (repeat ((conv => whnf); simp)); refine hC _ ?_; clear hC C; simp only [List.drop_succ_cons, List.drop_zero, List.drop_nil])); refine arun_nil ?_; refine hC0 _ ?_; clear hC0 C0; simp only [List.drop_succ_cons, List.drop_zero, List.drop_nil])
  refine arun_call (c := 1) (by simp [awant]) rfl (by simp [aev, ofVal, ofVal0, nodeA, nodeT, nodeTL_eq, nodeL_eq]) (pick_AC xs.length (by omega) (by omega)) (by simp only [cloL]; repeat (first | exact trivial | refine And.intro ?_ ?_ | exact clo_int | exact clo_str | exact clo_bool | exact clo_rdr | exact node_clo _ | exact nodeT_clo _ _ | exact strs_clo _ | exact ints_clo _ | exact nodes_clo _)) (can_of (by first | exact Nat.le_refl _ | simp; done | omega)) ?_
  rintro r ⟨v, rfl, hv⟩
  obtain ⟨v0, v1⟩ := hv.1 (by omega)
  obtain ⟨k, rfl⟩ := Int.eq_ofNat_of_zero_le v0
  have hk : k < xs.length := by omega
  have hx : xs[k]? = some xs[k] := List.getElem?_eq_getElem hk
  ((repeat (refine arun_ks 4 rfl (fun C hC => ?_); (repeat ((conv => whnf); simp [hx, hk])); refine hC _ ?_; clear hC C; simp only [List.drop_succ_cons, List.drop_zero, List.drop_nil])); refine arun_nil ?_; refine hK _ ?_; clear hK K; simp only [thenA_normal, inBlockA_normal, endQ_normal, endR_normal])
  refine AW.ret ?_
  simp only [endQ_ret]
  exact ⟨.int .i64 xs[k], by simp [ares, aresL], pur_int, xs[k], List.getElem_mem _, rfl⟩
theorem all_mem {α : Type} {l : List α} {x : α} (h : x ∈ l) (p : α → Prop) [DecidablePred p] (ha : l.all (fun y => decide (p y)) = true) : p x := by
  rw [List.all_eq_true] at ha
  simpa using ha x h

def strOf (e : List AV) : ByteArray := match e with | [.str x] => x | _ => ByteArray.empty
def intOf (e : List AV) : Int := match e with | [.int _ x] => x | _ => 0

theorem of_ACU (t : VC) (es : List (List AV)) (he : es = strsE (es.map strOf)) (h1 : 1 ≤ es.length) (h2 : es.length ≤ 1000) : AC Try.prog 133 [.rdr, .view t 1 es] 1 (fun r => ∃ x ∈ es.map strOf, r = .str x) := by
  have := of_AC t (es.map strOf) (by simpa using h1) (by simpa using h2)
  rw [← he] at this
  exact this
theorem one_ACU (t : VC) (es : List (List AV)) (he : es = intsE (es.map intOf)) (h1 : 1 ≤ es.length) (h2 : es.length ≤ 1000) : AC Try.prog 120 [.rdr, .view t 1 es] 1 (fun r => ∃ x ∈ es.map intOf, r = .int .i64 x) := by
  have := one_AC t (es.map intOf) (by simpa using h1) (by simpa using h2)
  rw [← he] at this
  exact this
end Go.Proofs.Ytmeobmegnneegaa.Eng

/-
  The words and numbers that are drawn.
-/
namespace Go.Proofs.Ytmeobmegnneegaa.Eng
open Go Go.RowKit
attribute [local simp] big size_mk ASt.pay Option.map_map Function.comp_def awant aop acall ado aev ofVal ofVal0 ASt.put ASt.add ASt.turn ASt.kill abox aalloc astore aload ASt.at cellsTo afieldAddr afield aindexAddr aindex alen abin aint acmp astr aun apick aextract anil aslice abound abuild afill abuildSlice asCells aps avCells over upd aappend asrc amax amin aconv mkSt slots rowsOf_cons rowsOf_nil usedOf_cons usedOf_nil ZK.av List.replicate nodeA nodeT nodeTL_eq nodeL_eq strsE_get strsE_len intsE_get intsE_len strsE_at intsE_at tab2 tab3 tab4 tab5 tab6 tab7 tab8 tab9 tab10 tab11 tab12 tab13 tab14 tab15 tab16 tab17 tab18 tab19 tab21 tab22 tab23 tab24 tab25 tab26 tab27 tab28 tab31 tab32 tab33 tab37 tab38 tab39 tab46 tab53 tab61 tab62 tab69 tab70 tab98 tab116 tab117 tab125 tab126 tab128 tab136 tab145 tab146 tab151 tab152 tab153 tab155 tab156 tab157

set_option linter.unusedSimpArgs false

set_option maxRecDepth 100000 in
set_option maxHeartbeats 4000000 in
theorem someText_AC : AC Try.prog 141 [.rdr] 1 (fun r => ∃ x : ByteArray, x.size ≤ 12 ∧ r = .str x) := by
  refine AC.of tab_ok mixed_ok Try.func141 (by rfl) (by kernel_rfl) ?_
  rintro ⟨P, T, hT, hm, w0, S0, rd0, k0⟩ hP hTT
  dsimp only at hP hTT
  subst hP hTT
  unfold initSt
  rw [Try.ntmps141]
  repeat refine AW.seq ?_
  (refine AW.regionK [] (fun K hK => ?_); (repeat (refine arun_ks 4 rfl (fun C hC => ?_); (repeat ((conv => whnf); simp)); refine hC _ ?_; clear hC C; simp only [List.drop_succ_cons, List.drop_zero, List.drop_nil])); refine arun_nil ?_; refine hK _ ?_; clear hK K; simp only [thenA_normal, inBlockA_normal, endQ_normal, endR_normal])
  repeat refine AW.seq ?_
  (refine AW.regionK [] (fun K hK => ?_); refine arun_kk 2 (fun C0 hC0 => ?_); simp only [List.take_succ_cons, List.take_zero, List.take_nil]; (repeat (refine arun_ks 4 rfl (fun C hC => ?_); (repeat ((conv => whnf); simp)); refine hC _ ?_; clear hC C; simp only [List.drop_succ_cons, List.drop_zero, List.drop_nil])); refine arun_nil ?_; refine hC0 _ ?_; clear hC0 C0; simp only [List.drop_succ_cons, List.drop_zero, List.drop_nil])
  refine arun_callU (c := 1) (by simp [awant]) rfl (of_ACU _ _ (by rfl) (by decide) (by decide)) (by simp only [List.map_cons, List.map_nil, aev, ofVal, ofVal0, cloL]; repeat (first | exact trivial | refine And.intro ?_ ?_ | exact clo_int | exact clo_str | exact clo_bool | exact clo_rdr | exact node_clo _ | exact nodeT_clo _ _ | exact strs_clo _ | exact ints_clo _ | exact nodes_clo _ | exact clo_lit _ (by decide) | exact clo_lit _ rfl)) (can_of (by first | exact Nat.le_refl _ | simp; done | omega)) ?_
  rintro r ⟨x, hx, rfl⟩
  have hs : x.size ≤ 12 := all_mem hx (fun x => x.size ≤ 12) (by rfl)
  clear hx
  ((repeat (refine arun_ks 4 rfl (fun C hC => ?_); (repeat ((conv => whnf); simp)); refine hC _ ?_; clear hC C; simp only [List.drop_succ_cons, List.drop_zero, List.drop_nil])); refine arun_nil ?_; refine hK _ ?_; clear hK K; simp only [thenA_normal, inBlockA_normal, endQ_normal, endR_normal])
  refine AW.ret ?_
  simp only [endQ_ret]
  exact ⟨.str x, by simp [ares, aresL], pur_str, x, hs, rfl⟩

set_option maxRecDepth 100000 in
set_option maxHeartbeats 4000000 in
theorem someName_AC : AC Try.prog 142 [.rdr] 1 (fun r => ∃ x : ByteArray, x.size ≤ 12 ∧ r = .str x) := by
  refine AC.of tab_ok mixed_ok Try.func142 (by rfl) (by kernel_rfl) ?_
  rintro ⟨P, T, hT, hm, w0, S0, rd0, k0⟩ hP hTT
  dsimp only at hP hTT
  subst hP hTT
  unfold initSt
  rw [Try.ntmps142]
  repeat refine AW.seq ?_
  (refine AW.regionK [] (fun K hK => ?_); (repeat (refine arun_ks 4 rfl (fun C hC => ?_); (repeat ((conv => whnf); simp)); refine hC _ ?_; clear hC C; simp only [List.drop_succ_cons, List.drop_zero, List.drop_nil])); refine arun_nil ?_; refine hK _ ?_; clear hK K; simp only [thenA_normal, inBlockA_normal, endQ_normal, endR_normal])
  repeat refine AW.seq ?_
  (refine AW.regionK [] (fun K hK => ?_); refine arun_kk 2 (fun C0 hC0 => ?_); simp only [List.take_succ_cons, List.take_zero, List.take_nil]; (repeat (refine arun_ks 4 rfl (fun C hC => ?_); (repeat ((conv => whnf); simp)); refine hC _ ?_; clear hC C; simp only [List.drop_succ_cons, List.drop_zero, List.drop_nil])); refine arun_nil ?_; refine hC0 _ ?_; clear hC0 C0; simp only [List.drop_succ_cons, List.drop_zero, List.drop_nil])
  refine arun_callU (c := 1) (by simp [awant]) rfl (of_ACU _ _ (by rfl) (by decide) (by decide)) (by simp only [List.map_cons, List.map_nil, aev, ofVal, ofVal0, cloL]; repeat (first | exact trivial | refine And.intro ?_ ?_ | exact clo_int | exact clo_str | exact clo_bool | exact clo_rdr | exact node_clo _ | exact nodeT_clo _ _ | exact strs_clo _ | exact ints_clo _ | exact nodes_clo _ | exact clo_lit _ (by decide) | exact clo_lit _ rfl)) (can_of (by first | exact Nat.le_refl _ | simp; done | omega)) ?_
  rintro r ⟨x, hx, rfl⟩
  have hs : x.size ≤ 12 := all_mem hx (fun x => x.size ≤ 12) (by rfl)
  clear hx
  ((repeat (refine arun_ks 4 rfl (fun C hC => ?_); (repeat ((conv => whnf); simp)); refine hC _ ?_; clear hC C; simp only [List.drop_succ_cons, List.drop_zero, List.drop_nil])); refine arun_nil ?_; refine hK _ ?_; clear hK K; simp only [thenA_normal, inBlockA_normal, endQ_normal, endR_normal])
  refine AW.ret ?_
  simp only [endQ_ret]
  exact ⟨.str x, by simp [ares, aresL], pur_str, x, hs, rfl⟩

set_option maxRecDepth 100000 in
set_option maxHeartbeats 4000000 in
theorem itemName_AC : AC Try.prog 122 [.rdr] 1 (fun r => ∃ x : ByteArray, x.size ≤ 12 ∧ r = .str x) := by
  refine AC.of tab_ok mixed_ok Try.func122 (by rfl) (by kernel_rfl) ?_
  rintro ⟨P, T, hT, hm, w0, S0, rd0, k0⟩ hP hTT
  dsimp only at hP hTT
  subst hP hTT
  unfold initSt
  rw [Try.ntmps122]
  repeat refine AW.seq ?_
  (refine AW.regionK [] (fun K hK => ?_); (repeat (refine arun_ks 4 rfl (fun C hC => ?_); (repeat ((conv => whnf); simp)); refine hC _ ?_; clear hC C; simp only [List.drop_succ_cons, List.drop_zero, List.drop_nil])); refine arun_nil ?_; refine hK _ ?_; clear hK K; simp only [thenA_normal, inBlockA_normal, endQ_normal, endR_normal])
  repeat refine AW.seq ?_
  (refine AW.regionK [] (fun K hK => ?_); refine arun_kk 2 (fun C0 hC0 => ?_); simp only [List.take_succ_cons, List.take_zero, List.take_nil]; (repeat (refine arun_ks 4 rfl (fun C hC => ?_); (repeat ((conv => whnf); simp)); refine hC _ ?_; clear hC C; simp only [List.drop_succ_cons, List.drop_zero, List.drop_nil])); refine arun_nil ?_; refine hC0 _ ?_; clear hC0 C0; simp only [List.drop_succ_cons, List.drop_zero, List.drop_nil])
  refine arun_callU (c := 1) (by simp [awant]) rfl (of_ACU _ _ (by rfl) (by decide) (by decide)) (by simp only [List.map_cons, List.map_nil, aev, ofVal, ofVal0, cloL]; repeat (first | exact trivial | refine And.intro ?_ ?_ | exact clo_int | exact clo_str | exact clo_bool | exact clo_rdr | exact node_clo _ | exact nodeT_clo _ _ | exact strs_clo _ | exact ints_clo _ | exact nodes_clo _ | exact clo_lit _ (by decide) | exact clo_lit _ rfl)) (can_of (by first | exact Nat.le_refl _ | simp; done | omega)) ?_
  rintro r ⟨x, hx, rfl⟩
  have hs : x.size ≤ 12 := all_mem hx (fun x => x.size ≤ 12) (by rfl)
  clear hx
  ((repeat (refine arun_ks 4 rfl (fun C hC => ?_); (repeat ((conv => whnf); simp)); refine hC _ ?_; clear hC C; simp only [List.drop_succ_cons, List.drop_zero, List.drop_nil])); refine arun_nil ?_; refine hK _ ?_; clear hK K; simp only [thenA_normal, inBlockA_normal, endQ_normal, endR_normal])
  refine AW.ret ?_
  simp only [endQ_ret]
  exact ⟨.str x, by simp [ares, aresL], pur_str, x, hs, rfl⟩

set_option maxRecDepth 100000 in
set_option maxHeartbeats 4000000 in
theorem badName_AC : AC Try.prog 121 [.rdr] 1 (fun r => ∃ x : ByteArray, x.size ≤ 12 ∧ r = .str x) := by
  refine AC.of tab_ok mixed_ok Try.func121 (by rfl) (by kernel_rfl) ?_
  rintro ⟨P, T, hT, hm, w0, S0, rd0, k0⟩ hP hTT
  dsimp only at hP hTT
  subst hP hTT
  unfold initSt
  rw [Try.ntmps121]
  repeat refine AW.seq ?_
  (refine AW.regionK [] (fun K hK => ?_); (repeat (refine arun_ks 4 rfl (fun C hC => ?_); (repeat ((conv => whnf); simp)); refine hC _ ?_; clear hC C; simp only [List.drop_succ_cons, List.drop_zero, List.drop_nil])); refine arun_nil ?_; refine hK _ ?_; clear hK K; simp only [thenA_normal, inBlockA_normal, endQ_normal, endR_normal])
  repeat refine AW.seq ?_
  (refine AW.regionK [] (fun K hK => ?_); refine arun_kk 2 (fun C0 hC0 => ?_); simp only [List.take_succ_cons, List.take_zero, List.take_nil]; (repeat (refine arun_ks 4 rfl (fun C hC => ?_); (repeat ((conv => whnf); simp)); refine hC _ ?_; clear hC C; simp only [List.drop_succ_cons, List.drop_zero, List.drop_nil])); refine arun_nil ?_; refine hC0 _ ?_; clear hC0 C0; simp only [List.drop_succ_cons, List.drop_zero, List.drop_nil])
  refine arun_callU (c := 1) (by simp [awant]) rfl (of_ACU _ _ (by rfl) (by decide) (by decide)) (by simp only [List.map_cons, List.map_nil, aev, ofVal, ofVal0, cloL]; repeat (first | exact trivial | refine And.intro ?_ ?_ | exact clo_int | exact clo_str | exact clo_bool | exact clo_rdr | exact node_clo _ | exact nodeT_clo _ _ | exact strs_clo _ | exact ints_clo _ | exact nodes_clo _ | exact clo_lit _ (by decide) | exact clo_lit _ rfl)) (can_of (by first | exact Nat.le_refl _ | simp; done | omega)) ?_
  rintro r ⟨x, hx, rfl⟩
  have hs : x.size ≤ 12 := all_mem hx (fun x => x.size ≤ 12) (by rfl)
  clear hx
  ((repeat (refine arun_ks 4 rfl (fun C hC => ?_); (repeat ((conv => whnf); simp)); refine hC _ ?_; clear hC C; simp only [List.drop_succ_cons, List.drop_zero, List.drop_nil])); refine arun_nil ?_; refine hK _ ?_; clear hK K; simp only [thenA_normal, inBlockA_normal, endQ_normal, endR_normal])
  refine AW.ret ?_
  simp only [endQ_ret]
  exact ⟨.str x, by simp [ares, aresL], pur_str, x, hs, rfl⟩

end Go.Proofs.Ytmeobmegnneegaa.Eng

/-
  Drawn nodes: spec.randomNode, spec.randomMap.
-/
namespace Go.Proofs.Ytmeobmegnneegaa.Eng
open Go Go.RowKit
attribute [local simp] big size_mk ASt.pay Option.map_map Function.comp_def awant aop acall ado aev ofVal ofVal0 ASt.put ASt.add ASt.turn ASt.kill abox aalloc astore aload ASt.at cellsTo afieldAddr afield aindexAddr aindex alen abin aint acmp astr aun apick aextract anil aslice abound abuild afill abuildSlice asCells aps avCells over upd aappend asrc amax amin aconv mkSt slots rowsOf_cons rowsOf_nil usedOf_cons usedOf_nil ZK.av List.replicate nodeA nodeT nodeTL_eq nodeL_eq strsE_get strsE_len intsE_get intsE_len strsE_at intsE_at tab2 tab3 tab4 tab5 tab6 tab7 tab8 tab9 tab10 tab11 tab12 tab13 tab14 tab15 tab16 tab17 tab18 tab19 tab21 tab22 tab23 tab24 tab25 tab26 tab27 tab28 tab31 tab32 tab33 tab37 tab38 tab39 tab46 tab53 tab61 tab62 tab69 tab70 tab98 tab116 tab117 tab125 tab126 tab128 tab136 tab145 tab146 tab151 tab152 tab153 tab155 tab156 tab157

def nC : Nat → Nat
  | 0 => 10
  | d + 1 => 10 + 5 * nC d
theorem nC_pos : ∀ d, 10 ≤ nC d
  | 0 => Nat.le_refl _
  | d + 1 => by unfold nC; omega

def R0 (p : Nd → Prop) (r : AV) : Prop := ∃ n, p n ∧ n.names = [] ∧ r = nodeT .tight n
def R1 (p : Nd → Prop) (f : Nat → AV) (R : Row) : Prop := ∃ n, p n ∧ f = nodeN n ∧ R = namesRow n

theorem nodeN_sub (n : Nd) : AV.sub 0 (namesRow n).es.length (.view .loose (namesRow n).sz (namesRow n).es) (nodeN n 0) = nodeA n := by
  unfold nodeA
  rw [nodeL_eq]
  simp [nodeN, namesRow, AV.sub, AV.subL, strsE_len]

theorem nodeN_res (n : Nd) (id0 : Nat) : Res1 id0 (nodeN n) := Res1.agg [fun _ => .int .i64 n.kind, fun _ => .int .i64 n.num, fun _ => .str n.text, fun id => .own id n.names.length, fun _ => .view .loose 5 (n.kids.map nodeL)] (by
  simp only [List.forall_mem_cons, List.not_mem_nil, false_implies, implies_true, and_true]
  exact ⟨Res1.pur _ pur_int, Res1.pur _ pur_int, Res1.pur _ pur_str, Res1.own _ _, Res1.pur _ (nodes_pur _ (by decide))⟩)

theorem nodeT_wk {t : VC} (n : Nd) (h : t ≠ .lent) : Wk (nodeT t n) (nodeA n) := by
  unfold nodeT nodeA
  rw [nodeTL_eq, nodeL_eq]
  exact Wk.agg (.cons (Wk.refl _) (.cons (Wk.refl _) (.cons (Wk.refl _) (.cons (Wk.loose h) (.cons (Wk.refl _) .nil)))))

theorem AC.ofR01 {P : Program} {f : FuncId} {args : List AV} {c : Nat} {p : Nd → Prop} (h : ACR P f args c (R0 p) (R1 p)) : AC P f args c (fun r => ∃ n, p n ∧ r = nodeA n) := by
  refine AC.weak ((AC.ofR h ?_).mono ?_)
  · rintro r R ⟨n, _, rfl, rfl⟩
    rw [nodeN_sub]; exact node_in n
  · rintro r (⟨n, h1, h2, rfl⟩ | ⟨f, R, ⟨n, h1, rfl, rfl⟩, rfl⟩)
    · exact ⟨_, nodeT_wk n (by decide), n, h1, rfl⟩
    · rw [nodeN_sub]; exact ⟨_, Wk.refl _, n, h1, rfl⟩

def node0 (k m : Int) (x : ByteArray) : AV := .agg [.int .i64 k, .int .i64 m, .str x, .view .tight 0 [], .view .tight 0 []]
theorem node0_pur (k m : Int) (x : ByteArray) : Pur (node0 k m x) := pur_agg (by
  intro c hc
  simp only [List.mem_cons, List.not_mem_nil, or_false] at hc
  rcases hc with rfl | rfl | rfl | rfl | rfl
  · exact pur_int
  · exact pur_int
  · exact pur_str
  · exact pur_view (by decide) (fun e he => by cases he)
  · exact pur_view (by decide) (fun e he => by cases he))
theorem node0_wk (k m : Int) (x : ByteArray) : Wk (node0 k m x) (nodeT .tight ⟨k, m, x, [], []⟩) := by
  unfold node0 nodeT
  rw [nodeTL_eq]
  exact Wk.agg (.cons (Wk.refl _) (.cons (Wk.refl _) (.cons (Wk.refl _) (.cons (Wk.nil (fun h => h)) (.cons (Wk.nil (fun _ => rfl)) .nil)))))

theorem sml_leaf (k m : Int) (x : ByteArray) : Sml ⟨k, m, x, [], []⟩ := .mk _ (by simp) (by simp) (fun k hk => by cases hk)

set_option linter.unusedSimpArgs false
set_option maxRecDepth 100000 in
set_option maxHeartbeats 8000000 in
theorem randomNode_step (d : Nat) (hd : d ≤ 5) (hrec : 1 < d → AC Try.prog 135 [.rdr, .int .i64 ((d - 1 : Nat) : Int)] (nC (d - 1)) (fun r => ∃ n, Sml n ∧ r = nodeA n) ∧ ACR Try.prog 136 [.rdr, .int .i64 (d : Int)] (9 + 4 * nC (d - 1)) (R0 Sml) (R1 Sml)) :
    ACR Try.prog 135 [.rdr, .int .i64 (d : Int)] (nC d) (R0 Sml) (R1 Sml) := by
  have hB : 1 < d → nC d = 10 + 5 * nC (d - 1) := fun h => by
    obtain ⟨e, rfl⟩ : ∃ e, d = e + 1 := ⟨d - 1, by omega⟩
    rfl
  have hB0 := nC_pos d
  refine ACR.weak (ACR.of tab_ok mixed_ok Try.func135 (by rfl) (by kernel_rfl) ?_)
  rintro ⟨P, T, hT, hm, w0, S0, rd0, k0⟩ hP hTT
  dsimp only at hP hTT
  subst hP hTT
  unfold initSt
  rw [Try.ntmps135]
  generalize hBB : nC d = B at *
  repeat refine AW.seq ?_
  (refine AW.regionK [] (fun K hK => ?_); (repeat (refine arun_ks 4 rfl (fun C hC => ?_); (repeat ((conv => whnf); simp)); refine hC _ ?_; clear hC C; simp only [List.drop_succ_cons, List.drop_zero, List.drop_nil])); refine arun_nil ?_; refine hK _ ?_; clear hK K; simp only [thenA_normal, inBlockA_normal, endQ_normal, endR_normal])
  repeat refine AW.seq ?_
  (refine AW.regionK [] (fun K hK => ?_); refine arun_kk 1 (fun C0 hC0 => ?_); simp only [List.take_succ_cons, List.take_zero, List.take_nil]; (repeat (refine arun_ks 4 rfl (fun C hC => ?_); (repeat ((conv => whnf); simp)); refine hC _ ?_; clear hC C; simp only [List.drop_succ_cons, List.drop_zero, List.drop_nil])); refine arun_nil ?_; refine hC0 _ ?_; clear hC0 C0; simp only [List.drop_succ_cons, List.drop_zero, List.drop_nil])
  refine arun_call (c := 1) (by simp [awant]) rfl (by simp [aev, ofVal, ofVal0, nodeA, nodeT, nodeTL_eq, nodeL_eq]) (pick_AC 5 (by omega) (by omega)) (by simp only [cloL]; repeat (first | exact trivial | refine And.intro ?_ ?_ | exact clo_int | exact clo_str | exact clo_bool | exact clo_rdr | exact node_clo _ | exact nodeT_clo _ _ | exact strs_clo _ | exact ints_clo _ | exact nodes_clo _)) (can_of (by first | exact Nat.le_refl _ | simp; done | omega)) ?_
  rintro r ⟨v, rfl, hv⟩
  obtain ⟨v0, v1⟩ := hv.1 (by omega)
  ((repeat (refine arun_ks 4 rfl (fun C hC => ?_); (repeat ((conv => whnf); simp)); refine hC _ ?_; clear hC C; simp only [List.drop_succ_cons, List.drop_zero, List.drop_nil])); refine arun_nil ?_; refine hK _ ?_; clear hK K; simp only [thenA_normal, inBlockA_normal, endQ_normal, endR_normal])
  repeat refine AW.seq ?_
  (refine AW.regionK [] (fun K hK => ?_); (repeat (refine arun_ks 4 rfl (fun C hC => ?_); (repeat ((conv => whnf); simp)); refine hC _ ?_; clear hC C; simp only [List.drop_succ_cons, List.drop_zero, List.drop_nil])); refine arun_nil ?_; refine hK _ ?_; clear hK K; simp only [thenA_normal, inBlockA_normal, endQ_normal, endR_normal])
  refine AW.cutN (fun (v : Int) => mkSt (slots 0 56 [(0, .rdr), (1, .int .i64 d), (4, .ptr true 5 1 4 0 0), (5, .int .i64 v)]) [(4, ⟨true, 39, 5, [[.int .i64 0, .int .i64 0, .str ⟨#[]⟩, .view .tight 0 [], .view .tight 0 []]]⟩)] [4] (rd0.map fun _ => B - 2)) (fun v => 0 ≤ v ∧ v ≤ 4 ∧ (3 ≤ v → 1 < d)) ?_ ?_
  · by_cases h1 : d ≤ 1
    · have h1' : ((d : Int) ≤ 1) := by omega
      refine AW.condT (by simp [aev, h1']) ?_
      (refine AW.regionK [] (fun K hK => ?_); refine arun_kk 1 (fun C0 hC0 => ?_); simp only [List.take_succ_cons, List.take_zero, List.take_nil]; (repeat (refine arun_ks 4 rfl (fun C hC => ?_); (repeat ((conv => whnf); simp)); refine hC _ ?_; clear hC C; simp only [List.drop_succ_cons, List.drop_zero, List.drop_nil])); refine arun_nil ?_; refine hC0 _ ?_; clear hC0 C0; simp only [List.drop_succ_cons, List.drop_zero, List.drop_nil])
      refine arun_call (c := 1) (by simp [awant]) rfl (by simp [aev, ofVal, ofVal0, nodeA, nodeT, nodeTL_eq, nodeL_eq]) (pick_AC 3 (by omega) (by omega)) (by simp only [cloL]; repeat (first | exact trivial | refine And.intro ?_ ?_ | exact clo_int | exact clo_str | exact clo_bool | exact clo_rdr | exact node_clo _ | exact nodeT_clo _ _ | exact strs_clo _ | exact ints_clo _ | exact nodes_clo _)) (can_of (by first | exact Nat.le_refl _ | simp; done | omega)) ?_
      rintro r ⟨u, rfl, hu⟩
      obtain ⟨u0, u1⟩ := hu.1 (by omega)
      ((repeat (refine arun_ks 4 rfl (fun C hC => ?_); (repeat ((conv => whnf); simp)); refine hC _ ?_; clear hC C; simp only [List.drop_succ_cons, List.drop_zero, List.drop_nil])); refine arun_nil ?_; refine hK _ ?_; clear hK K; simp only [thenA_normal, inBlockA_normal, endQ_normal, endR_normal])
      exact ⟨u, ⟨u0, by omega, by omega⟩, (less_of (by simp [lessL, mkSt, slots]) (by simp [upd, mkSt, rowsOf_cons]) (by simp [upd, mkSt, usedOf_cons]) (by first | exact rd_less (by omega) | simp [mkSt]) (by simp [slots, in_any, in_int, in_bool, in_str, in_ptr, in_own, in_agg, in_vnil, in_rdr, usedOf_cons, strs_in, ints_in, nodes_in, in_tup]) (by simp only [List.forall_mem_cons, List.not_mem_nil, false_implies, implies_true, and_true, true_and]; (repeat (first | with_reducible exact trivial | with_reducible refine And.intro ?_ ?_ | with_reducible exact in_int | with_reducible exact in_str | with_reducible exact in_bool | with_reducible exact strs_in _ | with_reducible exact nodes_in _ | with_reducible exact items_in _ | with_reducible exact in_vnil | with_reducible exact in_any | exact hin _ | with_reducible refine take_in ?_ | with_reducible exact strsE_in _ | with_reducible exact nodesE_in _ | with_reducible exact nodeL_in _ | with_reducible exact itemsE_in _ | with_reducible exact itemL_in _ | with_reducible refine app_in ?_ ?_ | with_reducible refine sing_in ?_ | (focus (simp [in_any, in_int, in_bool, in_str, in_ptr, in_own, in_agg, in_vnil, in_rdr, usedOf_cons, strs_in, ints_in, nodes_in]; done)))); done))⟩
    · have h1' : ¬ ((d : Int) ≤ 1) := by omega
      refine AW.condF (by simp [aev, h1']) ?_
      refine AW.skip ?_
      simp only [thenA_normal]
      exact ⟨v, ⟨v0, by omega, by omega⟩, (less_of (by simp [lessL, mkSt, slots]) (by simp [upd, mkSt, rowsOf_cons]) (by simp [upd, mkSt, usedOf_cons]) (by first | exact rd_less (by omega) | simp [mkSt]) (by simp [slots, in_any, in_int, in_bool, in_str, in_ptr, in_own, in_agg, in_vnil, in_rdr, usedOf_cons, strs_in, ints_in, nodes_in, in_tup]) (by simp only [List.forall_mem_cons, List.not_mem_nil, false_implies, implies_true, and_true, true_and]; (repeat (first | with_reducible exact trivial | with_reducible refine And.intro ?_ ?_ | with_reducible exact in_int | with_reducible exact in_str | with_reducible exact in_bool | with_reducible exact strs_in _ | with_reducible exact nodes_in _ | with_reducible exact items_in _ | with_reducible exact in_vnil | with_reducible exact in_any | exact hin _ | with_reducible refine take_in ?_ | with_reducible exact strsE_in _ | with_reducible exact nodesE_in _ | with_reducible exact nodeL_in _ | with_reducible exact itemsE_in _ | with_reducible exact itemL_in _ | with_reducible refine app_in ?_ ?_ | with_reducible refine sing_in ?_ | (focus (simp [in_any, in_int, in_bool, in_str, in_ptr, in_own, in_agg, in_vnil, in_rdr, usedOf_cons, strs_in, ints_in, nodes_in]; done)))); done))⟩
  rintro v s' ⟨v0, v1, v2⟩ hl
  refine AW.less _ hl ?_
  clear hl s'
  have hv5 : v = 0 ∨ v = 1 ∨ v = 2 ∨ v = 3 ∨ v = 4 := by omega
  repeat refine AW.seq ?_
  (refine AW.regionK [] (fun K hK => ?_); (repeat (refine arun_ks 4 rfl (fun C hC => ?_); (repeat ((conv => whnf); simp)); refine hC _ ?_; clear hC C; simp only [List.drop_succ_cons, List.drop_zero, List.drop_nil])); refine arun_nil ?_; refine hK _ ?_; clear hK K; simp only [thenA_normal, inBlockA_normal, endQ_normal, endR_normal])
  refine AW.block ?_
  repeat refine AW.seq ?_
  rcases hv5 with rfl | rfl | rfl | rfl | rfl
  · (refine AW.regionK [] (fun K hK => ?_); (repeat (refine arun_ks 4 rfl (fun C hC => ?_); (repeat ((conv => whnf); simp)); refine hC _ ?_; clear hC C; simp only [List.drop_succ_cons, List.drop_zero, List.drop_nil])); refine arun_nil ?_; refine hK _ ?_; clear hK K; simp only [thenA_normal, inBlockA_normal, endQ_normal, endR_normal])
    refine AW.condF (by simp [aev]) ?_
    repeat refine AW.seq ?_
    (refine AW.regionK [] (fun K hK => ?_); (repeat (refine arun_ks 4 rfl (fun C hC => ?_); (repeat ((conv => whnf); simp)); refine hC _ ?_; clear hC C; simp only [List.drop_succ_cons, List.drop_zero, List.drop_nil])); refine arun_nil ?_; refine hK _ ?_; clear hK K; simp only [thenA_normal, inBlockA_normal, endQ_normal, endR_normal])
    refine AW.condF (by simp [aev]) ?_
    repeat refine AW.seq ?_
    (refine AW.regionK [] (fun K hK => ?_); (repeat (refine arun_ks 4 rfl (fun C hC => ?_); (repeat ((conv => whnf); simp)); refine hC _ ?_; clear hC C; simp only [List.drop_succ_cons, List.drop_zero, List.drop_nil])); refine arun_nil ?_; refine hK _ ?_; clear hK K; simp only [thenA_normal, inBlockA_normal, endQ_normal, endR_normal])
    refine AW.condF (by simp [aev]) ?_
    repeat refine AW.seq ?_
    (refine AW.regionK [] (fun K hK => ?_); (repeat (refine arun_ks 4 rfl (fun C hC => ?_); (repeat ((conv => whnf); simp)); refine hC _ ?_; clear hC C; simp only [List.drop_succ_cons, List.drop_zero, List.drop_nil])); refine arun_nil ?_; refine hK _ ?_; clear hK K; simp only [thenA_normal, inBlockA_normal, endQ_normal, endR_normal])
    refine AW.condF (by simp [aev]) ?_
    refine AW.skip ?_
    simp only [thenA_normal, inBlockA_normal]
    repeat refine AW.seq ?_
    (refine AW.regionK [] (fun K hK => ?_); (repeat (refine arun_ks 4 rfl (fun C hC => ?_); (repeat ((conv => whnf); simp)); refine hC _ ?_; clear hC C; simp only [List.drop_succ_cons, List.drop_zero, List.drop_nil])); refine arun_nil ?_; refine hK _ ?_; clear hK K; simp only [thenA_normal, inBlockA_normal, endQ_normal, endR_normal])
    refine AW.ret ?_
    simp only [thenA_ret, inBlockA_ret, endR_ret]
    exact ⟨_, by simp [ares, aresL, upd, rowsOf_cons]; rfl, .inl ⟨node0_pur 0 0 ⟨#[]⟩, _, node0_wk 0 0 ⟨#[]⟩, _, sml_leaf 0 0 ⟨#[]⟩, rfl, rfl⟩⟩
  · (refine AW.regionK [] (fun K hK => ?_); (repeat (refine arun_ks 4 rfl (fun C hC => ?_); (repeat ((conv => whnf); simp)); refine hC _ ?_; clear hC C; simp only [List.drop_succ_cons, List.drop_zero, List.drop_nil])); refine arun_nil ?_; refine hK _ ?_; clear hK K; simp only [thenA_normal, inBlockA_normal, endQ_normal, endR_normal])
    refine AW.condT (by simp [aev]) ?_
    repeat refine AW.seq ?_
    (refine AW.regionK [] (fun K hK => ?_); refine arun_kk 3 (fun C0 hC0 => ?_); simp only [List.take_succ_cons, List.take_zero, List.take_nil]; (repeat (refine arun_ks 4 rfl (fun C hC => ?_); (repeat ((conv => whnf); simp)); refine hC _ ?_; clear hC C; simp only [List.drop_succ_cons, List.drop_zero, List.drop_nil])); refine arun_nil ?_; refine hC0 _ ?_; clear hC0 C0; simp only [List.drop_succ_cons, List.drop_zero, List.drop_nil])
    refine arun_call (c := 1) (by simp [awant]) rfl (by simp [aev, ofVal, ofVal0, nodeA, nodeT, nodeTL_eq, nodeL_eq]) (pick_AC 250 (by omega) (by omega)) (by simp only [cloL]; repeat (first | exact trivial | refine And.intro ?_ ?_ | exact clo_int | exact clo_str | exact clo_bool | exact clo_rdr | exact node_clo _ | exact nodeT_clo _ _ | exact strs_clo _ | exact ints_clo _ | exact nodes_clo _)) (can_of (by first | exact Nat.le_refl _ | simp; done | omega)) ?_
    rintro r ⟨x, rfl, hx⟩
    obtain ⟨x0, x1⟩ := hx.1 (by omega)
    (refine arun_kk 1 (fun C0 hC0 => ?_); simp only [List.take_succ_cons, List.take_zero, List.take_nil]; (repeat (refine arun_ks 4 rfl (fun C hC => ?_); (repeat ((conv => whnf); simp)); refine hC _ ?_; clear hC C; simp only [List.drop_succ_cons, List.drop_zero, List.drop_nil])); refine arun_nil ?_; refine hC0 _ ?_; clear hC0 C0; simp only [List.drop_succ_cons, List.drop_zero, List.drop_nil])
    refine arun_callU (c := 1) (by simp [awant]) rfl (one_ACU _ _ (by rfl) (by simp) (by simp)) (by simp only [List.map_cons, List.map_nil, aev, ofVal, ofVal0, cloL]; repeat (first | exact trivial | refine And.intro ?_ ?_ | exact clo_int | exact clo_str | exact clo_bool | exact clo_rdr | exact node_clo _ | exact nodeT_clo _ _ | exact strs_clo _ | exact ints_clo _ | exact nodes_clo _ | exact clo_lit _ (by decide) | exact clo_lit _ rfl)) (can_of (by first | exact Nat.le_refl _ | simp; done | omega)) ?_
    rintro r ⟨y, -, rfl⟩
    ((repeat (refine arun_ks 4 rfl (fun C hC => ?_); (repeat ((conv => whnf); simp)); refine hC _ ?_; clear hC C; simp only [List.drop_succ_cons, List.drop_zero, List.drop_nil])); refine arun_nil ?_; refine hK _ ?_; clear hK K; simp only [thenA_normal, inBlockA_normal, endQ_normal, endR_normal])
    refine AW.ret ?_
    simp only [thenA_ret, inBlockA_ret, endR_ret]
    exact ⟨_, by simp [ares, aresL, upd, rowsOf_cons]; rfl, .inl ⟨node0_pur 1 y ⟨#[]⟩, _, node0_wk 1 y ⟨#[]⟩, _, sml_leaf 1 y ⟨#[]⟩, rfl, rfl⟩⟩
  · (refine AW.regionK [] (fun K hK => ?_); (repeat (refine arun_ks 4 rfl (fun C hC => ?_); (repeat ((conv => whnf); simp)); refine hC _ ?_; clear hC C; simp only [List.drop_succ_cons, List.drop_zero, List.drop_nil])); refine arun_nil ?_; refine hK _ ?_; clear hK K; simp only [thenA_normal, inBlockA_normal, endQ_normal, endR_normal])
    refine AW.condF (by simp [aev]) ?_
    repeat refine AW.seq ?_
    (refine AW.regionK [] (fun K hK => ?_); (repeat (refine arun_ks 4 rfl (fun C hC => ?_); (repeat ((conv => whnf); simp)); refine hC _ ?_; clear hC C; simp only [List.drop_succ_cons, List.drop_zero, List.drop_nil])); refine arun_nil ?_; refine hK _ ?_; clear hK K; simp only [thenA_normal, inBlockA_normal, endQ_normal, endR_normal])
    refine AW.condT (by simp [aev]) ?_
    repeat refine AW.seq ?_
    (refine AW.regionK [] (fun K hK => ?_); refine arun_kk 2 (fun C0 hC0 => ?_); simp only [List.take_succ_cons, List.take_zero, List.take_nil]; (repeat (refine arun_ks 4 rfl (fun C hC => ?_); (repeat ((conv => whnf); simp)); refine hC _ ?_; clear hC C; simp only [List.drop_succ_cons, List.drop_zero, List.drop_nil])); refine arun_nil ?_; refine hC0 _ ?_; clear hC0 C0; simp only [List.drop_succ_cons, List.drop_zero, List.drop_nil])
    refine arun_call (c := 1) (by simp [awant]) rfl (by simp [aev, ofVal, ofVal0, nodeA, nodeT, nodeTL_eq, nodeL_eq]) (someText_AC) (by simp only [cloL]; repeat (first | exact trivial | refine And.intro ?_ ?_ | exact clo_int | exact clo_str | exact clo_bool | exact clo_rdr | exact node_clo _ | exact nodeT_clo _ _ | exact strs_clo _ | exact ints_clo _ | exact nodes_clo _)) (can_of (by first | exact Nat.le_refl _ | simp; done | omega)) ?_
    rintro r ⟨x, hx, rfl⟩
    ((repeat (refine arun_ks 4 rfl (fun C hC => ?_); (repeat ((conv => whnf); simp)); refine hC _ ?_; clear hC C; simp only [List.drop_succ_cons, List.drop_zero, List.drop_nil])); refine arun_nil ?_; refine hK _ ?_; clear hK K; simp only [thenA_normal, inBlockA_normal, endQ_normal, endR_normal])
    refine AW.ret ?_
    simp only [thenA_ret, inBlockA_ret, endR_ret]
    exact ⟨_, by simp [ares, aresL, upd, rowsOf_cons]; rfl, .inl ⟨node0_pur 2 0 x, _, node0_wk 2 0 x, _, sml_leaf 2 0 x, rfl, rfl⟩⟩
  · have hd1 : 1 < d := v2 (by omega)
    have hBd := hB hd1
    obtain ⟨hrn, -⟩ := hrec hd1
    generalize hC : nC (d - 1) = C at *
    have hwd : IntKind.i64.wrap ((d : Int) - 1) = ((d - 1 : Nat) : Int) := by rw [i64_nat (by omega) (by omega)]; omega
    (refine AW.regionK [] (fun K hK => ?_); (repeat (refine arun_ks 4 rfl (fun C hC => ?_); (repeat ((conv => whnf); simp)); refine hC _ ?_; clear hC C; simp only [List.drop_succ_cons, List.drop_zero, List.drop_nil])); refine arun_nil ?_; refine hK _ ?_; clear hK K; simp only [thenA_normal, inBlockA_normal, endQ_normal, endR_normal])
    refine AW.condF (by simp [aev]) ?_
    repeat refine AW.seq ?_
    (refine AW.regionK [] (fun K hK => ?_); (repeat (refine arun_ks 4 rfl (fun C hC => ?_); (repeat ((conv => whnf); simp)); refine hC _ ?_; clear hC C; simp only [List.drop_succ_cons, List.drop_zero, List.drop_nil])); refine arun_nil ?_; refine hK _ ?_; clear hK K; simp only [thenA_normal, inBlockA_normal, endQ_normal, endR_normal])
    refine AW.condF (by simp [aev]) ?_
    repeat refine AW.seq ?_
    (refine AW.regionK [] (fun K hK => ?_); (repeat (refine arun_ks 4 rfl (fun C hC => ?_); (repeat ((conv => whnf); simp)); refine hC _ ?_; clear hC C; simp only [List.drop_succ_cons, List.drop_zero, List.drop_nil])); refine arun_nil ?_; refine hK _ ?_; clear hK K; simp only [thenA_normal, inBlockA_normal, endQ_normal, endR_normal])
    refine AW.condT (by simp [aev]) ?_
    repeat refine AW.seq ?_
    (refine AW.regionK [] (fun K hK => ?_); (repeat (refine arun_ks 4 rfl (fun C hC => ?_); (repeat ((conv => whnf); simp)); refine hC _ ?_; clear hC C; simp only [List.drop_succ_cons, List.drop_zero, List.drop_nil])); refine arun_nil ?_; refine hK _ ?_; clear hK K; simp only [thenA_normal, inBlockA_normal, endQ_normal, endR_normal])
    refine AW.adopt 6 6 39 5 ⟨_, tab39, rfl⟩ rfl rfl ?_
    repeat refine AW.seq ?_
    simp only [ASt.adopt, ASt.add]
    (refine AW.regionK [] (fun K hK => ?_); refine arun_kk 1 (fun C0 hC0 => ?_); simp only [List.take_succ_cons, List.take_zero, List.take_nil]; (repeat (refine arun_ks 4 rfl (fun C hC => ?_); (repeat ((conv => whnf); simp)); refine hC _ ?_; clear hC C; simp only [List.drop_succ_cons, List.drop_zero, List.drop_nil])); refine arun_nil ?_; refine hC0 _ ?_; clear hC0 C0; simp only [List.drop_succ_cons, List.drop_zero, List.drop_nil])
    refine arun_call (c := 1) (by simp [awant]) rfl (by simp [aev, ofVal, ofVal0, nodeA, nodeT, nodeTL_eq, nodeL_eq]) (pick_AC 4 (by omega) (by omega)) (by simp only [cloL]; repeat (first | exact trivial | refine And.intro ?_ ?_ | exact clo_int | exact clo_str | exact clo_bool | exact clo_rdr | exact node_clo _ | exact nodeT_clo _ _ | exact strs_clo _ | exact ints_clo _ | exact nodes_clo _)) (can_of (by first | exact Nat.le_refl _ | simp; done | omega)) ?_
    rintro r ⟨x, rfl, hx⟩
    obtain ⟨x0, x1⟩ := hx.1 (by omega)
    obtain ⟨j, rfl⟩ := Int.eq_ofNat_of_zero_le x0
    ((repeat (refine arun_ks 4 rfl (fun C hC => ?_); (repeat ((conv => whnf); simp)); refine hC _ ?_; clear hC C; simp only [List.drop_succ_cons, List.drop_zero, List.drop_nil])); refine arun_nil ?_; refine hK _ ?_; clear hK K; simp only [thenA_normal, inBlockA_normal, endQ_normal, endR_normal])
    refine AW.block ?_
    refine AW.loopS (fun (x : List Nd × Nat × Nat) => mkSt (slots 0 56 [(0, .rdr), (1, .int .i64 d), (4, .ptr true 5 1 4 0 0), (5, .int .i64 3), (6, .own 6 x.1.length), (7, .int .i64 (x.2.1 : Int))]) [(4, ⟨true, 39, 5, [[.int .i64 0, .int .i64 0, .str ⟨#[]⟩, .view .tight 0 [], .view .tight 0 []]]⟩), (6, ⟨false, 39, 5, x.1.map nodeL⟩)] [4, 6] (rd0.map fun _ => x.2.2)) (fun x => x.2.1) (fun x => x.1.length + x.2.1 ≤ 3 ∧ x.2.1 * C ≤ x.2.2 ∧ ∀ k ∈ x.1, Sml k) ([], j, 3 * C) ?_ ⟨by show 0 + j ≤ 3; omega, Nat.mul_le_mul_right C (show j ≤ 3 by omega), fun k hk => by cases hk⟩ ?_
    · dsimp only [List.map_nil, List.length_nil]
      exact (less_of (by simp [lessL, mkSt, slots]) (by simp [upd, mkSt, rowsOf_cons]) (by simp [upd, mkSt, usedOf_cons]) (by first | exact rd_less (by omega) | simp [mkSt]) (by simp [slots, in_any, in_int, in_bool, in_str, in_ptr, in_own, in_agg, in_vnil, in_rdr, usedOf_cons, strs_in, ints_in, nodes_in, in_tup]) (by simp only [List.forall_mem_cons, List.not_mem_nil, false_implies, implies_true, and_true, true_and]; (repeat (first | with_reducible exact trivial | with_reducible refine And.intro ?_ ?_ | with_reducible exact in_int | with_reducible exact in_str | with_reducible exact in_bool | with_reducible exact strs_in _ | with_reducible exact nodes_in _ | with_reducible exact items_in _ | with_reducible exact in_vnil | with_reducible exact in_any | exact hin _ | with_reducible refine take_in ?_ | with_reducible exact strsE_in _ | with_reducible exact nodesE_in _ | with_reducible exact nodeL_in _ | with_reducible exact itemsE_in _ | with_reducible exact itemL_in _ | with_reducible refine app_in ?_ ?_ | with_reducible refine sing_in ?_ | (focus (simp [in_any, in_int, in_bool, in_str, in_ptr, in_own, in_agg, in_vnil, in_rdr, usedOf_cons, strs_in, ints_in, nodes_in]; done)))); done))
    · rintro ⟨ks, j, b⟩ ⟨g1, g2, g3⟩
      dsimp only at g1 g2 g3 ⊢
      have hl : (ks.map nodeL).length = ks.length := List.length_map _
      cases j with
      | succ j =>
        have hjc : (j + 1) * C = j * C + C := Nat.succ_mul _ _
        have hw : IntKind.i64.wrap (j : Int) = (j : Int) := i64_nat (by omega) (by omega)
        have hpos : (0 : Int) < (j : Int) + 1 := by omega
        have hb1 : (ks.length + 1) * 80 ≤ 140737488355328 := by omega
        have hb2 : ks.length + 1 ≤ 140737488355328 := by omega
        repeat refine AW.seq ?_
        (refine AW.regionK [] (fun K hK => ?_); (repeat (refine arun_ks 4 rfl (fun C hC => ?_); (repeat ((conv => whnf); simp [hpos])); refine hC _ ?_; clear hC C; simp only [List.drop_succ_cons, List.drop_zero, List.drop_nil])); refine arun_nil ?_; refine hK _ ?_; clear hK K; simp only [thenA_normal, inBlockA_normal, endQ_normal, endR_normal])
        refine AW.condT (by simp [aev]) ?_
        refine AW.skip ?_
        simp only [thenA_normal]
        repeat refine AW.seq ?_
        refine AW.block ?_
        repeat refine AW.seq ?_
        (refine AW.regionK [] (fun K hK => ?_); refine arun_kk 4 (fun C0 hC0 => ?_); simp only [List.take_succ_cons, List.take_zero, List.take_nil]; (repeat (refine arun_ks 4 rfl (fun C hC => ?_); (repeat ((conv => whnf); simp [hwd])); refine hC _ ?_; clear hC C; simp only [List.drop_succ_cons, List.drop_zero, List.drop_nil])); refine arun_nil ?_; refine hC0 _ ?_; clear hC0 C0; simp only [List.drop_succ_cons, List.drop_zero, List.drop_nil])
        refine arun_call (c := C) (by simp [awant]) rfl (by simp [aev, ofVal, ofVal0, nodeA, nodeT, nodeTL_eq, nodeL_eq]) (hrn) (by simp only [cloL]; repeat (first | exact trivial | refine And.intro ?_ ?_ | exact clo_int | exact clo_str | exact clo_bool | exact clo_rdr | exact node_clo _ | exact nodeT_clo _ _ | exact strs_clo _ | exact ints_clo _ | exact nodes_clo _)) (can_of (by first | exact Nat.le_refl _ | simp; done | omega)) ?_
        rintro r ⟨k, hk, rfl⟩
        unfold nodeA
        rw [nodeL_eq]
        ((repeat (refine arun_ks 4 rfl (fun C hC => ?_); (repeat ((conv => whnf); simp [hl, hb1, hb2])); refine hC _ ?_; clear hC C; simp only [List.drop_succ_cons, List.drop_zero, List.drop_nil])); refine arun_nil ?_; refine hK _ ?_; clear hK K; simp only [thenA_normal, inBlockA_normal, endQ_normal, endR_normal])
        repeat refine AW.seq ?_
        (refine AW.regionK [] (fun K hK => ?_); (repeat (refine arun_ks 4 rfl (fun C hC => ?_); (repeat ((conv => whnf); simp [hw])); refine hC _ ?_; clear hC C; simp only [List.drop_succ_cons, List.drop_zero, List.drop_nil])); refine arun_nil ?_; refine hK _ ?_; clear hK K; simp only [thenA_normal, inBlockA_normal, endQ_normal, endR_normal])
        have hin : ∀ U : Nat → Bool, ∀ e ∈ (ks ++ [k]).map nodeL, ∀ c ∈ e, AV.In U c := fun U e he => nodesE_in (ks ++ [k]) e he
        refine ⟨(ks ++ [k], j, b - C), by dsimp only; omega, ⟨by simp; omega, by dsimp only; omega, ?_⟩, ?_⟩
        · intro x hx
          rcases List.mem_append.1 hx with hx | hx
          · exact g3 x hx
          · rw [List.mem_singleton.1 hx]; exact hk
        · dsimp only
          rw [List.map_append] at hin ⊢
          exact (less_of (by simp [lessL, mkSt, slots, nodeL_eq]) (by simp [upd, mkSt, rowsOf_cons, nodeL_eq]) (by simp [upd, mkSt, usedOf_cons, nodeL_eq]) (by first | exact rd_less (by omega) | simp [mkSt, nodeL_eq]) (by simp [slots, in_any, in_int, in_bool, in_str, in_ptr, in_own, in_agg, in_vnil, in_rdr, usedOf_cons, strs_in, ints_in, nodes_in, in_tup, nodeL_eq]) (by simp only [List.forall_mem_cons, List.not_mem_nil, false_implies, implies_true, and_true, true_and, nodeL_eq]; (repeat (first | with_reducible exact trivial | with_reducible refine And.intro ?_ ?_ | with_reducible exact in_int | with_reducible exact in_str | with_reducible exact in_bool | with_reducible exact strs_in _ | with_reducible exact nodes_in _ | with_reducible exact items_in _ | with_reducible exact in_vnil | with_reducible exact in_any | exact hin _ | with_reducible refine take_in ?_ | with_reducible exact strsE_in _ | with_reducible exact nodesE_in _ | with_reducible exact nodeL_in _ | with_reducible exact itemsE_in _ | with_reducible exact itemL_in _ | with_reducible refine app_in ?_ ?_ | with_reducible refine sing_in ?_ | (focus (simp [in_any, in_int, in_bool, in_str, in_ptr, in_own, in_agg, in_vnil, in_rdr, usedOf_cons, strs_in, ints_in, nodes_in, nodeL_eq]; done)))); done))
      | zero =>
        repeat refine AW.seq ?_
        (refine AW.regionK [] (fun K hK => ?_); (repeat (refine arun_ks 4 rfl (fun C hC => ?_); (repeat ((conv => whnf); simp)); refine hC _ ?_; clear hC C; simp only [List.drop_succ_cons, List.drop_zero, List.drop_nil])); refine arun_nil ?_; refine hK _ ?_; clear hK K; simp only [thenA_normal, inBlockA_normal, endQ_normal, endR_normal])
        refine AW.condF (by simp [aev]) ?_
        refine AW.exit ?_
        simp only [thenA_exit, inBlockA_exit, if_true, thenA_normal]
        repeat refine AW.seq ?_
        (refine AW.regionK [] (fun K hK => ?_); (repeat (refine arun_ks 4 rfl (fun C hC => ?_); (repeat ((conv => whnf); simp)); refine hC _ ?_; clear hC C; simp only [List.drop_succ_cons, List.drop_zero, List.drop_nil])); refine arun_nil ?_; refine hK _ ?_; clear hK K; simp only [thenA_normal, inBlockA_normal, endQ_normal, endR_normal])
        refine AW.hold 6 ?_
        refine AW.ret ?_
        simp only [thenA_ret, inBlockA_ret, endR_ret]
        exact ⟨nodeT .tight ⟨3, 0, ⟨#[]⟩, [], ks⟩, by simp [nodeT, nodeTL, strsE, ares, aresL, ASt.hold, upd, rowsOf_cons, AV.subL, AV.sub, Row.sub], .inl ⟨nodeT_pur _ (by decide), _, Wk.refl _, _, .mk _ (by simp) (by dsimp only; omega) g3, rfl, rfl⟩⟩
  · have hd1 : 1 < d := v2 (by omega)
    have hBd := hB hd1
    have hC0 := nC_pos (d - 1)
    obtain ⟨-, hrm⟩ := hrec hd1
    generalize hC : nC (d - 1) = C at *
    (refine AW.regionK [] (fun K hK => ?_); (repeat (refine arun_ks 4 rfl (fun C hC => ?_); (repeat ((conv => whnf); simp)); refine hC _ ?_; clear hC C; simp only [List.drop_succ_cons, List.drop_zero, List.drop_nil])); refine arun_nil ?_; refine hK _ ?_; clear hK K; simp only [thenA_normal, inBlockA_normal, endQ_normal, endR_normal])
    refine AW.condF (by simp [aev]) ?_
    repeat refine AW.seq ?_
    (refine AW.regionK [] (fun K hK => ?_); (repeat (refine arun_ks 4 rfl (fun C hC => ?_); (repeat ((conv => whnf); simp)); refine hC _ ?_; clear hC C; simp only [List.drop_succ_cons, List.drop_zero, List.drop_nil])); refine arun_nil ?_; refine hK _ ?_; clear hK K; simp only [thenA_normal, inBlockA_normal, endQ_normal, endR_normal])
    refine AW.condF (by simp [aev]) ?_
    repeat refine AW.seq ?_
    (refine AW.regionK [] (fun K hK => ?_); (repeat (refine arun_ks 4 rfl (fun C hC => ?_); (repeat ((conv => whnf); simp)); refine hC _ ?_; clear hC C; simp only [List.drop_succ_cons, List.drop_zero, List.drop_nil])); refine arun_nil ?_; refine hK _ ?_; clear hK K; simp only [thenA_normal, inBlockA_normal, endQ_normal, endR_normal])
    refine AW.condF (by simp [aev]) ?_
    repeat refine AW.seq ?_
    (refine AW.regionK [] (fun K hK => ?_); (repeat (refine arun_ks 4 rfl (fun C hC => ?_); (repeat ((conv => whnf); simp)); refine hC _ ?_; clear hC C; simp only [List.drop_succ_cons, List.drop_zero, List.drop_nil])); refine arun_nil ?_; refine hK _ ?_; clear hK K; simp only [thenA_normal, inBlockA_normal, endQ_normal, endR_normal])
    refine AW.condT (by simp [aev]) ?_
    repeat refine AW.seq ?_
    (refine AW.regionK [] (fun K hK => ?_); refine arun_kk 2 (fun C0 hC0 => ?_); simp only [List.take_succ_cons, List.take_zero, List.take_nil]; (repeat (refine arun_ks 4 rfl (fun C hC => ?_); (repeat ((conv => whnf); simp)); refine hC _ ?_; clear hC C; simp only [List.drop_succ_cons, List.drop_zero, List.drop_nil])); refine arun_nil ?_; refine hC0 _ ?_; clear hC0 C0; simp only [List.drop_succ_cons, List.drop_zero, List.drop_nil])
    refine arun_callR (c := 9 + 4 * C) 54 (by simp [awant]) rfl (by simp [aev, ofVal, ofVal0]; rfl) (hrm) (by repeat (first | exact LndL.nil | exact LndL0.nil | refine LndL.cons ?_ ?_ | refine LndL0.cons ?_ ?_ | refine Lnd.base (Lnd0.clo (Clo.cloTo ?_)) | refine Lnd0.clo (Clo.cloTo ?_) | refine Lnd.base (Lnd0.own (by simp [rowsOf_cons, rowsOf_nil, upd]; rfl) ?_ ?_) | refine Lnd0.own (by simp [rowsOf_cons, rowsOf_nil, upd]; rfl) ?_ ?_ | refine Lnd.agg ?_ | (first | exact clo_int | exact clo_str | exact clo_bool | exact clo_rdr | exact node_clo _ | exact nodeT_clo _ _ | exact strs_clo _ | exact ints_clo _ | exact nodes_clo _ | assumption | exact clo_lit _ (by decide) | exact clo_lit _ rfl) | rfl)) (can_of (by first | exact Nat.le_refl _ | simp; done | omega)) (by simp [usedOf_cons, usedOf_nil, upd]) ?_ ?_
    · rintro r ⟨n, h1, h2, rfl⟩
      unfold nodeT
      rw [nodeTL_eq, h2]
      ((repeat (refine arun_ks 4 rfl (fun C hC => ?_); (repeat ((conv => whnf); simp [strsE])); refine hC _ ?_; clear hC C; simp only [List.drop_succ_cons, List.drop_zero, List.drop_nil])); refine arun_nil ?_; refine hK _ ?_; clear hK K; simp only [thenA_normal, inBlockA_normal, endQ_normal, endR_normal])
      refine AW.ret ?_
      simp only [thenA_ret, inBlockA_ret, endR_ret]
      refine ⟨nodeT .tight n, by simp [nodeT, nodeTL, strsE, h2, ares, aresL, upd, rowsOf_cons], .inl ⟨nodeT_pur _ (by decide), _, Wk.refl _, n, h1, h2, rfl⟩⟩
    · rintro r R ⟨n, h1, rfl, rfl⟩
      unfold nodeN
      ((repeat (refine arun_ks 4 rfl (fun C hC => ?_); (repeat ((conv => whnf); simp)); refine hC _ ?_; clear hC C; simp only [List.drop_succ_cons, List.drop_zero, List.drop_nil])); refine arun_nil ?_; refine hK _ ?_; clear hK K; simp only [thenA_normal, inBlockA_normal, endQ_normal, endR_normal])
      refine AW.ret ?_
      simp only [thenA_ret, inBlockA_ret, endR_ret]
      refine ⟨nodeN n 54, by simp [nodeN, ares, aresL, upd, rowsOf_cons], .inr ⟨nodeN n, 54, namesRow n, rfl, by simp [upd], nodeN_res n 54, strsE_pur _, n, h1, rfl, rfl⟩⟩
end Go.Proofs.Ytmeobmegnneegaa.Eng

/-
  Drawn maps: spec.randomMap; both together.
-/
namespace Go.Proofs.Ytmeobmegnneegaa.Eng
open Go Go.RowKit
attribute [local simp] big size_mk ASt.pay Option.map_map Function.comp_def awant aop acall ado aev ofVal ofVal0 ASt.put ASt.add ASt.turn ASt.kill abox aalloc astore aload ASt.at cellsTo afieldAddr afield aindexAddr aindex alen abin aint acmp astr aun apick aextract anil aslice abound abuild afill abuildSlice asCells aps avCells over upd aappend asrc amax amin aconv mkSt slots rowsOf_cons rowsOf_nil usedOf_cons usedOf_nil ZK.av List.replicate nodeA nodeT nodeTL_eq nodeL_eq strsE_get strsE_len intsE_get intsE_len strsE_at intsE_at tab2 tab3 tab4 tab5 tab6 tab7 tab8 tab9 tab10 tab11 tab12 tab13 tab14 tab15 tab16 tab17 tab18 tab19 tab21 tab22 tab23 tab24 tab25 tab26 tab27 tab28 tab31 tab32 tab33 tab37 tab38 tab39 tab46 tab53 tab61 tab62 tab69 tab70 tab98 tab116 tab117 tab125 tab126 tab128 tab136 tab145 tab146 tab151 tab152 tab153 tab155 tab156 tab157

theorem addN_sml {n v : Nd} {i : Nat} {st : ByteArray} (h : Sml n) (hv : Sml v) (h1 : n.names.length ≤ 900) (h2 : n.kids.length ≤ 900) : Sml (addN n i st v) := .mk _ (by simp [addN]; omega) (by simp [addN]; omega) (fun k hk => by
  simp only [addN, List.append_assoc, List.mem_append, List.mem_singleton, List.cons_append, List.nil_append, List.mem_cons] at hk
  rcases hk with hk | rfl | hk
  · exact h.kid (List.mem_of_mem_take hk)
  · exact hv
  · exact h.kid (List.mem_of_mem_drop hk))
theorem addN_len {n v : Nd} {i : Nat} {st : ByteArray} (hi : i ≤ n.kids.length) (hl : n.names.length = n.kids.length) : (addN n i st v).names.length = n.kids.length + 1 ∧ (addN n i st v).kids.length = n.kids.length + 1 := by
  simp [addN]; omega

theorem addN_data (n : Nd) (i : Nat) (st : ByteArray) (v : Nd) : (addN n i st v).kind = n.kind ∧ (addN n i st v).num = 0 ∧ (addN n i st v).text = ⟨#[]⟩ := ⟨rfl, rfl, rfl⟩
set_option linter.unusedSimpArgs false
set_option maxRecDepth 100000 in
set_option maxHeartbeats 8000000 in
theorem randomMap_step (d : Nat) (hd : d ≤ 4) (hrn : AC Try.prog 135 [.rdr, .int .i64 (d : Int)] (nC d) (fun r => ∃ n, Sml n ∧ r = nodeA n)) :
    ACR Try.prog 136 [.rdr, .int .i64 ((d + 1 : Nat) : Int)] (9 + 4 * nC d) (R0 Sml) (R1 Sml) := by
  have hwd : IntKind.i64.wrap (d : Int) = (d : Int) := i64_nat (by omega) (by omega)
  generalize nC d = C at *
  refine ACR.of tab_ok mixed_ok Try.func136 (by rfl) (by kernel_rfl) ?_; rintro ⟨P, T, hT, hm, w0, S0, rd0, k0⟩ hP hTT; dsimp only at hP hTT; subst hP hTT; unfold initSt; rw [Try.ntmps136]
  (repeat (first | with_reducible refine AW.seq ?_ | (refine arun_kn 4 rfl (fun C hC => ?_); ((repeat ((conv => whnf); simp)); refine hC _ ?_; clear hC C; simp only [List.drop_succ_cons, List.drop_zero, List.drop_nil, Nat.reduceAdd])) | (refine arun_kn 1 rfl (fun C hC => ?_); ((repeat ((conv => whnf); simp)); refine hC _ ?_; clear hC C; simp only [List.drop_succ_cons, List.drop_zero, List.drop_nil, Nat.reduceAdd])) | (refine arun_skip ?_ ?_; (focus (simp [awant]; done))) | (refine arun_callU (c := 1) ?_ rfl (one_ACU _ _ (by rfl) (by simp) (by simp)) ?_ ?_ ?_; (focus (simp [awant]; done)); (focus (simp only [List.map_cons, List.map_nil, aev, ofVal, ofVal0, cloL]; (repeat (first | exact trivial | refine And.intro ?_ ?_ | exact clo_int | exact clo_str | exact clo_bool | exact clo_rdr | exact node_clo _ | exact nodeT_clo _ _ | exact strs_clo _ | exact ints_clo _ | exact nodes_clo _ | exact clo_vnil | exact bytes_clo _ | exact clo_lit _ rfl | assumption)); done)); (focus (first | with_reducible exact can_none | ((first | with_reducible refine can_some ?_ | refine can_of ?_ | (simp only [ASt.put, ASt.pay, ASt.add, Option.map_map, Function.comp_def, Option.map_some]; first | refine can_some ?_ | refine can_of ?_)); (first | exact Nat.le_refl _ | (simp; done) | omega)))); (rintro r ⟨y, hy, rfl⟩)) | (refine arunD_kn 4 rfl (fun C hC => ?_); ((repeat ((conv => whnf); simp)); refine hC _ ?_; clear hC C; simp only [List.drop_succ_cons, List.drop_zero, List.drop_nil, Nat.reduceAdd])) | (refine arunD_kn 1 rfl (fun C hC => ?_); ((repeat ((conv => whnf); simp)); refine hC _ ?_; clear hC C; simp only [List.drop_succ_cons, List.drop_zero, List.drop_nil, Nat.reduceAdd])) | (refine arun_nil ?_; (refine hK _ ?_; clear hK K; simp only [thenA_normal, inBlockA_normal, endQ_normal, endR_normal])) | (refine arunD_nil ?_; (refine hK _ ?_; clear hK K; simp only [thenA_normal, inBlockA_normal, endQ_normal, endR_normal])) | (refine AW.regionK [] (fun K hK => ?_)) | (refine AW.regionDK [] (pcs [] []) (by kernel_rfl) (by kernel_rfl) (fun K hK => ?_)) | (refine AW.condT ?_ ?_; (focus (simp [aev]; done))) | (refine AW.condF ?_ ?_; (focus (simp [aev]; done))) | (refine AW.skip ?_; simp only [thenA_normal, inBlockA_normal]) | with_reducible refine AW.block ?_ | (refine AW.exit ?_; simp only [thenA_exit, inBlockA_exit, if_true, if_false, Nat.reduceEqDiff, thenA_normal, inBlockA_normal, reduceIte]) | (refine AW.ret ?_; simp only [thenA_ret, inBlockA_ret, endQ_ret, endR_ret])))
  have hy4 : 0 ≤ y ∧ y ≤ 4 := by simp [intOf] at hy; omega
  clear hy
  obtain ⟨j, rfl⟩ := Int.eq_ofNat_of_zero_le hy4.1
  refine AW.adoptB 5 3 36 9 1 ⟨_, tab9, rfl⟩ (by simp [upd]; rfl) rfl rfl (by simp [upd]) ?_
  simp [ASt.adoptB, upd]
  refine AW.wkB 5 4 (.view .loose 5 []) (Wk.nil (fun h => by cases h)) (by simp [upd]; rfl) rfl rfl ?_
  simp [ASt.wkB, upd]
  refine AW.loopS (fun (x : Nd × Nat × Nat × Nat) => mkSt (slots 0 37 [(0, .rdr), (1, .int .i64 ((d : Int) + 1)), (4, .ptr true 5 1 4 0 0), (5, .ptr true 5 1 5 0 0), (6, .int .i64 (x.2.1 : Int))]) [(4, ⟨true, 39, 5, [[.int .i64 0, .int .i64 0, .str ⟨#[]⟩, .view .tight 0 [], .view .tight 0 []]]⟩), (5, ⟨true, 39, 5, [[.int .i64 4, .int .i64 0, .str ⟨#[]⟩, .own x.2.2.2 x.1.names.length, .view .loose 5 (x.1.kids.map nodeL)]]⟩), (x.2.2.2, namesRow x.1)] [4, 5, x.2.2.2] (rd0.map fun _ => x.2.2.1)) (fun x => x.2.1) (fun x => x.1.kind = 4 ∧ x.1.num = 0 ∧ x.1.text = ⟨#[]⟩ ∧ x.1.names.length = x.1.kids.length ∧ x.1.names.length + x.2.1 ≤ 4 ∧ x.2.1 * (C + 2) ≤ x.2.2.1 ∧ Sml x.1 ∧ (x.2.2.2 = 36 ∨ x.2.2.2 = 54)) (⟨4, 0, ⟨#[]⟩, [], []⟩, j, 8 + 4 * C, 36) ?_ ⟨rfl, rfl, rfl, rfl, by show 0 + j ≤ 4; omega, Nat.le_trans (Nat.mul_le_mul_right _ (show j ≤ 4 by omega)) (by show 4 * (C + 2) ≤ 8 + 4 * C; omega), .mk _ (by simp) (by simp) (fun k hk => by cases hk), .inl rfl⟩ ?_
  · dsimp only [List.map_nil, List.length_nil, namesRow, strsE]
    exact (less_of (by simp [lessL, mkSt, slots]) (by simp [upd, mkSt, rowsOf_cons]) (by simp [upd, mkSt, usedOf_cons]) (by first | exact rd_less (by omega) | simp [mkSt]) (by simp [slots, in_any, in_int, in_bool, in_str, in_ptr, in_own, in_agg, in_vnil, in_rdr, usedOf_cons, strs_in, ints_in, nodes_in, in_tup]) (by simp only [List.forall_mem_cons, List.not_mem_nil, false_implies, implies_true, and_true, true_and]; (repeat (first | with_reducible exact trivial | with_reducible refine And.intro ?_ ?_ | with_reducible exact in_int | with_reducible exact in_str | with_reducible exact in_bool | with_reducible exact strs_in _ | with_reducible exact nodes_in _ | with_reducible exact items_in _ | with_reducible exact in_vnil | with_reducible exact in_any | exact hin _ | with_reducible refine take_in ?_ | with_reducible exact strsE_in _ | with_reducible exact nodesE_in _ | with_reducible exact nodeL_in _ | with_reducible exact itemsE_in _ | with_reducible exact itemL_in _ | with_reducible refine app_in ?_ ?_ | with_reducible refine sing_in ?_ | (focus (simp [in_any, in_int, in_bool, in_str, in_ptr, in_own, in_agg, in_vnil, in_rdr, usedOf_cons, strs_in, ints_in, nodes_in]; done)))); done))
  · rintro ⟨⟨_, _, _, names, kids⟩, j, b, id⟩ ⟨g1, g2, g3, g4, g5, g6, g7, g8⟩
    dsimp only at g1 g2 g3 g4 g5 g6 g7 g8 ⊢
    subst g1 g2 g3
    unfold namesRow
    rcases g8 with rfl | rfl
    · cases j with
      | zero =>
        (repeat (first | with_reducible refine AW.seq ?_ | (refine arun_kn 4 rfl (fun C hC => ?_); ((repeat ((conv => whnf); simp)); refine hC _ ?_; clear hC C; simp only [List.drop_succ_cons, List.drop_zero, List.drop_nil, Nat.reduceAdd])) | (refine arun_kn 1 rfl (fun C hC => ?_); ((repeat ((conv => whnf); simp)); refine hC _ ?_; clear hC C; simp only [List.drop_succ_cons, List.drop_zero, List.drop_nil, Nat.reduceAdd])) | (refine arun_skip ?_ ?_; (focus (simp [awant]; done))) | (refine arunD_kn 4 rfl (fun C hC => ?_); ((repeat ((conv => whnf); simp)); refine hC _ ?_; clear hC C; simp only [List.drop_succ_cons, List.drop_zero, List.drop_nil, Nat.reduceAdd])) | (refine arunD_kn 1 rfl (fun C hC => ?_); ((repeat ((conv => whnf); simp)); refine hC _ ?_; clear hC C; simp only [List.drop_succ_cons, List.drop_zero, List.drop_nil, Nat.reduceAdd])) | (refine arun_nil ?_; (refine hK _ ?_; clear hK K; simp only [thenA_normal, inBlockA_normal, endQ_normal, endR_normal])) | (refine arunD_nil ?_; (refine hK _ ?_; clear hK K; simp only [thenA_normal, inBlockA_normal, endQ_normal, endR_normal])) | (refine AW.regionK [] (fun K hK => ?_)) | (refine AW.regionDK [] (pcs [] []) (by kernel_rfl) (by kernel_rfl) (fun K hK => ?_)) | (refine AW.condT ?_ ?_; (focus (simp [aev]; done))) | (refine AW.condF ?_ ?_; (focus (simp [aev]; done))) | (refine AW.skip ?_; simp only [thenA_normal, inBlockA_normal]) | with_reducible refine AW.block ?_ | (refine AW.exit ?_; simp only [thenA_exit, inBlockA_exit, if_true, if_false, Nat.reduceEqDiff, thenA_normal, inBlockA_normal, reduceIte]) | (refine AW.ret ?_; simp only [thenA_ret, inBlockA_ret, endQ_ret, endR_ret])))
        exact ⟨nodeN ⟨4, 0, ⟨#[]⟩, names, kids⟩ 36, by simp [nodeN, ares, aresL, upd, rowsOf_cons], .inr ⟨nodeN ⟨4, 0, ⟨#[]⟩, names, kids⟩, 36, namesRow ⟨4, 0, ⟨#[]⟩, names, kids⟩, rfl, by simp [upd, rowsOf_cons, namesRow], nodeN_res _ 36, strsE_pur _, _, g7, rfl, rfl⟩⟩
      | succ j =>
        have hw : IntKind.i64.wrap (j : Int) = (j : Int) := i64_nat (by omega) (by omega)
        have hpos : (0 : Int) < (j : Int) + 1 := by omega
        have hjc : (j + 1) * (C + 2) = j * (C + 2) + (C + 2) := Nat.succ_mul _ _
        have hplc : Plc ⟨4, 0, ⟨#[]⟩, names, kids⟩ := ⟨fun _ => by dsimp only; omega, fun h => by cases h⟩
        (repeat (first | with_reducible refine AW.seq ?_ | (refine arun_kn 4 rfl (fun C hC => ?_); ((repeat ((conv => whnf); simp [hpos, hw, hwd])); refine hC _ ?_; clear hC C; simp only [List.drop_succ_cons, List.drop_zero, List.drop_nil, Nat.reduceAdd])) | (refine arun_kn 1 rfl (fun C hC => ?_); ((repeat ((conv => whnf); simp [hpos, hw, hwd])); refine hC _ ?_; clear hC C; simp only [List.drop_succ_cons, List.drop_zero, List.drop_nil, Nat.reduceAdd])) | (refine arun_skip ?_ ?_; (focus (simp [awant, hpos, hw, hwd]; done))) | (refine arun_call (c := 1) ?_ rfl ?_ (someName_AC) ?_ ?_ ?_; (focus (simp [awant]; done)); (focus (simp [ASt.put, ASt.pay, ASt.add, Option.map_map, Function.comp_def, List.set_cons_succ, List.set_cons_zero, aev, ofVal, ofVal0, big, size_mk, nodeA, nodeT, nodeTL_eq, nodeL_eq, hpos, hw, hwd]; done)); (focus (simp only [cloL]; (repeat (first | exact trivial | refine And.intro ?_ ?_ | exact clo_int | exact clo_str | exact clo_bool | exact clo_rdr | exact node_clo _ | exact nodeT_clo _ _ | exact strs_clo _ | exact ints_clo _ | exact nodes_clo _ | exact clo_vnil | exact bytes_clo _ | exact clo_lit _ rfl | assumption)); done)); (focus (first | with_reducible exact can_none | ((first | with_reducible refine can_some ?_ | refine can_of ?_ | (simp only [ASt.put, ASt.pay, ASt.add, Option.map_map, Function.comp_def, Option.map_some]; first | refine can_some ?_ | refine can_of ?_)); (first | exact Nat.le_refl _ | (simp; done) | omega)))); (rintro _ ⟨nm, hnm, rfl⟩)) | (refine arun_call (c := C) ?_ rfl ?_ (hrn) ?_ ?_ ?_; (focus (simp [awant]; done)); (focus (simp [ASt.put, ASt.pay, ASt.add, Option.map_map, Function.comp_def, List.set_cons_succ, List.set_cons_zero, aev, ofVal, ofVal0, big, size_mk, nodeA, nodeT, nodeTL_eq, nodeL_eq, hpos, hw, hwd]; done)); (focus (simp only [cloL]; (repeat (first | exact trivial | refine And.intro ?_ ?_ | exact clo_int | exact clo_str | exact clo_bool | exact clo_rdr | exact node_clo _ | exact nodeT_clo _ _ | exact strs_clo _ | exact ints_clo _ | exact nodes_clo _ | exact clo_vnil | exact bytes_clo _ | exact clo_lit _ rfl | assumption)); done)); (focus (first | with_reducible exact can_none | ((first | with_reducible refine can_some ?_ | refine can_of ?_ | (simp only [ASt.put, ASt.pay, ASt.add, Option.map_map, Function.comp_def, Option.map_some]; first | refine can_some ?_ | refine can_of ?_)); (first | exact Nat.le_refl _ | (simp; done) | omega)))); (rintro _ ⟨kid, hkid, rfl⟩)) | (refine arun_callLU (c := 0) ?_ rfl (place_ok .lent ⟨4, 0, ⟨#[]⟩, names, kids⟩ nm hplc) ?_ ?_ ?_; (focus (simp [awant]; done)); (focus (simp [ASt.put, ASt.pay, ASt.add, Option.map_map, Function.comp_def, List.set_cons_succ, List.set_cons_zero, aev, ofVal, ofVal0, big, size_mk, nodeA, nodeT, nodeTL_eq, nodeL_eq, hpos, hw, hwd]; (repeat (first | exact LndL.nil | exact LndL0.nil | refine LndL.cons ?_ ?_ | refine LndL0.cons ?_ ?_ | refine Lnd.base (Lnd0.clo (Clo.cloTo ?_)) | refine Lnd0.clo (Clo.cloTo ?_) | (refine Lnd.base (Lnd0.ownM ?_ ?_ ?_); (focus (simp [rowsOf_cons, rowsOf_nil, upd]; done))) | (refine Lnd0.ownM ?_ ?_ ?_; (focus (simp [rowsOf_cons, rowsOf_nil, upd]; done))) | refine Lnd.agg ?_ | exact clo_int | exact clo_str | exact clo_bool | exact clo_rdr | exact node_clo _ | exact nodeT_clo _ _ | exact strs_clo _ | exact ints_clo _ | exact nodes_clo _ | exact clo_vnil | exact bytes_clo _ | exact clo_lit _ rfl | assumption | rfl | exact strsE_clo _ | exact nodesE_clo _ | exact itemsE_clo _ | (focus (simp [strsE_len]; done)))); done)); (focus (first | with_reducible exact can_none | ((first | with_reducible refine can_some ?_ | refine can_of ?_ | (simp only [ASt.put, ASt.pay, ASt.add, Option.map_map, Function.comp_def, Option.map_some]; first | refine can_some ?_ | refine can_of ?_)); (first | exact Nat.le_refl _ | (simp; done) | omega)))); rintro _ rfl) | (refine arunD_kn 4 rfl (fun C hC => ?_); ((repeat ((conv => whnf); simp [hpos, hw, hwd])); refine hC _ ?_; clear hC C; simp only [List.drop_succ_cons, List.drop_zero, List.drop_nil, Nat.reduceAdd])) | (refine arunD_kn 1 rfl (fun C hC => ?_); ((repeat ((conv => whnf); simp [hpos, hw, hwd])); refine hC _ ?_; clear hC C; simp only [List.drop_succ_cons, List.drop_zero, List.drop_nil, Nat.reduceAdd])) | (refine arunD_call (c := 1) rfl ?_ rfl ?_ (someName_AC) rfl ?_ ?_ ?_ ?_; (focus (simp [awant]; done)); (focus (simp [ASt.put, ASt.pay, ASt.add, Option.map_map, Function.comp_def, List.set_cons_succ, List.set_cons_zero, aev, ofVal, ofVal0, big, size_mk, nodeA, nodeT, nodeTL_eq, nodeL_eq, hpos, hw, hwd]; done)); (focus (simp only [List.forall_mem_cons, List.not_mem_nil, false_implies, implies_true, and_true]; (repeat (first | exact trivial | refine And.intro ?_ ?_ | exact clo_int | exact clo_str | exact clo_bool | exact clo_rdr | exact node_clo _ | exact nodeT_clo _ _ | exact strs_clo _ | exact ints_clo _ | exact nodes_clo _ | exact clo_vnil | exact bytes_clo _ | exact clo_lit _ rfl | assumption)); done)); (focus (first | with_reducible exact can_none | ((first | with_reducible refine can_some ?_ | refine can_of ?_ | (simp only [ASt.put, ASt.pay, ASt.add, Option.map_map, Function.comp_def, Option.map_some]; first | refine can_some ?_ | refine can_of ?_)); (first | exact Nat.le_refl _ | (simp; done) | omega)))); (focus (refine ⟨_, rfl, ?_⟩; first | exact node_in _ | exact storeA_in _ | exact item_in _ | exact in_int | exact in_bool | exact in_str | (simp [NoId, in_tup, in_agg, in_int, in_bool, in_str, node_in, nodes_in, strs_in]; done))); (rintro _ ⟨nm, hnm, rfl⟩); intro _) | (refine arunD_call (c := C) rfl ?_ rfl ?_ (hrn) rfl ?_ ?_ ?_ ?_; (focus (simp [awant]; done)); (focus (simp [ASt.put, ASt.pay, ASt.add, Option.map_map, Function.comp_def, List.set_cons_succ, List.set_cons_zero, aev, ofVal, ofVal0, big, size_mk, nodeA, nodeT, nodeTL_eq, nodeL_eq, hpos, hw, hwd]; done)); (focus (simp only [List.forall_mem_cons, List.not_mem_nil, false_implies, implies_true, and_true]; (repeat (first | exact trivial | refine And.intro ?_ ?_ | exact clo_int | exact clo_str | exact clo_bool | exact clo_rdr | exact node_clo _ | exact nodeT_clo _ _ | exact strs_clo _ | exact ints_clo _ | exact nodes_clo _ | exact clo_vnil | exact bytes_clo _ | exact clo_lit _ rfl | assumption)); done)); (focus (first | with_reducible exact can_none | ((first | with_reducible refine can_some ?_ | refine can_of ?_ | (simp only [ASt.put, ASt.pay, ASt.add, Option.map_map, Function.comp_def, Option.map_some]; first | refine can_some ?_ | refine can_of ?_)); (first | exact Nat.le_refl _ | (simp; done) | omega)))); (focus (refine ⟨_, rfl, ?_⟩; first | exact node_in _ | exact storeA_in _ | exact item_in _ | exact in_int | exact in_bool | exact in_str | (simp [NoId, in_tup, in_agg, in_int, in_bool, in_str, node_in, nodes_in, strs_in]; done))); (rintro _ ⟨kid, hkid, rfl⟩); intro _) | (refine arun_nil ?_; (refine hK _ ?_; clear hK K; simp only [thenA_normal, inBlockA_normal, endQ_normal, endR_normal])) | (refine arunD_nil ?_; (refine hK _ ?_; clear hK K; simp only [thenA_normal, inBlockA_normal, endQ_normal, endR_normal])) | (refine AW.regionK [] (fun K hK => ?_)) | (refine AW.regionDK [] (pcs [] []) (by kernel_rfl) (by kernel_rfl) (fun K hK => ?_)) | (refine AW.condT ?_ ?_; (focus (simp [aev, hpos, hw, hwd]; done))) | (refine AW.condF ?_ ?_; (focus (simp [aev, hpos, hw, hwd]; done))) | (refine AW.skip ?_; simp only [thenA_normal, inBlockA_normal]) | with_reducible refine AW.block ?_ | (refine AW.exit ?_; simp only [thenA_exit, inBlockA_exit, if_true, if_false, Nat.reduceEqDiff, thenA_normal, inBlockA_normal, reduceIte]) | (refine AW.ret ?_; simp only [thenA_ret, inBlockA_ret, endQ_ret, endR_ret])))
        rcases Int.lt_or_le (placeI ⟨4, 0, ⟨#[]⟩, names, kids⟩ nm) 0 with hp | hp
        · (repeat (first | with_reducible refine AW.seq ?_ | (refine arun_kn 4 rfl (fun C hC => ?_); ((repeat ((conv => whnf); simp [hw, hp])); refine hC _ ?_; clear hC C; simp only [List.drop_succ_cons, List.drop_zero, List.drop_nil, Nat.reduceAdd])) | (refine arun_kn 1 rfl (fun C hC => ?_); ((repeat ((conv => whnf); simp [hw, hp])); refine hC _ ?_; clear hC C; simp only [List.drop_succ_cons, List.drop_zero, List.drop_nil, Nat.reduceAdd])) | (refine arun_skip ?_ ?_; (focus (simp [awant, hw, hp]; done))) | (refine arun_callRU (c := 0) 54 ?_ rfl (addHere_ACR ⟨4, 0, ⟨#[]⟩, names, kids⟩ kid .lent nm rfl g4 g7 hkid hp) ?_ ?_ ?_ (fun _ h => h.elim) ?_; (focus (simp [awant]; done)); (focus (simp [ASt.put, ASt.pay, ASt.add, Option.map_map, Function.comp_def, List.set_cons_succ, List.set_cons_zero, aev, ofVal, ofVal0, big, size_mk, nodeA, nodeT, nodeTL_eq, nodeL_eq, hw, hp]; (repeat (first | exact LndL.nil | exact LndL0.nil | refine LndL.cons ?_ ?_ | refine LndL0.cons ?_ ?_ | refine Lnd.base (Lnd0.clo (Clo.cloTo ?_)) | refine Lnd0.clo (Clo.cloTo ?_) | (refine Lnd.base (Lnd0.ownM ?_ ?_ ?_); (focus (simp [rowsOf_cons, rowsOf_nil, upd]; done))) | (refine Lnd0.ownM ?_ ?_ ?_; (focus (simp [rowsOf_cons, rowsOf_nil, upd]; done))) | refine Lnd.agg ?_ | exact clo_int | exact clo_str | exact clo_bool | exact clo_rdr | exact node_clo _ | exact nodeT_clo _ _ | exact strs_clo _ | exact ints_clo _ | exact nodes_clo _ | exact clo_vnil | exact bytes_clo _ | exact clo_lit _ rfl | assumption | rfl | exact strsE_clo _ | exact nodesE_clo _ | exact itemsE_clo _ | (focus (simp [strsE_len]; done)))); done)); (focus (first | with_reducible exact can_none | ((first | with_reducible refine can_some ?_ | refine can_of ?_ | (simp only [ASt.put, ASt.pay, ASt.add, Option.map_map, Function.comp_def, Option.map_some]; first | refine can_some ?_ | refine can_of ?_)); (first | exact Nat.le_refl _ | (simp; done) | omega)))); (focus (simp [ASt.put, ASt.pay, ASt.add, usedOf_cons, usedOf_nil, upd]; done)); ((rintro _ _ ⟨i, hi, rfl, rfl⟩; have hlen := addN_len (v := kid) (st := nm) hi g4; have hsm := addN_sml (i := i) (st := nm) g7 hkid (by dsimp only; omega) (by dsimp only; omega); obtain ⟨hm1, hm2, hm3⟩ := addN_data ⟨4, 0, ⟨#[]⟩, names, kids⟩ i nm kid; generalize addN ⟨4, 0, ⟨#[]⟩, names, kids⟩ i nm kid = m at *; unfold nodeN namesRow; rw [hm1, hm2, hm3]))) | (refine arunD_kn 4 rfl (fun C hC => ?_); ((repeat ((conv => whnf); simp [hw, hp])); refine hC _ ?_; clear hC C; simp only [List.drop_succ_cons, List.drop_zero, List.drop_nil, Nat.reduceAdd])) | (refine arunD_kn 1 rfl (fun C hC => ?_); ((repeat ((conv => whnf); simp [hw, hp])); refine hC _ ?_; clear hC C; simp only [List.drop_succ_cons, List.drop_zero, List.drop_nil, Nat.reduceAdd])) | (refine arun_nil ?_; (refine hK _ ?_; clear hK K; simp only [thenA_normal, inBlockA_normal, endQ_normal, endR_normal])) | (refine arunD_nil ?_; (refine hK _ ?_; clear hK K; simp only [thenA_normal, inBlockA_normal, endQ_normal, endR_normal])) | (refine AW.regionK [] (fun K hK => ?_)) | (refine AW.regionDK [] (pcs [] []) (by kernel_rfl) (by kernel_rfl) (fun K hK => ?_)) | (refine AW.condT ?_ ?_; (focus (simp [aev, hw, hp]; done))) | (refine AW.condF ?_ ?_; (focus (simp [aev, hw, hp]; done))) | (refine AW.skip ?_; simp only [thenA_normal, inBlockA_normal]) | with_reducible refine AW.block ?_ | (refine AW.exit ?_; simp only [thenA_exit, inBlockA_exit, if_true, if_false, Nat.reduceEqDiff, thenA_normal, inBlockA_normal, reduceIte]) | (refine AW.ret ?_; simp only [thenA_ret, inBlockA_ret, endQ_ret, endR_ret])))
          dsimp only at hlen
          refine ⟨(m, j, b - 1 - C, 54), by dsimp only; omega, ⟨hm1, hm2, hm3, by dsimp only; omega, by dsimp only; omega, by dsimp only; omega, hsm, by simp⟩, ?_⟩
          dsimp only
          exact (less_of (by simp [lessL, mkSt, slots, namesRow]) (by simp [upd, mkSt, rowsOf_cons, namesRow]) (by simp [upd, mkSt, usedOf_cons, namesRow]) (by first | exact rd_less (by omega) | simp [mkSt, namesRow]) (by simp [slots, in_any, in_int, in_bool, in_str, in_ptr, in_own, in_agg, in_vnil, in_rdr, usedOf_cons, strs_in, ints_in, nodes_in, in_tup, namesRow]) (by simp only [List.forall_mem_cons, List.not_mem_nil, false_implies, implies_true, and_true, true_and, namesRow]; (repeat (first | with_reducible exact trivial | with_reducible refine And.intro ?_ ?_ | with_reducible exact in_int | with_reducible exact in_str | with_reducible exact in_bool | with_reducible exact strs_in _ | with_reducible exact nodes_in _ | with_reducible exact items_in _ | with_reducible exact in_vnil | with_reducible exact in_any | exact hin _ | with_reducible refine take_in ?_ | with_reducible exact strsE_in _ | with_reducible exact nodesE_in _ | with_reducible exact nodeL_in _ | with_reducible exact itemsE_in _ | with_reducible exact itemL_in _ | with_reducible refine app_in ?_ ?_ | with_reducible refine sing_in ?_ | (focus (simp [in_any, in_int, in_bool, in_str, in_ptr, in_own, in_agg, in_vnil, in_rdr, usedOf_cons, strs_in, ints_in, nodes_in, namesRow]; done)))); done))
        · have hp' : ¬ (placeI ⟨4, 0, ⟨#[]⟩, names, kids⟩ nm < 0) := by omega
          (repeat (first | with_reducible refine AW.seq ?_ | (refine arun_kn 4 rfl (fun C hC => ?_); ((repeat ((conv => whnf); simp [hw, hp'])); refine hC _ ?_; clear hC C; simp only [List.drop_succ_cons, List.drop_zero, List.drop_nil, Nat.reduceAdd])) | (refine arun_kn 1 rfl (fun C hC => ?_); ((repeat ((conv => whnf); simp [hw, hp'])); refine hC _ ?_; clear hC C; simp only [List.drop_succ_cons, List.drop_zero, List.drop_nil, Nat.reduceAdd])) | (refine arun_skip ?_ ?_; (focus (simp [awant, hw, hp']; done))) | (refine arunD_kn 4 rfl (fun C hC => ?_); ((repeat ((conv => whnf); simp [hw, hp'])); refine hC _ ?_; clear hC C; simp only [List.drop_succ_cons, List.drop_zero, List.drop_nil, Nat.reduceAdd])) | (refine arunD_kn 1 rfl (fun C hC => ?_); ((repeat ((conv => whnf); simp [hw, hp'])); refine hC _ ?_; clear hC C; simp only [List.drop_succ_cons, List.drop_zero, List.drop_nil, Nat.reduceAdd])) | (refine arun_nil ?_; (refine hK _ ?_; clear hK K; simp only [thenA_normal, inBlockA_normal, endQ_normal, endR_normal])) | (refine arunD_nil ?_; (refine hK _ ?_; clear hK K; simp only [thenA_normal, inBlockA_normal, endQ_normal, endR_normal])) | (refine AW.regionK [] (fun K hK => ?_)) | (refine AW.regionDK [] (pcs [] []) (by kernel_rfl) (by kernel_rfl) (fun K hK => ?_)) | (refine AW.condT ?_ ?_; (focus (simp [aev, hw, hp']; done))) | (refine AW.condF ?_ ?_; (focus (simp [aev, hw, hp']; done))) | (refine AW.skip ?_; simp only [thenA_normal, inBlockA_normal]) | with_reducible refine AW.block ?_ | (refine AW.exit ?_; simp only [thenA_exit, inBlockA_exit, if_true, if_false, Nat.reduceEqDiff, thenA_normal, inBlockA_normal, reduceIte]) | (refine AW.ret ?_; simp only [thenA_ret, inBlockA_ret, endQ_ret, endR_ret])))
          refine ⟨(⟨4, 0, ⟨#[]⟩, names, kids⟩, j, b - 1 - C, 36), by dsimp only; omega, ⟨rfl, rfl, rfl, g4, by dsimp only at g5 ⊢; omega, by dsimp only; omega, g7, by simp⟩, ?_⟩
          dsimp only
          exact (less_of (by simp [lessL, mkSt, slots, namesRow]) (by simp [upd, mkSt, rowsOf_cons, namesRow]) (by simp [upd, mkSt, usedOf_cons, namesRow]) (by first | exact rd_less (by omega) | simp [mkSt, namesRow]) (by simp [slots, in_any, in_int, in_bool, in_str, in_ptr, in_own, in_agg, in_vnil, in_rdr, usedOf_cons, strs_in, ints_in, nodes_in, in_tup, namesRow]) (by simp only [List.forall_mem_cons, List.not_mem_nil, false_implies, implies_true, and_true, true_and, namesRow]; (repeat (first | with_reducible exact trivial | with_reducible refine And.intro ?_ ?_ | with_reducible exact in_int | with_reducible exact in_str | with_reducible exact in_bool | with_reducible exact strs_in _ | with_reducible exact nodes_in _ | with_reducible exact items_in _ | with_reducible exact in_vnil | with_reducible exact in_any | exact hin _ | with_reducible refine take_in ?_ | with_reducible exact strsE_in _ | with_reducible exact nodesE_in _ | with_reducible exact nodeL_in _ | with_reducible exact itemsE_in _ | with_reducible exact itemL_in _ | with_reducible refine app_in ?_ ?_ | with_reducible refine sing_in ?_ | (focus (simp [in_any, in_int, in_bool, in_str, in_ptr, in_own, in_agg, in_vnil, in_rdr, usedOf_cons, strs_in, ints_in, nodes_in, namesRow]; done)))); done))
    · cases j with
      | zero =>
        (repeat (first | with_reducible refine AW.seq ?_ | (refine arun_kn 4 rfl (fun C hC => ?_); ((repeat ((conv => whnf); simp)); refine hC _ ?_; clear hC C; simp only [List.drop_succ_cons, List.drop_zero, List.drop_nil, Nat.reduceAdd])) | (refine arun_kn 1 rfl (fun C hC => ?_); ((repeat ((conv => whnf); simp)); refine hC _ ?_; clear hC C; simp only [List.drop_succ_cons, List.drop_zero, List.drop_nil, Nat.reduceAdd])) | (refine arun_skip ?_ ?_; (focus (simp [awant]; done))) | (refine arunD_kn 4 rfl (fun C hC => ?_); ((repeat ((conv => whnf); simp)); refine hC _ ?_; clear hC C; simp only [List.drop_succ_cons, List.drop_zero, List.drop_nil, Nat.reduceAdd])) | (refine arunD_kn 1 rfl (fun C hC => ?_); ((repeat ((conv => whnf); simp)); refine hC _ ?_; clear hC C; simp only [List.drop_succ_cons, List.drop_zero, List.drop_nil, Nat.reduceAdd])) | (refine arun_nil ?_; (refine hK _ ?_; clear hK K; simp only [thenA_normal, inBlockA_normal, endQ_normal, endR_normal])) | (refine arunD_nil ?_; (refine hK _ ?_; clear hK K; simp only [thenA_normal, inBlockA_normal, endQ_normal, endR_normal])) | (refine AW.regionK [] (fun K hK => ?_)) | (refine AW.regionDK [] (pcs [] []) (by kernel_rfl) (by kernel_rfl) (fun K hK => ?_)) | (refine AW.condT ?_ ?_; (focus (simp [aev]; done))) | (refine AW.condF ?_ ?_; (focus (simp [aev]; done))) | (refine AW.skip ?_; simp only [thenA_normal, inBlockA_normal]) | with_reducible refine AW.block ?_ | (refine AW.exit ?_; simp only [thenA_exit, inBlockA_exit, if_true, if_false, Nat.reduceEqDiff, thenA_normal, inBlockA_normal, reduceIte]) | (refine AW.ret ?_; simp only [thenA_ret, inBlockA_ret, endQ_ret, endR_ret])))
        exact ⟨nodeN ⟨4, 0, ⟨#[]⟩, names, kids⟩ 54, by simp [nodeN, ares, aresL, upd, rowsOf_cons], .inr ⟨nodeN ⟨4, 0, ⟨#[]⟩, names, kids⟩, 54, namesRow ⟨4, 0, ⟨#[]⟩, names, kids⟩, rfl, by simp [upd, rowsOf_cons, namesRow], nodeN_res _ 54, strsE_pur _, _, g7, rfl, rfl⟩⟩
      | succ j =>
        have hw : IntKind.i64.wrap (j : Int) = (j : Int) := i64_nat (by omega) (by omega)
        have hpos : (0 : Int) < (j : Int) + 1 := by omega
        have hjc : (j + 1) * (C + 2) = j * (C + 2) + (C + 2) := Nat.succ_mul _ _
        have hplc : Plc ⟨4, 0, ⟨#[]⟩, names, kids⟩ := ⟨fun _ => by dsimp only; omega, fun h => by cases h⟩
        (repeat (first | with_reducible refine AW.seq ?_ | (refine arun_kn 4 rfl (fun C hC => ?_); ((repeat ((conv => whnf); simp [hpos, hw, hwd])); refine hC _ ?_; clear hC C; simp only [List.drop_succ_cons, List.drop_zero, List.drop_nil, Nat.reduceAdd])) | (refine arun_kn 1 rfl (fun C hC => ?_); ((repeat ((conv => whnf); simp [hpos, hw, hwd])); refine hC _ ?_; clear hC C; simp only [List.drop_succ_cons, List.drop_zero, List.drop_nil, Nat.reduceAdd])) | (refine arun_skip ?_ ?_; (focus (simp [awant, hpos, hw, hwd]; done))) | (refine arun_call (c := 1) ?_ rfl ?_ (someName_AC) ?_ ?_ ?_; (focus (simp [awant]; done)); (focus (simp [ASt.put, ASt.pay, ASt.add, Option.map_map, Function.comp_def, List.set_cons_succ, List.set_cons_zero, aev, ofVal, ofVal0, big, size_mk, nodeA, nodeT, nodeTL_eq, nodeL_eq, hpos, hw, hwd]; done)); (focus (simp only [cloL]; (repeat (first | exact trivial | refine And.intro ?_ ?_ | exact clo_int | exact clo_str | exact clo_bool | exact clo_rdr | exact node_clo _ | exact nodeT_clo _ _ | exact strs_clo _ | exact ints_clo _ | exact nodes_clo _ | exact clo_vnil | exact bytes_clo _ | exact clo_lit _ rfl | assumption)); done)); (focus (first | with_reducible exact can_none | ((first | with_reducible refine can_some ?_ | refine can_of ?_ | (simp only [ASt.put, ASt.pay, ASt.add, Option.map_map, Function.comp_def, Option.map_some]; first | refine can_some ?_ | refine can_of ?_)); (first | exact Nat.le_refl _ | (simp; done) | omega)))); (rintro _ ⟨nm, hnm, rfl⟩)) | (refine arun_call (c := C) ?_ rfl ?_ (hrn) ?_ ?_ ?_; (focus (simp [awant]; done)); (focus (simp [ASt.put, ASt.pay, ASt.add, Option.map_map, Function.comp_def, List.set_cons_succ, List.set_cons_zero, aev, ofVal, ofVal0, big, size_mk, nodeA, nodeT, nodeTL_eq, nodeL_eq, hpos, hw, hwd]; done)); (focus (simp only [cloL]; (repeat (first | exact trivial | refine And.intro ?_ ?_ | exact clo_int | exact clo_str | exact clo_bool | exact clo_rdr | exact node_clo _ | exact nodeT_clo _ _ | exact strs_clo _ | exact ints_clo _ | exact nodes_clo _ | exact clo_vnil | exact bytes_clo _ | exact clo_lit _ rfl | assumption)); done)); (focus (first | with_reducible exact can_none | ((first | with_reducible refine can_some ?_ | refine can_of ?_ | (simp only [ASt.put, ASt.pay, ASt.add, Option.map_map, Function.comp_def, Option.map_some]; first | refine can_some ?_ | refine can_of ?_)); (first | exact Nat.le_refl _ | (simp; done) | omega)))); (rintro _ ⟨kid, hkid, rfl⟩)) | (refine arun_callLU (c := 0) ?_ rfl (place_ok .lent ⟨4, 0, ⟨#[]⟩, names, kids⟩ nm hplc) ?_ ?_ ?_; (focus (simp [awant]; done)); (focus (simp [ASt.put, ASt.pay, ASt.add, Option.map_map, Function.comp_def, List.set_cons_succ, List.set_cons_zero, aev, ofVal, ofVal0, big, size_mk, nodeA, nodeT, nodeTL_eq, nodeL_eq, hpos, hw, hwd]; (repeat (first | exact LndL.nil | exact LndL0.nil | refine LndL.cons ?_ ?_ | refine LndL0.cons ?_ ?_ | refine Lnd.base (Lnd0.clo (Clo.cloTo ?_)) | refine Lnd0.clo (Clo.cloTo ?_) | (refine Lnd.base (Lnd0.ownM ?_ ?_ ?_); (focus (simp [rowsOf_cons, rowsOf_nil, upd]; done))) | (refine Lnd0.ownM ?_ ?_ ?_; (focus (simp [rowsOf_cons, rowsOf_nil, upd]; done))) | refine Lnd.agg ?_ | exact clo_int | exact clo_str | exact clo_bool | exact clo_rdr | exact node_clo _ | exact nodeT_clo _ _ | exact strs_clo _ | exact ints_clo _ | exact nodes_clo _ | exact clo_vnil | exact bytes_clo _ | exact clo_lit _ rfl | assumption | rfl | exact strsE_clo _ | exact nodesE_clo _ | exact itemsE_clo _ | (focus (simp [strsE_len]; done)))); done)); (focus (first | with_reducible exact can_none | ((first | with_reducible refine can_some ?_ | refine can_of ?_ | (simp only [ASt.put, ASt.pay, ASt.add, Option.map_map, Function.comp_def, Option.map_some]; first | refine can_some ?_ | refine can_of ?_)); (first | exact Nat.le_refl _ | (simp; done) | omega)))); rintro _ rfl) | (refine arunD_kn 4 rfl (fun C hC => ?_); ((repeat ((conv => whnf); simp [hpos, hw, hwd])); refine hC _ ?_; clear hC C; simp only [List.drop_succ_cons, List.drop_zero, List.drop_nil, Nat.reduceAdd])) | (refine arunD_kn 1 rfl (fun C hC => ?_); ((repeat ((conv => whnf); simp [hpos, hw, hwd])); refine hC _ ?_; clear hC C; simp only [List.drop_succ_cons, List.drop_zero, List.drop_nil, Nat.reduceAdd])) | (refine arunD_call (c := 1) rfl ?_ rfl ?_ (someName_AC) rfl ?_ ?_ ?_ ?_; (focus (simp [awant]; done)); (focus (simp [ASt.put, ASt.pay, ASt.add, Option.map_map, Function.comp_def, List.set_cons_succ, List.set_cons_zero, aev, ofVal, ofVal0, big, size_mk, nodeA, nodeT, nodeTL_eq, nodeL_eq, hpos, hw, hwd]; done)); (focus (simp only [List.forall_mem_cons, List.not_mem_nil, false_implies, implies_true, and_true]; (repeat (first | exact trivial | refine And.intro ?_ ?_ | exact clo_int | exact clo_str | exact clo_bool | exact clo_rdr | exact node_clo _ | exact nodeT_clo _ _ | exact strs_clo _ | exact ints_clo _ | exact nodes_clo _ | exact clo_vnil | exact bytes_clo _ | exact clo_lit _ rfl | assumption)); done)); (focus (first | with_reducible exact can_none | ((first | with_reducible refine can_some ?_ | refine can_of ?_ | (simp only [ASt.put, ASt.pay, ASt.add, Option.map_map, Function.comp_def, Option.map_some]; first | refine can_some ?_ | refine can_of ?_)); (first | exact Nat.le_refl _ | (simp; done) | omega)))); (focus (refine ⟨_, rfl, ?_⟩; first | exact node_in _ | exact storeA_in _ | exact item_in _ | exact in_int | exact in_bool | exact in_str | (simp [NoId, in_tup, in_agg, in_int, in_bool, in_str, node_in, nodes_in, strs_in]; done))); (rintro _ ⟨nm, hnm, rfl⟩); intro _) | (refine arunD_call (c := C) rfl ?_ rfl ?_ (hrn) rfl ?_ ?_ ?_ ?_; (focus (simp [awant]; done)); (focus (simp [ASt.put, ASt.pay, ASt.add, Option.map_map, Function.comp_def, List.set_cons_succ, List.set_cons_zero, aev, ofVal, ofVal0, big, size_mk, nodeA, nodeT, nodeTL_eq, nodeL_eq, hpos, hw, hwd]; done)); (focus (simp only [List.forall_mem_cons, List.not_mem_nil, false_implies, implies_true, and_true]; (repeat (first | exact trivial | refine And.intro ?_ ?_ | exact clo_int | exact clo_str | exact clo_bool | exact clo_rdr | exact node_clo _ | exact nodeT_clo _ _ | exact strs_clo _ | exact ints_clo _ | exact nodes_clo _ | exact clo_vnil | exact bytes_clo _ | exact clo_lit _ rfl | assumption)); done)); (focus (first | with_reducible exact can_none | ((first | with_reducible refine can_some ?_ | refine can_of ?_ | (simp only [ASt.put, ASt.pay, ASt.add, Option.map_map, Function.comp_def, Option.map_some]; first | refine can_some ?_ | refine can_of ?_)); (first | exact Nat.le_refl _ | (simp; done) | omega)))); (focus (refine ⟨_, rfl, ?_⟩; first | exact node_in _ | exact storeA_in _ | exact item_in _ | exact in_int | exact in_bool | exact in_str | (simp [NoId, in_tup, in_agg, in_int, in_bool, in_str, node_in, nodes_in, strs_in]; done))); (rintro _ ⟨kid, hkid, rfl⟩); intro _) | (refine arun_nil ?_; (refine hK _ ?_; clear hK K; simp only [thenA_normal, inBlockA_normal, endQ_normal, endR_normal])) | (refine arunD_nil ?_; (refine hK _ ?_; clear hK K; simp only [thenA_normal, inBlockA_normal, endQ_normal, endR_normal])) | (refine AW.regionK [] (fun K hK => ?_)) | (refine AW.regionDK [] (pcs [] []) (by kernel_rfl) (by kernel_rfl) (fun K hK => ?_)) | (refine AW.condT ?_ ?_; (focus (simp [aev, hpos, hw, hwd]; done))) | (refine AW.condF ?_ ?_; (focus (simp [aev, hpos, hw, hwd]; done))) | (refine AW.skip ?_; simp only [thenA_normal, inBlockA_normal]) | with_reducible refine AW.block ?_ | (refine AW.exit ?_; simp only [thenA_exit, inBlockA_exit, if_true, if_false, Nat.reduceEqDiff, thenA_normal, inBlockA_normal, reduceIte]) | (refine AW.ret ?_; simp only [thenA_ret, inBlockA_ret, endQ_ret, endR_ret])))
        rcases Int.lt_or_le (placeI ⟨4, 0, ⟨#[]⟩, names, kids⟩ nm) 0 with hp | hp
        · (repeat (first | with_reducible refine AW.seq ?_ | (refine arun_kn 4 rfl (fun C hC => ?_); ((repeat ((conv => whnf); simp [hw, hp])); refine hC _ ?_; clear hC C; simp only [List.drop_succ_cons, List.drop_zero, List.drop_nil, Nat.reduceAdd])) | (refine arun_kn 1 rfl (fun C hC => ?_); ((repeat ((conv => whnf); simp [hw, hp])); refine hC _ ?_; clear hC C; simp only [List.drop_succ_cons, List.drop_zero, List.drop_nil, Nat.reduceAdd])) | (refine arun_skip ?_ ?_; (focus (simp [awant, hw, hp]; done))) | (refine arun_callRU (c := 0) 36 ?_ rfl (addHere_ACR ⟨4, 0, ⟨#[]⟩, names, kids⟩ kid .lent nm rfl g4 g7 hkid hp) ?_ ?_ ?_ (fun _ h => h.elim) ?_; (focus (simp [awant]; done)); (focus (simp [ASt.put, ASt.pay, ASt.add, Option.map_map, Function.comp_def, List.set_cons_succ, List.set_cons_zero, aev, ofVal, ofVal0, big, size_mk, nodeA, nodeT, nodeTL_eq, nodeL_eq, hw, hp]; (repeat (first | exact LndL.nil | exact LndL0.nil | refine LndL.cons ?_ ?_ | refine LndL0.cons ?_ ?_ | refine Lnd.base (Lnd0.clo (Clo.cloTo ?_)) | refine Lnd0.clo (Clo.cloTo ?_) | (refine Lnd.base (Lnd0.ownM ?_ ?_ ?_); (focus (simp [rowsOf_cons, rowsOf_nil, upd]; done))) | (refine Lnd0.ownM ?_ ?_ ?_; (focus (simp [rowsOf_cons, rowsOf_nil, upd]; done))) | refine Lnd.agg ?_ | exact clo_int | exact clo_str | exact clo_bool | exact clo_rdr | exact node_clo _ | exact nodeT_clo _ _ | exact strs_clo _ | exact ints_clo _ | exact nodes_clo _ | exact clo_vnil | exact bytes_clo _ | exact clo_lit _ rfl | assumption | rfl | exact strsE_clo _ | exact nodesE_clo _ | exact itemsE_clo _ | (focus (simp [strsE_len]; done)))); done)); (focus (first | with_reducible exact can_none | ((first | with_reducible refine can_some ?_ | refine can_of ?_ | (simp only [ASt.put, ASt.pay, ASt.add, Option.map_map, Function.comp_def, Option.map_some]; first | refine can_some ?_ | refine can_of ?_)); (first | exact Nat.le_refl _ | (simp; done) | omega)))); (focus (simp [ASt.put, ASt.pay, ASt.add, usedOf_cons, usedOf_nil, upd]; done)); ((rintro _ _ ⟨i, hi, rfl, rfl⟩; have hlen := addN_len (v := kid) (st := nm) hi g4; have hsm := addN_sml (i := i) (st := nm) g7 hkid (by dsimp only; omega) (by dsimp only; omega); obtain ⟨hm1, hm2, hm3⟩ := addN_data ⟨4, 0, ⟨#[]⟩, names, kids⟩ i nm kid; generalize addN ⟨4, 0, ⟨#[]⟩, names, kids⟩ i nm kid = m at *; unfold nodeN namesRow; rw [hm1, hm2, hm3]))) | (refine arunD_kn 4 rfl (fun C hC => ?_); ((repeat ((conv => whnf); simp [hw, hp])); refine hC _ ?_; clear hC C; simp only [List.drop_succ_cons, List.drop_zero, List.drop_nil, Nat.reduceAdd])) | (refine arunD_kn 1 rfl (fun C hC => ?_); ((repeat ((conv => whnf); simp [hw, hp])); refine hC _ ?_; clear hC C; simp only [List.drop_succ_cons, List.drop_zero, List.drop_nil, Nat.reduceAdd])) | (refine arun_nil ?_; (refine hK _ ?_; clear hK K; simp only [thenA_normal, inBlockA_normal, endQ_normal, endR_normal])) | (refine arunD_nil ?_; (refine hK _ ?_; clear hK K; simp only [thenA_normal, inBlockA_normal, endQ_normal, endR_normal])) | (refine AW.regionK [] (fun K hK => ?_)) | (refine AW.regionDK [] (pcs [] []) (by kernel_rfl) (by kernel_rfl) (fun K hK => ?_)) | (refine AW.condT ?_ ?_; (focus (simp [aev, hw, hp]; done))) | (refine AW.condF ?_ ?_; (focus (simp [aev, hw, hp]; done))) | (refine AW.skip ?_; simp only [thenA_normal, inBlockA_normal]) | with_reducible refine AW.block ?_ | (refine AW.exit ?_; simp only [thenA_exit, inBlockA_exit, if_true, if_false, Nat.reduceEqDiff, thenA_normal, inBlockA_normal, reduceIte]) | (refine AW.ret ?_; simp only [thenA_ret, inBlockA_ret, endQ_ret, endR_ret])))
          dsimp only at hlen
          refine ⟨(m, j, b - 1 - C, 36), by dsimp only; omega, ⟨hm1, hm2, hm3, by dsimp only; omega, by dsimp only; omega, by dsimp only; omega, hsm, by simp⟩, ?_⟩
          dsimp only
          exact (less_of (by simp [lessL, mkSt, slots, namesRow]) (by simp [upd, mkSt, rowsOf_cons, namesRow]) (by simp [upd, mkSt, usedOf_cons, namesRow]) (by first | exact rd_less (by omega) | simp [mkSt, namesRow]) (by simp [slots, in_any, in_int, in_bool, in_str, in_ptr, in_own, in_agg, in_vnil, in_rdr, usedOf_cons, strs_in, ints_in, nodes_in, in_tup, namesRow]) (by simp only [List.forall_mem_cons, List.not_mem_nil, false_implies, implies_true, and_true, true_and, namesRow]; (repeat (first | with_reducible exact trivial | with_reducible refine And.intro ?_ ?_ | with_reducible exact in_int | with_reducible exact in_str | with_reducible exact in_bool | with_reducible exact strs_in _ | with_reducible exact nodes_in _ | with_reducible exact items_in _ | with_reducible exact in_vnil | with_reducible exact in_any | exact hin _ | with_reducible refine take_in ?_ | with_reducible exact strsE_in _ | with_reducible exact nodesE_in _ | with_reducible exact nodeL_in _ | with_reducible exact itemsE_in _ | with_reducible exact itemL_in _ | with_reducible refine app_in ?_ ?_ | with_reducible refine sing_in ?_ | (focus (simp [in_any, in_int, in_bool, in_str, in_ptr, in_own, in_agg, in_vnil, in_rdr, usedOf_cons, strs_in, ints_in, nodes_in, namesRow]; done)))); done))
        · have hp' : ¬ (placeI ⟨4, 0, ⟨#[]⟩, names, kids⟩ nm < 0) := by omega
          (repeat (first | with_reducible refine AW.seq ?_ | (refine arun_kn 4 rfl (fun C hC => ?_); ((repeat ((conv => whnf); simp [hw, hp'])); refine hC _ ?_; clear hC C; simp only [List.drop_succ_cons, List.drop_zero, List.drop_nil, Nat.reduceAdd])) | (refine arun_kn 1 rfl (fun C hC => ?_); ((repeat ((conv => whnf); simp [hw, hp'])); refine hC _ ?_; clear hC C; simp only [List.drop_succ_cons, List.drop_zero, List.drop_nil, Nat.reduceAdd])) | (refine arun_skip ?_ ?_; (focus (simp [awant, hw, hp']; done))) | (refine arunD_kn 4 rfl (fun C hC => ?_); ((repeat ((conv => whnf); simp [hw, hp'])); refine hC _ ?_; clear hC C; simp only [List.drop_succ_cons, List.drop_zero, List.drop_nil, Nat.reduceAdd])) | (refine arunD_kn 1 rfl (fun C hC => ?_); ((repeat ((conv => whnf); simp [hw, hp'])); refine hC _ ?_; clear hC C; simp only [List.drop_succ_cons, List.drop_zero, List.drop_nil, Nat.reduceAdd])) | (refine arun_nil ?_; (refine hK _ ?_; clear hK K; simp only [thenA_normal, inBlockA_normal, endQ_normal, endR_normal])) | (refine arunD_nil ?_; (refine hK _ ?_; clear hK K; simp only [thenA_normal, inBlockA_normal, endQ_normal, endR_normal])) | (refine AW.regionK [] (fun K hK => ?_)) | (refine AW.regionDK [] (pcs [] []) (by kernel_rfl) (by kernel_rfl) (fun K hK => ?_)) | (refine AW.condT ?_ ?_; (focus (simp [aev, hw, hp']; done))) | (refine AW.condF ?_ ?_; (focus (simp [aev, hw, hp']; done))) | (refine AW.skip ?_; simp only [thenA_normal, inBlockA_normal]) | with_reducible refine AW.block ?_ | (refine AW.exit ?_; simp only [thenA_exit, inBlockA_exit, if_true, if_false, Nat.reduceEqDiff, thenA_normal, inBlockA_normal, reduceIte]) | (refine AW.ret ?_; simp only [thenA_ret, inBlockA_ret, endQ_ret, endR_ret])))
          refine ⟨(⟨4, 0, ⟨#[]⟩, names, kids⟩, j, b - 1 - C, 54), by dsimp only; omega, ⟨rfl, rfl, rfl, g4, by dsimp only at g5 ⊢; omega, by dsimp only; omega, g7, by simp⟩, ?_⟩
          dsimp only
          exact (less_of (by simp [lessL, mkSt, slots, namesRow]) (by simp [upd, mkSt, rowsOf_cons, namesRow]) (by simp [upd, mkSt, usedOf_cons, namesRow]) (by first | exact rd_less (by omega) | simp [mkSt, namesRow]) (by simp [slots, in_any, in_int, in_bool, in_str, in_ptr, in_own, in_agg, in_vnil, in_rdr, usedOf_cons, strs_in, ints_in, nodes_in, in_tup, namesRow]) (by simp only [List.forall_mem_cons, List.not_mem_nil, false_implies, implies_true, and_true, true_and, namesRow]; (repeat (first | with_reducible exact trivial | with_reducible refine And.intro ?_ ?_ | with_reducible exact in_int | with_reducible exact in_str | with_reducible exact in_bool | with_reducible exact strs_in _ | with_reducible exact nodes_in _ | with_reducible exact items_in _ | with_reducible exact in_vnil | with_reducible exact in_any | exact hin _ | with_reducible refine take_in ?_ | with_reducible exact strsE_in _ | with_reducible exact nodesE_in _ | with_reducible exact nodeL_in _ | with_reducible exact itemsE_in _ | with_reducible exact itemL_in _ | with_reducible refine app_in ?_ ?_ | with_reducible refine sing_in ?_ | (focus (simp [in_any, in_int, in_bool, in_str, in_ptr, in_own, in_agg, in_vnil, in_rdr, usedOf_cons, strs_in, ints_in, nodes_in, namesRow]; done)))); done))
end Go.Proofs.Ytmeobmegnneegaa.Eng
