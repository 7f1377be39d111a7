/-
  Texts of this claim, joined.
-/
import Derived.ProofKit
import Derived.Deep.Slices
import Derived.Deep.Fields
import Derived.Lib.Bytealg
import Derived.Test.YtgfnmhfdmmnaoaaFmF

set_option linter.unusedSimpArgs false
set_option linter.unusedVariables false
set_option linter.unnecessarySimpa false
set_option maxRecDepth 100000
set_option maxHeartbeats 16000000
namespace Go.Proofs.Ytgfnmhfdmmnaoaa
open Go.RowKit
theorem eqBoolS_same (a b : Option Addr) (c d : Nat) (xs : List Bool) (w : World) (ha : BoolsR w any a c xs) (hb : BoolsR w any b d xs) :
    Calls Try.prog 105 #[.slice a xs.length c, .slice b xs.length d] w fun e w' => e = .returned (.bool true) ∧ Grow w w' := by
  have hbig : xs.length ≤ 9223372036854775807 := ha.2.1
  have Ha := Lib.hid ha
  have Hb := Lib.hid hb
  clear ha hb
  have hlb : ((xs.length : Int) != (xs.length : Int)) = false := by simp
  go_enter Try.func105, Try.ntmps105
  go_wp2
  go_loopw [4, 5] (fun n i wr => n = .bool false ∧ Grow w wr ∧ ∃ k : Nat, k ≤ xs.length ∧ i = .int .i64 k) (fun _ i _ => xs.length - (intOf i).toNat)
  case atStart => exact ⟨rfl, Ext.refl _ _, 0, Nat.zero_le _, rfl⟩
  case round =>
    obtain ⟨rfl, hg, k, hk, rfl⟩ := hrel
    by_cases hlt : k < xs.length
    · obtain ⟨_, _, ha4⟩ := (Ha.out).grow hg
      obtain ⟨_, _, hb4⟩ := (Hb.out).grow hg
      rcases ha4 with rfl | ⟨ba, oa, rfl, _, hca⟩
      · simp at hlt
      rcases hb4 with rfl | ⟨bb, ob, rfl, _, hcb⟩
      · simp at hlt
      have hx := hca k hlt
      have hy := hcb k hlt
      clear hca hcb Ha Hb
      cases hz : xs[k]
      · rw [hz] at hx hy
        clear hz
        go_wp2
        go_quiet (fail)
        go_wp2
        go_roundw
        case rel => exact ⟨rfl, hg.drewN _, k + 1, by omega, by go_num⟩
        case measure => simp [intOf]; omega
      · rw [hz] at hx hy
        clear hz
        go_wp2
        go_quiet (fail)
        go_wp2
        go_roundw
        case rel => exact ⟨rfl, hg.drewN _, k + 1, by omega, by go_num⟩
        case measure => simp [intOf]; omega
    · go_wp2
      go_ret
      exact ⟨by simp, hg⟩
def EqPOk (n : Shp) : Prop := ∀ (v u : Value) (w : World), ShapeR w any n v → ShapeR w any n u →
    Calls Try.prog 44 #[v, u] w fun e w' => e = .returned (.bool true) ∧ Grow w w'
theorem eqShapeS_of (l : List Shp) (ih : ∀ k ∈ l, EqPOk k) (a b : Option Addr) (c d : Nat) (w : World) (ha : ShpLR w any a c l) (hb : ShpLR w any b d l) :
    Calls Try.prog 106 #[.slice a l.length c, .slice b l.length d] w fun e w' => e = .returned (.bool true) ∧ Grow w w' := by
  have hbig : l.length ≤ 9223372036854775807 := ha.2.1
  have Ha := Lib.hid ha
  have Hb := Lib.hid hb
  have Ih := Lib.hid ih
  clear ha hb ih
  have hlb : ((l.length : Int) != (l.length : Int)) = false := by simp
  go_enter Try.func106, Try.ntmps106
  go_wp2
  go_loopw [4, 5] (fun n i wr => n = .bool false ∧ Grow w wr ∧ ∃ k : Nat, k ≤ l.length ∧ i = .int .i64 k) (fun _ i _ => l.length - (intOf i).toNat)
  case atStart => exact ⟨rfl, Ext.refl _ _, 0, Nat.zero_le _, rfl⟩
  case round =>
    obtain ⟨rfl, hg, k, hk, rfl⟩ := hrel
    by_cases hlt : k < l.length
    · obtain ⟨_, _, ha4⟩ := (Ha.out).grow hg
      obtain ⟨_, _, hb4⟩ := (Hb.out).grow hg
      rcases ha4 with hh | ⟨ba, oa, rfl, _, hca⟩
      · rw [hh] at hlt; simp at hlt
      rcases hb4 with hh | ⟨bb, ob, rfl, _, hcb⟩
      · rw [hh] at hlt; simp at hlt
      obtain ⟨na, nc, b1, c1, ka, kc, x0, x1, x2, x3, hx⟩ := hca.get k hlt
      obtain ⟨na', nc', b1', c1', ka', kc', y0, y1, y2, y3, hy⟩ := hcb.get k hlt
      have Hx : Hid (ShapeR wr any l[k] (shapeV l[k] na nc b1 c1 ka kc)) := Lib.hid ⟨_, _, _, _, _, _, rfl, hx⟩
      have Hy : Hid (ShapeR wr any l[k] (shapeV l[k] na' nc' b1' c1' ka' kc')) := Lib.hid ⟨_, _, _, _, _, _, rfl, hy⟩
      clear hca hcb Ha Hb hx hy
      go_wp2_with fail
      (refine wp_region_later (by kernel_rfl) (by kernel_rfl) ?_; (repeat (first | go_big_quiet_step ((go_at_call 44; exact later_call (Ih.out _ (List.getElem_mem hlt) _ _ _ (Hx.out.grow (later_grow _ _)) (Hy.out.grow (later_grow _ _))))) | quiet_step ((go_at_call 44; exact later_call (Ih.out _ (List.getElem_mem hlt) _ _ _ (Hx.out.grow (later_grow _ _)) (Hy.out.grow (later_grow _ _))))))); refine wpQuiet_nil ?_; rintro _ ⟨x_w2, rfl⟩; have hg_w2 := later_grow wr x_w2; generalize later wr x_w2 = w2 at hg_w2 ⊢)
      go_wp2_with fail
      go_roundw
      case rel => exact ⟨rfl, hg.trans hg_w2, k + 1, by omega, by go_num⟩
      case measure => simp [intOf]; omega
    · go_wp2_with fail
      go_ret
      exact ⟨by simp, hg⟩
theorem eqShape_of (n : Shp) (hk : ∀ (a b : Option Addr) (c d : Nat) (w : World), ShpLR w any a c n.kids → ShpLR w any b d n.kids →
      Calls Try.prog 106 #[.slice a n.kids.length c, .slice b n.kids.length d] w fun e w' => e = .returned (.bool true) ∧ Grow w w') : EqPOk n := by
  intro v u w hv hu
  obtain ⟨na, nc, ba, bc, ka, kc, rfl, hc⟩ := hv
  obtain ⟨na', nc', ba', bc', ka', kc', rfl, hc'⟩ := hu
  obtain ⟨hns, hbs, hks⟩ := hc.parts'
  obtain ⟨hns', hbs', hks'⟩ := hc'.parts'
  have Hns := Lib.hid hns
  have Hks := Lib.hid hks
  have Hbs := Lib.hid hbs
  have Hns' := Lib.hid hns'
  have Hks' := Lib.hid hks'
  have Hbs' := Lib.hid hbs'
  have Hk := Lib.hid hk
  have he : Hid (eqS n.names n.names = true) := Lib.hid (by simp [eqS])
  have hkk : (n.kind != n.kind) = false := by simp
  clear hc hc' hns hbs hks hns' hbs' hks' hk
  unfold shapeV
  go_enter Try.func44, Try.ntmps44
  go_wp2_with fail
  refine (eqStringS_ok _ _ _ _ n.names n.names _ (Hns.out.grow (by repeat (first | with_reducible exact Ext.refl _ _ | with_reducible refine Ext.trans ?_ (by assumption) | with_reducible refine Ext.drew ?_ | with_reducible refine Ext.drewN ?_ _ | with_reducible refine Ext.alloc ?_ _ | with_reducible refine Ext.setNew ?_ (by simp; done) _ | with_reducible refine Ext.setNew ?_ (by simp; omega) _))) (Hns'.out.grow (by repeat (first | with_reducible exact Ext.refl _ _ | with_reducible refine Ext.trans ?_ (by assumption) | with_reducible refine Ext.drew ?_ | with_reducible refine Ext.drewN ?_ _ | with_reducible refine Ext.alloc ?_ _ | with_reducible refine Ext.setNew ?_ (by simp; done) _ | with_reducible refine Ext.setNew ?_ (by simp; omega) _)))).mono ?_
  rintro e w2 ⟨rfl, hg2⟩
  simp only [he.out]
  have hcc2 := bcell hg2
  have hg2' : Grow w w2 := (by repeat (first | with_reducible exact Ext.refl _ _ | with_reducible refine Ext.trans ?_ (by assumption) | with_reducible refine Ext.drew ?_ | with_reducible refine Ext.drewN ?_ _ | with_reducible refine Ext.alloc ?_ _ | with_reducible refine Ext.setNew ?_ (by simp; done) _ | with_reducible refine Ext.setNew ?_ (by simp; omega) _))
  go_wp2_with fail
  refine (eqBoolS_same _ _ _ _ n.needs _ (Hbs.out.grow hg2') (Hbs'.out.grow hg2')).mono ?_
  rintro e w3 ⟨rfl, hg3⟩
  have hcc3 := bcell (hg2.trans hg3)
  have hg3' : Grow w w3 := hg2'.trans hg3
  clear hcc2
  go_wp2_with fail
  refine (Hk.out _ _ _ _ _ (Hks.out.grow hg3') (Hks'.out.grow hg3')).mono ?_
  rintro e w4 ⟨rfl, hg4⟩
  go_wp2_with fail
  go_ret
  exact ⟨by simp, hg3'.trans hg4⟩
theorem eqShape_ok : ∀ n, EqPOk n := by
  refine Shp.ind' EqPOk ?_
  intro n ih
  exact eqShape_of n (fun a b c d w h1 h2 => eqShapeS_of n.kids ih a b c d w h1 h2)
end Go.Proofs.Ytgfnmhfdmmnaoaa
namespace Go.Proofs.Ytgfnmhfdmmnaoaa
open Go.RowKit
mutual
def cntP : Shp → Nat
  | ⟨_, names, needs, kids⟩ => 1 + names.length + needs.length + cntPL kids
def cntPL : List Shp → Nat
  | [] => 0
  | k :: ks => cntP k + cntPL ks
end
def cntSh (x : Shp) : Nat := x.names.length + x.needs.length + cntPL x.kids
theorem cntP_eq (x : Shp) : cntP x = 1 + x.names.length + x.needs.length + cntPL x.kids := by cases x; simp [cntP]
theorem cntPL_len : ∀ (l : List Shp), l.length ≤ cntPL l
  | [] => Nat.zero_le _
  | x :: l => by have := cntPL_len l; have := cntP_eq x; simp [cntPL]; omega
theorem cntPL_snoc : ∀ (l : List Shp) (x : Shp), cntPL (l ++ [x]) = cntPL l + cntP x
  | [], x => by simp [cntPL]
  | y :: l, x => by have := cntPL_snoc l x; simp [cntPL]; omega
theorem cntPL_take_le : ∀ (l : List Shp) (j : Nat), cntPL (l.take j) ≤ cntPL l
  | [], j => by simp
  | x :: l, 0 => by simp [cntPL]
  | x :: l, j + 1 => by have := cntPL_take_le l j; simp [cntPL]; omega
theorem cntP_le : ∀ x : Shp, cntP x ≤ 1 + costP x := Shp.ind' _ (fun x ih => by
  have h : ∀ l : List Shp, (∀ k ∈ l, cntP k ≤ 1 + costP k) → cntPL l ≤ costPL l := by
    intro l
    induction l with
    | nil => intro _; simp [cntPL]
    | cons y l ih2 =>
      intro h
      have h1 := h y (by simp)
      have h2 := ih2 (fun k hk => h k (by simp [hk]))
      simp only [cntPL, costPL]
      omega
  have h1 := h x.kids ih
  have h2 : x.names.length ≤ costS x.names := by unfold costS; omega
  rw [cntP_eq, costP_eq]
  omega)
theorem cntSh_le (x : Shp) : cntSh x ≤ costP x := by
  have h := cntP_le x
  rw [cntP_eq] at h
  unfold cntSh
  omega
theorem markBoolS_ok (a : Option Addr) (c : Nat) (xs : List Bool) (fp : List Nat) (B k : Nat) (i : Int) (w : World) (hi : i = (k : Int)) (hF : BoolsF w a c xs fp) (hfr : Free B w fp) (h2 : k + xs.length ≤ 1000000000) :
    Calls Try.prog 107 #[.slice a xs.length c, .int .i64 i] w fun e w' => e = .returned (.int .i64 ((k + xs.length : Nat) : Int)) ∧ Ext (inl fp) w w' := by
  subst hi
  obtain ⟨hle, hlen, hcc⟩ := hF
  rcases hcc with ⟨rfl, rfl⟩ | ⟨b, o, hne, rfl, rfl, hcc⟩
  · go_enter Try.func107, Try.ntmps107
    go_wp2_with fail
    go_loopw [1, 5] (fun t1 i wr => t1 = .int .i64 k ∧ i = .int .i64 0 ∧ wr = w) (fun _ _ _ => 0)
    case atStart => exact ⟨rfl, rfl, rfl⟩
    case round =>
      obtain ⟨rfl, rfl, rfl⟩ := hrel
      go_wp2_with fail
      go_ret
      exact ⟨by simp, Ext.refl _ _⟩
  · have hl : xs.length ≤ 1000000000 := by omega
    have hrow : RowAt w b o xs.length := ⟨(hfr.2 b (by simp)).2.1, fun j hj => ⟨_, hcc j hj⟩, (hfr.2 b (by simp)).2.2⟩
    clear hle hlen hne hfr hcc
    go_enter Try.func107, Try.ntmps107
    go_wp2_with fail
    go_loopw [1, 5] (fun t1 i wr => ∃ j : Nat, j ≤ xs.length ∧ i = .int .i64 j ∧ t1 = .int .i64 ((k + j : Nat) : Int) ∧ Ext (inl [b]) w wr ∧ RowAt wr b o xs.length) (fun _ i _ => xs.length - (intOf i).toNat)
    case atStart => exact ⟨0, Nat.zero_le _, rfl, rfl, Ext.refl _ _, hrow⟩
    case round =>
      obtain ⟨j, hj, rfl, rfl, hg, hr⟩ := hrel
      by_cases hlt : j < xs.length
      · have hfz := hr.2.2
        obtain ⟨u, hu⟩ := hr.2.1 j hlt
        have Hg := Lib.hid hg
        have Hr := Lib.hid hr
        clear hg hr
        go_wp2_with fail
        go_roundw
        case rel =>
          exact ⟨j + 1, by omega, by go_num, by go_num, Hg.out.setIn (p := ⟨b, o + j, none⟩) (by simp [inl]) _, Hr.out.setCell _ _⟩
        case measure => simp [intOf]; omega
      · have Hg := Lib.hid hg
        clear hg hr
        go_wp2_with fail
        go_ret
        exact ⟨by rw [show j = xs.length by omega]; rfl, Hg.out⟩
theorem ShapeF.parts {w : World} {n : Shp} {na : Option Addr} {nc : Nat} {ba : Option Addr} {bc : Nat} {ka : Option Addr} {kc : Nat} {fp : List Nat} (h : ShapeF w n na nc ba bc ka kc fp) :
    ∃ f1 f2 f3, fp = f1 ++ f2 ++ f3 ∧ StrsF w na nc n.names f1 ∧ BoolsF w ba bc n.needs f2 ∧ ShpLF w ka kc n.kids f3 := by
  cases n; unfold ShapeF at h
  exact h
theorem ShpLF.keep {w w' : World} {a : Option Addr} {c : Nat} {l : List Shp} {fp : List Nat} (h : ShpLF w a c l fp) (hk : ∀ y ∈ fp, ∀ o, w'.cell? ⟨y, o, none⟩ = w.cell? ⟨y, o, none⟩) : ShpLF w' a c l fp := by
  obtain ⟨t1, t2, t3⟩ := h
  refine ⟨t1, t2, t3.imp id ?_⟩
  rintro ⟨bb, oo, ff, u1, u2, u3, u4⟩
  exact ⟨bb, oo, ff, u1, u2, u3, u4.keep (fun y hy => hk y (by rw [u3]; simp [hy])) (fun o' _ _ => hk bb (by rw [u3]; simp) o')⟩
def MkPOk (n : Shp) : Prop := ∀ (a : Option Addr) (c : Nat) (fp : List Nat) (B k : Nat) (i : Int) (w : World), i = (k : Int) → ShpLF w a c n.kids fp → Free B w fp → 0 < k → k + cntPL n.kids ≤ 1000000000 →
    Calls Try.prog 108 #[.slice a n.kids.length c, .int .i64 i] w fun e w' => e = .returned (.int .i64 ((k + cntPL n.kids : Nat) : Int)) ∧ Ext (inl fp) w w'
def ShpLeft (w : World) (b o : Nat) (l : List Shp) (f : List Nat) (B : Nat) : Prop := ∃ f2, ShpsF w b o l f2 ∧ Free B w f2 ∧ (∀ y ∈ f2, y ∈ f) ∧ b < w.heap.size ∧ ∀ q, w.frozen? ⟨b, q, none⟩ = false
theorem markShapeS_of (l : List Shp) (ih : ∀ x ∈ l, MkPOk x) (a : Option Addr) (c : Nat) (fp : List Nat) (B k : Nat) (i : Int) (w : World) (hi : i = (k : Int)) (hF : ShpLF w a c l fp) (hfr : Free B w fp) (h1 : 0 < k) (h2 : k + cntPL l ≤ 1000000000) :
    Calls Try.prog 108 #[.slice a l.length c, .int .i64 i] w fun e w' => e = .returned (.int .i64 ((k + cntPL l : Nat) : Int)) ∧ Ext (inl fp) w w' := by
  subst hi
  obtain ⟨hle, hlen, hcc⟩ := hF
  rcases hcc with ⟨rfl, rfl⟩ | ⟨b, o, f, hne, rfl, rfl, hcc⟩
  · go_enter Try.func108, Try.ntmps108
    go_wp2_with fail
    go_loopw [1, 5] (fun t1 i wr => t1 = .int .i64 k ∧ i = .int .i64 0 ∧ wr = w) (fun _ _ _ => 0)
    case atStart => exact ⟨rfl, rfl, rfl⟩
    case round =>
      obtain ⟨rfl, rfl, rfl⟩ := hrel
      go_wp2_with fail
      go_ret
      exact ⟨by simp [cntPL], Ext.refl _ _⟩
  · have hl : l.length ≤ 1000000000 := by have := cntPL_len l; omega
    have Ih := Lib.hid ih
    have hbf : b ∉ f := (List.nodup_cons.1 hfr.1).1
    have hL0 : ShpLeft w b (o + 0 * 4) (l.drop 0) f B := ⟨f, by simpa using hcc, ⟨(List.nodup_cons.1 hfr.1).2, fun y hy => hfr.2 y (by simp [hy])⟩, fun y hy => hy, (hfr.2 b (by simp)).2.1, (hfr.2 b (by simp)).2.2⟩
    have Hbf := Lib.hid hbf
    clear hle hlen hne hcc ih hfr hbf
    go_enter Try.func108, Try.ntmps108
    go_wp2_with fail
    go_loopw [1, 5] (fun t1 i wr => ∃ j : Nat, j ≤ l.length ∧ i = .int .i64 j ∧ t1 = .int .i64 ((k + cntPL (l.take j) : Nat) : Int) ∧ Ext (inl (b :: f)) w wr ∧ ShpLeft wr b (o + j * 4) (l.drop j) f B) (fun _ i _ => l.length - (intOf i).toNat)
    case atStart => exact ⟨0, Nat.zero_le _, rfl, rfl, Ext.refl _ _, hL0⟩
    case round =>
      obtain ⟨j, hj, rfl, rfl, hg, hL⟩ := hrel
      have hct := cntPL_take_le l j
      have Hg := Lib.hid hg
      clear hg hL0
      by_cases hlt : j < l.length
      · obtain ⟨x, hx⟩ : ∃ x, x = l[j] := ⟨_, rfl⟩
        have hxm : x ∈ l := by rw [hx]; exact List.getElem_mem hlt
        have htk : l.take (j + 1) = l.take j ++ [x] := by rw [take_snoc' _ _ hlt, hx]
        have hct2 := cntPL_take_le l (j + 1)
        rw [htk, cntPL_snoc, cntP_eq] at hct2
        obtain ⟨f2, hS, hfr, hsub, hbw, hfz⟩ := hL
        rw [drop_cons _ _ hlt, ← hx] at hS
        unfold ShpsF at hS
        obtain ⟨fx, f3, rfl, ⟨na, nc, ba, bc, ka, kc, c0, c1, c2, c3, hx5⟩, hS3⟩ := hS
        obtain ⟨g1, g2, g3, rfl, hnm, hbl, hkd⟩ := hx5.parts
        obtain ⟨k', hk'⟩ : ∃ k', k' = k + cntPL (l.take j) := ⟨_, rfl⟩
        have hb9 : k' + (1 + x.names.length + x.needs.length + cntPL x.kids) ≤ 1000000000 := by omega
        have hk1 : 0 < k' := by omega
        have hnl : x.names.length ≤ 1000000000 := by omega
        have hbl' : x.needs.length ≤ 1000000000 := by omega
        rw [← hk']
        clear hct2 hct
        have hnd := hfr.1
        have d12 : ∀ y, y ∈ g1 → y ∈ g2 → False := fun y h1 h2 => (List.nodup_append.1 (List.nodup_append.1 (List.nodup_append.1 hnd).1).1).2.2 y h1 y h2 rfl
        have d13 : ∀ y, y ∈ g1 → y ∈ g3 → False := fun y h1 h2 => (List.nodup_append.1 (List.nodup_append.1 hnd).1).2.2 y (by simp [h1]) y h2 rfl
        have d23 : ∀ y, y ∈ g2 → y ∈ g3 → False := fun y h1 h2 => (List.nodup_append.1 (List.nodup_append.1 hnd).1).2.2 y (by simp [h1]) y h2 rfl
        have d4 : ∀ y, y ∈ g1 ++ g2 ++ g3 → y ∈ f3 → False := fun y h1 h2 => (List.nodup_append.1 hnd).2.2 y h1 y h2 rfl
        have n1 : g1.Nodup := (List.nodup_append.1 (List.nodup_append.1 (List.nodup_append.1 hnd).1).1).1
        have n2 : g2.Nodup := (List.nodup_append.1 (List.nodup_append.1 (List.nodup_append.1 hnd).1).1).2.1
        have n3 : g3.Nodup := (List.nodup_append.1 (List.nodup_append.1 hnd).1).2.1
        have n4 : f3.Nodup := (List.nodup_append.1 hnd).2.1
        have hb1 : b ∉ g1 := fun h => Hbf.out (hsub b (by simp [h]))
        have hb2 : b ∉ g2 := fun h => Hbf.out (hsub b (by simp [h]))
        have hb3 : b ∉ g3 := fun h => Hbf.out (hsub b (by simp [h]))
        have hb4 : b ∉ f3 := fun h => Hbf.out (hsub b (by simp [h]))
        have r1 : Free B wr g1 := ⟨n1, fun y hy => hfr.2 y (by simp [hy])⟩
        have r2 : Free B wr g2 := ⟨n2, fun y hy => hfr.2 y (by simp [hy])⟩
        have r3 : Free B wr g3 := ⟨n3, fun y hy => hfr.2 y (by simp [hy])⟩
        have r4 : Free B wr f3 := ⟨n4, fun y hy => hfr.2 y (by simp [hy])⟩
        -- the number is set
        have hwa : ∀ v : Value, Ext (inl [b]) wr (wr.setCell ⟨b, o + j * 4, none⟩ v) := fun v => (Ext.refl _ wr).setIn (p := ⟨b, o + j * 4, none⟩) (by simp [inl]) _
        have nb : ∀ {g : List Nat}, b ∉ g → ∀ y ∈ g, ¬ inl [b] y := fun hb y hy h => by simp [inl] at h; subst h; exact hb hy
        have Hfr := Lib.hid hfr
        have Hsub := Lib.hid hsub
        have Hnm := Lib.hid hnm
        have Hbl := Lib.hid hbl
        have Hkd := Lib.hid hkd
        have HS3 := Lib.hid hS3
        have D12 := Lib.hid d12
        have D13 := Lib.hid d13
        have D23 := Lib.hid d23
        have D4 := Lib.hid d4
        have B1 := Lib.hid hb1
        have B2 := Lib.hid hb2
        have B3 := Lib.hid hb3
        have B4 := Lib.hid hb4
        have R1 := Lib.hid r1
        have R2 := Lib.hid r2
        have R3 := Lib.hid r3
        have R4 := Lib.hid r4
        have Hwa := Lib.hid hwa
        have Htk := Lib.hid htk
        have Hk' := Lib.hid hk'
        have Hxm := Lib.hid hxm
        have Nb : Hid (∀ {g : List Nat}, b ∉ g → ∀ y ∈ g, ¬ inl [b] y) := Lib.hid nb
        have C0 := Lib.hid c0
        have C1 := Lib.hid c1
        have C2 := Lib.hid c2
        have C3 := Lib.hid c3
        have Hfz := Lib.hid hfz
        clear hx hfr hsub hnm hbl hkd hS3 d12 d13 d23 d4 n1 n2 n3 n4 hb1 hb2 hb3 hb4 r1 r2 r3 r4 hwa htk hk' hxm nb hnd hx5
        go_wp2_with fail
        obtain ⟨wa, hwe⟩ : ∃ wa, wa = wr.setCell ⟨b, o + j * 4, none⟩ (.int .i64 k') := ⟨_, rfl⟩
        rw [← hwe]
        have hra : Ext (inl [b]) wr wa := by rw [hwe]; exact Hwa.out _
        have aq : ∀ q, q ≠ o + j * 4 → wa.cell? ⟨b, q, none⟩ = wr.cell? ⟨b, q, none⟩ := fun q q0 => by rw [hwe, set_ne _ _ _ _ _ _ (.inr q0)]
        have az : ∀ q, wa.frozen? ⟨b, q, none⟩ = false := fun q => by rw [hwe, World.frozen?_setCell]; exact Hfz.out q
        have a2 : wa.cell? ⟨b, o + j * 4 + 2, none⟩ = some (.slice ba x.needs.length bc) := by rw [aq _ (by omega)]; exact C2.out
        have a3 : wa.cell? ⟨b, o + j * 4 + 3, none⟩ = some (.slice ka x.kids.length kc) := by rw [aq _ (by omega)]; exact C3.out
        refine (markStringS_i na nc x.names g1 B (k' + 1) _ wa (by omega) (Hnm.out.keep (hra.keeps R1.out (Nb.out B1.out))) (R1.out.ext hra (Nb.out B1.out)) (by omega) (by omega)).mono ?_
        rintro e w1 ⟨rfl, hg1, _, _⟩
        have la : b < wa.heap.size := lt_of_cell a2
        have e2 := hg1.some a2 B1.out
        have e3 := hg1.some a3 B1.out
        have hr1 : Ext (inl (b :: g1)) wr w1 := (hra.mono (fun y hy => by simp [inl] at hy ⊢; exact .inl hy)).trans (hg1.mono (fun y hy => by simp [inl] at hy ⊢; exact .inr hy))
        have m2 : ∀ y ∈ g2, ¬ inl (b :: g1) y := fun y hy h => by
          simp [inl] at h
          rcases h with h | h
          · subst h; exact B2.out hy
          · exact D12.out y h hy
        have z1 : ∀ q, w1.frozen? ⟨b, q, none⟩ = false := fun q => by rw [hg1.frozen (p := ⟨b, q, none⟩) la B1.out]; exact az q
        have q1 : ∀ q, q ≠ o + j * 4 → w1.cell? ⟨b, q, none⟩ = wr.cell? ⟨b, q, none⟩ := fun q q0 => by rw [hg1.cell (p := ⟨b, q, none⟩) la B1.out]; exact aq q q0
        have Hr1 := Lib.hid hr1
        have M2 := Lib.hid m2
        have Z1 := Lib.hid z1
        have Q1 := Lib.hid q1
        have E3 := Lib.hid e3
        clear hwe hra aq az a2 a3 hg1 hr1 m2 z1 q1 e3 c0 c1 c2 c3
        go_wp2_with fail
        refine (markBoolS_ok ba bc x.needs g2 B (k' + 1 + x.names.length) _ w1 (by omega) (Hbl.out.keep (Hr1.out.keeps R2.out M2.out)) (R2.out.ext Hr1.out M2.out) (by omega)).mono ?_
        rintro e w2 ⟨rfl, hg2⟩
        have l1 : b < w1.heap.size := lt_of_cell E3.out
        have e3 := hg2.some E3.out B2.out
        have hr2 : Ext (inl (b :: (g1 ++ g2))) wr w2 := (Hr1.out.mono (fun y hy => by simp [inl] at hy ⊢; rcases hy with h | h; exact .inl h; exact .inr (.inl h))).trans (hg2.mono (fun y hy => by simp [inl] at hy ⊢; exact .inr (.inr hy)))
        have m3 : ∀ y ∈ g3, ¬ inl (b :: (g1 ++ g2)) y := fun y hy h => by
          simp [inl] at h
          rcases h with h | h | h
          · subst h; exact B3.out hy
          · exact D13.out y h hy
          · exact D23.out y h hy
        have z2 : ∀ q, w2.frozen? ⟨b, q, none⟩ = false := fun q => by rw [hg2.frozen (p := ⟨b, q, none⟩) l1 B2.out]; exact Z1.out q
        have q2 : ∀ q, q ≠ o + j * 4 → w2.cell? ⟨b, q, none⟩ = wr.cell? ⟨b, q, none⟩ := fun q q0 => by rw [hg2.cell (p := ⟨b, q, none⟩) l1 B2.out]; exact Q1.out q q0
        have Hr2 := Lib.hid hr2
        have M3 := Lib.hid m3
        have Z2 := Lib.hid z2
        have Q2 := Lib.hid q2
        have E3' := Lib.hid e3
        clear hg2 hr2 m3 z2 q2 e2
        go_wp2_with fail
        refine (Ih.out x Hxm.out ka kc g3 B (k' + 1 + x.names.length + x.needs.length) _ w2 (by omega) (Hkd.out.keep (Hr2.out.keeps R3.out M3.out)) (R3.out.ext Hr2.out M3.out) (by omega) (by omega)).mono ?_
        rintro e w3 ⟨rfl, hg3⟩
        have l2 : b < w2.heap.size := lt_of_cell E3'.out
        have hr3 : Ext (inl (b :: (g1 ++ g2 ++ g3))) wr w3 := (Hr2.out.mono (fun y hy => by simp [inl] at hy ⊢; rcases hy with h | h | h; exact .inl h; exact .inr (.inl h); exact .inr (.inr (.inl h)))).trans (hg3.mono (fun y hy => by simp [inl] at hy ⊢; exact .inr (.inr (.inr hy))))
        have m4 : ∀ y ∈ f3, ¬ inl (b :: (g1 ++ g2 ++ g3)) y := fun y hy h => by
          rcases List.mem_cons.1 h with h | h
          · subst h; exact B4.out hy
          · exact D4.out y h hy
        have z3 : ∀ q, w3.frozen? ⟨b, q, none⟩ = false := fun q => by rw [hg3.frozen (p := ⟨b, q, none⟩) l2 B3.out]; exact Z2.out q
        have q3 : ∀ q, q ≠ o + j * 4 → w3.cell? ⟨b, q, none⟩ = wr.cell? ⟨b, q, none⟩ := fun q q0 => by rw [hg3.cell (p := ⟨b, q, none⟩) l2 B3.out]; exact Q2.out q q0
        have l3 : b < w3.heap.size := Nat.lt_of_lt_of_le (lt_of_cell E3'.out) hg3.size
        have hres : Hid (Ext (inl (b :: f)) w w3 ∧ ShpLeft w3 b (o + (j + 1) * 4) (l.drop (j + 1)) f B) := Lib.hid ⟨Hg.out.trans (hr3.mono (fun y hy => by
            rcases List.mem_cons.1 hy with h | h
            · exact List.mem_cons.2 (.inl h)
            · exact List.mem_cons.2 (.inr (Hsub.out y (by rcases List.mem_append.1 h with h | h; · rcases List.mem_append.1 h with h | h <;> simp [h]
                                                          · simp [h]))))),
          f3, by
            rw [show o + (j + 1) * 4 = o + j * 4 + 4 by omega]
            exact HS3.out.keep (hr3.keeps R4.out m4) (fun q hq _ => q3 q (by omega)),
          R4.out.ext hr3 m4, fun y hy => Hsub.out y (by simp [hy]), l3, z3⟩
        have Hcn : Hid (k + cntPL (l.take (j + 1)) = k' + 1 + x.names.length + x.needs.length + cntPL x.kids) := Lib.hid (by rw [Htk.out, cntPL_snoc, cntP_eq]; have := Hk'.out; omega)
        clear hg3 hr3 m4 z3 q3 e3
        go_wp2_with fail
        go_roundw
        case rel =>
          exact ⟨j + 1, by omega, by go_num, by rw [Hcn.out]; go_num, hres.out.1, hres.out.2⟩
        case measure => simp [intOf]; omega
      · have hje : j = l.length := by omega
        subst hje
        clear hL
        simp only [List.take_length]
        go_wp2_with fail
        go_ret
        exact ⟨by simp, Hg.out⟩
theorem markShapeS_all : ∀ n, MkPOk n := by
  refine Shp.ind' MkPOk ?_
  intro n ih a c fp B k i w hi hF hfr h1 h2
  exact markShapeS_of n.kids (fun x hx => ih x hx) a c fp B k i w hi hF hfr h1 h2
theorem markShape_ok (n : Shp) (na : Option Addr) (nc : Nat) (ba : Option Addr) (bc : Nat) (ka : Option Addr) (kc : Nat) (fp : List Nat) (B k : Nat) (i : Int) (w : World) (hi : i = (k : Int)) (hF : ShapeF w n na nc ba bc ka kc fp) (hfr : Free B w fp) (h1 : 0 < k) (h2 : k + cntSh n ≤ 1000000000) :
    Calls Try.prog 45 #[shapeV n na nc ba bc ka kc, .int .i64 i] w fun e w' => e = .returned (.int .i64 ((k + cntSh n : Nat) : Int)) ∧ Ext (inl fp) w w' := by
  subst hi
  obtain ⟨f1, f2, f3, rfl, hs, hbl, hk⟩ := hF.parts
  have hct : cntSh n = n.names.length + n.needs.length + cntPL n.kids := rfl
  have hnd := hfr.1
  have d12 : ∀ y, y ∈ f1 → y ∈ f2 → False := fun y h1 h2 => (List.nodup_append.1 (List.nodup_append.1 hnd).1).2.2 y h1 y h2 rfl
  have d3 : ∀ y, y ∈ f1 ++ f2 → y ∈ f3 → False := fun y h1 h2 => (List.nodup_append.1 hnd).2.2 y h1 y h2 rfl
  have r1 : Free B w f1 := ⟨(List.nodup_append.1 (List.nodup_append.1 hnd).1).1, fun y hy => hfr.2 y (by simp [hy])⟩
  have r2 : Free B w f2 := ⟨(List.nodup_append.1 (List.nodup_append.1 hnd).1).2.1, fun y hy => hfr.2 y (by simp [hy])⟩
  have r3 : Free B w f3 := ⟨(List.nodup_append.1 hnd).2.1, fun y hy => hfr.2 y (by simp [hy])⟩
  have lb : ∀ y ∈ f1 ++ f2 ++ f3, y < w.heap.size := fun y hy => (hfr.2 y hy).2.1
  have Hct := Lib.hid hct
  have Hs := Lib.hid hs
  have Hbl := Lib.hid hbl
  have Hk := Lib.hid hk
  have D12 := Lib.hid d12
  have D3 := Lib.hid d3
  have R1 := Lib.hid r1
  have R2 := Lib.hid r2
  have R3 := Lib.hid r3
  have Lb := Lib.hid lb
  clear hct hs hbl hk d12 d3 r1 r2 r3 lb hnd hF hfr
  unfold shapeV
  go_enter Try.func45, Try.ntmps45
  go_wp2_with fail
  have hga : Grow w (w.alloc (.cells #[.int .i64 n.kind, .slice na n.names.length nc, .slice ba n.needs.length bc, .slice ka n.kids.length kc] 27)) := (Ext.refl nil w).alloc _
  have HB0 := Lib.hid (BoxN.new w (shapeL' n na nc ba bc ka kc) 27)
  refine (markStringS_i na nc n.names f1 B k _ _ rfl (Hs.out.keep (hga.keeps R1.out (fun _ _ h => h))) (R1.out.ext hga (fun _ _ h => h)) (by omega) (by have := Hct.out; omega)).mono ?_
  rintro e w2 ⟨rfl, hx2, _, _⟩
  have B2 := HB0.out.ext hx2 (fun h => by have := Lb.out _ (List.mem_append_left f3 (List.mem_append_left f2 h)); omega)
  have p2 := B2.cell 2 _ rfl
  have hr2 : Ext (inl f1) w w2 := hga.toX'.trans hx2
  have Hr2 := Lib.hid hr2
  have HB2 := Lib.hid B2
  clear hx2 hr2 hga B2
  go_wp2_with fail
  refine (markBoolS_ok ba bc n.needs f2 B (k + n.names.length) _ _ (by omega) (Hbl.out.keep (Hr2.out.keeps R2.out (fun y hy h => D12.out y h hy))) (R2.out.ext Hr2.out (fun y hy h => D12.out y h hy)) (by have := Hct.out; omega)).mono ?_
  rintro e w3 ⟨rfl, hx3⟩
  have B3 := HB2.out.ext hx3 (fun h => by have := Lb.out _ (List.mem_append_left f3 (List.mem_append_right f1 h)); omega)
  have p3 := B3.cell 3 _ rfl
  have hr3 : Ext (inl (f1 ++ f2)) w w3 := (Hr2.out.mono (fun y hy => List.mem_append_left f2 hy)).trans (hx3.mono (fun y hy => List.mem_append_right f1 hy))
  have Hr3 := Lib.hid hr3
  clear hx3 hr3 B3
  go_wp2_with fail
  refine (markShapeS_all n ka kc f3 B (k + n.names.length + n.needs.length) _ _ (by omega) (Hk.out.keep (Hr3.out.keeps R3.out (fun y hy h => D3.out y h hy))) (R3.out.ext Hr3.out (fun y hy h => D3.out y h hy)) (by omega) (by have := Hct.out; omega)).mono ?_
  rintro e w4 ⟨rfl, hx4⟩
  have Hres : Hid (Ext (inl (f1 ++ f2 ++ f3)) w w4) := Lib.hid ((Hr3.out.mono (fun y hy => List.mem_append_left f3 hy)).trans (hx4.mono (fun y hy => List.mem_append_right (f1 ++ f2) hy)))
  clear hx4
  go_wp2_with fail
  go_ret
  exact ⟨by rw [Hct.out]; simp; omega, Hres.out⟩
end Go.Proofs.Ytgfnmhfdmmnaoaa
namespace Go.Proofs.Ytgfnmhfdmmnaoaa
open Go.RowKit
theorem BoolsR.mono {w : World} {S T : Nat → Prop} (hS : ∀ k, S k → T k) {a : Option Addr} {c : Nat} {xs : List Bool} (hs : BoolsR w S a c xs) : BoolsR w T a c xs := by
  obtain ⟨h1, h2, h4⟩ := hs
  refine ⟨h1, h2, h4.imp id ?_⟩
  rintro ⟨b, o, rfl, hb, hc⟩
  exact ⟨b, o, rfl, hS b hb, hc⟩
theorem BoolsR.lt {S : Nat → Prop} {w : World} {a : Option Addr} {c : Nat} {xs : List Bool} (h : BoolsR w S a c xs) : BoolsR w (fun k => S k ∧ k < w.heap.size) a c xs := by
  obtain ⟨h1, h2, h4⟩ := h
  refine ⟨h1, h2, ?_⟩
  rcases Nat.eq_zero_or_pos xs.length with hl | hl
  · exact .inl (List.length_eq_zero_iff.1 hl)
  rcases h4 with h4 | ⟨b, o, rfl, hb, hc⟩
  · exact .inl h4
  · exact .inr ⟨b, o, rfl, ⟨hb, lt_of_cell (hc 0 hl)⟩, hc⟩
mutual
theorem ShapeC.mono {w : World} {S T : Nat → Prop} (hS : ∀ k, S k → T k) : ∀ {n : Shp} {na : Option Addr} {nc : Nat} {ba : Option Addr} {bc : Nat} {ka : Option Addr} {kc : Nat}, ShapeC w S n na nc ba bc ka kc → ShapeC w T n na nc ba bc ka kc
  | ⟨_, _, _, kids⟩, na, nc, ba, bc, ka, kc, hn => by
    unfold ShapeC at hn ⊢
    obtain ⟨h1, h2, h3, h4, h5⟩ := hn
    refine ⟨h1.mono hS, h2.mono hS, h3, h4, h5.imp id ?_⟩
    rintro ⟨b, o, e, hb, hk⟩
    exact ⟨b, o, e, hS b hb, ShpsR.mono hS hk⟩
theorem ShpsR.mono {w : World} {S T : Nat → Prop} (hS : ∀ k, S k → T k) {b : Nat} : ∀ {l : List Shp} {o : Nat}, ShpsR w S b o l → ShpsR w T b o l
  | [], _, _ => by unfold ShpsR; trivial
  | k :: ks, o, hk => by
    unfold ShpsR at hk ⊢
    obtain ⟨⟨na, nc, ba, bc, ka, kc, c0, c1, c2, c3, hn⟩, hr⟩ := hk
    exact ⟨⟨na, nc, ba, bc, ka, kc, c0, c1, c2, c3, ShapeC.mono hS hn⟩, ShpsR.mono hS hr⟩
end
mutual
theorem ShapeC.lt {S : Nat → Prop} {w : World} : ∀ {n : Shp} {na : Option Addr} {nc : Nat} {ba : Option Addr} {bc : Nat} {ka : Option Addr} {kc : Nat}, ShapeC w S n na nc ba bc ka kc → ShapeC w (fun k => S k ∧ k < w.heap.size) n na nc ba bc ka kc
  | ⟨_, _, _, kids⟩, na, nc, ba, bc, ka, kc, h => by
    unfold ShapeC at h ⊢
    obtain ⟨h1, h2, h3, h4, h5⟩ := h
    refine ⟨h1.lt, h2.lt, h3, h4, ?_⟩
    rcases h5 with h5 | ⟨b, o, rfl, hb, hk⟩
    · exact .inl h5
    · cases kids with
      | nil => exact .inl rfl
      | cons x xs =>
        refine .inr ⟨b, o, rfl, ⟨hb, ?_⟩, ShpsR.lt hk⟩
        unfold ShpsR at hk
        obtain ⟨⟨_, _, _, _, _, _, c0, _⟩, _⟩ := hk
        exact lt_of_cell c0
theorem ShpsR.lt {S : Nat → Prop} {w : World} {b : Nat} : ∀ {l : List Shp} {o : Nat}, ShpsR w S b o l → ShpsR w (fun k => S k ∧ k < w.heap.size) b o l
  | [], _, _ => by unfold ShpsR; trivial
  | k :: ks, o, h => by
    unfold ShpsR at h ⊢
    obtain ⟨⟨na, nc, ba, bc, ka, kc, c0, c1, c2, c3, hn⟩, hr⟩ := h
    exact ⟨⟨na, nc, ba, bc, ka, kc, c0, c1, c2, c3, hn.lt⟩, ShpsR.lt hr⟩
end
def shpRep : Rep Shp where
  n := 4
  R := fun w S x cs => ∃ na nc ba bc ka kc, cs = shapeL' x na nc ba bc ka kc ∧ ShapeC w S x na nc ba bc ka kc
  F := fun w x cs fp => ∃ na nc ba bc ka kc, cs = shapeL' x na nc ba bc ka kc ∧ ShapeF w x na nc ba bc ka kc fp
  rlen := by rintro w S x cs ⟨na, nc, ba, bc, ka, kc, rfl, _⟩; rfl
  flen := by rintro w x cs fp ⟨na, nc, ba, bc, ka, kc, rfl, _⟩; rfl
  ext := by rintro X S w w' x cs h hS ⟨na, nc, ba, bc, ka, kc, rfl, hn⟩; exact ⟨na, nc, ba, bc, ka, kc, rfl, hn.ext h hS⟩
  mono := by rintro S T w x cs h ⟨na, nc, ba, bc, ka, kc, rfl, hn⟩; exact ⟨na, nc, ba, bc, ka, kc, rfl, hn.mono h⟩
  lt := by rintro S w x cs ⟨na, nc, ba, bc, ka, kc, rfl, hn⟩; exact ⟨na, nc, ba, bc, ka, kc, rfl, hn.lt⟩
  keep := by rintro w w' x cs fp ⟨na, nc, ba, bc, ka, kc, rfl, hn⟩ h; exact ⟨na, nc, ba, bc, ka, kc, rfl, hn.keep h⟩
  toR := by rintro S w x cs fp ⟨na, nc, ba, bc, ka, kc, rfl, hn⟩ h; exact ⟨na, nc, ba, bc, ka, kc, rfl, hn.toC h⟩
theorem shp_open {w : World} {S : Nat → Prop} {x : Shp} {v : Value} (h : RV shpRep packA w S x v) : ShapeR w S x v := by
  obtain ⟨cs, rfl, na, nc, ba, bc, ka, kc, rfl, hs⟩ := h; exact ⟨na, nc, ba, bc, ka, kc, rfl, hs⟩
theorem shp_shut {w : World} {S : Nat → Prop} {x : Shp} {v : Value} (h : ShapeR w S x v) : RV shpRep packA w S x v := by
  obtain ⟨na, nc, ba, bc, ka, kc, rfl, hs⟩ := h; exact ⟨_, rfl, na, nc, ba, bc, ka, kc, rfl, hs⟩
def shpV (x : Shp) (na : Option Addr) (nc : Nat) (ba : Option Addr) (bc : Nat) (ka : Option Addr) (kc : Nat) : Value := .agg #[.int .i64 x.kind, .slice na x.names.length nc, .slice ba x.needs.length bc, .slice ka x.kids.length kc]
theorem openV_shp {w : World} {S : Nat → Prop} {x : Shp} {v : Value} (h : RV shpRep packA w S x v) : ∃ na nc ba bc ka kc, v = shpV x na nc ba bc ka kc := by
  obtain ⟨na, nc, ba, bc, ka, kc, h, _⟩ := shp_open h; exact ⟨na, nc, ba, bc, ka, kc, h⟩
theorem uSzShp (x : Shp) (v : Value) (left : Int) (w : World) (h0 : 0 ≤ left) (h1 : left ≤ 1048576) (h : RV shpRep packA w any x v) :
    Calls Try.prog 40 #[v, .int .i64 left] w fun e w' => e = .returned (.int .i64 (szR (costP x) left)) ∧ Grow w w' := szShape_ok x v left w h0 h1 (shp_open h)
theorem uToShp (x : Shp) (v : Value) (w : World) (hc : costP x ≤ 1048576) (h : RV shpRep packA w any x v) :
    Calls Try.prog 42 #[v] w fun e w' => ∃ v' fp, e = .returned v' ∧ Grow w w' ∧ FV shpRep packA w' x v' fp ∧ Free w.heap.size w' fp :=
  (toShape_ok x v w hc (shp_open h)).mono fun e w' ⟨v', fp, he, hg, ⟨na, nc, ba, bc, ka, kc, hv, hF⟩, hfr⟩ => ⟨v', fp, he, hg, ⟨_, hv, na, nc, ba, bc, ka, kc, rfl, hF⟩, hfr⟩
theorem uEqShp (x : Shp) (v u : Value) (w : World) (h : RV shpRep packA w any x v) (h' : RV shpRep packA w any x u) :
    Calls Try.prog 44 #[v, u] w fun e w' => e = .returned (.bool true) ∧ Grow w w' := eqShape_ok x v u w (shp_open h) (shp_open h')
theorem uMarkShp (x : Shp) (v : Value) (fp : List Nat) (B k : Nat) (i : Int) (w : World) (hi : i = (k : Int)) (hF : FV shpRep packA w x v fp) (hfr : Free B w fp) (h1 : 0 < k) (h2 : k + cntSh x ≤ 1000000000) :
    Calls Try.prog 45 #[v, .int .i64 i] w fun e w' => e = .returned (.int .i64 ((k + cntSh x : Nat) : Int)) ∧ Ext (inl fp) w w' ∧ True ∧ True := by
  obtain ⟨cs, rfl, na, nc, ba, bc, ka, kc, rfl, hs⟩ := hF
  exact (markShape_ok x na nc ba bc ka kc fp B k i w hi hs hfr h1 h2).mono fun e w' ⟨he, hx⟩ => ⟨he, hx, trivial, trivial⟩
end Go.Proofs.Ytgfnmhfdmmnaoaa
namespace Go.Proofs.Ytgfnmhfdmmnaoaa.Eng
open Go Go.RowKit
def frB : VC → Bool → List Nat
  | .fr g, false => [g]
  | _, _ => []
mutual
def atB : AV → List Nat
  | .agg cs => atL cs
  | .tup cs => atL cs
  | .fn _ cs => atL cs
  | .view t _ es => frB t es.isEmpty ++ atE es
  | .eptr t cs => frB t false ++ atL cs
  | _ => []
def atL : List AV → List Nat
  | [] => []
  | c :: cs => atB c ++ atL cs
def atE : List (List AV) → List Nat
  | [] => []
  | e :: es => atL e ++ atE es
end
theorem at_any : atB .any = [] := by unfold atB; rfl
theorem at_int {k : IntKind} {n : Int} : atB (.int k n) = [] := by unfold atB; rfl
theorem at_bool {b : Bool} : atB (.bool b) = [] := by unfold atB; rfl
theorem at_str {b : ByteArray} : atB (.str b) = [] := by unfold atB; rfl
theorem at_own {id n : Nat} : atB (.own id n) = [] := by unfold atB; rfl
theorem at_ptr {bx : Bool} {sz n id i j : Nat} : atB (.ptr bx sz n id i j) = [] := by unfold atB; rfl
theorem at_rdr : atB .rdr = [] := by unfold atB; rfl
theorem at_agg {cs : List AV} : atB (.agg cs) = atL cs := by unfold atB; rfl
theorem at_tup {cs : List AV} : atB (.tup cs) = atL cs := by unfold atB; rfl
theorem at_fn {f : FuncId} {cs : List AV} : atB (.fn f cs) = atL cs := by unfold atB; rfl
theorem at_view {t : VC} {sz : Nat} {es : List (List AV)} : atB (.view t sz es) = frB t es.isEmpty ++ atE es := by conv => lhs; unfold atB
theorem atL_nil : atL [] = [] := by unfold atL; rfl
theorem atL_cons {c : AV} {cs : List AV} : atL (c :: cs) = atB c ++ atL cs := by conv => lhs; unfold atL
theorem atE_nil : atE [] = [] := by unfold atE; rfl
theorem atE_cons {e : List AV} {es : List (List AV)} : atE (e :: es) = atL e ++ atE es := by conv => lhs; unfold atE
section
variable {w : World} {ρ : Cx}
mutual
theorem Rep.at : ∀ {c : AV} {v : Value}, Rep w ρ c v → ∀ b ∈ atB c, ρ.S b ∧ ∀ o, w.frozen? ⟨b, o, none⟩ = false
  | .any, _, _, b, hb => by rw [at_any] at hb; cases hb
  | .int _ _, _, _, b, hb => by rw [at_int] at hb; cases hb
  | .bool _, _, _, b, hb => by rw [at_bool] at hb; cases hb
  | .str _, _, _, b, hb => by rw [at_str] at hb; cases hb
  | .own _ _, _, _, b, hb => by rw [at_own] at hb; cases hb
  | .ptr _ _ _ _ _ _, _, _, b, hb => by rw [at_ptr] at hb; cases hb
  | .rdr, _, _, b, hb => by rw [at_rdr] at hb; cases hb
  | .agg cs, _, h, b, hb => by
    rw [at_agg] at hb
    obtain ⟨vs, _, _, h3⟩ := rep_agg.1 h
    exact RepL.at h3 b hb
  | .tup cs, _, h, b, hb => by
    rw [at_tup] at hb
    obtain ⟨vs, _, h3⟩ := rep_tup.1 h
    exact RepL.at h3 b hb
  | .fn f cs, _, h, b, hb => by
    rw [at_fn] at hb
    obtain ⟨vs, _, h3⟩ := rep_fn.1 h
    exact RepL.at h3 b hb
  | .view t sz es, _, h, b, hb => by
    rw [at_view, List.mem_append] at hb
    obtain ⟨a, c, _, _, _, _, _, h6⟩ := rep_view.1 h
    rcases h6 with rfl | ⟨g, o, _, hg, he⟩
    · rcases hb with hb | hb
      · cases t <;> simp [frB] at hb
      · rw [atE_nil] at hb; cases hb
    · rcases hb with hb | hb
      · cases t <;> cases hem : es.isEmpty <;> rw [hem] at hb <;> simp [frB] at hb
        subst hb
        simp only [Cx.H] at hg
        obtain ⟨h1, rfl, h3⟩ := hg
        exact ⟨h1, h3⟩
      · exact RepE.at he b hb
  | .eptr t cs, _, h, b, hb => by
    unfold atB at hb
    rw [List.mem_append] at hb
    obtain ⟨g, o, _, hg, he⟩ := rep_eptr.1 h
    rcases hb with hb | hb
    · cases t <;> simp [frB] at hb
      subst hb
      simp only [Cx.H] at hg
      obtain ⟨h1, rfl, h3⟩ := hg
      exact ⟨h1, h3⟩
    · exact RepC.at he b hb
theorem RepL.at : ∀ {cs : List AV} {vs : List Value}, RepL w ρ cs vs → ∀ b ∈ atL cs, ρ.S b ∧ ∀ o, w.frozen? ⟨b, o, none⟩ = false
  | [], _, _, b, hb => by rw [atL_nil] at hb; cases hb
  | c :: cs, _, h, b, hb => by
    rw [atL_cons, List.mem_append] at hb
    unfold RepL at h
    obtain ⟨v, vs', _, h2, h3⟩ := h
    rcases hb with hb | hb
    · exact Rep.at h2 b hb
    · exact RepL.at h3 b hb
theorem RepC.at {g : Nat} : ∀ {cs : List AV} {o : Nat}, RepC w ρ g o cs → ∀ b ∈ atL cs, ρ.S b ∧ ∀ o, w.frozen? ⟨b, o, none⟩ = false
  | [], _, _, b, hb => by rw [atL_nil] at hb; cases hb
  | c :: cs, _, h, b, hb => by
    rw [atL_cons, List.mem_append] at hb
    unfold RepC at h
    obtain ⟨⟨v, _, _, h2⟩, h3⟩ := h
    rcases hb with hb | hb
    · exact Rep.at h2 b hb
    · exact RepC.at h3 b hb
theorem RepE.at {g : Nat} : ∀ {es : List (List AV)} {o : Nat}, RepE w ρ g o es → ∀ b ∈ atE es, ρ.S b ∧ ∀ o, w.frozen? ⟨b, o, none⟩ = false
  | [], _, _, b, hb => by rw [atE_nil] at hb; cases hb
  | e :: es, _, h, b, hb => by
    rw [atE_cons, List.mem_append] at hb
    unfold RepE at h
    rcases hb with hb | hb
    · exact RepC.at h.1 b hb
    · exact RepE.at h.2 b hb
end
end
section
variable {P : Program} {f : FuncId} {args : List AV} {c : Nat} {Q R : AV → Prop}
end
section
variable {P : Program} {T : Tab} {k0 : Nat} {md : List Nat} {Av : Nat → Prop} {ops : Array Oper} {K : ASt → Prop} {o : Oper} {l : List Oper} {s : ASt}
end
section
variable {P : Program} {T : Tab} {hT : Tab.Ok P T} {hm : P.follows .mixedOrders = true} {w0 : W0} {S0 : Nat → Prop} {rd0 : Option Nat} {k0 : Nat} {Q : Exit → ASt → Prop} {s : ASt} {code : Code}
end
section
variable {P : Program} {w0 : W0} {S0 : Nat → Prop} {rd0 : Option Nat} {k0 : Nat} {w : World} {a : Act} {s : ASt} {ρ : Cx}
end
section
variable {P : Program} {T : Tab} {hT : Tab.Ok P T} {hm : P.follows .mixedOrders = true} {w0 : W0} {S0 : Nat → Prop} {rd0 : Option Nat} {k0 : Nat} {Q : Exit → ASt → Prop} {s : ASt} {code : Code}
end
section
variable {P : Program} {T : Tab} {k0 : Nat} {md : List Nat} {Av : Nat → Prop} {ops : Array Oper} {K : ASt → Prop} {o : Oper} {l : List Oper} {s : ASt}
end
end Go.Proofs.Ytgfnmhfdmmnaoaa.Eng
namespace Go.Proofs.Ytgfnmhfdmmnaoaa.Eng
open Go Go.RowKit
structure Lb where
  kind : Int
  num : Int
  text : ByteArray
  names : List ByteArray
  nb : Nat
  kids : List Lb
  kb : Nat
theorem Lb.ind' (P : Lb → Prop) (h : ∀ n : Lb, (∀ k ∈ n.kids, P k) → P n) : ∀ n, P n := by
  intro n
  refine Lb.rec (motive_1 := P) (motive_2 := fun l => ∀ k ∈ l, P k) ?_ ?_ ?_ n
  · intro kind num text names nb kids kb ih
    exact h _ ih
  · intro k hk; cases hk
  · intro k ks h1 h2 x hx
    rcases List.mem_cons.1 hx with rfl | hx
    · exact h1
    · exact h2 _ hx
mutual
def Lb.nd : Lb → Nd
  | ⟨kind, num, text, names, _, kids, _⟩ => ⟨kind, num, text, names, Lb.nds kids⟩
def Lb.nds : List Lb → List Nd
  | [] => []
  | k :: ks => Lb.nd k :: Lb.nds ks
end
mutual
def labL : Lb → List AV
  | ⟨kind, num, text, names, nb, kids, kb⟩ => [.int .i64 kind, .int .i64 num, .str text, .view (.fr nb) 1 (strsE names), .view (.fr kb) 5 (labsL kids)]
def labsL : List Lb → List (List AV)
  | [] => []
  | k :: ks => labL k :: labsL ks
end
def Lb.fp (n : Lb) : List Nat := atL (labL n)
section
variable {w : World} {ρ : Cx}
end
end Go.Proofs.Ytgfnmhfdmmnaoaa.Eng
-- EV: fresh
namespace Go.Proofs.Ytgfnmhfdmmnaoaa.Eng
open Go Go.RowKit
attribute [local simp] big size_mk ASt.pay Option.map_map Function.comp_def awant aop acall ado aev ofVal ofVal0 ASt.put ASt.add ASt.turn ASt.kill abox aalloc astore aload aloadD astoreD idOf ASt.at cellsTo afieldAddr afield aindexAddr aindex alen abin aint acmp astr aun apick aextract anil aslice abound abuild afill abuildSlice asCells aps avCells over upd aappend asrc amax amin aconv mkSt slots rowsOf_cons rowsOf_nil usedOf_cons usedOf_nil ZK.av List.replicate ASt.back ASt.addL ASt.killL nodeA nodeT nodeTL_eq nodeL_eq strsE_get strsE_len intsE_get intsE_len strsE_at intsE_at tab2 tab3 tab4 tab5 tab6 tab7 tab8 tab9 tab10 tab11 tab12 tab13 tab14 tab15 tab16 tab17 tab18 tab19 tab21 tab22 tab23 tab24 tab25 tab26 tab27 tab28 tab29 tab30 tab39 tab40 tab41 tab42 tab43 tab47 tab48 tab55 tab56 tab57 tab60 tab61 tab62 tab73 tab74 tab75 tab85 tab92 tab115 tab116 tab143 tab144 tab145 tab154 tab155 tab170 tab175 tab182 tab197 tab198 tab203 tab204 tab205 tab207 tab208 tab209
end Go.Proofs.Ytgfnmhfdmmnaoaa.Eng
-- EV: fresh
namespace Go.Proofs.Ytgfnmhfdmmnaoaa
open Go.RowKit
theorem openV_node {w : World} {S : Nat → Prop} {x : Nd} {v : Value} (h : RV nodeRep packA w S x v) : ∃ na nc ka kc, v = nodeV x na nc ka kc := by
  obtain ⟨na, nc, ka, kc, hv, _⟩ := node_open h
  exact ⟨na, nc, ka, kc, hv⟩
namespace Eng
theorem arg_node {w : World} {n : Nd} {v : Value} (h : RV nodeRep packA w Go.Proofs.Ytgfnmhfdmmnaoaa.any n v) : Rep w (pureC nil (fun k => k < w.heap.size) none) (nodeA n) v := rep_of_node (node_open h.under)
end Eng
end Go.Proofs.Ytgfnmhfdmmnaoaa
-- EV: fresh
namespace Go.Proofs.Ytgfnmhfdmmnaoaa
open Go Go.RowKit
namespace Eng
section
variable {w : World} {S : Nat → Prop}
theorem bools_to_rep {xs : List Bool} {a : Option Addr} {c : Nat} (h : BoolsR w S a c xs) : Rep w (pureC nil S none) (.view .loose 1 (boolsE xs)) (.slice a xs.length c) := by
  obtain ⟨h1, h2, h4⟩ := h
  refine rep_view.2 ⟨a, c, by rw [boolsE_len], fun h => (by cases h), by rw [boolsE_len]; exact h1, by rw [boolsE_len]; exact h2, fun e he => ?_, ?_⟩
  · unfold boolsE at he
    obtain ⟨x, _, rfl⟩ := List.mem_map.1 he
    rfl
  · rcases h4 with rfl | ⟨b, o, ha, hb, hc⟩
    · exact .inl rfl
    · refine .inr ⟨b, o, ha, hb, RepE.of_get (sz := 1) (fun e he => ?_) (fun i e he => ?_)⟩
      · unfold boolsE at he
        obtain ⟨x, _, rfl⟩ := List.mem_map.1 he
        rfl
      · rw [boolsE_get, Option.map_eq_some_iff] at he
        obtain ⟨x, hx, rfl⟩ := he
        obtain ⟨hi, rfl⟩ := List.getElem?_eq_some_iff.1 hx
        unfold RepC
        refine ⟨⟨_, by rw [Nat.mul_one]; exact hc i hi, rfl, rep_bool.2 rfl⟩, ?_⟩
        unfold RepC
        trivial
theorem shps_to_rep {ks : List Go.Proofs.Ytgfnmhfdmmnaoaa.Shp} (ih : ∀ k ∈ ks, ∀ na nc ba bc ka kc, ShapeC w S k na nc ba bc ka kc → Rep w (pureC nil S none) (.view .loose 1 (strsE k.names)) (.slice na k.names.length nc) ∧ Rep w (pureC nil S none) (.view .loose 1 (boolsE k.needs)) (.slice ba k.needs.length bc) ∧ Rep w (pureC nil S none) (.view .loose 4 (k.kids.map shE)) (.slice ka k.kids.length kc))
    {a : Option Addr} {c : Nat} (h1 : ks.length ≤ c) (h2 : ks.length ≤ big) (h3 : ks = [] ∨ ∃ b o, a = some ⟨b, o, none⟩ ∧ S b ∧ ShpsR w S b o ks) : Rep w (pureC nil S none) (.view .loose 4 (ks.map shE)) (.slice a ks.length c) := by
  refine rep_view.2 ⟨a, c, by rw [List.length_map], fun h => (by cases h), by rw [List.length_map]; exact h1, by rw [List.length_map]; exact h2, fun e he => ?_, ?_⟩
  · obtain ⟨x, _, rfl⟩ := List.mem_map.1 he
    exact shE_len x
  · rcases h3 with rfl | ⟨b, o, ha, hb, hk⟩
    · exact .inl rfl
    · refine .inr ⟨b, o, ha, hb, ?_⟩
      clear h1 h2 ha
      induction ks generalizing o with
      | nil => unfold RepE; trivial
      | cons k ks ih2 =>
        rw [List.map_cons]
        unfold ShpsR at hk
        obtain ⟨⟨na, nc, ba, bc, ka, kc, p0, p1, p2, p3, hc⟩, hk⟩ := hk
        unfold RepE
        rw [shE_len]
        refine ⟨?_, ih2 (fun k hk => ih k (by simp [hk])) _ hk⟩
        obtain ⟨r2, r3, r4⟩ := ih k (by simp) _ _ _ _ _ _ hc
        rw [shE_eq]
        unfold RepC
        refine ⟨⟨_, p0, rfl, rep_int.2 rfl⟩, ?_⟩
        unfold RepC
        refine ⟨⟨_, p1, rfl, r2⟩, ?_⟩
        unfold RepC
        refine ⟨⟨_, p2, rfl, r3⟩, ?_⟩
        unfold RepC
        refine ⟨⟨_, p3, rfl, r4⟩, ?_⟩
        unfold RepC
        trivial
theorem shapeC_to_rep : ∀ (n : Go.Proofs.Ytgfnmhfdmmnaoaa.Shp) na nc ba bc ka kc, ShapeC w S n na nc ba bc ka kc → Rep w (pureC nil S none) (.view .loose 1 (strsE n.names)) (.slice na n.names.length nc) ∧ Rep w (pureC nil S none) (.view .loose 1 (boolsE n.needs)) (.slice ba n.needs.length bc) ∧ Rep w (pureC nil S none) (.view .loose 4 (n.kids.map shE)) (.slice ka n.kids.length kc) :=
  Shp.ind' _ (fun n ih na nc ba bc ka kc h => by
    cases n
    unfold ShapeC at h
    obtain ⟨h1, h2, h3, h4, h5⟩ := h
    exact ⟨strs_to_rep h1, bools_to_rep h2, shps_to_rep ih h3 h4 h5⟩)
theorem rep_of_shape {n : Go.Proofs.Ytgfnmhfdmmnaoaa.Shp} {v : Value} (h : ShapeR w S n v) : Rep w (pureC nil S none) (shA n) v := by
  obtain ⟨na, nc, ba, bc, ka, kc, rfl, hc⟩ := h
  obtain ⟨h1, h2, h3⟩ := shapeC_to_rep n _ _ _ _ _ _ hc
  unfold shA shapeV
  rw [shE_eq]
  refine rep_agg.2 ⟨[_, _, _, _], rfl, ?_, ?_⟩
  · intro u hu
    simp only [List.mem_cons, List.not_mem_nil, or_false] at hu
    rcases hu with rfl | rfl | rfl | rfl <;> rfl
  · unfold RepL
    refine ⟨_, _, rfl, rep_int.2 rfl, ?_⟩
    unfold RepL
    refine ⟨_, _, rfl, h1, ?_⟩
    unfold RepL
    refine ⟨_, _, rfl, h2, ?_⟩
    unfold RepL
    refine ⟨_, _, rfl, h3, ?_⟩
    unfold RepL
    rfl
theorem arg_shp {n : Go.Proofs.Ytgfnmhfdmmnaoaa.Shp} {v : Value} (h : RV shpRep packA w Go.Proofs.Ytgfnmhfdmmnaoaa.any n v) : Rep w (pureC nil (fun k => k < w.heap.size) none) (shA n) v := rep_of_shape (shp_open h.under)
end
end Eng
theorem strsF_nil (w : World) : StrsF w none 0 [] [] := ⟨Nat.le_refl _, Nat.zero_le _, by simp, .inl ⟨rfl, rfl⟩⟩
theorem implFirstMisfit_ok (x : Shp) (n : Nd) (v u : Value) (w : World) (hx0 : RV shpRep packA w any x v) (hn0 : RV nodeRep packA w any n u) :
    Calls Try.prog 18 #[v, u] w fun e w' => ∃ r fp, e = .returned (.tuple #[r, .bool (Eng.fmV x n).isSome]) ∧ Grow w w' ∧ FV strsRep packO w' ((Eng.fmV x n).getD []) r fp ∧ Free w.heap.size w' fp := by
  have hx := shp_open hx0
  have hn := node_open hn0
  have Hx := Lib.hid hx
  have Hn := Lib.hid hn
  obtain ⟨na, nc, ba, bc, ka, kc, rfl, hc⟩ := hx
  obtain ⟨na2, nc2, ka2, kc2, rfl, hc2⟩ := hn
  clear hc hc2 hx0 hn0
  unfold shapeV nodeV at *
  have hno : Eng.fmV x n = none → ∀ w', Grow w w' → ∃ r fp, Ending.returned (.tuple #[.slice none 0 0, .bool false]) = .returned (.tuple #[r, .bool (Eng.fmV x n).isSome]) ∧ Grow w w' ∧ FV strsRep packO w' ((Eng.fmV x n).getD []) r fp ∧ Free w.heap.size w' fp := fun h w' hg => by
    rw [h]; exact ⟨_, [], rfl, hg, strs_shutF (strsF_nil w'), Free.nil _ _⟩
  cases h1 : shpB x 5
  · have Hf := Lib.hid (hno (by unfold Eng.fmV; rw [h1]; rfl))
    have H1 := Lib.hid h1
    clear h1 hno
    go_enter Try.func18, Try.ntmps18
    go_wp2_with fail
    refine (implValidShape_ok x _ _ (Hx.out.grow (by repeat (first | with_reducible exact Ext.refl _ _ | with_reducible refine Ext.trans ?_ (by assumption) | with_reducible refine Ext.drew ?_ | with_reducible refine Ext.drewN ?_ _ | with_reducible refine Ext.alloc ?_ _ | with_reducible refine Ext.setNew ?_ (by simp; done) _ | with_reducible refine Ext.setNew ?_ (by simp; omega) _)))).mono ?_
    rintro e w2 ⟨rfl, hg2⟩
    simp only [H1.out]
    go_wp2_with fail
    go_ret2
    exact Hf.out _ (by repeat (first | with_reducible exact Ext.refl _ _ | with_reducible refine Ext.trans ?_ (by assumption) | with_reducible refine Ext.drew ?_ | with_reducible refine Ext.drewN ?_ _ | with_reducible refine Ext.alloc ?_ _ | with_reducible refine Ext.setNew ?_ (by simp; done) _ | with_reducible refine Ext.setNew ?_ (by simp; omega) _))
  cases h2 : validB n
  · have Hf := Lib.hid (hno (by unfold Eng.fmV; rw [h1, h2]; rfl))
    have H1 := Lib.hid h1
    have H2 := Lib.hid h2
    clear h1 h2 hno
    go_enter Try.func18, Try.ntmps18
    go_wp2_with fail
    refine (implValidShape_ok x _ _ (Hx.out.grow (by repeat (first | with_reducible exact Ext.refl _ _ | with_reducible refine Ext.trans ?_ (by assumption) | with_reducible refine Ext.drew ?_ | with_reducible refine Ext.drewN ?_ _ | with_reducible refine Ext.alloc ?_ _ | with_reducible refine Ext.setNew ?_ (by simp; done) _ | with_reducible refine Ext.setNew ?_ (by simp; omega) _)))).mono ?_
    rintro e w2 ⟨rfl, hg2⟩
    simp only [H1.out]
    have hcc2 := bcell hg2
    go_wp2_with fail
    refine (ValidNode_ok n _ _ (Hn.out.grow (by repeat (first | with_reducible exact Ext.refl _ _ | with_reducible refine Ext.trans ?_ (by assumption) | with_reducible refine Ext.drew ?_ | with_reducible refine Ext.drewN ?_ _ | with_reducible refine Ext.alloc ?_ _ | with_reducible refine Ext.setNew ?_ (by simp; done) _ | with_reducible refine Ext.setNew ?_ (by simp; omega) _)))).mono ?_
    rintro e w3 ⟨rfl, hg3⟩
    simp only [H2.out]
    go_wp2_with fail
    go_ret2
    exact Hf.out _ (by repeat (first | with_reducible exact Ext.refl _ _ | with_reducible refine Ext.trans ?_ (by assumption) | with_reducible refine Ext.drew ?_ | with_reducible refine Ext.drewN ?_ _ | with_reducible refine Ext.alloc ?_ _ | with_reducible refine Ext.setNew ?_ (by simp; done) _ | with_reducible refine Ext.setNew ?_ (by simp; omega) _))
  have hgs : GoodS x := ⟨5, by omega, h1⟩
  have Hf : Hid (Eng.fmV x n = mis x n) := Lib.hid (by unfold Eng.fmV; rw [h1, h2]; rfl)
  have Hgs := Lib.hid hgs
  have Hgn := Lib.hid (validB_good h2)
  have H1 := Lib.hid h1
  have H2 := Lib.hid h2
  clear h1 h2 hgs hno
  go_enter Try.func18, Try.ntmps18
  go_wp2_with fail
  refine (implValidShape_ok x _ _ (Hx.out.grow (by repeat (first | with_reducible exact Ext.refl _ _ | with_reducible refine Ext.trans ?_ (by assumption) | with_reducible refine Ext.drew ?_ | with_reducible refine Ext.drewN ?_ _ | with_reducible refine Ext.alloc ?_ _ | with_reducible refine Ext.setNew ?_ (by simp; done) _ | with_reducible refine Ext.setNew ?_ (by simp; omega) _)))).mono ?_
  rintro e w2 ⟨rfl, hg2⟩
  simp only [H1.out]
  have hcc2 := bcell hg2
  go_wp2_with fail
  refine (ValidNode_ok n _ _ (Hn.out.grow (by repeat (first | with_reducible exact Ext.refl _ _ | with_reducible refine Ext.trans ?_ (by assumption) | with_reducible refine Ext.drew ?_ | with_reducible refine Ext.drewN ?_ _ | with_reducible refine Ext.alloc ?_ _ | with_reducible refine Ext.setNew ?_ (by simp; done) _ | with_reducible refine Ext.setNew ?_ (by simp; omega) _)))).mono ?_
  rintro e w3 ⟨rfl, hg3⟩
  simp only [H2.out]
  have hcc3 := bcell (hg2.trans hg3)
  clear hcc2
  have z3 : w.heap.size ≤ w3.heap.size := by have := hg2.size; have := hg3.size; simp only [World.size_alloc] at *; omega
  go_wp2_with fail
  refine (misfit_ok x n _ _ _ Hgs.out Hgn.out (Hx.out.grow (by repeat (first | with_reducible exact Ext.refl _ _ | with_reducible refine Ext.trans ?_ (by assumption) | with_reducible refine Ext.drew ?_ | with_reducible refine Ext.drewN ?_ _ | with_reducible refine Ext.alloc ?_ _ | with_reducible refine Ext.setNew ?_ (by simp; done) _ | with_reducible refine Ext.setNew ?_ (by simp; omega) _))) (Hn.out.grow (by repeat (first | with_reducible exact Ext.refl _ _ | with_reducible refine Ext.trans ?_ (by assumption) | with_reducible refine Ext.drew ?_ | with_reducible refine Ext.drewN ?_ _ | with_reducible refine Ext.alloc ?_ _ | with_reducible refine Ext.setNew ?_ (by simp; done) _ | with_reducible refine Ext.setNew ?_ (by simp; omega) _)))).mono ?_
  rintro e w4 ⟨r, rfl, hg4, a, c, fp, rfl, hF, hfr, _⟩
  have HF := Lib.hid hF
  have Hfr := Lib.hid (hfr.mono z3)
  clear hF hfr
  go_wp2_with fail
  go_ret2
  rw [Hf.out]
  exact ⟨_, fp, rfl, (by repeat (first | with_reducible exact Ext.refl _ _ | with_reducible refine Ext.trans ?_ (by assumption) | with_reducible refine Ext.drew ?_ | with_reducible refine Ext.drewN ?_ _ | with_reducible refine Ext.alloc ?_ _ | with_reducible refine Ext.setNew ?_ (by simp; done) _ | with_reducible refine Ext.setNew ?_ (by simp; omega) _)), strs_shutF HF.out, Hfr.out⟩
theorem fmV_cnt (x : Shp) (n : Nd) : cntS ((Eng.fmV x n).getD []) ≤ 5 := by
  unfold Eng.fmV cntS
  split
  · rename_i h
    simp only [Bool.and_eq_true] at h
    cases hm : mis x n with
    | none => simp
    | some p => exact (show GoodS x from ⟨5, by omega, h.1⟩).len hm
  · simp
end Go.Proofs.Ytgfnmhfdmmnaoaa
namespace Go.Proofs.Ytgfnmhfdmmnaoaa.Eng
open Go Go.RowKit
section
variable {P : Program} {w0 : W0} {S0 : Nat → Prop} {rd0 : Option Nat} {k0 : Nat} {w : World} {a : Act} {s : ASt} {ρ : Cx}
end
section
variable {P : Program} {T : Tab} {hT : Tab.Ok P T} {hm : P.follows .mixedOrders = true} {w0 : W0} {S0 : Nat → Prop} {rd0 : Option Nat} {k0 : Nat} {Q : Exit → ASt → Prop} {s : ASt} {code : Code}
end
section
variable {P : Program} {T : Tab} {k0 : Nat} {md : List Nat} {Av : Nat → Prop} {ops : Array Oper} {K : ASt → Prop} {o : Oper} {l : List Oper} {s : ASt}
end
end Go.Proofs.Ytgfnmhfdmmnaoaa.Eng
namespace Go.Proofs.Ytgfnmhfdmmnaoaa.Eng
open Go Go.RowKit
def onlyN (R : Act → World → Prop) : Exit → Act → World → Prop
  | .normal, a, w => R a w
  | _, _, _ => False
theorem lets_onlyN {R : Act → World → Prop} (h : LetsOut (onlyN R)) : False := by
  obtain ⟨_, _, h⟩ := h
  exact h
def Keeps (ops : Array Oper) (a0 a : Act) : Prop := a.tmps.size = a0.tmps.size ∧ ∀ t, (∀ (i : Nat) o, ops[i]? = some o → o.dst ≠ some t) → a.tmps[t]? = a0.tmps[t]?
theorem keeps_put {ops : Array Oper} {a0 a : Act} {i : Nat} {o : Oper} {v : Value} (h : Keeps ops a0 a) (ho : ops[i]? = some o) : Keeps ops a0 (a.put o.dst v) := by
  unfold Act.put
  split
  · rename_i d hd
    refine ⟨by simp [h.1], fun t ht => ?_⟩
    have hne : d ≠ t := fun e => ht i o ho (by rw [hd, e])
    simp only [Array.getElem?_setIfInBounds_ne hne]
    exact h.2 t ht
  · exact h
section
variable {P : Program} {ops : Array Oper} {R R' : Act → World → Prop} {a0 : Act}
theorem wp_keeps {o : Oper} {i : Nat} {a : Act} {w : World} {K : Act → World → Prop} (ho : ops[i]? = some o) (hk : Keeps ops a0 a) (h : o.wp P a w K (onlyN R)) : o.wp P a w (fun a' w' => K a' w' ∧ Keeps ops a0 a') (onlyN R') := by
  unfold Oper.wp at *
  generalize (execOp a.eval o).run P w = r at *
  cases r with
  | ok n w' =>
    cases n <;> simp only [Oper.upon] at h ⊢
    case value v => exact ⟨h, keeps_put hk ho⟩
    case skip => exact ⟨h, keeps_put hk ho⟩
    case defer d => exact ⟨h, keeps_put (a := { a with defers := d :: a.defers }) hk ho⟩
    case enter f args =>
      refine Calls.mono h (fun e w'' he => ?_)
      cases e with
      | returned v => exact ⟨he, keeps_put hk ho⟩
      | panicked c => exact he.elim
      | outgrown => exact (lets_onlyN he).elim
    case row r args => exact Rows.mono h (fun v w'' he => ⟨he, keeps_put hk ho⟩)
    all_goals exact h
  | halt x w' => cases x <;> simp only [Oper.upon] at h ⊢ <;> exact h
theorem wpOp_keeps {i : Nat} {a : Act} {w : World} {K : Act → World → Prop} (hk : Keeps ops a0 a) (h : wpOp P ops (onlyN R) i K a w) : wpOp P ops (onlyN R') i (fun a' w' => K a' w' ∧ Keeps ops a0 a') a w := by
  unfold wpOp at *
  cases ho : ops[i]? with
  | none => simp only [ho] at h ⊢; exact ⟨h, hk⟩
  | some o =>
    simp only [ho] at h ⊢
    split
    · rename_i hw
      simp only [hw, if_true] at h
      rcases h with h | ⟨_, h⟩
      · exact .inl (wp_keeps ho hk h)
      · exact (lets_onlyN h).elim
    · rename_i hw
      simp only [hw] at h
      exact ⟨h, keeps_put hk ho⟩
theorem wpAny_keeps {md : Region.Mode} : ∀ (fuel : Nat) (listed : Array Bool) (a : Act) (w : World), wpAny P md ops (onlyN R) fuel listed a w → Keeps ops a0 a → wpAny P md ops (onlyN (fun a' w' => R a' w' ∧ Keeps ops a0 a')) fuel listed a w
  | 0, _, _, _, h, hk => ⟨h.1, h.2, hk⟩
  | fuel + 1, listed, a, w, h, hk => ⟨fun h0 => ⟨h.1 h0, hk⟩, fun i hi => wpOp_mono (fun a' w' h' => wpAny_keeps fuel _ a' w' h'.1 h'.2) (wpOp_keeps hk (h.2 i hi))⟩
end
section
variable {P : Program} {T : Tab} {md : List Nat} {pc : Pc} {S : Nat → Prop}
theorem region_world (hT : Tab.Ok P T) (hm : P.follows .mixedOrders = true) {id : Nat} {l : List Oper} {K : ASt → Prop} {Q : Exit → Act → World → Prop} (hB : Region.lexB .any l.toArray = true) (hcmp : cmpL md pc.2 l.toArray = true)
    {w : World} {a : Act} {s : ASt} {ρ : Cx} (h : SR P (W0.of w) S none 0 w a s ρ) (hr : arunD P T md (W0.of w).A pc l.toArray K l 0 s)
    (hQ : ∀ s' w' a' ρ', SR P (W0.of w) S none 0 w' a' s' ρ' → K s' → Keeps l.toArray a a' → Q .normal a' w') : (Code.region id l.toArray true).wp P Q a w := by
  simp only [Region.lexB, Bool.and_eq_true] at hB
  obtain ⟨h1, _⟩ := h.grow ((Ext.refl nil w).drew)
  have h2 := aAny_lex (P := P) (T := T) (md := md) (pc := pc) (ops := l.toArray) (K := K) (Av := (W0.of w).A) hcmp l 0 (Array.replicate l.toArray.size false) s (by simp) (by simpa using hB.2) (fun i o _ hl => by simp [Array.getElem?_replicate] at hl; split at hl <;> simp at hl) h1.inv hr
  have h3 : aAny P T md (W0.of w).A pc l.toArray K l.toArray.size (Array.replicate l.toArray.size false) s := by simpa using h2
  have h4 := wpAny_of_aAny (P := P) (T := T) (md := md) (pc := pc) (ops := l.toArray) (K := K) (Av := (W0.of w).A) hT (fun _ h => h) (Q := onlyN (fun a' w' => ∃ s' ρ', SR P (W0.of w) S none 0 w' a' s' ρ' ∧ K s')) (fun s' w' a' ρ' hs hk => ⟨s', ρ', hs, hk⟩) _ _ s _ a ρ h1 h3
  refine wp_mono (wp_region_any hm (wpAny_keeps (a0 := a) _ _ _ _ h4 ⟨rfl, fun _ _ => rfl⟩)) ?_
  intro e a' w' h5
  cases e with
  | normal =>
    obtain ⟨⟨s', ρ', h6, h7⟩, h8⟩ := h5
    exact hQ s' w' a' ρ' h6 h7 h8
  | _ => exact h5.elim
theorem region_worldK (hT : Tab.Ok P T) (hm : P.follows .mixedOrders = true) (md : List Nat) (pc : Pc) {id : Nat} {l : List Oper} (K : ASt → Prop) {Q : Exit → Act → World → Prop} (hB : Region.lexB .any l.toArray = true) (hcmp : cmpL md pc.2 l.toArray = true)
    {w : World} {a : Act} {s : ASt} {ρ : Cx} (h : SR P (W0.of w) S none 0 w a s ρ) (hr : ∀ K' : ASt → Prop, (∀ s', K s' → K' s') → ARunD P T md (W0.of w).A pc l.toArray K' l 0 s)
    (hQ : ∀ s' w' a' ρ', SR P (W0.of w) S none 0 w' a' s' ρ' → K s' → Keeps l.toArray a a' → Q .normal a' w') : (Code.region id l.toArray true).wp P Q a w :=
  region_world hT hm hB hcmp h (hr K (fun _ h => h)).out hQ
def midSt (cs : List AV) : ASt := { tmps := cs, rows := fun _ => none, used := fun id => decide (1000 ≤ id), rd := none }
theorem mid_SR {w : World} {a : Act} {cs : List AV} (hd : a.defers = []) (h : RepL w (pureC nil (fun b => b < w.heap.size) none) cs a.tmps.toList) : SR P (W0.of w) (fun b => b < w.heap.size) none 0 w a (midSt cs) (initC nil (fun b => b < w.heap.size) none) := by
  have h : RepL w (initC nil (fun b => b < w.heap.size) none) cs a.tmps.toList := RepL.le (ρ := pureC nil (fun b => b < w.heap.size) none) (ρ' := initC nil (fun b => b < w.heap.size) none) ⟨fun _ h => ⟨h, fun _ => rfl⟩, fun _ h => ⟨h, fun _ => rfl⟩, fun _ h => False.elim h, fun _ h => h⟩ h
  exact ⟨h, hd, Ext.refl _ _, fun _ h => h, fun b hb => ⟨hb, .inl hb⟩, fun id => by simp [midSt, initC], (fun id r h => by simp [midSt] at h), fun _ _ => rfl, (fun _ _ _ _ _ h => by cases h), (fun _ _ _ h => by cases h), (fun _ h => by cases h), (fun _ h => by cases h), fun _ => rfl, (fun _ h => by cases h), (fun _ h => h.elim), (fun _ _ h => by cases h), fun id hid => by simp [midSt, hid], fun _ h => h⟩
end
theorem repL_slots {w : World} {ρ : Cx} : ∀ (n k : Nat) (L : List (Nat × AV)) (vs : List Value), vs.length = n → L.Pairwise (fun p q => p.1 < q.1) → (∀ p ∈ L, k ≤ p.1 ∧ ∃ v, vs[p.1 - k]? = some v ∧ Rep w ρ p.2 v) → RepL w ρ (slots k n L) vs
  | 0, k, L, vs, hl, _, _ => by
    rw [List.length_eq_zero_iff.1 hl, slots]; unfold RepL; rfl
  | n + 1, k, [], v :: vs, hl, _, _ => by
    rw [slots]; unfold RepL
    exact ⟨v, vs, rfl, rep_any _, repL_slots n (k + 1) [] vs (by simpa using hl) .nil (fun p hp => by cases hp)⟩
  | n + 1, k, (t, c) :: l, v :: vs, hl, hp, h => by
    rw [List.pairwise_cons] at hp
    have h0 := h (t, c) (by simp)
    have tail : ∀ L' : List (Nat × AV), (∀ p ∈ L', p ∈ (t, c) :: l ∧ k < p.1) → ∀ p ∈ L', k + 1 ≤ p.1 ∧ ∃ v, vs[p.1 - (k + 1)]? = some v ∧ Rep w ρ p.2 v := fun L' hL p hpm => by
      obtain ⟨q1, q2⟩ := hL p hpm
      obtain ⟨_, u, q3, q4⟩ := h p q1
      refine ⟨q2, u, ?_, q4⟩
      rw [show p.1 - k = (p.1 - (k + 1)) + 1 by omega, List.getElem?_cons_succ] at q3
      exact q3
    rw [slots]
    split
    · rename_i ht
      subst ht
      unfold RepL
      obtain ⟨_, u, q3, q4⟩ := h0
      rw [Nat.sub_self, List.getElem?_cons_zero] at q3
      cases q3
      exact ⟨v, vs, rfl, q4, repL_slots n (t + 1) l vs (by simpa using hl) hp.2 (tail l (fun p hpm => ⟨by simp [hpm], hp.1 p hpm⟩))⟩
    · rename_i ht
      have hkt : k < t := by have := h0.1; dsimp only at this; omega
      unfold RepL
      refine ⟨v, vs, rfl, rep_any _, repL_slots n (k + 1) ((t, c) :: l) vs (by simpa using hl) (List.pairwise_cons.2 hp) (tail _ (fun p hpm => ⟨hpm, ?_⟩))⟩
      rcases List.mem_cons.1 hpm with rfl | hpm
      · exact hkt
      · have := hp.1 p hpm; dsimp only at this; omega
  | n + 1, k, L, [], hl, _, _ => by simp at hl
def dstsIn (D : List Nat) (ops : Array Oper) : Bool := ops.toList.all fun o => match o.dst with | some d => D.contains d | none => true
def laidOver (f : Nat → Value) (D : List Nat) (A : Array Value) : Array Value := D.foldl (fun acc t => acc.setIfInBounds t (f t)) A
theorem laidOver_size (f : Nat → Value) : ∀ (D : List Nat) (A : Array Value), (laidOver f D A).size = A.size
  | [], A => rfl
  | t :: D, A => by unfold laidOver; rw [List.foldl_cons]; have := laidOver_size f D (A.setIfInBounds t (f t)); unfold laidOver at this; rw [this]; simp
theorem laidOver_get (f : Nat → Value) : ∀ (D : List Nat) (A : Array Value) (t : Nat), t < A.size → (laidOver f D A)[t]? = if t ∈ D then some (f t) else A[t]?
  | [], A, t, _ => by simp [laidOver]
  | d :: D, A, t, h => by
    have ih := laidOver_get f D (A.setIfInBounds d (f d)) t (by simpa using h)
    unfold laidOver at ih ⊢
    rw [List.foldl_cons, ih]
    by_cases h1 : t ∈ D
    · simp [h1]
    · rw [if_neg h1]
      by_cases h2 : d = t
      · subst h2; simp [h]
      · rw [Array.getElem?_setIfInBounds_ne h2, if_neg (by simp [h1]; exact fun e => h2 e.symm)]
theorem keeps_lit {ops : Array Oper} {a0 a : Act} (h : Keeps ops a0 a) (D : List Nat) (hD : dstsIn D ops = true) : ∃ f : Nat → Value, a.tmps = laidOver f D a0.tmps ∧ ∀ t v, a.tmps[t]? = some v → f t = v := by
  refine ⟨fun t => (a.tmps[t]?).getD undef, ?_, fun t v hv => by simp [hv]⟩
  apply Array.ext_getElem?
  intro t
  rcases Nat.lt_or_ge t a0.tmps.size with ht | ht
  · rw [laidOver_get _ D _ t ht]
    split
    · rw [Array.getElem?_eq_getElem (by rw [h.1]; exact ht)]; rfl
    · rename_i hn
      refine h.2 t (fun i o ho hd => hn ?_)
      unfold dstsIn at hD
      rw [List.all_eq_true] at hD
      have := hD o (by rw [← Array.getElem?_toList] at ho; exact List.mem_of_getElem? ho)
      rw [hd] at this
      simpa using this
  · rw [Array.getElem?_eq_none (by rw [h.1]; exact ht), Array.getElem?_eq_none (by rw [laidOver_size]; exact ht)]
theorem repC_of_box {w : World} {ρ : Cx} {b : Nat} : ∀ {cs : List AV} {xs : List Value} {o : Nat}, (∀ i v, xs[i]? = some v → w.cell? ⟨b, o + i, none⟩ = some v) → RepL w ρ cs xs → (∀ x ∈ xs, x.oneCell' = true) → RepC w ρ b o cs
  | [], _, _, _, _, _ => by unfold RepC; trivial
  | c :: cs, xs, o, h, hr, h1 => by
    unfold RepL at hr
    obtain ⟨v, vs, rfl, h2, h3⟩ := hr
    unfold RepC
    exact ⟨⟨v, h 0 v rfl, h1 v (by simp), h2⟩, repC_of_box (fun i u hu => by have := h (i + 1) u hu; rwa [show o + (i + 1) = o + 1 + i by omega] at this) h3 (fun x hx => h1 x (by simp [hx]))⟩
theorem eptr_of_box {w : World} {ρ : Cx} {b : Nat} {cs : List AV} {xs : List Value} (h : BoxN w b xs) (hS : ρ.S b) (hr : RepL w ρ cs xs) (h1 : ∀ x ∈ xs, x.oneCell' = true) : Rep w ρ (.eptr .loose cs) (.pointer (some ⟨b, 0, none⟩)) :=
  rep_eptr.2 ⟨b, 0, rfl, hS, repC_of_box (fun i v hv => by rw [Nat.zero_add]; exact h.cell i v hv) hr h1⟩
end Go.Proofs.Ytgfnmhfdmmnaoaa.Eng
namespace Go.Proofs.Ytgfnmhfdmmnaoaa.Eng
open Go Go.RowKit
theorem AC.ofMade {P : Program} {f : FuncId} {args : List AV} {Post : AV → Prop} (he : Enters P f)
    (h : ∀ w L S rb vs, RepL w (pureC L S rb) args vs → Calls P f vs.toArray w fun e w' => ∃ v fp r, e = .returned v ∧ Grow w w' ∧ Free w.heap.size w' fp ∧ Rep w' (pureC nil (fun b => b ∈ fp) none) r v ∧ Post r) : AC P f args 0 Post := by
  refine ⟨he, fun w L S rb k vs _ hS hr hargs => (h w L S rb vs hargs).mono ?_⟩
  rintro e w' ⟨v, fp, r, rfl, hg, hf, h1, h2⟩
  refine ⟨v, r, fun b => S b ∨ b ∈ fp, rfl, hg.mono (fun _ h => h.elim), fun _ h => .inl h, fun b hb => hb.imp id (fun hb => ⟨(hf.2 b hb).1, (hf.2 b hb).2.1⟩), fun b hb => ((hr b hb).2.moved hg (fun h => h) (fun b hb => ⟨.inl hb, fun h => h⟩)).less (by omega), ?_, h2⟩
  exact Rep.le (ρ := pureC nil (fun b => b ∈ fp) none) (ρ' := pureC nil (fun b => S b ∨ b ∈ fp) none) ⟨fun _ h => ⟨.inr h, fun _ => rfl⟩, fun _ h => ⟨h, fun _ => rfl⟩, fun _ h => False.elim h, fun _ h => h⟩ h1
theorem toNode_AC (n : Nd) (hc : costN n ≤ 1048576) : AC Try.prog 32 [nodeA n] 0 (fun r => r = nodeA n) := by
  refine AC.ofMade (enters_of Try.func32 (by kernel_rfl) (by kernel_rfl)) (fun w L S rb vs h => ?_)
  unfold RepL at h
  obtain ⟨v, vs', rfl, hv, h⟩ := h
  unfold RepL at h
  subst h
  refine (uToN n v w hc (node_shut (nodeA_of_rep hv))).mono ?_
  rintro e w' ⟨v', fp, rfl, hg, hF, hfr⟩
  obtain ⟨cs, rfl, hF⟩ := hF
  exact ⟨_, fp, nodeA n, rfl, hg, hfr, rep_of_node (node_open ⟨cs, rfl, nodeRep.toR hF (fun _ h => h)⟩), rfl⟩
theorem eptr_node {w : World} {b : Nat} {n : Nd} {xs : List Value} (h : BoxN w b xs) (hn : RV nodeRep packA w Go.Proofs.Ytgfnmhfdmmnaoaa.any n (.agg xs.toArray)) : Rep w (pureC nil (fun k => k < w.heap.size) none) (.eptr .loose (nodeL n)) (.pointer (some ⟨b, 0, none⟩)) := by
  obtain ⟨vs, h1, h2, h3⟩ := rep_agg.1 (arg_node hn)
  have hv : vs = xs := by
    have := congrArg Array.toList (Value.agg.inj h1)
    simpa using this.symm
  subst hv
  exact eptr_of_box h h.lt h3 h2
end Go.Proofs.Ytgfnmhfdmmnaoaa.Eng
namespace Go.Proofs.Ytgfnmhfdmmnaoaa.Eng
open Go Go.RowKit
def findR (id : Nat) : Code → Option (Array Oper)
  | .region i ops _ => if i = id then some ops else none
  | .seq a b => match findR id a with | some o => some o | none => findR id b
  | .cond _ a b => match findR id a with | some o => some o | none => findR id b
  | .block _ a => findR id a
  | .loop a => findR id a
  | .scope a => findR id a
  | _ => none
def cellsN (m : Nd) : List AV := [.int .i64 m.kind, .int .i64 m.num, .str m.text, .view .loose 1 (strsE m.names), .view .loose 5 (m.kids.map nodeL)]
end Go.Proofs.Ytgfnmhfdmmnaoaa.Eng
-- EV: rows skip
namespace Go.Proofs.Ytgfnmhfdmmnaoaa.Eng
open Go Go.RowKit
def cellsSh (x : Go.Proofs.Ytgfnmhfdmmnaoaa.Shp) : List AV := [.int .i64 x.kind, .view .loose 1 (strsE x.names), .view .loose 1 (boolsE x.needs), .view .loose 4 (x.kids.map shE)]
theorem toShape_AC (n : Go.Proofs.Ytgfnmhfdmmnaoaa.Shp) (hc : costP n ≤ 1048576) : AC Try.prog 42 [shA n] 0 (fun r => r = shA n) := by
  refine AC.ofMade (enters_of Try.func42 (by kernel_rfl) (by kernel_rfl)) (fun w L S rb vs h => ?_)
  unfold RepL at h
  obtain ⟨v, vs', rfl, hv, h⟩ := h
  unfold RepL at h
  subst h
  refine (uToShp n v w hc (shp_shut (shape_of_rep hv))).mono ?_
  rintro e w' ⟨v', fp, rfl, hg, hF, hfr⟩
  obtain ⟨cs, rfl, hF⟩ := hF
  exact ⟨_, fp, shA n, rfl, hg, hfr, rep_of_shape (shp_open ⟨cs, rfl, shpRep.toR hF (fun _ h => h)⟩), rfl⟩
theorem eptr_shp {w : World} {b : Nat} {n : Go.Proofs.Ytgfnmhfdmmnaoaa.Shp} {xs : List Value} (h : BoxN w b xs) (hn : RV shpRep packA w Go.Proofs.Ytgfnmhfdmmnaoaa.any n (.agg xs.toArray)) : Rep w (pureC nil (fun k => k < w.heap.size) none) (.eptr .loose (shE n)) (.pointer (some ⟨b, 0, none⟩)) := by
  obtain ⟨vs, h1, h2, h3⟩ := rep_agg.1 (arg_shp hn)
  have hv : vs = xs := by
    have := congrArg Array.toList (Value.agg.inj h1)
    simpa using this.symm
  subst hv
  exact eptr_of_box h h.lt h3 h2
theorem res_in_strs (m : List ByteArray) (b : Bool) : NoId (.tup [.view .loose 1 (strsE m), .bool b]) := by
  refine in_tup.2 ?_
  simp only [List.forall_mem_cons, List.not_mem_nil, false_implies, implies_true, and_true]
  exact ⟨strs_in _, in_bool⟩
end Go.Proofs.Ytgfnmhfdmmnaoaa.Eng
-- EV: rows skip
namespace Go.Proofs.Ytgfnmhfdmmnaoaa.Eng
open Go Go.RowKit
attribute [local simp] big size_mk ASt.pay Option.map_map Function.comp_def awant aop acall ado aev ofVal ofVal0 ASt.put ASt.add ASt.turn ASt.kill abox aalloc astore aload aloadD astoreD idOf ASt.at cellsTo afieldAddr afield aindexAddr aindex alen abin aint acmp astr aun apick aextract anil aslice abound abuild afill abuildSlice asCells aps avCells over upd aappend asrc amax amin aconv mkSt slots rowsOf_cons rowsOf_nil usedOf_cons usedOf_nil ZK.av List.replicate ASt.back ASt.addL ASt.killL nodeA nodeT nodeTL_eq nodeL_eq strsE_get strsE_len intsE_get intsE_len strsE_at intsE_at nodeN namesRow nodeO kidsRow tab2 tab3 tab4 tab5 tab6 tab7 tab8 tab9 tab10 tab11 tab12 tab13 tab14 tab15 tab16 tab17 tab18 tab19 tab21 tab22 tab23 tab24 tab25 tab26 tab27 tab28 tab29 tab30 tab39 tab40 tab41 tab42 tab43 tab47 tab48 tab55 tab56 tab57 tab60 tab61 tab62 tab73 tab74 tab75 tab85 tab92 tab115 tab116 tab143 tab144 tab145 tab154 tab155 tab170 tab175 tab182 tab197 tab198 tab203 tab204 tab205 tab207 tab208 tab209
set_option maxRecDepth 100000
set_option maxHeartbeats 8000000
theorem fmA8 {Av : Nat → Prop} {K : ASt → Prop} (x : Go.Proofs.Ytgfnmhfdmmnaoaa.Shp) (n : Nd) (rm : List ByteArray) (rb : Bool) (kx : costP x ≤ 1048576) (kn : costN n ≤ 1048576) {ops : Array Oper} (h : Try.f7.body.bind (findR 8) = some ops) (hcon : AC Try.prog 41 [shA x, nodeA n] 0 (fun r => r = .tup [.view .loose 1 (strsE rm), .bool rb]))
    (hK : ∀ s' : ASt, s'.tmps[6]? = some (.view .loose 1 (strsE rm)) ∧ s'.tmps[7]? = some (.bool rb) → K s') :
    ARunD Try.prog tab [] Av (pcs [(1, 0, fun r => r = .agg (cellsSh x)), (3, 0, fun r => r = .agg (cellsN n)), (4, 0, fun r => r = .tup [.view .loose 1 (strsE rm), .bool rb])] []) ops K ops.toList 0 (midSt (slots 0 119 [(2, .eptr .loose (shE x)), (3, .eptr .loose (nodeL n))])) := by
  have p0 := toShape_AC x kx
  have hc0 := sh_clo x
  have p1 := toNode_AC n kn
  have hc1 := node_clo n
  have hi0 : NoId (shA x) := sh_in x
  have hin : NoId (.tup [.view .loose 1 (strsE rm), .bool rb]) := res_in_strs rm rb
  try unfold cellsN at *
  try unfold cellsS at *
  unfold cellsSh shA at *
  unfold nodeA midSt at *
  try rw [nodeL_eq n] at hcon
  try rw [nodeL_eq n] at hK
  rw [shE_eq x] at p0 hc0 hi0 hcon ⊢
  rw [nodeL_eq n] at p1 hc1 ⊢
  cases h
  (repeat (first | with_reducible refine AW.seq ?_ | ((first | refine arun_kn 4 rfl (fun C hC => ?_) | refine arunD_kn 4 rfl (fun C hC => ?_)); (repeat ((conv => whnf); simp)); refine hC _ ?_; clear hC C; simp only [List.drop, Nat.reduceAdd]) | ((first | refine arun_kn 1 rfl (fun C hC => ?_) | refine arunD_kn 1 rfl (fun C hC => ?_)); (repeat ((conv => whnf); simp)); refine hC _ ?_; clear hC C; simp only [List.drop, Nat.reduceAdd]) | (refine arun_skip ?_ ?_; (focus (simp [awant]; done))) | (refine arun_c0 (p0) ?_; rintro _ rfl) | (refine arun_c0 (p1) ?_; rintro _ rfl) | (refine arun_c0 (hcon) ?_; rintro _ rfl) | (refine arunD_skip ?_ ?_; (focus (simp [awant]; done))) | (refine arunD_cE (0) (p0) (by exact ⟨_, rfl, hi0⟩) ?_; rintro _ rfl; intro _) | (refine arunD_c (0) (p1) ?_; rintro _ rfl; intro _) | (refine arunD_cE (0) (hcon) (by exact ⟨_, rfl, hin⟩) ?_; rintro _ rfl; intro _) | (refine AW.regionK [] (fun K hK => ?_)) | (refine AW.regionDK [] (pcs [(1, 0, fun r => r = .int .i64 0)] []) (by kernel_rfl) (by kernel_rfl) (fun K hK => ?_)) | (refine AW.condT ?_ ?_; (focus (simp [aev]; done))) | (refine AW.condF ?_ ?_; (focus (simp [aev]; done))) | with_reducible refine AW.block ?_ | ((first | ((first | refine arun_nil ?_ | refine arunD_nil ?_); refine hK _ ?_; clear hK K) | refine AW.skip ?_ | refine AW.exit ?_ | refine AW.ret ?_); simp only [thenA_exit, inBlockA_exit, if_true, if_false, Nat.reduceEqDiff, thenA_normal, inBlockA_normal, reduceIte, thenA_ret, inBlockA_ret, endQ_ret, endR_ret, endG_ret, endQ_normal, endR_normal, endG_normal])))
  exact ⟨by simp, by simp⟩
theorem fmRgn8 {w : World} {a : Act} {Q : Exit → Act → World → Prop} (x : Go.Proofs.Ytgfnmhfdmmnaoaa.Shp) (n : Nd) (rm : List ByteArray) (rb : Bool) (kx : costP x ≤ 1048576) (kn : costN n ≤ 1048576) {l : List Oper} (h : Try.f7.body.bind (findR 8) = some l.toArray) (hB : Region.lexB .any l.toArray = true) (hc : cmpL [] [] l.toArray = true) (hD : dstsIn [28, 29, 30, 31, 32, 27, 33, 34, 6, 7] l.toArray = true)
    (hcon : AC Try.prog 41 [shA x, nodeA n] 0 (fun r => r = .tup [.view .loose 1 (strsE rm), .bool rb])) {b0 : Nat} {c0 : List Value} {b1 : Nat} {c1 : List Value}
    (hd : a.defers = []) (hsz : a.tmps.toList.length = 119) (t0 : a.tmps.toList[2]? = some (.pointer (some ⟨b0, 0, none⟩))) (t1 : a.tmps.toList[3]? = some (.pointer (some ⟨b1, 0, none⟩)))
    (B0 : BoxN w b0 c0) (R0 : RV shpRep packA w Go.Proofs.Ytgfnmhfdmmnaoaa.any x (.agg c0.toArray)) (B1 : BoxN w b1 c1) (R1 : RV nodeRep packA w Go.Proofs.Ytgfnmhfdmmnaoaa.any n (.agg c1.toArray))
    (hQ : ∀ (w' : World) (f : Nat → Value) (r : Value), Grow w w' → f 6 = r → f 7 = .bool rb → RV strsRep packO w' Go.Proofs.Ytgfnmhfdmmnaoaa.any rm r → Q .normal ⟨laidOver f [28, 29, 30, 31, 32, 27, 33, 34, 6, 7] a.tmps, []⟩ w') : (Code.region 8 l.toArray true).wp Try.prog Q a w := by
  refine region_worldK (S := fun b => b < w.heap.size) tab_ok mixed_ok [] (pcs [(1, 0, fun r => r = .agg (cellsSh x)), (3, 0, fun r => r = .agg (cellsN n)), (4, 0, fun r => r = .tup [.view .loose 1 (strsE rm), .bool rb])] []) (fun s' : ASt => s'.tmps[6]? = some (.view .loose 1 (strsE rm)) ∧ s'.tmps[7]? = some (.bool rb)) hB hc (mid_SR (cs := slots 0 119 [(2, .eptr .loose (shE x)), (3, .eptr .loose (nodeL n))]) hd (repL_slots 119 0 _ _ hsz (by simp) ?_)) (fun K' hK' => fmA8 x n rm rb kx kn h hcon hK') ?_
  · simp only [List.forall_mem_cons, List.not_mem_nil, false_implies, implies_true, and_true]
    exact ⟨⟨Nat.zero_le _, _, t0, eptr_shp B0 R0⟩, ⟨Nat.zero_le _, _, t1, eptr_node B1 R1⟩⟩
  · rintro s' w' a' ρ' hS ⟨k1, k2⟩ hk
    obtain ⟨f, h1, h2⟩ := keeps_lit hk [28, 29, 30, 31, 32, 27, 33, 34, 6, 7] hD
    obtain ⟨u, hu, hru⟩ := hS.tm.get k1
    obtain ⟨v, hv, hr⟩ := hS.tm.get k2
    rw [rep_bool] at hr
    subst hr
    obtain ⟨sa, sc, rfl, hss⟩ := strs_of_rep hru
    have hdf := hS.df
    have hx : Grow w w' := hS.ext.mono (fun b h => h.elim (fun h => by cases h) (fun h => h))
    have := hQ w' f _ hx (h2 _ _ (by rw [← Array.getElem?_toList]; exact hu)) (h2 _ _ (by rw [← Array.getElem?_toList]; exact hv)) (strs_shut hss)
    rw [← h1, ← hdf] at this
    exact this
theorem fmA31 {Av : Nat → Prop} {K : ASt → Prop} (x : Go.Proofs.Ytgfnmhfdmmnaoaa.Shp) (n : Nd) (rm : List ByteArray) (rb : Bool) (kx : costP x ≤ 1048576) (kn : costN n ≤ 1048576) {ops : Array Oper} (h : Try.f7.body.bind (findR 31) = some ops) (hcon : AC Try.prog 18 [shA x, nodeA n] 0 (fun r => r = .tup [.view .loose 1 (strsE rm), .bool rb]))
    (hK : ∀ s' : ASt, s'.tmps[15]? = some (.view .loose 1 (strsE rm)) ∧ s'.tmps[16]? = some (.bool rb) → K s') :
    ARunD Try.prog tab [] Av (pcs [(1, 0, fun r => r = .agg (cellsSh x)), (3, 0, fun r => r = .agg (cellsN n)), (4, 0, fun r => r = .tup [.view .loose 1 (strsE rm), .bool rb])] []) ops K ops.toList 0 (midSt (slots 0 119 [(2, .eptr .loose (shE x)), (3, .eptr .loose (nodeL n))])) := by
  have p0 := toShape_AC x kx
  have hc0 := sh_clo x
  have p1 := toNode_AC n kn
  have hc1 := node_clo n
  have hi0 : NoId (shA x) := sh_in x
  have hin : NoId (.tup [.view .loose 1 (strsE rm), .bool rb]) := res_in_strs rm rb
  try unfold cellsN at *
  try unfold cellsS at *
  unfold cellsSh shA at *
  unfold nodeA midSt at *
  try rw [nodeL_eq n] at hcon
  try rw [nodeL_eq n] at hK
  rw [shE_eq x] at p0 hc0 hi0 hcon ⊢
  rw [nodeL_eq n] at p1 hc1 ⊢
  cases h
  (repeat (first | with_reducible refine AW.seq ?_ | ((first | refine arun_kn 4 rfl (fun C hC => ?_) | refine arunD_kn 4 rfl (fun C hC => ?_)); (repeat ((conv => whnf); simp)); refine hC _ ?_; clear hC C; simp only [List.drop, Nat.reduceAdd]) | ((first | refine arun_kn 1 rfl (fun C hC => ?_) | refine arunD_kn 1 rfl (fun C hC => ?_)); (repeat ((conv => whnf); simp)); refine hC _ ?_; clear hC C; simp only [List.drop, Nat.reduceAdd]) | (refine arun_skip ?_ ?_; (focus (simp [awant]; done))) | (refine arun_c0 (p0) ?_; rintro _ rfl) | (refine arun_c0 (p1) ?_; rintro _ rfl) | (refine arun_c0 (hcon) ?_; rintro _ rfl) | (refine arunD_skip ?_ ?_; (focus (simp [awant]; done))) | (refine arunD_cE (0) (p0) (by exact ⟨_, rfl, hi0⟩) ?_; rintro _ rfl; intro _) | (refine arunD_c (0) (p1) ?_; rintro _ rfl; intro _) | (refine arunD_cE (0) (hcon) (by exact ⟨_, rfl, hin⟩) ?_; rintro _ rfl; intro _) | (refine AW.regionK [] (fun K hK => ?_)) | (refine AW.regionDK [] (pcs [(1, 0, fun r => r = .int .i64 0)] []) (by kernel_rfl) (by kernel_rfl) (fun K hK => ?_)) | (refine AW.condT ?_ ?_; (focus (simp [aev]; done))) | (refine AW.condF ?_ ?_; (focus (simp [aev]; done))) | with_reducible refine AW.block ?_ | ((first | ((first | refine arun_nil ?_ | refine arunD_nil ?_); refine hK _ ?_; clear hK K) | refine AW.skip ?_ | refine AW.exit ?_ | refine AW.ret ?_); simp only [thenA_exit, inBlockA_exit, if_true, if_false, Nat.reduceEqDiff, thenA_normal, inBlockA_normal, reduceIte, thenA_ret, inBlockA_ret, endQ_ret, endR_ret, endG_ret, endQ_normal, endR_normal, endG_normal])))
  exact ⟨by simp, by simp⟩
theorem fmRgn31 {w : World} {a : Act} {Q : Exit → Act → World → Prop} (x : Go.Proofs.Ytgfnmhfdmmnaoaa.Shp) (n : Nd) (rm : List ByteArray) (rb : Bool) (kx : costP x ≤ 1048576) (kn : costN n ≤ 1048576) {l : List Oper} (h : Try.f7.body.bind (findR 31) = some l.toArray) (hB : Region.lexB .any l.toArray = true) (hc : cmpL [] [] l.toArray = true) (hD : dstsIn [95, 96, 97, 98, 99, 94, 100, 101, 15, 16] l.toArray = true)
    (hcon : AC Try.prog 18 [shA x, nodeA n] 0 (fun r => r = .tup [.view .loose 1 (strsE rm), .bool rb])) {b0 : Nat} {c0 : List Value} {b1 : Nat} {c1 : List Value}
    (hd : a.defers = []) (hsz : a.tmps.toList.length = 119) (t0 : a.tmps.toList[2]? = some (.pointer (some ⟨b0, 0, none⟩))) (t1 : a.tmps.toList[3]? = some (.pointer (some ⟨b1, 0, none⟩)))
    (B0 : BoxN w b0 c0) (R0 : RV shpRep packA w Go.Proofs.Ytgfnmhfdmmnaoaa.any x (.agg c0.toArray)) (B1 : BoxN w b1 c1) (R1 : RV nodeRep packA w Go.Proofs.Ytgfnmhfdmmnaoaa.any n (.agg c1.toArray))
    (hQ : ∀ (w' : World) (f : Nat → Value) (r : Value), Grow w w' → f 15 = r → f 16 = .bool rb → RV strsRep packO w' Go.Proofs.Ytgfnmhfdmmnaoaa.any rm r → Q .normal ⟨laidOver f [95, 96, 97, 98, 99, 94, 100, 101, 15, 16] a.tmps, []⟩ w') : (Code.region 31 l.toArray true).wp Try.prog Q a w := by
  refine region_worldK (S := fun b => b < w.heap.size) tab_ok mixed_ok [] (pcs [(1, 0, fun r => r = .agg (cellsSh x)), (3, 0, fun r => r = .agg (cellsN n)), (4, 0, fun r => r = .tup [.view .loose 1 (strsE rm), .bool rb])] []) (fun s' : ASt => s'.tmps[15]? = some (.view .loose 1 (strsE rm)) ∧ s'.tmps[16]? = some (.bool rb)) hB hc (mid_SR (cs := slots 0 119 [(2, .eptr .loose (shE x)), (3, .eptr .loose (nodeL n))]) hd (repL_slots 119 0 _ _ hsz (by simp) ?_)) (fun K' hK' => fmA31 x n rm rb kx kn h hcon hK') ?_
  · simp only [List.forall_mem_cons, List.not_mem_nil, false_implies, implies_true, and_true]
    exact ⟨⟨Nat.zero_le _, _, t0, eptr_shp B0 R0⟩, ⟨Nat.zero_le _, _, t1, eptr_node B1 R1⟩⟩
  · rintro s' w' a' ρ' hS ⟨k1, k2⟩ hk
    obtain ⟨f, h1, h2⟩ := keeps_lit hk [95, 96, 97, 98, 99, 94, 100, 101, 15, 16] hD
    obtain ⟨u, hu, hru⟩ := hS.tm.get k1
    obtain ⟨v, hv, hr⟩ := hS.tm.get k2
    rw [rep_bool] at hr
    subst hr
    obtain ⟨sa, sc, rfl, hss⟩ := strs_of_rep hru
    have hdf := hS.df
    have hx : Grow w w' := hS.ext.mono (fun b h => h.elim (fun h => by cases h) (fun h => h))
    have := hQ w' f _ hx (h2 _ _ (by rw [← Array.getElem?_toList]; exact hu)) (h2 _ _ (by rw [← Array.getElem?_toList]; exact hv)) (strs_shut hss)
    rw [← h1, ← hdf] at this
    exact this
end Go.Proofs.Ytgfnmhfdmmnaoaa.Eng
namespace Go.Proofs.Ytgfnmhfdmmnaoaa
open Go.RowKit
theorem lawFm_big (x : Shp) (n : Nd) (v0 : Value) (v1 : Value) (w : World) (h0 : RV shpRep packA w any x v0) (h1 : RV nodeRep packA w any n v1) (hbig : ¬ costP x + costN n ≤ 1048576) :
    Calls Try.prog 7 #[v0, v1] w fun e w' => e = .returned (.bool true) ∧ Grow w w' := by
  have HV0 := Lib.hid h0
  have HV1 := Lib.hid h1
  obtain ⟨na0, nc0, ba0, bc0, ka0, kc0, rfl⟩ := openV_shp h0
  obtain ⟨na1, nc1, ka1, kc1, rfl⟩ := openV_node h1
  clear h0 h1
  unfold nodeV shpV at *
  by_cases c0 : (costP x : Int) ≤ 1048576
  rotate_left
  ·
    have Hs0 := Lib.hid (szR_neg (c := costP x) (left := 1048576) (by omega))
    clear c0 hbig
    have HB0 := Lib.hid ((BoxN.new w [.int .i64 x.kind, .slice na0 x.names.length nc0, .slice ba0 x.needs.length bc0, .slice ka0 x.kids.length kc0] 75).grow ((Ext.refl nil _).alloc (.cells ([.int .i64 n.kind, .int .i64 n.num, .string n.text, .slice na1 n.names.length nc1, .slice ka1 n.kids.length kc1] : List Value).toArray 41)))
    have HB1 := Lib.hid (BoxN.new1 w (.cells ([.int .i64 x.kind, .slice na0 x.names.length nc0, .slice ba0 x.needs.length bc0, .slice ka0 x.kids.length kc0] : List Value).toArray 75) [.int .i64 n.kind, .int .i64 n.num, .string n.text, .slice na1 n.names.length nc1, .slice ka1 n.kids.length kc1] 41)
    go_enter Try.func7, Try.ntmps7
    go_wp2_with fail
    refine (uSzShp x _ _ _ (by omega) (by omega) (HV0.out.grow (by repeat (first | with_reducible exact Ext.refl _ _ | with_reducible refine Ext.trans ?_ (by assumption) | with_reducible refine Ext.drew ?_ | with_reducible refine Ext.drewN ?_ _ | with_reducible refine Ext.alloc ?_ _ | with_reducible refine Ext.setNew ?_ (by simp; done) _ | with_reducible refine Ext.setNew ?_ (by simp; omega) _)))).mono ?_
    rintro e w1 ⟨rfl, hg1⟩
    simp only [Hs0.out]
    have z1 := hg1.size
    try simp only [World.size_alloc] at z1
    go_wp2_with fail
    go_ret
    exact ⟨by simp, (by repeat (first | with_reducible exact Ext.refl _ _ | with_reducible refine Ext.trans ?_ (by assumption) | with_reducible refine Ext.drew ?_ | with_reducible refine Ext.drewN ?_ _ | with_reducible refine Ext.alloc ?_ _ | with_reducible refine Ext.setNew ?_ (by simp; done) _ | with_reducible refine Ext.setNew ?_ (by simp; omega) _))⟩
  have Hs0 := Lib.hid (szR_pos (c := costP x) (left := 1048576) (by omega))
  by_cases c1 : (costN n : Int) ≤ 1048576 - costP x
  rotate_left
  ·
    have Hs1 := Lib.hid (szR_neg (c := costN n) (left := 1048576 - costP x) (by omega))
    clear c1 hbig
    have HB0 := Lib.hid ((BoxN.new w [.int .i64 x.kind, .slice na0 x.names.length nc0, .slice ba0 x.needs.length bc0, .slice ka0 x.kids.length kc0] 75).grow ((Ext.refl nil _).alloc (.cells ([.int .i64 n.kind, .int .i64 n.num, .string n.text, .slice na1 n.names.length nc1, .slice ka1 n.kids.length kc1] : List Value).toArray 41)))
    have HB1 := Lib.hid (BoxN.new1 w (.cells ([.int .i64 x.kind, .slice na0 x.names.length nc0, .slice ba0 x.needs.length bc0, .slice ka0 x.kids.length kc0] : List Value).toArray 75) [.int .i64 n.kind, .int .i64 n.num, .string n.text, .slice na1 n.names.length nc1, .slice ka1 n.kids.length kc1] 41)
    go_enter Try.func7, Try.ntmps7
    go_wp2_with fail
    refine (uSzShp x _ _ _ (by omega) (by omega) (HV0.out.grow (by repeat (first | with_reducible exact Ext.refl _ _ | with_reducible refine Ext.trans ?_ (by assumption) | with_reducible refine Ext.drew ?_ | with_reducible refine Ext.drewN ?_ _ | with_reducible refine Ext.alloc ?_ _ | with_reducible refine Ext.setNew ?_ (by simp; done) _ | with_reducible refine Ext.setNew ?_ (by simp; omega) _)))).mono ?_
    rintro e w1 ⟨rfl, hg1⟩
    simp only [Hs0.out]
    have z1 := hg1.size
    try simp only [World.size_alloc] at z1
    have pB := HB1.out.grow (w' := w1) (by repeat (first | with_reducible exact Ext.refl _ _ | with_reducible refine Ext.trans ?_ (by assumption) | with_reducible refine Ext.drew ?_ | with_reducible refine Ext.drewN ?_ _ | with_reducible refine Ext.alloc ?_ _ | with_reducible refine Ext.setNew ?_ (by simp; done) _ | with_reducible refine Ext.setNew ?_ (by simp; omega) _))
    have p0 := pB.cell 0 _ rfl; have p1 := pB.cell 1 _ rfl; have p2 := pB.cell 2 _ rfl; have p3 := pB.cell 3 _ rfl; have p4 := pB.cell 4 _ rfl
    go_wp2_with fail
    refine (uSzN n _ _ _ (by omega) (by omega) (HV1.out.grow (by repeat (first | with_reducible exact Ext.refl _ _ | with_reducible refine Ext.trans ?_ (by assumption) | with_reducible refine Ext.drew ?_ | with_reducible refine Ext.drewN ?_ _ | with_reducible refine Ext.alloc ?_ _ | with_reducible refine Ext.setNew ?_ (by simp; done) _ | with_reducible refine Ext.setNew ?_ (by simp; omega) _)))).mono ?_
    rintro e w2 ⟨rfl, hg2⟩
    simp only [Hs1.out]
    have z2 := hg2.size
    try simp only [World.size_alloc] at z2
    clear p0 p1 p2 p3 p4 pB
    go_wp2_with fail
    go_ret
    exact ⟨by simp, (by repeat (first | with_reducible exact Ext.refl _ _ | with_reducible refine Ext.trans ?_ (by assumption) | with_reducible refine Ext.drew ?_ | with_reducible refine Ext.drewN ?_ _ | with_reducible refine Ext.alloc ?_ _ | with_reducible refine Ext.setNew ?_ (by simp; done) _ | with_reducible refine Ext.setNew ?_ (by simp; omega) _))⟩
  have Hs1 := Lib.hid (szR_pos (c := costN n) (left := 1048576 - costP x) (by omega))
  omega
theorem lawFm_main (x : Shp) (n : Nd) (v0 : Value) (v1 : Value) (w : World) (h0 : RV shpRep packA w any x v0) (h1 : RV nodeRep packA w any n v1) (hcost : costP x + costN n ≤ 1048576) :
    Calls Try.prog 7 #[v0, v1] w fun e w' => e = .returned (.bool true) ∧ Grow w w' := by
  have HV0 := Lib.hid h0
  have HV1 := Lib.hid h1
  obtain ⟨na0, nc0, ba0, bc0, ka0, kc0, rfl⟩ := openV_shp h0
  obtain ⟨na1, nc1, ka1, kc1, rfl⟩ := openV_node h1
  clear h0 h1
  unfold nodeV shpV at *
  have Hs0 := Lib.hid (szR_pos (c := costP x) (left := 1048576) (by omega))
  have Hs1 := Lib.hid (szR_pos (c := costN n) (left := 1048576 - costP x) (by omega))
  have C0 : Hid (costP x ≤ 1048576) := Lib.hid (by omega)
  have C1 : Hid (costN n ≤ 1048576) := Lib.hid (by omega)
  have HB0 := Lib.hid ((BoxN.new w [.int .i64 x.kind, .slice na0 x.names.length nc0, .slice ba0 x.needs.length bc0, .slice ka0 x.kids.length kc0] 75).grow ((Ext.refl nil _).alloc (.cells ([.int .i64 n.kind, .int .i64 n.num, .string n.text, .slice na1 n.names.length nc1, .slice ka1 n.kids.length kc1] : List Value).toArray 41)))
  have HB1 := Lib.hid (BoxN.new1 w (.cells ([.int .i64 x.kind, .slice na0 x.names.length nc0, .slice ba0 x.needs.length bc0, .slice ka0 x.kids.length kc0] : List Value).toArray 75) [.int .i64 n.kind, .int .i64 n.num, .string n.text, .slice na1 n.names.length nc1, .slice ka1 n.kids.length kc1] 41)
  go_enter Try.func7, Try.ntmps7
  go_wp2_with fail
  refine (uSzShp x _ _ _ (by omega) (by omega) (HV0.out.grow (by repeat (first | with_reducible exact Ext.refl _ _ | with_reducible refine Ext.trans ?_ (by assumption) | with_reducible refine Ext.drew ?_ | with_reducible refine Ext.drewN ?_ _ | with_reducible refine Ext.alloc ?_ _ | with_reducible refine Ext.setNew ?_ (by simp; done) _ | with_reducible refine Ext.setNew ?_ (by simp; omega) _)))).mono ?_
  rintro e w1 ⟨rfl, hg1⟩
  simp only [Hs0.out]
  have z1 := hg1.size
  try simp only [World.size_alloc] at z1
  have pB := HB1.out.grow (w' := w1) (by repeat (first | with_reducible exact Ext.refl _ _ | with_reducible refine Ext.trans ?_ (by assumption) | with_reducible refine Ext.drew ?_ | with_reducible refine Ext.drewN ?_ _ | with_reducible refine Ext.alloc ?_ _ | with_reducible refine Ext.setNew ?_ (by simp; done) _ | with_reducible refine Ext.setNew ?_ (by simp; omega) _))
  have p0 := pB.cell 0 _ rfl; have p1 := pB.cell 1 _ rfl; have p2 := pB.cell 2 _ rfl; have p3 := pB.cell 3 _ rfl; have p4 := pB.cell 4 _ rfl
  go_wp2_with fail
  refine (uSzN n _ _ _ (by omega) (by omega) (HV1.out.grow (by repeat (first | with_reducible exact Ext.refl _ _ | with_reducible refine Ext.trans ?_ (by assumption) | with_reducible refine Ext.drew ?_ | with_reducible refine Ext.drewN ?_ _ | with_reducible refine Ext.alloc ?_ _ | with_reducible refine Ext.setNew ?_ (by simp; done) _ | with_reducible refine Ext.setNew ?_ (by simp; omega) _)))).mono ?_
  rintro e w2 ⟨rfl, hg2⟩
  simp only [Hs1.out]
  have z2 := hg2.size
  try simp only [World.size_alloc] at z2
  clear p0 p1 p2 p3 p4 pB
  go_wp2_with fail
  refine Eng.fmRgn8 x n ((Eng.fmV x n).getD []) (Eng.fmV x n).isSome C0.out C1.out (by kernel_rfl) (by kernel_rfl) (by kernel_rfl) (by kernel_rfl) (Eng.specFirstMisfit_AC x n) rfl rfl rfl rfl (HB0.out.grow (w' := w2) (by repeat (first | with_reducible exact Ext.refl _ _ | with_reducible refine Ext.trans ?_ (by assumption) | with_reducible refine Ext.drew ?_ | with_reducible refine Ext.drewN ?_ _ | with_reducible refine Ext.alloc ?_ _ | with_reducible refine Ext.setNew ?_ (by simp; done) _ | with_reducible refine Ext.setNew ?_ (by simp; omega) _))) (HV0.out.grow (by repeat (first | with_reducible exact Ext.refl _ _ | with_reducible refine Ext.trans ?_ (by assumption) | with_reducible refine Ext.drew ?_ | with_reducible refine Ext.drewN ?_ _ | with_reducible refine Ext.alloc ?_ _ | with_reducible refine Ext.setNew ?_ (by simp; done) _ | with_reducible refine Ext.setNew ?_ (by simp; omega) _))) (HB1.out.grow (w' := w2) (by repeat (first | with_reducible exact Ext.refl _ _ | with_reducible refine Ext.trans ?_ (by assumption) | with_reducible refine Ext.drew ?_ | with_reducible refine Ext.drewN ?_ _ | with_reducible refine Ext.alloc ?_ _ | with_reducible refine Ext.setNew ?_ (by simp; done) _ | with_reducible refine Ext.setNew ?_ (by simp; omega) _))) (HV1.out.grow (by repeat (first | with_reducible exact Ext.refl _ _ | with_reducible refine Ext.trans ?_ (by assumption) | with_reducible refine Ext.drew ?_ | with_reducible refine Ext.drewN ?_ _ | with_reducible refine Ext.alloc ?_ _ | with_reducible refine Ext.setNew ?_ (by simp; done) _ | with_reducible refine Ext.setNew ?_ (by simp; omega) _))) ?_
  intro w3 fs rs hg3 fsp fso hR
  have z3 := hg3.size
  have RW := Lib.hid hR.under
  clear hR
  simp only [Eng.laidOver, List.foldl_cons, List.foldl_nil]
  rw [fsp, fso]
  have ys : w3.heap.size ≤ w3.heap.size := Nat.le_refl _
  have hpB := HB0.out.grow (w' := w3) (by repeat (first | with_reducible exact Ext.refl _ _ | with_reducible refine Ext.trans ?_ (by assumption) | with_reducible refine Ext.drew ?_ | with_reducible refine Ext.drewN ?_ _ | with_reducible refine Ext.alloc ?_ _ | with_reducible refine Ext.setNew ?_ (by simp; done) _ | with_reducible refine Ext.setNew ?_ (by simp; omega) _))
  have p0 := hpB.cell 0 _ rfl; have p1 := hpB.cell 1 _ rfl; have p2 := hpB.cell 2 _ rfl; have p3 := hpB.cell 3 _ rfl; have pz := hpB.lt
  go_wp2_with fail
  refine (uToShp x _ _ C0.out (HV0.out.grow (by repeat (first | with_reducible exact Ext.refl _ _ | with_reducible refine Ext.trans ?_ (by assumption) | with_reducible refine Ext.drew ?_ | with_reducible refine Ext.drewN ?_ _ | with_reducible refine Ext.alloc ?_ _ | with_reducible refine Ext.setNew ?_ (by simp; done) _ | with_reducible refine Ext.setNew ?_ (by simp; omega) _)))).mono ?_
  rintro e w4 ⟨y0, f0, rfl, hg4, hF, hfr⟩
  have z4 := hg4.size
  try simp only [World.size_alloc] at z4
  try simp only [World.size_alloc] at hfr
  have F0 := Lib.hid hF
  have S0 := Lib.hid (Seg.of hfr)
  obtain ⟨nax0, ncx0, bax0, bcx0, kax0, kcx0, rfl⟩ := openV_shp hF.rv
  unfold shpV at *
  clear hF hfr p0 p1 p2 p3 hpB pz
  have HBx0 := Lib.hid (BoxN.new w4 [.int .i64 x.kind, .slice nax0 x.names.length ncx0, .slice bax0 x.needs.length bcx0, .slice kax0 x.kids.length kcx0] 27)
  have hpB := HB1.out.grow (w' := w4) (by repeat (first | with_reducible exact Ext.refl _ _ | with_reducible refine Ext.trans ?_ (by assumption) | with_reducible refine Ext.drew ?_ | with_reducible refine Ext.drewN ?_ _ | with_reducible refine Ext.alloc ?_ _ | with_reducible refine Ext.setNew ?_ (by simp; done) _ | with_reducible refine Ext.setNew ?_ (by simp; omega) _))
  have p0 := hpB.cell 0 _ rfl; have p1 := hpB.cell 1 _ rfl; have p2 := hpB.cell 2 _ rfl; have p3 := hpB.cell 3 _ rfl; have p4 := hpB.cell 4 _ rfl; have pz := hpB.lt
  go_wp2_with fail
  refine (uToN n _ _ C1.out (HV1.out.grow (by repeat (first | with_reducible exact Ext.refl _ _ | with_reducible refine Ext.trans ?_ (by assumption) | with_reducible refine Ext.drew ?_ | with_reducible refine Ext.drewN ?_ _ | with_reducible refine Ext.alloc ?_ _ | with_reducible refine Ext.setNew ?_ (by simp; done) _ | with_reducible refine Ext.setNew ?_ (by simp; omega) _)))).mono ?_
  rintro e w5 ⟨y1, f1, rfl, hg5, hF, hfr⟩
  have z5 := hg5.size
  try simp only [World.size_alloc] at z5
  try simp only [World.size_alloc] at hfr
  have F1 := Lib.hid hF
  have S1 := Lib.hid (Seg.of hfr)
  obtain ⟨nax1, ncx1, kax1, kcx1, rfl⟩ := openV_node hF.rv
  unfold nodeV at *
  clear hF hfr p0 p1 p2 p3 p4 hpB pz
  have HBx1 := Lib.hid (BoxN.new w5 [.int .i64 n.kind, .int .i64 n.num, .string n.text, .slice nax1 n.names.length ncx1, .slice kax1 n.kids.length kcx1] 30)
  have pB0 := HBx0.out.grow (w' := w5) (by repeat (first | with_reducible exact Ext.refl _ _ | with_reducible refine Ext.trans ?_ (by assumption) | with_reducible refine Ext.drew ?_ | with_reducible refine Ext.drewN ?_ _ | with_reducible refine Ext.alloc ?_ _ | with_reducible refine Ext.setNew ?_ (by simp; done) _ | with_reducible refine Ext.setNew ?_ (by simp; omega) _))
  have p0 := pB0.cell 0 _ rfl; have p1 := pB0.cell 1 _ rfl; have p2 := pB0.cell 2 _ rfl; have p3 := pB0.cell 3 _ rfl; have pz := pB0.lt
  go_wp2_with fail
  refine (implFirstMisfit_ok x n _ _ _  (F0.out.rv.grow (by repeat (first | with_reducible exact Ext.refl _ _ | with_reducible refine Ext.trans ?_ (by assumption) | with_reducible refine Ext.drew ?_ | with_reducible refine Ext.drewN ?_ _ | with_reducible refine Ext.alloc ?_ _ | with_reducible refine Ext.setNew ?_ (by simp; done) _ | with_reducible refine Ext.setNew ?_ (by simp; omega) _))) (F1.out.rv.grow (by repeat (first | with_reducible exact Ext.refl _ _ | with_reducible refine Ext.trans ?_ (by assumption) | with_reducible refine Ext.drew ?_ | with_reducible refine Ext.drewN ?_ _ | with_reducible refine Ext.alloc ?_ _ | with_reducible refine Ext.setNew ?_ (by simp; done) _ | with_reducible refine Ext.setNew ?_ (by simp; omega) _)))).mono ?_
  rintro e w6 ⟨rg, fg, rfl, hg6, hF, hfr⟩
  have z6 := hg6.size
  try simp only [World.size_alloc] at z6
  try simp only [World.size_alloc] at hfr
  have FG := Lib.hid hF
  have SG := Lib.hid (Seg.of hfr)
  clear hF hfr
  clear p0 p1 p2 p3 pB0 pz
  go_wp2_with fail
  refine (uEqS (((Eng.fmV x n).getD [])) _ _ _ (FG.out.rv.grow (by repeat (first | with_reducible exact Ext.refl _ _ | with_reducible refine Ext.trans ?_ (by assumption) | with_reducible refine Ext.drew ?_ | with_reducible refine Ext.drewN ?_ _ | with_reducible refine Ext.alloc ?_ _ | with_reducible refine Ext.setNew ?_ (by simp; done) _ | with_reducible refine Ext.setNew ?_ (by simp; omega) _))) (RW.out.any.grow (by repeat (first | with_reducible exact Ext.refl _ _ | with_reducible refine Ext.trans ?_ (by assumption) | with_reducible refine Ext.drew ?_ | with_reducible refine Ext.drewN ?_ _ | with_reducible refine Ext.alloc ?_ _ | with_reducible refine Ext.setNew ?_ (by simp; done) _ | with_reducible refine Ext.setNew ?_ (by simp; omega) _)))).mono ?_
  rintro e w7 ⟨rfl, hg7⟩
  have z7 := hg7.size
  try simp only [World.size_alloc] at z7
  go_wp2_with fail
  have pB := HBx0.out.grow (w' := w7) (by repeat (first | with_reducible exact Ext.refl _ _ | with_reducible refine Ext.trans ?_ (by assumption) | with_reducible refine Ext.drew ?_ | with_reducible refine Ext.drewN ?_ _ | with_reducible refine Ext.alloc ?_ _ | with_reducible refine Ext.setNew ?_ (by simp; done) _ | with_reducible refine Ext.setNew ?_ (by simp; omega) _))
  have p0 := pB.cell 0 _ rfl; have p1 := pB.cell 1 _ rfl; have p2 := pB.cell 2 _ rfl; have p3 := pB.cell 3 _ rfl
  have qB := HB0.out.grow (w' := w7) (by repeat (first | with_reducible exact Ext.refl _ _ | with_reducible refine Ext.trans ?_ (by assumption) | with_reducible refine Ext.drew ?_ | with_reducible refine Ext.drewN ?_ _ | with_reducible refine Ext.alloc ?_ _ | with_reducible refine Ext.setNew ?_ (by simp; done) _ | with_reducible refine Ext.setNew ?_ (by simp; omega) _))
  have q0 := qB.cell 0 _ rfl; have q1 := qB.cell 1 _ rfl; have q2 := qB.cell 2 _ rfl; have q3 := qB.cell 3 _ rfl
  refine wp_region_stab Grow (fun i => if i = 2 then some (fun v w' => RV shpRep packA w' any x v) else if i = 3 then some (fun v _ => v = .bool true) else none) (by kernel_rfl) (by kernel_rfl) ⟨Ext.refl nil, fun _ _ h1 h2 => h2.trans h1, ?_⟩ ?_
  · intro i V hV v w1 w2 hr hv
    by_cases h1 : i = 2
    · simp only [h1, if_true, Option.some.injEq] at hV; subst hV; exact RV.grow hv hr
    · by_cases h3 : i = 3
      · simp [h3] at hV; subst hV; exact hv
      · simp [h1, h3] at hV
  (refine wpStab_quiet (by kernel_rfl) (by kernel_rfl) (by simp) ?_; intro K hK; go_big_quiet_op; go_big_quiet_on)
  (refine wpStab_quiet (by kernel_rfl) (by kernel_rfl) (by simp) ?_; intro K hK; go_big_quiet_op; go_big_quiet_on)
  refine wpStab_made (fun v w' => RV shpRep packA w' any x v) ?_ ?_ ?_ ?_
  · go_simp
  · simp
  · intro y _
    refine stabAt_call (f := 42) (args := #[.agg #[.int .i64 x.kind, .slice na0 x.names.length nc0, .slice ba0 x.needs.length bc0, .slice ka0 x.kids.length kc0]]) ?_ ?_
    · go_simp
    · refine (uToShp x _ _ C0.out (HV0.out.grow (((by repeat (first | with_reducible exact Ext.refl _ _ | with_reducible refine Ext.trans ?_ (by assumption) | with_reducible refine Ext.drew ?_ | with_reducible refine Ext.drewN ?_ _ | with_reducible refine Ext.alloc ?_ _ | with_reducible refine Ext.setNew ?_ (by simp; done) _ | with_reducible refine Ext.setNew ?_ (by simp; omega) _)) : Grow w w7).trans (later_grow _ _)))).mono ?_
      rintro e w' ⟨v', fp, rfl, hg, hF, _⟩
      exact ⟨_, rfl, hg, hF.rv⟩
  intro vt
  go_frame
  refine wpStab_const (.bool true) ?_ ?_ ?_ ?_
  · go_simp
  · simp
  · intro y hE
    have Hr6 : RV shpRep packA (later w7 y) any x vt := (hE ⟨2, .data⟩ (by simp) (by decide)).2 rfl
    clear hE
    refine stabAt_call (f := 44) (args := #[.agg #[.int .i64 x.kind, .slice nax0 x.names.length ncx0, .slice bax0 x.needs.length bcx0, .slice kax0 x.kids.length kcx0], vt]) ?_ ?_
    · go_simp
    · refine (uEqShp x _ _ _ (F0.out.rv.grow (((by repeat (first | with_reducible exact Ext.refl _ _ | with_reducible refine Ext.trans ?_ (by assumption) | with_reducible refine Ext.drew ?_ | with_reducible refine Ext.drewN ?_ _ | with_reducible refine Ext.alloc ?_ _ | with_reducible refine Ext.setNew ?_ (by simp; done) _ | with_reducible refine Ext.setNew ?_ (by simp; omega) _)) : Grow _ w7).trans (later_grow _ _))) Hr6).mono ?_
      rintro e w' ⟨rfl, hg⟩
      exact ⟨_, rfl, hg, rfl⟩
  go_frame
  (refine wpStab_quiet (by kernel_rfl) (by kernel_rfl) (by simp) ?_; intro K hK; go_big_quiet_op; go_big_quiet_on)
  refine wpStab_end ?_
  intro w8 hg8
  clear p0 p1 p2 p3 pB q0 q1 q2 q3 qB
  have z8 := hg8.size
  go_wp2_with fail
  have pB := HBx1.out.grow (w' := w8) (by repeat (first | with_reducible exact Ext.refl _ _ | with_reducible refine Ext.trans ?_ (by assumption) | with_reducible refine Ext.drew ?_ | with_reducible refine Ext.drewN ?_ _ | with_reducible refine Ext.alloc ?_ _ | with_reducible refine Ext.setNew ?_ (by simp; done) _ | with_reducible refine Ext.setNew ?_ (by simp; omega) _))
  have p0 := pB.cell 0 _ rfl; have p1 := pB.cell 1 _ rfl; have p2 := pB.cell 2 _ rfl; have p3 := pB.cell 3 _ rfl; have p4 := pB.cell 4 _ rfl
  have qB := HB1.out.grow (w' := w8) (by repeat (first | with_reducible exact Ext.refl _ _ | with_reducible refine Ext.trans ?_ (by assumption) | with_reducible refine Ext.drew ?_ | with_reducible refine Ext.drewN ?_ _ | with_reducible refine Ext.alloc ?_ _ | with_reducible refine Ext.setNew ?_ (by simp; done) _ | with_reducible refine Ext.setNew ?_ (by simp; omega) _))
  have q0 := qB.cell 0 _ rfl; have q1 := qB.cell 1 _ rfl; have q2 := qB.cell 2 _ rfl; have q3 := qB.cell 3 _ rfl; have q4 := qB.cell 4 _ rfl
  refine wp_region_stab Grow (fun i => if i = 2 then some (fun v w' => RV nodeRep packA w' any n v) else if i = 3 then some (fun v _ => v = .bool true) else none) (by kernel_rfl) (by kernel_rfl) ⟨Ext.refl nil, fun _ _ h1 h2 => h2.trans h1, ?_⟩ ?_
  · intro i V hV v w1 w2 hr hv
    by_cases h1 : i = 2
    · simp only [h1, if_true, Option.some.injEq] at hV; subst hV; exact RV.grow hv hr
    · by_cases h3 : i = 3
      · simp [h3] at hV; subst hV; exact hv
      · simp [h1, h3] at hV
  (refine wpStab_quiet (by kernel_rfl) (by kernel_rfl) (by simp) ?_; intro K hK; go_big_quiet_op; go_big_quiet_on)
  (refine wpStab_quiet (by kernel_rfl) (by kernel_rfl) (by simp) ?_; intro K hK; go_big_quiet_op; go_big_quiet_on)
  refine wpStab_made (fun v w' => RV nodeRep packA w' any n v) ?_ ?_ ?_ ?_
  · go_simp
  · simp
  · intro y _
    refine stabAt_call (f := 32) (args := #[.agg #[.int .i64 n.kind, .int .i64 n.num, .string n.text, .slice na1 n.names.length nc1, .slice ka1 n.kids.length kc1]]) ?_ ?_
    · go_simp
    · refine (uToN n _ _ C1.out (HV1.out.grow (((by repeat (first | with_reducible exact Ext.refl _ _ | with_reducible refine Ext.trans ?_ (by assumption) | with_reducible refine Ext.drew ?_ | with_reducible refine Ext.drewN ?_ _ | with_reducible refine Ext.alloc ?_ _ | with_reducible refine Ext.setNew ?_ (by simp; done) _ | with_reducible refine Ext.setNew ?_ (by simp; omega) _)) : Grow w w8).trans (later_grow _ _)))).mono ?_
      rintro e w' ⟨v', fp, rfl, hg, hF, _⟩
      exact ⟨_, rfl, hg, hF.rv⟩
  intro vt
  go_frame
  refine wpStab_const (.bool true) ?_ ?_ ?_ ?_
  · go_simp
  · simp
  · intro y hE
    have Hr6 : RV nodeRep packA (later w8 y) any n vt := (hE ⟨2, .data⟩ (by simp) (by decide)).2 rfl
    clear hE
    refine stabAt_call (f := 23) (args := #[.agg #[.int .i64 n.kind, .int .i64 n.num, .string n.text, .slice nax1 n.names.length ncx1, .slice kax1 n.kids.length kcx1], vt]) ?_ ?_
    · go_simp
    · refine (uEqN n _ _ _ (F1.out.rv.grow (((by repeat (first | with_reducible exact Ext.refl _ _ | with_reducible refine Ext.trans ?_ (by assumption) | with_reducible refine Ext.drew ?_ | with_reducible refine Ext.drewN ?_ _ | with_reducible refine Ext.alloc ?_ _ | with_reducible refine Ext.setNew ?_ (by simp; done) _ | with_reducible refine Ext.setNew ?_ (by simp; omega) _)) : Grow _ w8).trans (later_grow _ _))) Hr6).mono ?_
      rintro e w' ⟨rfl, hg⟩
      exact ⟨_, rfl, hg, rfl⟩
  go_frame
  (refine wpStab_quiet (by kernel_rfl) (by kernel_rfl) (by simp) ?_; intro K hK; go_big_quiet_op; go_big_quiet_on)
  refine wpStab_end ?_
  intro w9 hg9
  clear p0 p1 p2 p3 p4 pB q0 q1 q2 q3 q4 qB
  have z9 := hg9.size
  replace F0 := Lib.hid (F0.out.grow S0.out (w' := w9) (by repeat (first | with_reducible exact Ext.refl _ _ | with_reducible refine Ext.trans ?_ (by assumption) | with_reducible refine Ext.drew ?_ | with_reducible refine Ext.drewN ?_ _ | with_reducible refine Ext.alloc ?_ _ | with_reducible refine Ext.setNew ?_ (by simp; done) _ | with_reducible refine Ext.setNew ?_ (by simp; omega) _)))
  replace S0 := Lib.hid (S0.out.grow (w' := w9) (by repeat (first | with_reducible exact Ext.refl _ _ | with_reducible refine Ext.trans ?_ (by assumption) | with_reducible refine Ext.drew ?_ | with_reducible refine Ext.drewN ?_ _ | with_reducible refine Ext.alloc ?_ _ | with_reducible refine Ext.setNew ?_ (by simp; done) _ | with_reducible refine Ext.setNew ?_ (by simp; omega) _)))
  replace F1 := Lib.hid (F1.out.grow S1.out (w' := w9) (by repeat (first | with_reducible exact Ext.refl _ _ | with_reducible refine Ext.trans ?_ (by assumption) | with_reducible refine Ext.drew ?_ | with_reducible refine Ext.drewN ?_ _ | with_reducible refine Ext.alloc ?_ _ | with_reducible refine Ext.setNew ?_ (by simp; done) _ | with_reducible refine Ext.setNew ?_ (by simp; omega) _)))
  replace S1 := Lib.hid (S1.out.grow (w' := w9) (by repeat (first | with_reducible exact Ext.refl _ _ | with_reducible refine Ext.trans ?_ (by assumption) | with_reducible refine Ext.drew ?_ | with_reducible refine Ext.drewN ?_ _ | with_reducible refine Ext.alloc ?_ _ | with_reducible refine Ext.setNew ?_ (by simp; done) _ | with_reducible refine Ext.setNew ?_ (by simp; omega) _)))
  replace FG := Lib.hid (FG.out.grow SG.out (w' := w9) (by repeat (first | with_reducible exact Ext.refl _ _ | with_reducible refine Ext.trans ?_ (by assumption) | with_reducible refine Ext.drew ?_ | with_reducible refine Ext.drewN ?_ _ | with_reducible refine Ext.alloc ?_ _ | with_reducible refine Ext.setNew ?_ (by simp; done) _ | with_reducible refine Ext.setNew ?_ (by simp; omega) _)))
  replace SG := Lib.hid (SG.out.grow (w' := w9) (by repeat (first | with_reducible exact Ext.refl _ _ | with_reducible refine Ext.trans ?_ (by assumption) | with_reducible refine Ext.drew ?_ | with_reducible refine Ext.drewN ?_ _ | with_reducible refine Ext.alloc ?_ _ | with_reducible refine Ext.setNew ?_ (by simp; done) _ | with_reducible refine Ext.setNew ?_ (by simp; omega) _)))
  replace RW := Lib.hid (RW.out.grow (w' := w9) (by repeat (first | with_reducible exact Ext.refl _ _ | with_reducible refine Ext.trans ?_ (by assumption) | with_reducible refine Ext.drew ?_ | with_reducible refine Ext.drewN ?_ _ | with_reducible refine Ext.alloc ?_ _ | with_reducible refine Ext.setNew ?_ (by simp; done) _ | with_reducible refine Ext.setNew ?_ (by simp; omega) _)))
  replace HB0 := Lib.hid (HB0.out.grow (w' := w9) (by repeat (first | with_reducible exact Ext.refl _ _ | with_reducible refine Ext.trans ?_ (by assumption) | with_reducible refine Ext.drew ?_ | with_reducible refine Ext.drewN ?_ _ | with_reducible refine Ext.alloc ?_ _ | with_reducible refine Ext.setNew ?_ (by simp; done) _ | with_reducible refine Ext.setNew ?_ (by simp; omega) _)))
  replace HB1 := Lib.hid (HB1.out.grow (w' := w9) (by repeat (first | with_reducible exact Ext.refl _ _ | with_reducible refine Ext.trans ?_ (by assumption) | with_reducible refine Ext.drew ?_ | with_reducible refine Ext.drewN ?_ _ | with_reducible refine Ext.alloc ?_ _ | with_reducible refine Ext.setNew ?_ (by simp; done) _ | with_reducible refine Ext.setNew ?_ (by simp; omega) _)))
  replace HBx0 := Lib.hid (HBx0.out.grow (w' := w9) (by repeat (first | with_reducible exact Ext.refl _ _ | with_reducible refine Ext.trans ?_ (by assumption) | with_reducible refine Ext.drew ?_ | with_reducible refine Ext.drewN ?_ _ | with_reducible refine Ext.alloc ?_ _ | with_reducible refine Ext.setNew ?_ (by simp; done) _ | with_reducible refine Ext.setNew ?_ (by simp; omega) _)))
  replace HBx1 := Lib.hid (HBx1.out.grow (w' := w9) (by repeat (first | with_reducible exact Ext.refl _ _ | with_reducible refine Ext.trans ?_ (by assumption) | with_reducible refine Ext.drew ?_ | with_reducible refine Ext.drewN ?_ _ | with_reducible refine Ext.alloc ?_ _ | with_reducible refine Ext.setNew ?_ (by simp; done) _ | with_reducible refine Ext.setNew ?_ (by simp; omega) _)))
  have lHB0 := HB0.out.lt
  have lHB1 := HB1.out.lt
  have lHBx0 := HBx0.out.lt
  have lHBx1 := HBx1.out.lt
  have hgA : Grow w w9 := (by repeat (first | with_reducible exact Ext.refl _ _ | with_reducible refine Ext.trans ?_ (by assumption) | with_reducible refine Ext.drew ?_ | with_reducible refine Ext.drewN ?_ _ | with_reducible refine Ext.alloc ?_ _ | with_reducible refine Ext.setNew ?_ (by simp; done) _ | with_reducible refine Ext.setNew ?_ (by simp; omega) _))
  clear hg1 hg2 hg3 hg4 hg5 hg6 hg7 hg8 hg9
  have m0 := cntSh_le x
  have m1 := cntT_le n
  have mg := fmV_cnt x n
  have p0 := HBx0.out.cell 0 _ rfl; have p1 := HBx0.out.cell 1 _ rfl; have p2 := HBx0.out.cell 2 _ rfl; have p3 := HBx0.out.cell 3 _ rfl
  go_wp2_with fail
  refine (uMarkShp x _ f0 _ (1) _ _ (by rfl) F0.out S0.out.1 (by omega) (by omega)).mono ?_
  rintro e w10 ⟨rfl, hx, _, _⟩
  clear p0 p1 p2 p3
  replace F1 := Lib.hid (F1.out.keep (S1.out.keeps S0.out (by omega) hx))
  replace S1 := Lib.hid (S1.out.ext S0.out (by omega) hx)
  replace FG := Lib.hid (FG.out.keep (SG.out.keeps S0.out (by omega) hx))
  replace SG := Lib.hid (SG.out.ext S0.out (by omega) hx)
  replace HB0 := Lib.hid (S0.out.box HB0.out hx (by omega))
  replace HB1 := Lib.hid (S0.out.box HB1.out hx (by omega))
  replace HBx0 := Lib.hid (S0.out.box HBx0.out hx (by omega))
  replace HBx1 := Lib.hid (S0.out.box HBx1.out hx (by omega))
  replace RW := Lib.hid (S0.out.rv RW.out hx (by omega))
  replace hgA := S0.out.inner hgA hx (by omega)
  clear hx F0
  have p0 := HBx1.out.cell 0 _ rfl; have p1 := HBx1.out.cell 1 _ rfl; have p2 := HBx1.out.cell 2 _ rfl; have p3 := HBx1.out.cell 3 _ rfl; have p4 := HBx1.out.cell 4 _ rfl
  go_wp2_with fail
  refine (uMarkN n _ f1 _ (1 + cntSh x) _ _ (by simp) F1.out S1.out.1 (by omega) (by omega)).mono ?_
  rintro e w11 ⟨rfl, hx, _, _⟩
  clear p0 p1 p2 p3 p4
  replace FG := Lib.hid (FG.out.keep (SG.out.keeps S1.out (by omega) hx))
  replace SG := Lib.hid (SG.out.ext S1.out (by omega) hx)
  replace HB0 := Lib.hid (S1.out.box HB0.out hx (by omega))
  replace HB1 := Lib.hid (S1.out.box HB1.out hx (by omega))
  replace HBx0 := Lib.hid (S1.out.box HBx0.out hx (by omega))
  replace HBx1 := Lib.hid (S1.out.box HBx1.out hx (by omega))
  replace RW := Lib.hid (S1.out.rv RW.out hx (by omega))
  replace hgA := S1.out.inner hgA hx (by omega)
  clear hx F1
  go_wp2_with fail
  refine (uEqS (((Eng.fmV x n).getD [])) _ _ _ FG.out.rv RW.out.any).mono ?_
  rintro e w12 ⟨rfl, hg⟩
  replace FG := Lib.hid (FG.out.grow SG.out hg)
  replace SG := Lib.hid (SG.out.grow hg)
  replace RW := Lib.hid (RW.out.grow hg)
  replace HB0 := Lib.hid (HB0.out.grow hg)
  replace HB1 := Lib.hid (HB1.out.grow hg)
  replace HBx0 := Lib.hid (HBx0.out.grow hg)
  replace HBx1 := Lib.hid (HBx1.out.grow hg)
  replace hgA := hgA.trans hg
  clear hg
  go_wp2_with fail
  refine (uMarkS (((Eng.fmV x n).getD [])) _ fg _ 1 _ _ (by rfl) FG.out SG.out.1 (by omega) (by omega)).mono ?_
  rintro e w13 ⟨rfl, hx, hfr, hF⟩
  replace HB0 := Lib.hid (SG.out.box HB0.out hx (by omega))
  replace HB1 := Lib.hid (SG.out.box HB1.out hx (by omega))
  replace HBx0 := Lib.hid (SG.out.box HBx0.out hx (by omega))
  replace HBx1 := Lib.hid (SG.out.box HBx1.out hx (by omega))
  replace RW := Lib.hid (SG.out.rv RW.out hx (by omega))
  replace hgA := SG.out.inner hgA hx (by omega)
  replace FG := Lib.hid hF
  replace SG := Lib.hid (SG.out.marked hfr)
  clear hx hfr hF
  go_wp2_with fail
  refine (uHeldS (((Eng.fmV x n).getD [])) _ 1 _ _ (by rfl) FG.out.rv (by omega) (by omega)).mono ?_
  rintro e w14 ⟨rfl, hg⟩
  replace FG := Lib.hid (FG.out.grow SG.out hg)
  replace SG := Lib.hid (SG.out.grow hg)
  replace RW := Lib.hid (RW.out.grow hg)
  replace HB0 := Lib.hid (HB0.out.grow hg)
  replace HB1 := Lib.hid (HB1.out.grow hg)
  replace HBx0 := Lib.hid (HBx0.out.grow hg)
  replace HBx1 := Lib.hid (HBx1.out.grow hg)
  replace hgA := hgA.trans hg
  clear hg
  have hbb : ((1 + cntS (((Eng.fmV x n).getD [])) : Nat) != (1 + cntS (((Eng.fmV x n).getD [])) : Nat)) = false := by simp
  have hgc := hgA
  go_wp2_with fail
  refine Eng.fmRgn31 x n ((Eng.fmV x n).getD []) (Eng.fmV x n).isSome C0.out C1.out (by kernel_rfl) (by kernel_rfl) (by kernel_rfl) (by kernel_rfl) (Eng.FirstMisfit_AC x n) rfl rfl rfl rfl (HB0.out.grow (w' := w14) (by repeat (first | with_reducible exact Ext.refl _ _ | with_reducible refine Ext.trans ?_ (by assumption) | with_reducible refine Ext.drew ?_ | with_reducible refine Ext.drewN ?_ _ | with_reducible refine Ext.alloc ?_ _ | with_reducible refine Ext.setNew ?_ (by simp; done) _ | with_reducible refine Ext.setNew ?_ (by simp; omega) _))) (HV0.out.grow (by repeat (first | with_reducible exact Ext.refl _ _ | with_reducible refine Ext.trans ?_ (by assumption) | with_reducible refine Ext.drew ?_ | with_reducible refine Ext.drewN ?_ _ | with_reducible refine Ext.alloc ?_ _ | with_reducible refine Ext.setNew ?_ (by simp; done) _ | with_reducible refine Ext.setNew ?_ (by simp; omega) _))) (HB1.out.grow (w' := w14) (by repeat (first | with_reducible exact Ext.refl _ _ | with_reducible refine Ext.trans ?_ (by assumption) | with_reducible refine Ext.drew ?_ | with_reducible refine Ext.drewN ?_ _ | with_reducible refine Ext.alloc ?_ _ | with_reducible refine Ext.setNew ?_ (by simp; done) _ | with_reducible refine Ext.setNew ?_ (by simp; omega) _))) (HV1.out.grow (by repeat (first | with_reducible exact Ext.refl _ _ | with_reducible refine Ext.trans ?_ (by assumption) | with_reducible refine Ext.drew ?_ | with_reducible refine Ext.drewN ?_ _ | with_reducible refine Ext.alloc ?_ _ | with_reducible refine Ext.setNew ?_ (by simp; done) _ | with_reducible refine Ext.setNew ?_ (by simp; omega) _))) ?_
  intro w15 fh rh hg15 fhp fho hR
  have z15 := hg15.size
  have RH := Lib.hid hR
  clear hR
  simp only [Eng.laidOver, List.foldl_cons, List.foldl_nil]
  rw [fhp, fho]
  go_wp2_with fail
  refine (uEqS (((Eng.fmV x n).getD [])) _ _ _ (RH.out.grow (by repeat (first | with_reducible exact Ext.refl _ _ | with_reducible refine Ext.trans ?_ (by assumption) | with_reducible refine Ext.drew ?_ | with_reducible refine Ext.drewN ?_ _ | with_reducible refine Ext.alloc ?_ _ | with_reducible refine Ext.setNew ?_ (by simp; done) _ | with_reducible refine Ext.setNew ?_ (by simp; omega) _))) (RW.out.any.grow (by repeat (first | with_reducible exact Ext.refl _ _ | with_reducible refine Ext.trans ?_ (by assumption) | with_reducible refine Ext.drew ?_ | with_reducible refine Ext.drewN ?_ _ | with_reducible refine Ext.alloc ?_ _ | with_reducible refine Ext.setNew ?_ (by simp; done) _ | with_reducible refine Ext.setNew ?_ (by simp; omega) _)))).mono ?_
  rintro e w16 ⟨rfl, hg16⟩
  have z16 := hg16.size
  try simp only [World.size_alloc] at z16
  go_wp2_with fail
  refine (uHeldS (((Eng.fmV x n).getD [])) _ 1 _ _ (by rfl) (FG.out.rv.grow (by repeat (first | with_reducible exact Ext.refl _ _ | with_reducible refine Ext.trans ?_ (by assumption) | with_reducible refine Ext.drew ?_ | with_reducible refine Ext.drewN ?_ _ | with_reducible refine Ext.alloc ?_ _ | with_reducible refine Ext.setNew ?_ (by simp; done) _ | with_reducible refine Ext.setNew ?_ (by simp; omega) _))) (by omega) (by omega)).mono ?_
  rintro e w17 ⟨rfl, hg17⟩
  have z17 := hg17.size
  try simp only [World.size_alloc] at z17
  go_wp2_with fail
  go_ret
  exact ⟨by simp, (by repeat (first | with_reducible exact Ext.refl _ _ | with_reducible refine Ext.trans ?_ (by assumption) | with_reducible refine Ext.drew ?_ | with_reducible refine Ext.drewN ?_ _ | with_reducible refine Ext.alloc ?_ _ | with_reducible refine Ext.setNew ?_ (by simp; done) _ | with_reducible refine Ext.setNew ?_ (by simp; omega) _))⟩
theorem lawFm_ok (x : Shp) (n : Nd) (v0 : Value) (v1 : Value) (w : World) (h0 : RV shpRep packA w any x v0) (h1 : RV nodeRep packA w any n v1) :
    Calls Try.prog 7 #[v0, v1] w fun e w' => e = .returned (.bool true) ∧ Grow w w' := by
  by_cases hc : costP x + costN n ≤ 1048576
  · exact lawFm_main x n v0 v1 w h0 h1 hc
  · exact lawFm_big x n v0 v1 w h0 h1 hc
end Go.Proofs.Ytgfnmhfdmmnaoaa
namespace Go.Proofs.Ytgfnmhfdmmnaoaa
open Go.RowKit Go.ChangeShapes Go.WideShapes Go.Deep
section
variable {H : Type} {enc : TypeId × Value → H} {W : World} {base : Nat} {sp : Nat → Bool} {held : Bool}
theorem addr_spot {w : World} {a : Addr} {v : Value} (h : w.cell? a = some v) : ∃ b o, a = ⟨b, o, none⟩ := by
  have := World.cell?_spot h
  exact ⟨a.block, a.off, by cases a; simp_all⟩
theorem add_mk (b o i : Nat) : (⟨b, o, none⟩ : Addr).add i = ⟨b, o + i, none⟩ := by
  unfold Addr.add; split
  · rename_i h; subst h; rfl
  · rfl
theorem open_strs' {fuel : Nat} {cs : List Value} {x : DataW H × List MemPlace} (h : DataW.trod enc Try.prog W base sp held fuel 23 cs = some x) :
    ∃ a c xs, cs = [.slice a xs.length c] ∧ StrsR W any a c xs := by
  rcases open_slice Try.underlying23 h with ⟨rfl, _⟩ | ⟨a, len, cap, m, n, D, Pl, rfl, _, hl, hm, hmm, _, hi⟩
  · exact ⟨none, 0, [], rfl, by simp, by simp, by simp, .inl rfl⟩
  · have hlm : len ≤ m := by rw [hmm]; split <;> omega
    have hel : ∀ i, i < len → ∃ s : ByteArray, W.cell? (a.add i) = some (.string s) ∧ s.size ≤ maxLen := fun i hi' => by
      obtain ⟨cs', h1, h2⟩ := hi i (by omega)
      have hc : Try.prog.cellsOf 9 = 1 := by kernel_rfl
      rw [hc] at h1
      obtain ⟨_, hlen, hat⟩ := World.cells?_some h1
      obtain ⟨s, rfl, _, hs⟩ := DataW.trod_string Try.underlying9 h2
      have := hat 0 (by omega)
      exact ⟨s, by simpa [Go.Deep.add_add] using this, hs⟩
    have : Inhabited ByteArray := ⟨ByteArray.empty⟩
    obtain ⟨f, hf⟩ := choose_lt hel
    refine ⟨some a, cap, (List.range len).map f, by simp, by simpa using hl, by simp; unfold maxLen at hm; unfold big; omega, ?_, ?_⟩
    · intro x hx
      obtain ⟨i, hi', rfl⟩ := List.mem_map.1 hx
      have := (hf i (List.mem_range.1 hi')).2
      unfold maxLen at this; unfold big; omega
    · by_cases h0 : len = 0
      · subst h0; exact .inl rfl
      · obtain ⟨b, o, ha⟩ := addr_spot (hf 0 (by omega)).1
        have ha' : a = ⟨b, o, none⟩ := by simpa [Addr.add] using ha
        subst ha'
        refine .inr ⟨b, o, rfl, trivial, fun i hi' => ?_⟩
        simp at hi'
        have := (hf i hi').1
        rw [add_mk] at this
        simpa using this
theorem open_node : ∀ (fuel : Nat) (cs : List Value) (x : DataW H × List MemPlace), DataW.trod enc Try.prog W base sp held fuel 41 cs = some x →
    ∃ n na nc ka kc, cs = [.int .i64 n.kind, .int .i64 n.num, .string n.text, .slice na n.names.length nc, .slice ka n.kids.length kc] ∧ NodeC W any n na nc ka kc := by
  intro fuel
  induction fuel using Nat.strongRecOn with
  | ind fuel ih =>
    intro cs x h
    obtain ⟨xs, n, rfl, _, hlen, hxs, hf⟩ := DataW.trod_struct Try.underlying41 h
    have hc : Try.prog.cellsOf 41 = 5 := by kernel_rfl
    have c3 : Try.prog.cellsOf 3 = 1 := by kernel_rfl
    have c9 : Try.prog.cellsOf 9 = 1 := by kernel_rfl
    have c23 : Try.prog.cellsOf 23 = 1 := by kernel_rfl
    have c57 : Try.prog.cellsOf 39 = 1 := by kernel_rfl
    rw [hc] at hlen
    match cs, hlen with
    | [v0, v1, v2, v3, v4], _ =>
      obtain ⟨y0, g0⟩ : ∃ y, DataW.trod enc Try.prog W base sp held n 3 [v0] = some y := ⟨xs[0]'(by simp at hxs; omega), by
        have h := hf 0 _ rfl
        rw [List.getElem?_eq_getElem (by simp at hxs; omega)] at h
        simpa [c3, c9, c23, c57] using h⟩
      obtain ⟨y1, g1⟩ : ∃ y, DataW.trod enc Try.prog W base sp held n 3 [v1] = some y := ⟨xs[1]'(by simp at hxs; omega), by
        have h := hf 1 _ rfl
        rw [List.getElem?_eq_getElem (by simp at hxs; omega)] at h
        simpa [c3, c9, c23, c57] using h⟩
      obtain ⟨y2, g2⟩ : ∃ y, DataW.trod enc Try.prog W base sp held n 9 [v2] = some y := ⟨xs[2]'(by simp at hxs; omega), by
        have h := hf 2 _ rfl
        rw [List.getElem?_eq_getElem (by simp at hxs; omega)] at h
        simpa [c3, c9, c23, c57] using h⟩
      obtain ⟨y3, g3⟩ : ∃ y, DataW.trod enc Try.prog W base sp held n 23 [v3] = some y := ⟨xs[3]'(by simp at hxs; omega), by
        have h := hf 3 _ rfl
        rw [List.getElem?_eq_getElem (by simp at hxs; omega)] at h
        simpa [c3, c9, c23, c57] using h⟩
      obtain ⟨y4, g4⟩ : ∃ y, DataW.trod enc Try.prog W base sp held n 39 [v4] = some y := ⟨xs[4]'(by simp at hxs; omega), by
        have h := hf 4 _ rfl
        rw [List.getElem?_eq_getElem (by simp at hxs; omega)] at h
        simpa [c3, c9, c23, c57] using h⟩
      clear hf
      obtain ⟨kind, e0, _, _⟩ := DataW.trod_int Try.underlying3 g0
      obtain ⟨num, e1, _, _⟩ := DataW.trod_int Try.underlying3 g1
      obtain ⟨text, e2, _, hts⟩ := DataW.trod_string Try.underlying9 g2
      obtain ⟨na, nc, names, e3, hns⟩ := open_strs' g3
      simp only [List.cons.injEq, and_true] at e0 e1 e2 e3
      subst e0 e1 e2 e3
      have htx : text.size ≤ big := by unfold maxLen at hts; unfold big; omega
      rcases DataW.trod_slice Try.underlying39 g4 with ⟨e4, _⟩ | ⟨a, len, cap, elems, rest, n', rfl, e4, _, _, hl, hm, hel, hi, _, _⟩
      · simp only [List.cons.injEq, and_true] at e4
        subst e4
        exact ⟨⟨kind, num, text, names, []⟩, na, nc, none, 0, rfl, NodeC.mk htx hns ⟨by simp, by simp, .inl rfl⟩⟩
      · simp only [List.cons.injEq, and_true] at e4
        subst e4
        rw [hc] at hi
        have key : ∀ i, i < len → ∃ (k : Nd × (Option Addr × Nat × Option Addr × Nat)), W.cell? (a.add (i * 5)) = some (.int .i64 k.1.kind) ∧ W.cell? (a.add (i * 5 + 1)) = some (.int .i64 k.1.num) ∧ W.cell? (a.add (i * 5 + 2)) = some (.string k.1.text) ∧
            W.cell? (a.add (i * 5 + 3)) = some (.slice k.2.1 k.1.names.length k.2.2.1) ∧ W.cell? (a.add (i * 5 + 4)) = some (.slice k.2.2.2.1 k.1.kids.length k.2.2.2.2) ∧ NodeC W any k.1 k.2.1 k.2.2.1 k.2.2.2.1 k.2.2.2.2 := fun i hi' => by
          have h := hi i hi'
          rw [List.getElem?_eq_getElem (by omega)] at h
          obtain ⟨cs', h1, h2⟩ := Option.bind_eq_some_iff.1 h
          obtain ⟨_, hl5, hat⟩ := World.cells?_some h1
          obtain ⟨m, na', nc', ka', kc', rfl, hn'⟩ := ih n' (by omega) cs' _ h2
          refine ⟨⟨m, na', nc', ka', kc'⟩, ?_, ?_, ?_, ?_, ?_, hn'⟩
          · simpa [Go.Deep.add_add] using hat 0 (by omega)
          · simpa [Go.Deep.add_add] using hat 1 (by omega)
          · simpa [Go.Deep.add_add] using hat 2 (by omega)
          · simpa [Go.Deep.add_add] using hat 3 (by omega)
          · simpa [Go.Deep.add_add] using hat 4 (by omega)
        have : Inhabited (Nd × (Option Addr × Nat × Option Addr × Nat)) := ⟨⟨⟨0, 0, ByteArray.empty, [], []⟩, none, 0, none, 0⟩⟩
        obtain ⟨f, hf⟩ := choose_lt key
        have hkl : ((List.range len).map fun i => (f i).1).length = len := by simp
        have hbig : len ≤ big := by unfold maxLen at hm; unfold big; omega
        refine ⟨⟨kind, num, text, names, (List.range len).map fun i => (f i).1⟩, na, nc, some a, cap, by simp, NodeC.mk htx hns ⟨by rw [hkl]; exact hl, by rw [hkl]; exact hbig, ?_⟩⟩
        by_cases h0 : len = 0
        · subst h0; exact .inl rfl
        · obtain ⟨b, o, ha⟩ := addr_spot (hf 0 (by omega)).1
          have ha' : a = ⟨b, o, none⟩ := by simpa [Addr.add] using ha
          subst ha'
          refine .inr ⟨b, o, rfl, trivial, KidsR.of_get (fun i hi' => ?_)⟩
          rw [hkl] at hi'
          obtain ⟨k0, k1, k2, k3, k4, kn⟩ := hf i hi'
          rw [add_mk] at k0 k1 k2 k3 k4
          simp only [List.getElem_map, List.getElem_range]
          exact ⟨_, _, _, _, k0, by rw [Nat.add_assoc]; exact k1, by rw [Nat.add_assoc]; exact k2, by rw [Nat.add_assoc]; exact k3, by rw [Nat.add_assoc]; exact k4, kn⟩
end
end Go.Proofs.Ytgfnmhfdmmnaoaa
namespace Go.Proofs.Ytgfnmhfdmmnaoaa
open Go.RowKit
end Go.Proofs.Ytgfnmhfdmmnaoaa
namespace Go.Proofs.Ytgfnmhfdmmnaoaa
open Go.RowKit
end Go.Proofs.Ytgfnmhfdmmnaoaa
namespace Go.Proofs.Ytgfnmhfdmmnaoaa
open Go.RowKit
end Go.Proofs.Ytgfnmhfdmmnaoaa
namespace Go.Proofs.Ytgfnmhfdmmnaoaa
open Go.RowKit
end Go.Proofs.Ytgfnmhfdmmnaoaa
namespace Go.Proofs.Ytgfnmhfdmmnaoaa
open Go.RowKit Go.ChangeShapes Go.WideShapes Go.Deep
section
variable {H : Type} {enc : TypeId × Value → H} {W : World} {base : Nat} {sp : Nat → Bool} {held : Bool}
end
end Go.Proofs.Ytgfnmhfdmmnaoaa
namespace Go.Proofs.Ytgfnmhfdmmnaoaa
open Go.RowKit Go.ChangeShapes Go.WideShapes Go.Deep
section
variable {H : Type} {enc : TypeId × Value → H} {W : World} {base : Nat} {sp : Nat → Bool} {held : Bool}
end
end Go.Proofs.Ytgfnmhfdmmnaoaa
namespace Go.Proofs.Ytgfnmhfdmmnaoaa
open Go.RowKit
end Go.Proofs.Ytgfnmhfdmmnaoaa
namespace Go.Proofs.Ytgfnmhfdmmnaoaa
open Go.RowKit
end Go.Proofs.Ytgfnmhfdmmnaoaa
namespace Go.Proofs.Ytgfnmhfdmmnaoaa
open Go.RowKit
theorem lt_trans {a b c : ByteArray} (h1 : lt a b = true) (h2 : lt b c = true) : lt a c = true := bl_trans _ _ _ h1 h2
end Go.Proofs.Ytgfnmhfdmmnaoaa
namespace Go.Proofs.Ytgfnmhfdmmnaoaa
open Go.RowKit Go.ChangeShapes Go.WideShapes Go.Deep
section
variable {H : Type} {enc : TypeId × Value → H} {W : World} {base : Nat} {sp : Nat → Bool} {held : Bool}
theorem rv_node {fuel : Nat} {cs : Array Value} {x : DataW H × List MemPlace} (h : DataW.trod enc Try.prog W base sp held fuel 41 cs.toList = some x) : ∃ y, RV nodeRep packA W any y (.agg cs) := by
  obtain ⟨q, na, nc, ka, kc, e2, hq⟩ := open_node _ _ _ h
  exact ⟨q, cs.toList, rfl, na, nc, ka, kc, e2, hq⟩
end
end Go.Proofs.Ytgfnmhfdmmnaoaa
namespace Go.Proofs.Ytgfnmhfdmmnaoaa
open Go.RowKit Go.ChangeShapes Go.WideShapes Go.Deep
theorem ShapeC.mk {w : World} {S : Nat → Prop} {n : Shp} {na : Option Addr} {nc : Nat} {ba : Option Addr} {bc : Nat} {ka : Option Addr} {kc : Nat}
    (h1 : StrsR w S na nc n.names) (h2 : BoolsR w S ba bc n.needs) (h3 : ShpLR w S ka kc n.kids) : ShapeC w S n na nc ba bc ka kc := by
  cases n; unfold ShapeC; exact ⟨h1, h2, h3⟩
theorem ShpsR.of_get {w : World} {S : Nat → Prop} {b : Nat} : ∀ {l : List Shp} {o : Nat}, (∀ i (h : i < l.length), ∃ na nc ba bc ka kc,
    w.cell? ⟨b, o + i * 4, none⟩ = some (.int .i64 l[i].kind) ∧ w.cell? ⟨b, o + i * 4 + 1, none⟩ = some (.slice na l[i].names.length nc) ∧
      w.cell? ⟨b, o + i * 4 + 2, none⟩ = some (.slice ba l[i].needs.length bc) ∧ w.cell? ⟨b, o + i * 4 + 3, none⟩ = some (.slice ka l[i].kids.length kc) ∧ ShapeC w S l[i] na nc ba bc ka kc) → ShpsR w S b o l
  | [], _, _ => by unfold ShpsR; trivial
  | k :: ks, o, h => by
    unfold ShpsR
    have h0 := h 0 (by simp)
    simp only [Nat.zero_mul, Nat.add_zero, List.getElem_cons_zero] at h0
    refine ⟨h0, ShpsR.of_get (fun i hi => ?_)⟩
    have := h (i + 1) (by simpa using hi)
    have e : o + (i + 1) * 4 = o + 4 + i * 4 := by omega
    rw [e] at this
    simp only [List.getElem_cons_succ] at this
    exact this
section
variable {H : Type} {enc : TypeId × Value → H} {W : World} {base : Nat} {sp : Nat → Bool} {held : Bool}
theorem open_bools {fuel : Nat} {cs : List Value} {x : DataW H × List MemPlace} (h : DataW.trod enc Try.prog W base sp held fuel 24 cs = some x) :
    ∃ a c xs, cs = [.slice a xs.length c] ∧ BoolsR W any a c xs := by
  rcases open_slice Try.underlying24 h with ⟨rfl, _⟩ | ⟨a, len, cap, m, n, D, Pl, rfl, _, hl, hm, hmm, _, hi⟩
  · exact ⟨none, 0, [], rfl, by simp, by simp, .inl rfl⟩
  · have hlm : len ≤ m := by rw [hmm]; split <;> omega
    have hel : ∀ i, i < len → ∃ s : Bool, W.cell? (a.add i) = some (.bool s) := fun i hi' => by
      obtain ⟨cs', h1, h2⟩ := hi i (by omega)
      have hc : Try.prog.cellsOf 4 = 1 := by kernel_rfl
      rw [hc] at h1
      obtain ⟨_, hlen, hat⟩ := World.cells?_some h1
      obtain ⟨s, rfl, _⟩ := DataW.trod_bool Try.underlying4 h2
      have := hat 0 (by omega)
      exact ⟨s, by simpa [Go.Deep.add_add] using this⟩
    obtain ⟨f, hf⟩ := choose_lt hel
    refine ⟨some a, cap, (List.range len).map f, by simp, by simpa using hl, by simp; unfold maxLen at hm; unfold big; omega, ?_⟩
    · by_cases h0 : len = 0
      · subst h0; exact .inl rfl
      · obtain ⟨b, o, ha⟩ := addr_spot (hf 0 (by omega))
        have ha' : a = ⟨b, o, none⟩ := by simpa [Addr.add] using ha
        subst ha'
        refine .inr ⟨b, o, rfl, trivial, fun i hi' => ?_⟩
        simp at hi'
        have := hf i hi'
        rw [add_mk] at this
        simpa using this
theorem open_shape : ∀ (fuel : Nat) (cs : List Value) (x : DataW H × List MemPlace), DataW.trod enc Try.prog W base sp held fuel 75 cs = some x →
    ∃ n na nc ba bc ka kc, cs = [.int .i64 n.kind, .slice na n.names.length nc, .slice ba n.needs.length bc, .slice ka n.kids.length kc] ∧ ShapeC W any n na nc ba bc ka kc := by
  intro fuel
  induction fuel using Nat.strongRecOn with
  | ind fuel ih =>
    intro cs x h
    obtain ⟨xs, n, rfl, _, hlen, hxs, hf⟩ := DataW.trod_struct Try.underlying75 h
    have hc : Try.prog.cellsOf 75 = 4 := by kernel_rfl
    have c3 : Try.prog.cellsOf 3 = 1 := by kernel_rfl
    have c9 : Try.prog.cellsOf 24 = 1 := by kernel_rfl
    have c23 : Try.prog.cellsOf 23 = 1 := by kernel_rfl
    have c57 : Try.prog.cellsOf 73 = 1 := by kernel_rfl
    rw [hc] at hlen
    match cs, hlen with
    | [v0, v1, v2, v3], _ =>
      obtain ⟨y0, g0⟩ : ∃ y, DataW.trod enc Try.prog W base sp held n 3 [v0] = some y := ⟨xs[0]'(by simp at hxs; omega), by
        have h := hf 0 _ rfl
        rw [List.getElem?_eq_getElem (by simp at hxs; omega)] at h
        simpa [c3, c9, c23, c57] using h⟩
      obtain ⟨y1, g1⟩ : ∃ y, DataW.trod enc Try.prog W base sp held n 23 [v1] = some y := ⟨xs[1]'(by simp at hxs; omega), by
        have h := hf 1 _ rfl
        rw [List.getElem?_eq_getElem (by simp at hxs; omega)] at h
        simpa [c3, c9, c23, c57] using h⟩
      obtain ⟨y2, g2⟩ : ∃ y, DataW.trod enc Try.prog W base sp held n 24 [v2] = some y := ⟨xs[2]'(by simp at hxs; omega), by
        have h := hf 2 _ rfl
        rw [List.getElem?_eq_getElem (by simp at hxs; omega)] at h
        simpa [c3, c9, c23, c57] using h⟩
      obtain ⟨y4, g4⟩ : ∃ y, DataW.trod enc Try.prog W base sp held n 73 [v3] = some y := ⟨xs[3]'(by simp at hxs; omega), by
        have h := hf 3 _ rfl
        rw [List.getElem?_eq_getElem (by simp at hxs; omega)] at h
        simpa [c3, c9, c23, c57] using h⟩
      clear hf
      obtain ⟨kind, e0, _, _⟩ := DataW.trod_int Try.underlying3 g0
      obtain ⟨na, nc, names, e1, hns⟩ := open_strs' g1
      obtain ⟨ba, bc, needs, e2, hbs⟩ := open_bools g2
      simp only [List.cons.injEq, and_true] at e0 e1 e2
      subst e0 e1 e2
      rcases DataW.trod_slice Try.underlying73 g4 with ⟨e4, _⟩ | ⟨a, len, cap, elems, rest, n', rfl, e4, _, _, hl, hm, hel, hi, _, _⟩
      · simp only [List.cons.injEq, and_true] at e4
        subst e4
        exact ⟨⟨kind, names, needs, []⟩, na, nc, ba, bc, none, 0, rfl, ShapeC.mk hns hbs ⟨by simp, by simp, .inl rfl⟩⟩
      · simp only [List.cons.injEq, and_true] at e4
        subst e4
        rw [hc] at hi
        have key : ∀ i, i < len → ∃ (k : Shp × (Option Addr × Nat × Option Addr × Nat × Option Addr × Nat)), W.cell? (a.add (i * 4)) = some (.int .i64 k.1.kind) ∧ W.cell? (a.add (i * 4 + 1)) = some (.slice k.2.1 k.1.names.length k.2.2.1) ∧
            W.cell? (a.add (i * 4 + 2)) = some (.slice k.2.2.2.1 k.1.needs.length k.2.2.2.2.1) ∧ W.cell? (a.add (i * 4 + 3)) = some (.slice k.2.2.2.2.2.1 k.1.kids.length k.2.2.2.2.2.2) ∧ ShapeC W any k.1 k.2.1 k.2.2.1 k.2.2.2.1 k.2.2.2.2.1 k.2.2.2.2.2.1 k.2.2.2.2.2.2 := fun i hi' => by
          have h := hi i hi'
          rw [List.getElem?_eq_getElem (by omega)] at h
          obtain ⟨cs', h1, h2⟩ := Option.bind_eq_some_iff.1 h
          obtain ⟨_, hl5, hat⟩ := World.cells?_some h1
          obtain ⟨m, na', nc', ba', bc', ka', kc', rfl, hn'⟩ := ih n' (by omega) cs' _ h2
          refine ⟨⟨m, na', nc', ba', bc', ka', kc'⟩, ?_, ?_, ?_, ?_, hn'⟩
          · simpa [Go.Deep.add_add] using hat 0 (by omega)
          · simpa [Go.Deep.add_add] using hat 1 (by omega)
          · simpa [Go.Deep.add_add] using hat 2 (by omega)
          · simpa [Go.Deep.add_add] using hat 3 (by omega)
        have : Inhabited (Shp × (Option Addr × Nat × Option Addr × Nat × Option Addr × Nat)) := ⟨⟨⟨0, [], [], []⟩, none, 0, none, 0, none, 0⟩⟩
        obtain ⟨f, hf⟩ := choose_lt key
        have hkl : ((List.range len).map fun i => (f i).1).length = len := by simp
        have hbig : len ≤ big := by unfold maxLen at hm; unfold big; omega
        refine ⟨⟨kind, names, needs, (List.range len).map fun i => (f i).1⟩, na, nc, ba, bc, some a, cap, by simp, ShapeC.mk hns hbs ⟨by rw [hkl]; exact hl, by rw [hkl]; exact hbig, ?_⟩⟩
        by_cases h0 : len = 0
        · subst h0; exact .inl rfl
        · obtain ⟨b, o, ha⟩ := addr_spot (hf 0 (by omega)).1
          have ha' : a = ⟨b, o, none⟩ := by simpa [Addr.add] using ha
          subst ha'
          refine .inr ⟨b, o, rfl, trivial, ShpsR.of_get (fun i hi' => ?_)⟩
          rw [hkl] at hi'
          obtain ⟨k0, k1, k2, k3, kn⟩ := hf i hi'
          rw [add_mk] at k0 k1 k2 k3
          simp only [List.getElem_map, List.getElem_range]
          exact ⟨_, _, _, _, _, _, k0, by rw [Nat.add_assoc]; exact k1, by rw [Nat.add_assoc]; exact k2, by rw [Nat.add_assoc]; exact k3, kn⟩
end
end Go.Proofs.Ytgfnmhfdmmnaoaa
namespace Go.Proofs.Ytgfnmhfdmmnaoaa
open Go.RowKit Go.ChangeShapes Go.WideShapes Go.Deep
section
variable {H : Type} {enc : TypeId × Value → H} {W : World} {base : Nat} {sp : Nat → Bool} {held : Bool}
theorem rv_shp {fuel : Nat} {cs : Array Value} {x : DataW H × List MemPlace} (h : DataW.trod enc Try.prog W base sp held fuel 75 cs.toList = some x) : ∃ y, RV shpRep packA W any y (.agg cs) := by
  obtain ⟨q, na, nc, ba, bc, ka, kc, e2, hq⟩ := open_shape _ _ _ h
  exact ⟨q, cs.toList, rfl, na, nc, ba, bc, ka, kc, e2, hq⟩
end
end Go.Proofs.Ytgfnmhfdmmnaoaa
