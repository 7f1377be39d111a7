/-
  Texts of this claim, joined.
-/
import Derived.Laws.CopyRow
import Derived.Laws.CopyOwn
import Derived.Laws.IdiomCopy
import Derived.Laws.AppendOwn
import Derived.Lib.AppendZerosOnto
import Derived.Lib.Overlaps
import Derived.Deep.RegionLaw
import Derived.Shelf.RegionOpenPlain
import Derived.Laws.MakeOwn
import Derived.Test.YtgfnmhfdmmnaoaaMfD

set_option linter.unusedSimpArgs false
set_option linter.unusedVariables false
set_option linter.unnecessarySimpa false
set_option maxRecDepth 100000
set_option maxHeartbeats 16000000
namespace Go.Proofs.Ytgfnmhfdmmnaoaa.Eng
open Go Go.RowKit
section
variable {w : World} {ρ : Cx} {S : Nat → Prop}
theorem strs_of_rep {t : VC} {xs : List ByteArray} {v : Value} (h : Rep w ρ (.view t 1 (strsE xs)) v) : ∃ a c, v = .slice a xs.length c ∧ StrsR w any a c xs := by
  obtain ⟨a, c, rfl, _, h3, h4, h5, h6⟩ := rep_view.1 h
  rw [strsE_len] at *
  refine ⟨a, c, rfl, h3, h4, ?_, ?_⟩
  · intro x hx
    obtain ⟨i, hi, rfl⟩ := List.mem_iff_getElem.1 hx
    rcases h6 with h6 | ⟨b, o, _, _, he⟩
    · unfold strsE at h6
      have := List.map_eq_nil_iff.1 h6
      subst this
      simp at hi
    · obtain ⟨u, _, _, q3⟩ := (he.get h5 (i := i) (e := [.str xs[i]]) (by rw [strsE_get, List.getElem?_eq_getElem hi]; rfl)).get (i := 0) rfl
      exact (rep_str.1 q3).2
  · rcases h6 with h6 | ⟨b, o, ha, _, he⟩
    · unfold strsE at h6
      exact .inl (List.map_eq_nil_iff.1 h6)
    · refine .inr ⟨b, o, ha, trivial, fun i hi => ?_⟩
      obtain ⟨u, q1, _, q3⟩ := (he.get h5 (i := i) (e := [.str xs[i]]) (by rw [strsE_get, List.getElem?_eq_getElem hi]; rfl)).get (i := 0) rfl
      rw [(rep_str.1 q3).1] at q1
      simpa using q1
theorem strs_to_rep {xs : List ByteArray} {a : Option Addr} {c : Nat} (h : StrsR w S a c xs) : Rep w (pureC nil S none) (.view .loose 1 (strsE xs)) (.slice a xs.length c) := by
  obtain ⟨h1, h2, h3, h4⟩ := h
  refine rep_view.2 ⟨a, c, by rw [strsE_len], fun h => (by cases h), by rw [strsE_len]; exact h1, by rw [strsE_len]; exact h2, fun e he => ?_, ?_⟩
  · unfold strsE at he
    obtain ⟨x, _, rfl⟩ := List.mem_map.1 he
    rfl
  · rcases h4 with rfl | ⟨b, o, ha, hb, hc⟩
    · exact .inl rfl
    · refine .inr ⟨b, o, ha, hb, RepE.of_get (sz := 1) (fun e he => ?_) (fun i e he => ?_)⟩
      · unfold strsE at he
        obtain ⟨x, _, rfl⟩ := List.mem_map.1 he
        rfl
      · rw [strsE_get, Option.map_eq_some_iff] at he
        obtain ⟨x, hx, rfl⟩ := he
        obtain ⟨hi, rfl⟩ := List.getElem?_eq_some_iff.1 hx
        refine RepC.of_get (fun j d hd => ?_)
        have hj := (List.getElem?_eq_some_iff.1 hd).1
        simp only [List.length_cons, List.length_nil] at hj
        obtain rfl : j = 0 := by omega
        simp only [List.getElem?_cons_zero, Option.some.injEq] at hd
        subst hd
        exact ⟨_, by simpa using hc i hi, rfl, rep_str.2 ⟨rfl, h3 _ (List.getElem_mem _)⟩⟩
theorem kids_of_rep {t : VC} {ks : List Nd} (ih : ∀ k ∈ ks, ∀ (ρ : Cx) na nc ka kc, Rep w ρ (.str k.text) (.string k.text) → Rep w ρ (.view .loose 1 (strsE k.names)) (.slice na k.names.length nc) → Rep w ρ (.view .loose 5 (k.kids.map nodeL)) (.slice ka k.kids.length kc) → NodeC w any k na nc ka kc)
    {a : Option Addr} {c : Nat} (h : Rep w ρ (.view t 5 (ks.map nodeL)) (.slice a ks.length c)) : ks.length ≤ c ∧ ks.length ≤ big ∧ (ks = [] ∨ ∃ b o, a = some ⟨b, o, none⟩ ∧ any b ∧ KidsR w any b o ks) := by
  obtain ⟨a', c', h1, h2, h3, h4, h5, h6⟩ := rep_view.1 h
  clear h2
  simp only [List.length_map] at *
  cases h1
  refine ⟨h3, h4, ?_⟩
  rcases h6 with h6 | ⟨b, o, ha, _, he⟩
  · exact .inl (List.map_eq_nil_iff.1 h6)
  · refine .inr ⟨b, o, ha, trivial, ?_⟩
    clear h h3 h4 h5 ha
    induction ks generalizing o with
    | nil => unfold KidsR; trivial
    | cons k ks ih2 =>
      unfold KidsR
      rw [List.map_cons] at he
      unfold RepE at he
      obtain ⟨e1, e2⟩ := he
      rw [nodeL_len] at e2
      refine ⟨?_, ih2 (fun k hk => ih k (by simp [hk])) _ e2⟩
      rw [nodeL_eq] at e1
      obtain ⟨v0, p0, _, q0⟩ := e1.get (i := 0) rfl
      obtain ⟨v1, p1, _, q1⟩ := e1.get (i := 1) rfl
      obtain ⟨v2, p2, _, q2⟩ := e1.get (i := 2) rfl
      obtain ⟨v3, p3, _, q3⟩ := e1.get (i := 3) rfl
      obtain ⟨v4, p4, _, q4⟩ := e1.get (i := 4) rfl
      rw [rep_int] at q0 q1
      have q2' := q2
      rw [rep_str] at q2'
      obtain ⟨na, nc, r3, _⟩ := rep_view.1 q3
      obtain ⟨ka, kc, r4, _⟩ := rep_view.1 q4
      rw [strsE_len] at r3
      rw [List.length_map] at r4
      subst q0 q1 r3 r4
      obtain ⟨rfl, _⟩ := q2'
      exact ⟨na, nc, ka, kc, p0, p1, p2, p3, p4, ih k (by simp) ρ _ _ _ _ q2 q3 q4⟩
theorem nodeC_of_rep : ∀ (n : Nd) (ρ : Cx) na nc ka kc, Rep w ρ (.str n.text) (.string n.text) → Rep w ρ (.view .loose 1 (strsE n.names)) (.slice na n.names.length nc) → Rep w ρ (.view .loose 5 (n.kids.map nodeL)) (.slice ka n.kids.length kc) → NodeC w any n na nc ka kc :=
  Nd.ind' _ (fun n ih ρ na nc ka kc h1 h2 h3 => by
    obtain ⟨a, c, h2', h2''⟩ := strs_of_rep h2
    cases h2'
    have := kids_of_rep (w := w) (ρ := ρ) ih h3
    cases n
    unfold NodeC
    exact ⟨(rep_str.1 h1).2, h2'', this.1, this.2⟩)
theorem node_of_rep {t : VC} {n : Nd} {v : Value} (h : Rep w ρ (nodeT t n) v) : NodeR w any n v := by
  unfold nodeT nodeTL at h
  obtain ⟨vs, rfl, _, h2⟩ := rep_agg.1 h
  obtain ⟨v0, p0, q0⟩ := h2.get (i := 0) rfl
  obtain ⟨v1, p1, q1⟩ := h2.get (i := 1) rfl
  obtain ⟨v2, p2, q2⟩ := h2.get (i := 2) rfl
  obtain ⟨v3, p3, q3⟩ := h2.get (i := 3) rfl
  obtain ⟨v4, p4, q4⟩ := h2.get (i := 4) rfl
  rw [rep_int] at q0 q1
  have q2' := q2
  rw [rep_str] at q2'
  obtain ⟨na, nc, r3, r3'⟩ := strs_of_rep q3
  obtain ⟨ka, kc, r4, _⟩ := rep_view.1 q4
  rw [List.length_map] at r4
  subst q0 q1 r3 r4
  obtain ⟨rfl, hsz⟩ := q2'
  have hl := h2.length
  simp only [List.length_cons, List.length_nil] at hl
  refine ⟨na, nc, ka, kc, ?_, ?_⟩
  · unfold nodeV
    congr 1
    apply Array.ext'
    apply List.ext_getElem?
    intro i
    rcases i with _ | _ | _ | _ | _ | i
    · exact p0
    · exact p1
    · exact p2
    · exact p3
    · exact p4
    · rw [List.getElem?_eq_none (by simp; omega), List.getElem?_eq_none (by simp)]
  · have hk := kids_of_rep (w := w) (ρ := ρ) (fun k _ => nodeC_of_rep k) q4
    cases n
    unfold NodeC
    exact ⟨hsz, r3', hk.1, hk.2⟩
theorem nodeA_of_rep {n : Nd} {v : Value} (h : Rep w ρ (nodeA n) v) : NodeR w any n v := node_of_rep (t := .loose) (by rw [nodeT_loose]; exact h)
theorem kids_to_rep {ks : List Nd} (ih : ∀ k ∈ ks, ∀ na nc ka kc, NodeC w S k na nc ka kc → Rep w (pureC nil S none) (.str k.text) (.string k.text) ∧ Rep w (pureC nil S none) (.view .loose 1 (strsE k.names)) (.slice na k.names.length nc) ∧ Rep w (pureC nil S none) (.view .loose 5 (k.kids.map nodeL)) (.slice ka k.kids.length kc))
    {a : Option Addr} {c : Nat} (h1 : ks.length ≤ c) (h2 : ks.length ≤ big) (h3 : ks = [] ∨ ∃ b o, a = some ⟨b, o, none⟩ ∧ S b ∧ KidsR w S b o ks) : Rep w (pureC nil S none) (.view .loose 5 (ks.map nodeL)) (.slice a ks.length c) := by
  refine rep_view.2 ⟨a, c, by rw [List.length_map], fun h => (by cases h), by rw [List.length_map]; exact h1, by rw [List.length_map]; exact h2, fun e he => ?_, ?_⟩
  · obtain ⟨x, _, rfl⟩ := List.mem_map.1 he
    exact nodeL_len x
  · rcases h3 with rfl | ⟨b, o, ha, hb, hk⟩
    · exact .inl rfl
    · refine .inr ⟨b, o, ha, hb, ?_⟩
      clear h1 h2 ha
      induction ks generalizing o with
      | nil => unfold RepE; trivial
      | cons k ks ih2 =>
        rw [List.map_cons]
        unfold KidsR at hk
        obtain ⟨⟨na, nc, ka, kc, p0, p1, p2, p3, p4, hc⟩, hk⟩ := hk
        unfold RepE
        rw [nodeL_len]
        refine ⟨?_, ih2 (fun k hk => ih k (by simp [hk])) _ hk⟩
        obtain ⟨r2, r3, r4⟩ := ih k (by simp) _ _ _ _ hc
        rw [nodeL_eq]
        unfold RepC
        refine ⟨⟨_, p0, rfl, rep_int.2 rfl⟩, ?_⟩
        unfold RepC
        refine ⟨⟨_, p1, rfl, rep_int.2 rfl⟩, ?_⟩
        unfold RepC
        refine ⟨⟨_, p2, rfl, r2⟩, ?_⟩
        unfold RepC
        refine ⟨⟨_, p3, rfl, r3⟩, ?_⟩
        unfold RepC
        refine ⟨⟨_, p4, rfl, r4⟩, ?_⟩
        unfold RepC
        trivial
theorem nodeC_to_rep : ∀ (n : Nd) na nc ka kc, NodeC w S n na nc ka kc → Rep w (pureC nil S none) (.str n.text) (.string n.text) ∧ Rep w (pureC nil S none) (.view .loose 1 (strsE n.names)) (.slice na n.names.length nc) ∧ Rep w (pureC nil S none) (.view .loose 5 (n.kids.map nodeL)) (.slice ka n.kids.length kc) :=
  Nd.ind' _ (fun n ih na nc ka kc h => by
    cases n
    unfold NodeC at h
    obtain ⟨h1, h2, h3, h4, h5⟩ := h
    exact ⟨rep_str.2 ⟨rfl, h1⟩, strs_to_rep h2, kids_to_rep ih h3 h4 h5⟩)
theorem rep_of_node {n : Nd} {v : Value} (h : NodeR w S n v) : Rep w (pureC nil S none) (nodeA n) v := by
  obtain ⟨na, nc, ka, kc, rfl, hc⟩ := h
  obtain ⟨h1, h2, h3⟩ := nodeC_to_rep n _ _ _ _ hc
  unfold nodeA nodeV
  rw [nodeL_eq]
  refine rep_agg.2 ⟨[_, _, _, _, _], rfl, ?_, ?_⟩
  · intro u hu
    simp only [List.mem_cons, List.not_mem_nil, or_false] at hu
    rcases hu with rfl | rfl | rfl | rfl | rfl <;> rfl
  · unfold RepL
    refine ⟨_, _, rfl, rep_int.2 rfl, ?_⟩
    unfold RepL
    refine ⟨_, _, rfl, rep_int.2 rfl, ?_⟩
    unfold RepL
    refine ⟨_, _, rfl, h1, ?_⟩
    unfold RepL
    refine ⟨_, _, rfl, h2, ?_⟩
    unfold RepL
    refine ⟨_, _, rfl, h3, ?_⟩
    unfold RepL
    rfl
end
end Go.Proofs.Ytgfnmhfdmmnaoaa.Eng
namespace Go.Proofs.Ytgfnmhfdmmnaoaa
open Go.RowKit
def validB (n : Nd) : Bool := shapeB n 5 && decide (n.count ≤ 40)
theorem ValidNode_ok (n : Nd) (v : Value) (w : World) (hn : NodeR w any n v) :
    Calls Try.prog 17 #[v] w fun e w' => e = .returned (.bool (validB n)) ∧ Grow w w' := by
  have Hn := Lib.hid hn
  obtain ⟨na, nc, ka, kc, rfl, hc⟩ := hn
  clear hc
  unfold nodeV at *
  cases hs : shapeB n 5
  · have Hf := Lib.hid (measV_no hs)
    have Hv : Hid (validB n = false) := Lib.hid (by simp [validB, hs])
    clear hs
    go_enter Try.func17, Try.ntmps17
    go_wp2_with (go_at_call 65; refine (measureNode_ok n 5 _ _ _ (by omega) (by omega) ((Hn.out).ext ((Ext.refl nil w).alloc _) (fun _ _ h => h))).mono ?_; rintro e w2 ⟨rfl, hg2⟩; simp only [Hf.out])
    go_ret
    exact ⟨by simp [Hv.out], (by repeat (first | with_reducible exact Ext.refl _ _ | with_reducible refine Ext.trans ?_ (by assumption) | with_reducible refine Ext.drew ?_ | with_reducible refine Ext.drewN ?_ _ | with_reducible refine Ext.alloc ?_ _ | with_reducible refine Ext.setNew ?_ (by simp; done) _ | with_reducible refine Ext.setNew ?_ (by simp; omega) _))⟩
  · have Hf := Lib.hid (measV_yes hs)
    have Hv : Hid (validB n = decide (n.count ≤ 40)) := Lib.hid (by simp [validB, hs])
    clear hs
    go_enter Try.func17, Try.ntmps17
    go_wp2_with (go_at_call 65; refine (measureNode_ok n 5 _ _ _ (by omega) (by omega) ((Hn.out).ext ((Ext.refl nil w).alloc _) (fun _ _ h => h))).mono ?_; rintro e w2 ⟨rfl, hg2⟩; simp only [Hf.out])
    all_goals go_ret
    all_goals exact ⟨by rw [Hv.out]; simp; omega, (by repeat (first | with_reducible exact Ext.refl _ _ | with_reducible refine Ext.trans ?_ (by assumption) | with_reducible refine Ext.drew ?_ | with_reducible refine Ext.drewN ?_ _ | with_reducible refine Ext.alloc ?_ _ | with_reducible refine Ext.setNew ?_ (by simp; done) _ | with_reducible refine Ext.setNew ?_ (by simp; omega) _))⟩
end Go.Proofs.Ytgfnmhfdmmnaoaa
namespace Go.Proofs.Ytgfnmhfdmmnaoaa
open Go.RowKit
theorem byte_lt (c : UInt8) : (c.toNat : Int) < 256 := by have := c.toNat_lt; omega
def inR (a b c : Int) : Bool := decide (b ≤ a) && decide (a ≤ c)
theorem inRange_ok (a b c : Int) (w : World) :
    Calls Try.prog 131 #[.int .i64 a, .int .i64 b, .int .i64 c] w fun e w' => e = .returned (.bool (inR a b c)) ∧ w' = w := by
  go_enter Try.func131, Try.ntmps131
  go_wp2
  all_goals go_ret
  all_goals exact ⟨by first | (simp_all [inR]; done) | (simp_all [inR]; omega), rfl⟩
theorem validText_ok (s : ByteArray) (w : World) (hs : s.size ≤ big) :
    Calls Try.prog 170 #[.string s] w fun e w' => e = .returned (.bool (plainT s)) ∧ w' = w := by
  unfold big at hs
  go_enter Try.func170, Try.ntmps170
  go_wp2
  go_loop [2, 3] (fun n i => n = .bool false ∧ ∃ k : Nat, k ≤ s.size ∧ i = .int .i64 k ∧ (s.data.toList.take k).all okB = true) (fun _ i => s.size - (intOf i).toNat)
  case atStart => exact ⟨rfl, 0, Nat.zero_le _, rfl, rfl⟩
  case round =>
    obtain ⟨rfl, k, hk, rfl, hall⟩ := hrel
    by_cases hlt : k < s.size
    · have Hall := Lib.hid hall
      have hby := byte_lt s[k]
      clear hall
      cases hc : inR (s[k].toNat : Int) 32 126
      · have Hf := Lib.hid (all_stop s k hlt (p := okB) (by simpa [okB, inR] using hc))
        go_wp2_with (go_at_call 131; refine (inRange_ok _ _ _ _).mono ?_; rintro e w' ⟨rfl, rfl⟩)
        go_ret
        exact ⟨by simp [plainT, Hf.out], rfl⟩
      · have Hc := Lib.hid hc
        go_wp2_with (go_at_call 131; refine (inRange_ok _ _ _ _).mono ?_; rintro e w' ⟨rfl, rfl⟩)
        go_round
        case rel => exact ⟨rfl, k + 1, by omega, by go_num, all_step s k hlt Hall.out (by simpa [okB, inR] using Hc.out)⟩
        case measure => simp [intOf]; omega
    · go_wp2
      go_ret
      exact ⟨by have : k = s.data.toList.length := by simp; omega
                rw [this, List.take_length] at hall
                simp [plainT, hall]; omega, rfl⟩
theorem shapeL_zero {l : List Nd} {d : Nat} (h : l.length = 0) : shapeL l d = true := by
  rw [List.length_eq_zero_iff.1 h]; simp [shapeL]
theorem names_ok (a : Option Addr) (c : Nat) (xs : List ByteArray) (w : World) (ha : StrsR w any a c xs) :
    Calls Try.prog 132 #[.slice a xs.length c] w fun e w' => e = .returned (.bool (namesB xs)) ∧ Grow w w' := by
  have hbig : xs.length ≤ 9223372036854775807 := ha.2.1
  have Ha := Lib.hid ha
  clear ha
  go_enter Try.func132, Try.ntmps132
  go_wp2
  go_loopw [2, 3] (fun n i wr => n = .bool false ∧ Grow w wr ∧ ∃ k : Nat, k ≤ xs.length ∧ i = .int .i64 k ∧ namesB xs = namesAt xs k) (fun _ i _ => xs.length - (intOf i).toNat)
  case atStart => exact ⟨rfl, Ext.refl _ _, 0, Nat.zero_le _, rfl, (namesAt_zero xs).symm⟩
  case round =>
    obtain ⟨rfl, hg, k, hk, rfl, hr⟩ := hrel
    have Hr := Lib.hid hr
    clear hr
    by_cases hlt : k < xs.length
    · obtain ⟨_, _, hxs, ha4⟩ := (Ha.out).ext hg (fun _ _ h => h)
      rcases ha4 with rfl | ⟨ba, oa, rfl, _, hca⟩
      · simp at hlt
      have hx := hca k hlt
      have hsz := hxs _ (List.getElem_mem hlt)
      cases hp : plainT xs[k]
      · have Hs : Hid (namesAt xs k = false) := Lib.hid (by
          rcases Nat.eq_zero_or_pos k with rfl | hk0
          · rw [namesAt_first xs hlt, hp]; rfl
          · rw [namesAt_next xs k hlt hk0, hp]; simp)
        have Hp := Lib.hid hp
        clear hca Ha hp
        go_wp2
        go_quiet ((go_at_call 170; exact Calls.quiet_of_same (by simpa only [Hp.out] using validText_ok xs[k] _ hsz)))
        go_wp2
        go_ret
        exact ⟨by simp [Hr.out, Hs.out], hg.drewN _⟩
      · have Hp := Lib.hid hp
        by_cases hk0 : 0 < k
        · have hy := hca (k - 1) (by omega)
          have Hs := Lib.hid (namesAt_next xs k hlt hk0)
          have hki : (0 : Int) < (k : Int) := by omega
          clear hca Ha hp
          rcases bl_cases xs[k - 1] xs[k] with ⟨l1, l2, l3, l4, _⟩ | ⟨l1, l2, l3, l4, _⟩ | l0
          · go_wp2
            go_quiet ((go_at_call 170; exact Calls.quiet_of_same (by simpa only [Hp.out] using validText_ok xs[k] _ hsz)))
            go_wp2
            go_roundw
            case rel => exact ⟨rfl, hg.drewN _, k + 1, by omega, by go_num, by rw [Hr.out, Hs.out, Hp.out, l1]; rfl⟩
            case measure => simp [intOf]; omega
          · go_wp2
            go_quiet ((go_at_call 170; exact Calls.quiet_of_same (by simpa only [Hp.out] using validText_ok xs[k] _ hsz)))
            go_wp2
            go_ret; exact ⟨by simp [Hr.out, Hs.out, Hp.out, l1], hg.drewN _⟩
          · rw [l0] at hy Hs
            clear l0
            have l1 := blF_irrefl xs[k]
            go_wp2
            go_quiet ((go_at_call 170; exact Calls.quiet_of_same (by simpa only [Hp.out] using validText_ok xs[k] _ hsz)))
            go_wp2
            go_ret; exact ⟨by simp [Hr.out, Hs.out, Hp.out, l1], hg.drewN _⟩
        · obtain rfl : k = 0 := by omega
          simp only [Nat.add_zero] at hx
          have Hs := Lib.hid (namesAt_first xs hlt)
          clear hca Ha hp
          go_wp2
          go_quiet ((go_at_call 170; exact Calls.quiet_of_same (by simpa only [Hp.out] using validText_ok xs[0] _ hsz)))
          go_wp2
          go_roundw
          case rel => exact ⟨rfl, hg.drewN _, 1, by omega, by go_num, by rw [Hr.out, Hs.out, Hp.out]; rfl⟩
          case measure => simp [intOf]; omega
    · go_wp2
      go_ret
      exact ⟨by simp [Hr.out, namesAt_end _ _ hlt], hg⟩
def ShapeOk (n : Nd) : Prop := ∀ (d : Nat) (dep : Int) (v : Value) (w : World), d ≤ 5 → dep = (d : Int) → NodeR w any n v →
    Calls Try.prog 133 #[v, .int .i64 dep] w fun e w' => e = .returned (.bool (shapeB n d)) ∧ Grow w w'
theorem kids_of (n : Nd) (ih : ∀ k ∈ n.kids, ShapeOk k) (d : Nat) (dep : Int) (v : Value) (w : World) (hd : d ≤ 4) (hdep : dep = (d : Int) + 1) (hn : NodeR w any n v) :
    Calls Try.prog 171 #[v, .int .i64 dep] w fun e w' => e = .returned (.bool (shapeL n.kids d)) ∧ Grow w w' := by
  have hd1 : 1 ≤ dep := by omega
  have hd2 : dep ≤ 5 := by omega
  have Hd := Lib.hid hdep
  have Ih := Lib.hid ih
  clear ih hdep
  obtain ⟨na, nc, ka, kc, rfl, hc⟩ := hn
  obtain ⟨htx, hns, hks⟩ := hc.parts
  have hkl : n.kids.length ≤ 9223372036854775807 := hks.2.1
  have Hks := Lib.hid hks
  clear htx hns hks hc
  unfold nodeV at *
  go_enter Try.func171, Try.ntmps171
  go_wp2
  go_loopw [4, 5] (fun n4 i wr => n4 = .bool false ∧ Grow (w.alloc (.cells #[.int .i64 n.kind, .int .i64 n.num, .string n.text, .slice na n.names.length nc, .slice ka n.kids.length kc] 30)) wr ∧ ∃ k : Nat, k ≤ n.kids.length ∧ i = .int .i64 k ∧ shapeL n.kids d = shapeL (n.kids.drop k) d) (fun _ i _ => n.kids.length - (intOf i).toNat)
  case atStart => exact ⟨rfl, Ext.refl _ _, 0, Nat.zero_le _, rfl, rfl⟩
  case round =>
    obtain ⟨rfl, hg, k, hk, rfl, hr⟩ := hrel
    have Hr := Lib.hid hr
    clear hr
    have hcc := bcell hg
    have hg0 : Grow w wr := ((Ext.refl _ _).alloc _).trans hg
    by_cases hlt : k < n.kids.length
    · obtain ⟨_, _, hks⟩ := (Hks.out).ext hg0 (fun _ _ h => h)
      rcases hks with hks | ⟨bk, ok, rfl, _, hkr⟩
      · simp [hks] at hlt
      obtain ⟨na', nc', ka', kc', c0, c1, c2, c3, c4, hkc⟩ := hkr.get k hlt
      have Hkc : Hid (NodeR wr any n.kids[k] (nodeV n.kids[k] na' nc' ka' kc')) := Lib.hid ⟨_, _, _, _, rfl, hkc⟩
      clear hkr hkc
      cases hsk : shapeB n.kids[k] d
      · have Hf := Lib.hid hsk
        have Hff := Lib.hid (shapeL_get hlt hsk)
        go_wp2_with (go_at_call 133; refine (Ih.out _ (List.getElem_mem hlt) d _ _ _ (by omega) (by have := Hd.out; omega) Hkc.out).mono ?_; rintro e w2 ⟨rfl, hg2⟩; simp only [Hf.out])
        go_ret
        exact ⟨by simp [Hff.out], hg0.trans hg2⟩
      · have Hf := Lib.hid hsk
        clear hsk
        go_wp2_with (go_at_call 133; refine (Ih.out _ (List.getElem_mem hlt) d _ _ _ (by omega) (by have := Hd.out; omega) Hkc.out).mono ?_; rintro e w2 ⟨rfl, hg2⟩; simp only [Hf.out])
        go_roundw
        case rel => exact ⟨rfl, hg.trans hg2, k + 1, by omega, by go_num, by rw [Hr.out, drop_cons _ _ hlt, shapeL, Hf.out]; rfl⟩
        case measure => simp [intOf]; omega
    · go_wp2
      go_ret
      exact ⟨by simp [Hr.out, List.drop_eq_nil_of_le (Nat.le_of_not_lt hlt), shapeL], hg0⟩
end Go.Proofs.Ytgfnmhfdmmnaoaa
namespace Go.Proofs.Ytgfnmhfdmmnaoaa
open Go.RowKit
theorem shape_other {n : Nd} {d : Nat} (h : n.kind < 0 ∨ 4 < n.kind) : shapeB n (d + 1) = false := by
  have h0 : ¬ n.kind = 0 := by omega
  have h1 : ¬ n.kind = 1 := by omega
  have h2 : ¬ n.kind = 2 := by omega
  have h3 : ¬ n.kind = 3 := by omega
  have h4 : ¬ n.kind = 4 := by omega
  simp [shapeB_eq, partsB, h0, h1, h2, h3, h4]
theorem shape_0 {n : Nd} {d : Nat} (h : n.kind = 0) : shapeB n (d + 1) = (decide (n.num = 0) && n.text.toList.isEmpty && decide (n.names.length = 0) && decide (n.kids.length = 0)) := by
  by_cases hk : n.kids.length = 0 <;> simp [shapeB_eq, partsB, h, hk, shapeL_zero, -List.length_eq_zero_iff]
theorem shape_1 {n : Nd} {d : Nat} (h : n.kind = 1) : shapeB n (d + 1) = (n.text.toList.isEmpty && decide (n.names.length = 0) && (decide (-999999 ≤ n.num) && decide (n.num ≤ 999999)) && decide (n.kids.length = 0)) := by
  by_cases hk : n.kids.length = 0 <;> simp [shapeB_eq, partsB, h, hk, shapeL_zero, -List.length_eq_zero_iff]
theorem shape_2 {n : Nd} {d : Nat} (h : n.kind = 2) : shapeB n (d + 1) = (decide (n.num = 0) && decide (n.names.length = 0) && plainT n.text && decide (n.kids.length = 0)) := by
  by_cases hk : n.kids.length = 0 <;> simp [shapeB_eq, partsB, h, hk, shapeL_zero, -List.length_eq_zero_iff]
theorem shape_3 {n : Nd} {d : Nat} (h : n.kind = 3) : shapeB n (d + 1) = (decide (n.num = 0) && n.text.toList.isEmpty && decide (n.names.length = 0) && decide (n.kids.length ≤ 6) && shapeL n.kids d) := by
  simp [shapeB_eq, partsB, h, -List.length_eq_zero_iff]
theorem shape_4 {n : Nd} {d : Nat} (h : n.kind = 4) : shapeB n (d + 1) = (decide (n.num = 0) && n.text.toList.isEmpty && areNamesB n.names && decide (n.kids.length = n.names.length) && shapeL n.kids d) := by
  simp [shapeB_eq, partsB, h, Bool.and_assoc, -List.length_eq_zero_iff]
theorem shape_long {n : Nd} {d : Nat} (h : 6 < n.kids.length) : shapeB n d = false := by
  cases hp : partsB n
  · simp [shapeB_eq, hp]
  · have := partsB_kids hp; omega
theorem shape_num {n : Nd} {d : Nat} (h1 : n.kind ≠ 1) (h2 : n.num ≠ 0) : shapeB n d = false := by simp [shapeB_eq, partsB, h1, h2]
theorem shape_text {n : Nd} {d : Nat} (h1 : n.kind ≠ 2) (h2 : (!n.text.toList.isEmpty) = true) : shapeB n d = false := by
  have : n.text.toList.isEmpty = false := by simpa using h2
  simp [shapeB_eq, partsB, h1, this]
theorem shape_names {n : Nd} {d : Nat} (h1 : n.kind ≠ 4) (h2 : 0 < n.names.length) : shapeB n d = false := by
  have : ¬ n.names.length = 0 := by omega
  simp [shapeB_eq, partsB, h1, this, -List.length_eq_zero_iff]
theorem shape_ok : ∀ n, ShapeOk n := by
  refine Nd.ind' ShapeOk ?_
  intro n ih d dep v w hd hdep hn
  have Hn := Lib.hid hn
  obtain ⟨na, nc, ka, kc, rfl, hc⟩ := hn
  obtain ⟨htx, hns, hks⟩ := hc.parts
  have hnl : n.names.length ≤ 9223372036854775807 := hns.2.1
  have hkl : n.kids.length ≤ 9223372036854775807 := hks.2.1
  have Hns := Lib.hid hns
  have Htx := Lib.hid htx
  have Ih := Lib.hid ih
  clear hns hks hc htx ih
  unfold nodeV at *
  by_cases hd0 : d = 0
  · subst hd0
    obtain rfl : dep = 0 := by omega
    clear hdep
    have Hf : Hid (shapeB n 0 = false) := Lib.hid (by rw [shapeB_eq]; simp)
    go_enter Try.func133, Try.ntmps133
    go_wp2_with fail
    go_ret
    exact ⟨by simp [Hf.out], (by repeat (first | with_reducible exact Ext.refl _ _ | with_reducible refine Ext.trans ?_ (by assumption) | with_reducible refine Ext.drew ?_ | with_reducible refine Ext.drewN ?_ _ | with_reducible refine Ext.alloc ?_ _ | with_reducible refine Ext.setNew ?_ (by simp; done) _ | with_reducible refine Ext.setNew ?_ (by simp; omega) _))⟩
  · obtain ⟨d, rfl⟩ : ∃ d', d = d' + 1 := ⟨d - 1, by omega⟩
    have hd1 : 1 ≤ dep := by omega
    have hd2 : dep ≤ 5 := by omega
    have hdne : (dep == 0) = false := by rw [ibeq]; simp; omega
    have Hdep := Lib.hid hdep
    have Hd := Lib.hid hd
    clear hd hdep hd0
    obtain ⟨kind, num, text, names, kids⟩ := n
    dsimp only at *
    by_cases h1 : 6 < kids.length
    · have hz : shapeB ⟨kind, num, text, names, kids⟩ (d + 1) = false := shape_long (by exact h1)
      have Hf := Lib.hid hz
      clear hz
      go_enter Try.func133, Try.ntmps133
      go_wp2_with (first | (go_at_call 131; refine (inRange_ok _ _ _ _).mono ?_; rintro e w' ⟨rfl, rfl⟩) | (go_at_call 170; refine (validText_ok _ _ Htx.out).mono ?_; rintro e w' ⟨rfl, rfl⟩) | (go_at_call 132; refine (names_ok _ _ _ _ (Hns.out.ext ((Ext.refl nil w).alloc _) (fun _ _ h => h))).mono ?_; rintro e w' ⟨rfl, hg⟩; have hcc := bcell hg) | (go_at_call 171; refine (kids_of _ Ih.out d _ _ _ (by have := Hd.out; omega) (by have := Hdep.out; omega) (Hn.out.ext (by repeat (first | exact Ext.refl _ _ | refine Ext.trans ?_ (by assumption) | refine Ext.alloc ?_ _)) (fun _ _ h => h))).mono ?_; rintro e w'' ⟨rfl, hg2⟩))
      all_goals (go_ret; refine ⟨?_, (by repeat (first | with_reducible exact Ext.refl _ _ | with_reducible refine Ext.trans ?_ (by assumption) | with_reducible refine Ext.drew ?_ | with_reducible refine Ext.drewN ?_ _ | with_reducible refine Ext.alloc ?_ _ | with_reducible refine Ext.setNew ?_ (by simp; done) _ | with_reducible refine Ext.setNew ?_ (by simp; omega) _))⟩; rw [Hf.out])
      all_goals clear Hn Hns Htx Ih Hdep Hd Hf
      all_goals (simp_all [-List.length_eq_zero_iff])
      all_goals first | omega | rfl | (intro _; exact ⟨by simp only [areNamesB, ‹namesB names = true›]; simp; omega, by omega⟩) | (intro h; exfalso; simp [areNamesB, ‹namesB names = false›] at h)
    have h1 : kids.length ≤ 6 := by omega
    by_cases k1 : kind = 1
    · subst k1
      have he := shape_1 (n := ⟨1, num, text, names, kids⟩) (d := d) rfl
      cases ht : (!text.toList.isEmpty)
      · by_cases h2 : 0 < names.length
        · have := h2
          have Hf := Lib.hid he
          clear he
          go_enter Try.func133, Try.ntmps133
          go_wp2_with (first | (go_at_call 131; refine (inRange_ok _ _ _ _).mono ?_; rintro e w' ⟨rfl, rfl⟩) | (go_at_call 170; refine (validText_ok _ _ Htx.out).mono ?_; rintro e w' ⟨rfl, rfl⟩) | (go_at_call 132; refine (names_ok _ _ _ _ (Hns.out.ext ((Ext.refl nil w).alloc _) (fun _ _ h => h))).mono ?_; rintro e w' ⟨rfl, hg⟩; have hcc := bcell hg) | (go_at_call 171; refine (kids_of _ Ih.out d _ _ _ (by have := Hd.out; omega) (by have := Hdep.out; omega) (Hn.out.ext (by repeat (first | exact Ext.refl _ _ | refine Ext.trans ?_ (by assumption) | refine Ext.alloc ?_ _)) (fun _ _ h => h))).mono ?_; rintro e w'' ⟨rfl, hg2⟩))
          all_goals (go_ret; refine ⟨?_, (by repeat (first | with_reducible exact Ext.refl _ _ | with_reducible refine Ext.trans ?_ (by assumption) | with_reducible refine Ext.drew ?_ | with_reducible refine Ext.drewN ?_ _ | with_reducible refine Ext.alloc ?_ _ | with_reducible refine Ext.setNew ?_ (by simp; done) _ | with_reducible refine Ext.setNew ?_ (by simp; omega) _))⟩; rw [Hf.out])
          all_goals clear Hn Hns Htx Ih Hdep Hd Hf
          all_goals (simp_all [-List.length_eq_zero_iff])
          all_goals first | omega | rfl | (intro _; exact ⟨by simp only [areNamesB, ‹namesB names = true›]; simp; omega, by omega⟩) | (intro h; exfalso; simp [areNamesB, ‹namesB names = false›] at h)
        · have h2 : names.length ≤ 0 := by omega
          by_cases h3 : 0 < kids.length
          · have := h3
            have Hf := Lib.hid he
            clear he
            go_enter Try.func133, Try.ntmps133
            go_wp2_with (first | (go_at_call 131; refine (inRange_ok _ _ _ _).mono ?_; rintro e w' ⟨rfl, rfl⟩) | (go_at_call 170; refine (validText_ok _ _ Htx.out).mono ?_; rintro e w' ⟨rfl, rfl⟩) | (go_at_call 132; refine (names_ok _ _ _ _ (Hns.out.ext ((Ext.refl nil w).alloc _) (fun _ _ h => h))).mono ?_; rintro e w' ⟨rfl, hg⟩; have hcc := bcell hg) | (go_at_call 171; refine (kids_of _ Ih.out d _ _ _ (by have := Hd.out; omega) (by have := Hdep.out; omega) (Hn.out.ext (by repeat (first | exact Ext.refl _ _ | refine Ext.trans ?_ (by assumption) | refine Ext.alloc ?_ _)) (fun _ _ h => h))).mono ?_; rintro e w'' ⟨rfl, hg2⟩))
            all_goals (go_ret; refine ⟨?_, (by repeat (first | with_reducible exact Ext.refl _ _ | with_reducible refine Ext.trans ?_ (by assumption) | with_reducible refine Ext.drew ?_ | with_reducible refine Ext.drewN ?_ _ | with_reducible refine Ext.alloc ?_ _ | with_reducible refine Ext.setNew ?_ (by simp; done) _ | with_reducible refine Ext.setNew ?_ (by simp; omega) _))⟩; rw [Hf.out])
            all_goals clear Hn Hns Htx Ih Hdep Hd Hf
            all_goals (simp_all [-List.length_eq_zero_iff])
            all_goals first | omega | rfl | (intro _; exact ⟨by simp only [areNamesB, ‹namesB names = true›]; simp; omega, by omega⟩) | (intro h; exfalso; simp [areNamesB, ‹namesB names = false›] at h)
          · have h3 : kids.length ≤ 0 := by omega
            have Hf := Lib.hid he
            clear he
            go_enter Try.func133, Try.ntmps133
            go_wp2_with (first | (go_at_call 131; refine (inRange_ok _ _ _ _).mono ?_; rintro e w' ⟨rfl, rfl⟩) | (go_at_call 170; refine (validText_ok _ _ Htx.out).mono ?_; rintro e w' ⟨rfl, rfl⟩) | (go_at_call 132; refine (names_ok _ _ _ _ (Hns.out.ext ((Ext.refl nil w).alloc _) (fun _ _ h => h))).mono ?_; rintro e w' ⟨rfl, hg⟩; have hcc := bcell hg) | (go_at_call 171; refine (kids_of _ Ih.out d _ _ _ (by have := Hd.out; omega) (by have := Hdep.out; omega) (Hn.out.ext (by repeat (first | exact Ext.refl _ _ | refine Ext.trans ?_ (by assumption) | refine Ext.alloc ?_ _)) (fun _ _ h => h))).mono ?_; rintro e w'' ⟨rfl, hg2⟩))
            all_goals (go_ret; refine ⟨?_, (by repeat (first | with_reducible exact Ext.refl _ _ | with_reducible refine Ext.trans ?_ (by assumption) | with_reducible refine Ext.drew ?_ | with_reducible refine Ext.drewN ?_ _ | with_reducible refine Ext.alloc ?_ _ | with_reducible refine Ext.setNew ?_ (by simp; done) _ | with_reducible refine Ext.setNew ?_ (by simp; omega) _))⟩; rw [Hf.out])
            all_goals clear Hn Hns Htx Ih Hdep Hd Hf
            all_goals (simp_all [-List.length_eq_zero_iff])
            all_goals first | omega | rfl | (intro _; exact ⟨by simp only [areNamesB, ‹namesB names = true›]; simp; omega, by omega⟩) | (intro h; exfalso; simp [areNamesB, ‹namesB names = false›] at h)
      · have := ht
        have Hf := Lib.hid he
        clear he
        go_enter Try.func133, Try.ntmps133
        go_wp2_with (first | (go_at_call 131; refine (inRange_ok _ _ _ _).mono ?_; rintro e w' ⟨rfl, rfl⟩) | (go_at_call 170; refine (validText_ok _ _ Htx.out).mono ?_; rintro e w' ⟨rfl, rfl⟩) | (go_at_call 132; refine (names_ok _ _ _ _ (Hns.out.ext ((Ext.refl nil w).alloc _) (fun _ _ h => h))).mono ?_; rintro e w' ⟨rfl, hg⟩; have hcc := bcell hg) | (go_at_call 171; refine (kids_of _ Ih.out d _ _ _ (by have := Hd.out; omega) (by have := Hdep.out; omega) (Hn.out.ext (by repeat (first | exact Ext.refl _ _ | refine Ext.trans ?_ (by assumption) | refine Ext.alloc ?_ _)) (fun _ _ h => h))).mono ?_; rintro e w'' ⟨rfl, hg2⟩))
        all_goals (go_ret; refine ⟨?_, (by repeat (first | with_reducible exact Ext.refl _ _ | with_reducible refine Ext.trans ?_ (by assumption) | with_reducible refine Ext.drew ?_ | with_reducible refine Ext.drewN ?_ _ | with_reducible refine Ext.alloc ?_ _ | with_reducible refine Ext.setNew ?_ (by simp; done) _ | with_reducible refine Ext.setNew ?_ (by simp; omega) _))⟩; rw [Hf.out])
        all_goals clear Hn Hns Htx Ih Hdep Hd Hf
        all_goals (simp_all [-List.length_eq_zero_iff])
        all_goals first | omega | rfl | (intro _; exact ⟨by simp only [areNamesB, ‹namesB names = true›]; simp; omega, by omega⟩) | (intro h; exfalso; simp [areNamesB, ‹namesB names = false›] at h)
    have k1 : (kind != 1) = true := by simpa using k1
    by_cases hnum : num = 0
    rotate_left
    · have hnum : (num != 0) = true := by simpa using hnum
      have hz : shapeB ⟨kind, num, text, names, kids⟩ (d + 1) = false := shape_num (by simpa using k1) (by simpa using hnum)
      have Hf := Lib.hid hz
      clear hz
      go_enter Try.func133, Try.ntmps133
      go_wp2_with (first | (go_at_call 131; refine (inRange_ok _ _ _ _).mono ?_; rintro e w' ⟨rfl, rfl⟩) | (go_at_call 170; refine (validText_ok _ _ Htx.out).mono ?_; rintro e w' ⟨rfl, rfl⟩) | (go_at_call 132; refine (names_ok _ _ _ _ (Hns.out.ext ((Ext.refl nil w).alloc _) (fun _ _ h => h))).mono ?_; rintro e w' ⟨rfl, hg⟩; have hcc := bcell hg) | (go_at_call 171; refine (kids_of _ Ih.out d _ _ _ (by have := Hd.out; omega) (by have := Hdep.out; omega) (Hn.out.ext (by repeat (first | exact Ext.refl _ _ | refine Ext.trans ?_ (by assumption) | refine Ext.alloc ?_ _)) (fun _ _ h => h))).mono ?_; rintro e w'' ⟨rfl, hg2⟩))
      all_goals (go_ret; refine ⟨?_, (by repeat (first | with_reducible exact Ext.refl _ _ | with_reducible refine Ext.trans ?_ (by assumption) | with_reducible refine Ext.drew ?_ | with_reducible refine Ext.drewN ?_ _ | with_reducible refine Ext.alloc ?_ _ | with_reducible refine Ext.setNew ?_ (by simp; done) _ | with_reducible refine Ext.setNew ?_ (by simp; omega) _))⟩; rw [Hf.out])
      all_goals clear Hn Hns Htx Ih Hdep Hd Hf
      all_goals (simp_all [-List.length_eq_zero_iff])
      all_goals first | omega | rfl | (intro _; exact ⟨by simp only [areNamesB, ‹namesB names = true›]; simp; omega, by omega⟩) | (intro h; exfalso; simp [areNamesB, ‹namesB names = false›] at h)
    subst hnum
    by_cases k2 : kind = 2
    · subst k2
      have he := shape_2 (n := ⟨2, 0, text, names, kids⟩) (d := d) rfl
      by_cases h2 : 0 < names.length
      · have := h2
        have Hf := Lib.hid he
        clear he
        go_enter Try.func133, Try.ntmps133
        go_wp2_with (first | (go_at_call 131; refine (inRange_ok _ _ _ _).mono ?_; rintro e w' ⟨rfl, rfl⟩) | (go_at_call 170; refine (validText_ok _ _ Htx.out).mono ?_; rintro e w' ⟨rfl, rfl⟩) | (go_at_call 132; refine (names_ok _ _ _ _ (Hns.out.ext ((Ext.refl nil w).alloc _) (fun _ _ h => h))).mono ?_; rintro e w' ⟨rfl, hg⟩; have hcc := bcell hg) | (go_at_call 171; refine (kids_of _ Ih.out d _ _ _ (by have := Hd.out; omega) (by have := Hdep.out; omega) (Hn.out.ext (by repeat (first | exact Ext.refl _ _ | refine Ext.trans ?_ (by assumption) | refine Ext.alloc ?_ _)) (fun _ _ h => h))).mono ?_; rintro e w'' ⟨rfl, hg2⟩))
        all_goals (go_ret; refine ⟨?_, (by repeat (first | with_reducible exact Ext.refl _ _ | with_reducible refine Ext.trans ?_ (by assumption) | with_reducible refine Ext.drew ?_ | with_reducible refine Ext.drewN ?_ _ | with_reducible refine Ext.alloc ?_ _ | with_reducible refine Ext.setNew ?_ (by simp; done) _ | with_reducible refine Ext.setNew ?_ (by simp; omega) _))⟩; rw [Hf.out])
        all_goals clear Hn Hns Htx Ih Hdep Hd Hf
        all_goals (simp_all [-List.length_eq_zero_iff])
        all_goals first | omega | rfl | (intro _; exact ⟨by simp only [areNamesB, ‹namesB names = true›]; simp; omega, by omega⟩) | (intro h; exfalso; simp [areNamesB, ‹namesB names = false›] at h)
      · have h2 : names.length ≤ 0 := by omega
        by_cases h3 : 0 < kids.length
        · have := h3
          have Hf := Lib.hid he
          clear he
          go_enter Try.func133, Try.ntmps133
          go_wp2_with (first | (go_at_call 131; refine (inRange_ok _ _ _ _).mono ?_; rintro e w' ⟨rfl, rfl⟩) | (go_at_call 170; refine (validText_ok _ _ Htx.out).mono ?_; rintro e w' ⟨rfl, rfl⟩) | (go_at_call 132; refine (names_ok _ _ _ _ (Hns.out.ext ((Ext.refl nil w).alloc _) (fun _ _ h => h))).mono ?_; rintro e w' ⟨rfl, hg⟩; have hcc := bcell hg) | (go_at_call 171; refine (kids_of _ Ih.out d _ _ _ (by have := Hd.out; omega) (by have := Hdep.out; omega) (Hn.out.ext (by repeat (first | exact Ext.refl _ _ | refine Ext.trans ?_ (by assumption) | refine Ext.alloc ?_ _)) (fun _ _ h => h))).mono ?_; rintro e w'' ⟨rfl, hg2⟩))
          all_goals (go_ret; refine ⟨?_, (by repeat (first | with_reducible exact Ext.refl _ _ | with_reducible refine Ext.trans ?_ (by assumption) | with_reducible refine Ext.drew ?_ | with_reducible refine Ext.drewN ?_ _ | with_reducible refine Ext.alloc ?_ _ | with_reducible refine Ext.setNew ?_ (by simp; done) _ | with_reducible refine Ext.setNew ?_ (by simp; omega) _))⟩; rw [Hf.out])
          all_goals clear Hn Hns Htx Ih Hdep Hd Hf
          all_goals (simp_all [-List.length_eq_zero_iff])
          all_goals first | omega | rfl | (intro _; exact ⟨by simp only [areNamesB, ‹namesB names = true›]; simp; omega, by omega⟩) | (intro h; exfalso; simp [areNamesB, ‹namesB names = false›] at h)
        · have h3 : kids.length ≤ 0 := by omega
          have Hf := Lib.hid he
          clear he
          go_enter Try.func133, Try.ntmps133
          go_wp2_with (first | (go_at_call 131; refine (inRange_ok _ _ _ _).mono ?_; rintro e w' ⟨rfl, rfl⟩) | (go_at_call 170; refine (validText_ok _ _ Htx.out).mono ?_; rintro e w' ⟨rfl, rfl⟩) | (go_at_call 132; refine (names_ok _ _ _ _ (Hns.out.ext ((Ext.refl nil w).alloc _) (fun _ _ h => h))).mono ?_; rintro e w' ⟨rfl, hg⟩; have hcc := bcell hg) | (go_at_call 171; refine (kids_of _ Ih.out d _ _ _ (by have := Hd.out; omega) (by have := Hdep.out; omega) (Hn.out.ext (by repeat (first | exact Ext.refl _ _ | refine Ext.trans ?_ (by assumption) | refine Ext.alloc ?_ _)) (fun _ _ h => h))).mono ?_; rintro e w'' ⟨rfl, hg2⟩))
          all_goals (go_ret; refine ⟨?_, (by repeat (first | with_reducible exact Ext.refl _ _ | with_reducible refine Ext.trans ?_ (by assumption) | with_reducible refine Ext.drew ?_ | with_reducible refine Ext.drewN ?_ _ | with_reducible refine Ext.alloc ?_ _ | with_reducible refine Ext.setNew ?_ (by simp; done) _ | with_reducible refine Ext.setNew ?_ (by simp; omega) _))⟩; rw [Hf.out])
          all_goals clear Hn Hns Htx Ih Hdep Hd Hf
          all_goals (simp_all [-List.length_eq_zero_iff])
          all_goals first | omega | rfl | (intro _; exact ⟨by simp only [areNamesB, ‹namesB names = true›]; simp; omega, by omega⟩) | (intro h; exfalso; simp [areNamesB, ‹namesB names = false›] at h)
    have k2 : (kind != 2) = true := by simpa using k2
    cases ht : (!text.toList.isEmpty)
    rotate_left
    · have hz : shapeB ⟨kind, 0, text, names, kids⟩ (d + 1) = false := shape_text (by simpa using k2) ht
      have Hf := Lib.hid hz
      clear hz
      go_enter Try.func133, Try.ntmps133
      go_wp2_with (first | (go_at_call 131; refine (inRange_ok _ _ _ _).mono ?_; rintro e w' ⟨rfl, rfl⟩) | (go_at_call 170; refine (validText_ok _ _ Htx.out).mono ?_; rintro e w' ⟨rfl, rfl⟩) | (go_at_call 132; refine (names_ok _ _ _ _ (Hns.out.ext ((Ext.refl nil w).alloc _) (fun _ _ h => h))).mono ?_; rintro e w' ⟨rfl, hg⟩; have hcc := bcell hg) | (go_at_call 171; refine (kids_of _ Ih.out d _ _ _ (by have := Hd.out; omega) (by have := Hdep.out; omega) (Hn.out.ext (by repeat (first | exact Ext.refl _ _ | refine Ext.trans ?_ (by assumption) | refine Ext.alloc ?_ _)) (fun _ _ h => h))).mono ?_; rintro e w'' ⟨rfl, hg2⟩))
      all_goals (go_ret; refine ⟨?_, (by repeat (first | with_reducible exact Ext.refl _ _ | with_reducible refine Ext.trans ?_ (by assumption) | with_reducible refine Ext.drew ?_ | with_reducible refine Ext.drewN ?_ _ | with_reducible refine Ext.alloc ?_ _ | with_reducible refine Ext.setNew ?_ (by simp; done) _ | with_reducible refine Ext.setNew ?_ (by simp; omega) _))⟩; rw [Hf.out])
      all_goals clear Hn Hns Htx Ih Hdep Hd Hf
      all_goals (simp_all [-List.length_eq_zero_iff])
      all_goals first | omega | rfl | (intro _; exact ⟨by simp only [areNamesB, ‹namesB names = true›]; simp; omega, by omega⟩) | (intro h; exfalso; simp [areNamesB, ‹namesB names = false›] at h)
    by_cases k4 : kind = 4
    · subst k4
      have he := shape_4 (n := ⟨4, 0, text, names, kids⟩) (d := d) rfl
      have Hf := Lib.hid he
      clear he
      go_enter Try.func133, Try.ntmps133
      go_wp2_with (first | (go_at_call 131; refine (inRange_ok _ _ _ _).mono ?_; rintro e w' ⟨rfl, rfl⟩) | (go_at_call 170; refine (validText_ok _ _ Htx.out).mono ?_; rintro e w' ⟨rfl, rfl⟩) | (go_at_call 132; refine (names_ok _ _ _ _ (Hns.out.ext ((Ext.refl nil w).alloc _) (fun _ _ h => h))).mono ?_; rintro e w' ⟨rfl, hg⟩; have hcc := bcell hg) | (go_at_call 171; refine (kids_of _ Ih.out d _ _ _ (by have := Hd.out; omega) (by have := Hdep.out; omega) (Hn.out.ext (by repeat (first | exact Ext.refl _ _ | refine Ext.trans ?_ (by assumption) | refine Ext.alloc ?_ _)) (fun _ _ h => h))).mono ?_; rintro e w'' ⟨rfl, hg2⟩))
      all_goals (go_ret; refine ⟨?_, (by repeat (first | with_reducible exact Ext.refl _ _ | with_reducible refine Ext.trans ?_ (by assumption) | with_reducible refine Ext.drew ?_ | with_reducible refine Ext.drewN ?_ _ | with_reducible refine Ext.alloc ?_ _ | with_reducible refine Ext.setNew ?_ (by simp; done) _ | with_reducible refine Ext.setNew ?_ (by simp; omega) _))⟩; rw [Hf.out])
      all_goals clear Hn Hns Htx Ih Hdep Hd Hf
      all_goals (simp_all [-List.length_eq_zero_iff])
      all_goals first | omega | rfl | (intro _; exact ⟨by simp only [areNamesB, ‹namesB names = true›]; simp; omega, by omega⟩) | (intro h; exfalso; simp [areNamesB, ‹namesB names = false›] at h)
    have k4 : (kind != 4) = true := by simpa using k4
    by_cases h2 : 0 < names.length
    · have hz : shapeB ⟨kind, 0, text, names, kids⟩ (d + 1) = false := shape_names (by simpa using k4) h2
      have Hf := Lib.hid hz
      clear hz
      go_enter Try.func133, Try.ntmps133
      go_wp2_with (first | (go_at_call 131; refine (inRange_ok _ _ _ _).mono ?_; rintro e w' ⟨rfl, rfl⟩) | (go_at_call 170; refine (validText_ok _ _ Htx.out).mono ?_; rintro e w' ⟨rfl, rfl⟩) | (go_at_call 132; refine (names_ok _ _ _ _ (Hns.out.ext ((Ext.refl nil w).alloc _) (fun _ _ h => h))).mono ?_; rintro e w' ⟨rfl, hg⟩; have hcc := bcell hg) | (go_at_call 171; refine (kids_of _ Ih.out d _ _ _ (by have := Hd.out; omega) (by have := Hdep.out; omega) (Hn.out.ext (by repeat (first | exact Ext.refl _ _ | refine Ext.trans ?_ (by assumption) | refine Ext.alloc ?_ _)) (fun _ _ h => h))).mono ?_; rintro e w'' ⟨rfl, hg2⟩))
      all_goals (go_ret; refine ⟨?_, (by repeat (first | with_reducible exact Ext.refl _ _ | with_reducible refine Ext.trans ?_ (by assumption) | with_reducible refine Ext.drew ?_ | with_reducible refine Ext.drewN ?_ _ | with_reducible refine Ext.alloc ?_ _ | with_reducible refine Ext.setNew ?_ (by simp; done) _ | with_reducible refine Ext.setNew ?_ (by simp; omega) _))⟩; rw [Hf.out])
      all_goals clear Hn Hns Htx Ih Hdep Hd Hf
      all_goals (simp_all [-List.length_eq_zero_iff])
      all_goals first | omega | rfl | (intro _; exact ⟨by simp only [areNamesB, ‹namesB names = true›]; simp; omega, by omega⟩) | (intro h; exfalso; simp [areNamesB, ‹namesB names = false›] at h)
    have h2 : names.length ≤ 0 := by omega
    by_cases k3 : kind = 3
    · subst k3
      have he := shape_3 (n := ⟨3, 0, text, names, kids⟩) (d := d) rfl
      have Hf := Lib.hid he
      clear he
      go_enter Try.func133, Try.ntmps133
      go_wp2_with (first | (go_at_call 131; refine (inRange_ok _ _ _ _).mono ?_; rintro e w' ⟨rfl, rfl⟩) | (go_at_call 170; refine (validText_ok _ _ Htx.out).mono ?_; rintro e w' ⟨rfl, rfl⟩) | (go_at_call 132; refine (names_ok _ _ _ _ (Hns.out.ext ((Ext.refl nil w).alloc _) (fun _ _ h => h))).mono ?_; rintro e w' ⟨rfl, hg⟩; have hcc := bcell hg) | (go_at_call 171; refine (kids_of _ Ih.out d _ _ _ (by have := Hd.out; omega) (by have := Hdep.out; omega) (Hn.out.ext (by repeat (first | exact Ext.refl _ _ | refine Ext.trans ?_ (by assumption) | refine Ext.alloc ?_ _)) (fun _ _ h => h))).mono ?_; rintro e w'' ⟨rfl, hg2⟩))
      all_goals (go_ret; refine ⟨?_, (by repeat (first | with_reducible exact Ext.refl _ _ | with_reducible refine Ext.trans ?_ (by assumption) | with_reducible refine Ext.drew ?_ | with_reducible refine Ext.drewN ?_ _ | with_reducible refine Ext.alloc ?_ _ | with_reducible refine Ext.setNew ?_ (by simp; done) _ | with_reducible refine Ext.setNew ?_ (by simp; omega) _))⟩; rw [Hf.out])
      all_goals clear Hn Hns Htx Ih Hdep Hd Hf
      all_goals (simp_all [-List.length_eq_zero_iff])
      all_goals first | omega | rfl | (intro _; exact ⟨by simp only [areNamesB, ‹namesB names = true›]; simp; omega, by omega⟩) | (intro h; exfalso; simp [areNamesB, ‹namesB names = false›] at h)
    by_cases k0 : kind = 0
    · subst k0
      have he := shape_0 (n := ⟨0, 0, text, names, kids⟩) (d := d) rfl
      by_cases h3 : 0 < kids.length
      · have := h3
        have Hf := Lib.hid he
        clear he
        go_enter Try.func133, Try.ntmps133
        go_wp2_with (first | (go_at_call 131; refine (inRange_ok _ _ _ _).mono ?_; rintro e w' ⟨rfl, rfl⟩) | (go_at_call 170; refine (validText_ok _ _ Htx.out).mono ?_; rintro e w' ⟨rfl, rfl⟩) | (go_at_call 132; refine (names_ok _ _ _ _ (Hns.out.ext ((Ext.refl nil w).alloc _) (fun _ _ h => h))).mono ?_; rintro e w' ⟨rfl, hg⟩; have hcc := bcell hg) | (go_at_call 171; refine (kids_of _ Ih.out d _ _ _ (by have := Hd.out; omega) (by have := Hdep.out; omega) (Hn.out.ext (by repeat (first | exact Ext.refl _ _ | refine Ext.trans ?_ (by assumption) | refine Ext.alloc ?_ _)) (fun _ _ h => h))).mono ?_; rintro e w'' ⟨rfl, hg2⟩))
        all_goals (go_ret; refine ⟨?_, (by repeat (first | with_reducible exact Ext.refl _ _ | with_reducible refine Ext.trans ?_ (by assumption) | with_reducible refine Ext.drew ?_ | with_reducible refine Ext.drewN ?_ _ | with_reducible refine Ext.alloc ?_ _ | with_reducible refine Ext.setNew ?_ (by simp; done) _ | with_reducible refine Ext.setNew ?_ (by simp; omega) _))⟩; rw [Hf.out])
        all_goals clear Hn Hns Htx Ih Hdep Hd Hf
        all_goals (simp_all [-List.length_eq_zero_iff])
        all_goals first | omega | rfl | (intro _; exact ⟨by simp only [areNamesB, ‹namesB names = true›]; simp; omega, by omega⟩) | (intro h; exfalso; simp [areNamesB, ‹namesB names = false›] at h)
      · have h3 : kids.length ≤ 0 := by omega
        have Hf := Lib.hid he
        clear he
        go_enter Try.func133, Try.ntmps133
        go_wp2_with (first | (go_at_call 131; refine (inRange_ok _ _ _ _).mono ?_; rintro e w' ⟨rfl, rfl⟩) | (go_at_call 170; refine (validText_ok _ _ Htx.out).mono ?_; rintro e w' ⟨rfl, rfl⟩) | (go_at_call 132; refine (names_ok _ _ _ _ (Hns.out.ext ((Ext.refl nil w).alloc _) (fun _ _ h => h))).mono ?_; rintro e w' ⟨rfl, hg⟩; have hcc := bcell hg) | (go_at_call 171; refine (kids_of _ Ih.out d _ _ _ (by have := Hd.out; omega) (by have := Hdep.out; omega) (Hn.out.ext (by repeat (first | exact Ext.refl _ _ | refine Ext.trans ?_ (by assumption) | refine Ext.alloc ?_ _)) (fun _ _ h => h))).mono ?_; rintro e w'' ⟨rfl, hg2⟩))
        all_goals (go_ret; refine ⟨?_, (by repeat (first | with_reducible exact Ext.refl _ _ | with_reducible refine Ext.trans ?_ (by assumption) | with_reducible refine Ext.drew ?_ | with_reducible refine Ext.drewN ?_ _ | with_reducible refine Ext.alloc ?_ _ | with_reducible refine Ext.setNew ?_ (by simp; done) _ | with_reducible refine Ext.setNew ?_ (by simp; omega) _))⟩; rw [Hf.out])
        all_goals clear Hn Hns Htx Ih Hdep Hd Hf
        all_goals (simp_all [-List.length_eq_zero_iff])
        all_goals first | omega | rfl | (intro _; exact ⟨by simp only [areNamesB, ‹namesB names = true›]; simp; omega, by omega⟩) | (intro h; exfalso; simp [areNamesB, ‹namesB names = false›] at h)
    have kk : kind < 0 ∨ 4 < kind := by simp at k1 k2 k4; omega
    have hz : shapeB ⟨kind, 0, text, names, kids⟩ (d + 1) = false := shape_other kk
    rcases kk with kk | kk
    · by_cases h3 : 0 < kids.length
      · have := h3
        have Hf := Lib.hid hz
        clear hz
        go_enter Try.func133, Try.ntmps133
        go_wp2_with (first | (go_at_call 131; refine (inRange_ok _ _ _ _).mono ?_; rintro e w' ⟨rfl, rfl⟩) | (go_at_call 170; refine (validText_ok _ _ Htx.out).mono ?_; rintro e w' ⟨rfl, rfl⟩) | (go_at_call 132; refine (names_ok _ _ _ _ (Hns.out.ext ((Ext.refl nil w).alloc _) (fun _ _ h => h))).mono ?_; rintro e w' ⟨rfl, hg⟩; have hcc := bcell hg) | (go_at_call 171; refine (kids_of _ Ih.out d _ _ _ (by have := Hd.out; omega) (by have := Hdep.out; omega) (Hn.out.ext (by repeat (first | exact Ext.refl _ _ | refine Ext.trans ?_ (by assumption) | refine Ext.alloc ?_ _)) (fun _ _ h => h))).mono ?_; rintro e w'' ⟨rfl, hg2⟩))
        all_goals (go_ret; refine ⟨?_, (by repeat (first | with_reducible exact Ext.refl _ _ | with_reducible refine Ext.trans ?_ (by assumption) | with_reducible refine Ext.drew ?_ | with_reducible refine Ext.drewN ?_ _ | with_reducible refine Ext.alloc ?_ _ | with_reducible refine Ext.setNew ?_ (by simp; done) _ | with_reducible refine Ext.setNew ?_ (by simp; omega) _))⟩; rw [Hf.out])
        all_goals clear Hn Hns Htx Ih Hdep Hd Hf
        all_goals (simp_all [-List.length_eq_zero_iff])
        all_goals first | omega | rfl | (intro _; exact ⟨by simp only [areNamesB, ‹namesB names = true›]; simp; omega, by omega⟩) | (intro h; exfalso; simp [areNamesB, ‹namesB names = false›] at h)
      · have h3 : kids.length ≤ 0 := by omega
        have Hf := Lib.hid hz
        clear hz
        go_enter Try.func133, Try.ntmps133
        go_wp2_with (first | (go_at_call 131; refine (inRange_ok _ _ _ _).mono ?_; rintro e w' ⟨rfl, rfl⟩) | (go_at_call 170; refine (validText_ok _ _ Htx.out).mono ?_; rintro e w' ⟨rfl, rfl⟩) | (go_at_call 132; refine (names_ok _ _ _ _ (Hns.out.ext ((Ext.refl nil w).alloc _) (fun _ _ h => h))).mono ?_; rintro e w' ⟨rfl, hg⟩; have hcc := bcell hg) | (go_at_call 171; refine (kids_of _ Ih.out d _ _ _ (by have := Hd.out; omega) (by have := Hdep.out; omega) (Hn.out.ext (by repeat (first | exact Ext.refl _ _ | refine Ext.trans ?_ (by assumption) | refine Ext.alloc ?_ _)) (fun _ _ h => h))).mono ?_; rintro e w'' ⟨rfl, hg2⟩))
        all_goals (go_ret; refine ⟨?_, (by repeat (first | with_reducible exact Ext.refl _ _ | with_reducible refine Ext.trans ?_ (by assumption) | with_reducible refine Ext.drew ?_ | with_reducible refine Ext.drewN ?_ _ | with_reducible refine Ext.alloc ?_ _ | with_reducible refine Ext.setNew ?_ (by simp; done) _ | with_reducible refine Ext.setNew ?_ (by simp; omega) _))⟩; rw [Hf.out])
        all_goals clear Hn Hns Htx Ih Hdep Hd Hf
        all_goals (simp_all [-List.length_eq_zero_iff])
        all_goals first | omega | rfl | (intro _; exact ⟨by simp only [areNamesB, ‹namesB names = true›]; simp; omega, by omega⟩) | (intro h; exfalso; simp [areNamesB, ‹namesB names = false›] at h)
    · have := kk
      have Hf := Lib.hid hz
      clear hz
      go_enter Try.func133, Try.ntmps133
      go_wp2_with (first | (go_at_call 131; refine (inRange_ok _ _ _ _).mono ?_; rintro e w' ⟨rfl, rfl⟩) | (go_at_call 170; refine (validText_ok _ _ Htx.out).mono ?_; rintro e w' ⟨rfl, rfl⟩) | (go_at_call 132; refine (names_ok _ _ _ _ (Hns.out.ext ((Ext.refl nil w).alloc _) (fun _ _ h => h))).mono ?_; rintro e w' ⟨rfl, hg⟩; have hcc := bcell hg) | (go_at_call 171; refine (kids_of _ Ih.out d _ _ _ (by have := Hd.out; omega) (by have := Hdep.out; omega) (Hn.out.ext (by repeat (first | exact Ext.refl _ _ | refine Ext.trans ?_ (by assumption) | refine Ext.alloc ?_ _)) (fun _ _ h => h))).mono ?_; rintro e w'' ⟨rfl, hg2⟩))
      all_goals (go_ret; refine ⟨?_, (by repeat (first | with_reducible exact Ext.refl _ _ | with_reducible refine Ext.trans ?_ (by assumption) | with_reducible refine Ext.drew ?_ | with_reducible refine Ext.drewN ?_ _ | with_reducible refine Ext.alloc ?_ _ | with_reducible refine Ext.setNew ?_ (by simp; done) _ | with_reducible refine Ext.setNew ?_ (by simp; omega) _))⟩; rw [Hf.out])
      all_goals clear Hn Hns Htx Ih Hdep Hd Hf
      all_goals (simp_all [-List.length_eq_zero_iff])
      all_goals first | omega | rfl | (intro _; exact ⟨by simp only [areNamesB, ‹namesB names = true›]; simp; omega, by omega⟩) | (intro h; exfalso; simp [areNamesB, ‹namesB names = false›] at h)
def CountOk (n : Nd) : Prop := ∀ (v : Value) (w : World), n.count ≤ 1000000 → NodeR w any n v →
    Calls Try.prog 134 #[v] w fun e w' => e = .returned (.int .i64 n.count) ∧ Grow w w'
theorem countL_take (l : List Nd) (k : Nat) : countL (l.take k) ≤ countL l := by
  induction l generalizing k with
  | nil => simp
  | cons a l ih => cases k with
    | zero => simp [countL]
    | succ k => simp only [List.take_succ_cons, countL]; have := ih k; omega
theorem count_ok : ∀ n, CountOk n := by
  refine Nd.ind' CountOk ?_
  intro n ih v w hb hn
  have hb' : countL n.kids ≤ 1000000 := by rw [Nd.count_eq] at hb; omega
  have Ih := Lib.hid ih
  have Hb := Lib.hid hb
  clear ih hb
  obtain ⟨na, nc, ka, kc, rfl, hc⟩ := hn
  obtain ⟨htx, hns, hks⟩ := hc.parts
  have hkl : n.kids.length ≤ 9223372036854775807 := hks.2.1
  have Hks := Lib.hid hks
  clear htx hns hks hc
  unfold nodeV at *
  go_enter Try.func134, Try.ntmps134
  go_wp2
  go_loopw [3, 4] (fun t i wr => Grow (w.alloc (.cells #[.int .i64 n.kind, .int .i64 n.num, .string n.text, .slice na n.names.length nc, .slice ka n.kids.length kc] 30)) wr ∧ ∃ k : Nat, k ≤ n.kids.length ∧ i = .int .i64 k ∧ t = .int .i64 ((1 + countL (n.kids.take k) : Nat) : Int)) (fun _ i _ => n.kids.length - (intOf i).toNat)
  case atStart => exact ⟨Ext.refl _ _, 0, Nat.zero_le _, rfl, by simp [countL]⟩
  case round =>
    obtain ⟨hg, k, hk, rfl, rfl⟩ := hrel
    have hcc := bcell hg
    have hg0 : Grow w wr := ((Ext.refl _ _).alloc _).trans hg
    have hct := countL_take n.kids k
    by_cases hlt : k < n.kids.length
    · obtain ⟨_, _, hks⟩ := (Hks.out).ext hg0 (fun _ _ h => h)
      rcases hks with hks | ⟨bk, ok, rfl, _, hkr⟩
      · simp [hks] at hlt
      obtain ⟨na', nc', ka', kc', c0, c1, c2, c3, c4, hkc⟩ := hkr.get k hlt
      have Hkc : Hid (NodeR wr any n.kids[k] (nodeV n.kids[k] na' nc' ka' kc')) := Lib.hid ⟨_, _, _, _, rfl, hkc⟩
      have hct' := countL_take n.kids (k + 1)
      rw [take_snoc' _ _ hlt, countL_snoc] at hct'
      clear hkr hkc
      go_wp2_with (go_at_call 134; refine (Ih.out _ (List.getElem_mem hlt) _ _ (by omega) Hkc.out).mono ?_; rintro e w2 ⟨rfl, hg2⟩)
      go_roundw
      case rel => exact ⟨hg.trans hg2, k + 1, by omega, by go_num, by rw [take_snoc' _ _ hlt, countL_snoc]; go_num⟩
      case measure => simp [intOf]; omega
    · have hke : k = n.kids.length := by omega
      have Hke := Lib.hid hke
      clear hke
      go_wp2
      go_ret
      exact ⟨by rw [Nd.count_eq, Hke.out]; simp, hg0⟩
theorem validNode_ok (n : Nd) (v : Value) (w : World) (hn : NodeR w any n v) :
    Calls Try.prog 62 #[v] w fun e w' => e = .returned (.bool (validB n)) ∧ Grow w w' := by
  have Hn := Lib.hid hn
  obtain ⟨na, nc, ka, kc, rfl, hc⟩ := hn
  clear hc
  unfold nodeV at *
  cases hs : shapeB n 5
  · have Hs := Lib.hid hs
    have Hv : Hid (validB n = false) := Lib.hid (by simp [validB, hs])
    clear hs
    go_enter Try.func62, Try.ntmps62
    go_wp2_with (go_at_call 133; refine (shape_ok n 5 _ _ _ (by omega) (by omega) ((Hn.out).ext ((Ext.refl nil w).alloc _) (fun _ _ h => h))).mono ?_; rintro e w2 ⟨rfl, hg2⟩; simp only [Hs.out])
    go_ret
    exact ⟨by simp [Hv.out], (by repeat (first | with_reducible exact Ext.refl _ _ | with_reducible refine Ext.trans ?_ (by assumption) | with_reducible refine Ext.drew ?_ | with_reducible refine Ext.drewN ?_ _ | with_reducible refine Ext.alloc ?_ _ | with_reducible refine Ext.setNew ?_ (by simp; done) _ | with_reducible refine Ext.setNew ?_ (by simp; omega) _))⟩
  · have Hs := Lib.hid hs
    have hcn : n.count ≤ 1555 := Nat.le_trans (count_le 5 n hs) (cb_le 5 (by omega))
    have Hv : Hid (validB n = decide (n.count ≤ 40)) := Lib.hid (by simp [validB, hs])
    clear hs
    go_enter Try.func62, Try.ntmps62
    go_wp2_with (first | (go_at_call 133; refine (shape_ok n 5 _ _ _ (by omega) (by omega) ((Hn.out).ext ((Ext.refl nil w).alloc _) (fun _ _ h => h))).mono ?_; rintro e w2 ⟨rfl, hg2⟩; simp only [Hs.out]; have hcc := bcell hg2) | (go_at_call 134; refine (count_ok n _ _ (by omega) ((Hn.out).grow (by repeat (first | with_reducible exact Ext.refl _ _ | with_reducible refine Ext.trans ?_ (by assumption) | with_reducible refine Ext.drew ?_ | with_reducible refine Ext.drewN ?_ _ | with_reducible refine Ext.alloc ?_ _ | with_reducible refine Ext.setNew ?_ (by simp; done) _ | with_reducible refine Ext.setNew ?_ (by simp; omega) _)))).mono ?_; rintro e w3 ⟨rfl, hg3⟩))
    all_goals go_ret
    all_goals exact ⟨by rw [Hv.out]; simp; omega, (by repeat (first | with_reducible exact Ext.refl _ _ | with_reducible refine Ext.trans ?_ (by assumption) | with_reducible refine Ext.drew ?_ | with_reducible refine Ext.drewN ?_ _ | with_reducible refine Ext.alloc ?_ _ | with_reducible refine Ext.setNew ?_ (by simp; done) _ | with_reducible refine Ext.setNew ?_ (by simp; omega) _))⟩
end Go.Proofs.Ytgfnmhfdmmnaoaa
namespace Go.Proofs.Ytgfnmhfdmmnaoaa.Eng
open Go Go.RowKit
attribute [local simp] big size_mk ASt.pay Option.map_map Function.comp_def awant aop acall ado aev ofVal ofVal0 ASt.put ASt.add ASt.turn ASt.kill abox aalloc astore aload aloadD astoreD idOf ASt.at cellsTo afieldAddr afield aindexAddr aindex alen abin aint acmp astr aun apick aextract anil aslice abound abuild afill abuildSlice asCells aps avCells over upd aappend asrc amax amin aconv mkSt slots rowsOf_cons rowsOf_nil usedOf_cons usedOf_nil ZK.av List.replicate ASt.back ASt.addL ASt.killL nodeA nodeT nodeTL_eq nodeL_eq strsE_get strsE_len intsE_get intsE_len strsE_at intsE_at tab2 tab3 tab4 tab5 tab6 tab7 tab8 tab9 tab10 tab11 tab12 tab13 tab14 tab15 tab16 tab17 tab18 tab19 tab21 tab22 tab23 tab24 tab25 tab26 tab27 tab28 tab29 tab30 tab39 tab40 tab41 tab42 tab43 tab47 tab48 tab55 tab56 tab57 tab60 tab61 tab62 tab73 tab74 tab75 tab85 tab92 tab115 tab116 tab143 tab144 tab145 tab154 tab155 tab170 tab175 tab182 tab197 tab198 tab203 tab204 tab205 tab207 tab208 tab209
theorem repL5 {w : World} {ρ : Cx} {a b c d e : AV} {v0 v1 v2 v3 v4 : Value} (h0 : Rep w ρ a v0) (h1 : Rep w ρ b v1) (h2 : Rep w ρ c v2) (h3 : Rep w ρ d v3) (h4 : Rep w ρ e v4) : RepL w ρ [a, b, c, d, e] [v0, v1, v2, v3, v4] := by
  unfold RepL; refine ⟨_, _, rfl, h0, ?_⟩
  unfold RepL; refine ⟨_, _, rfl, h1, ?_⟩
  unfold RepL; refine ⟨_, _, rfl, h2, ?_⟩
  unfold RepL; refine ⟨_, _, rfl, h3, ?_⟩
  unfold RepL; refine ⟨_, _, rfl, h4, ?_⟩
  unfold RepL; rfl
theorem repL5_inv {w : World} {ρ : Cx} {a b c d e : AV} {vs : List Value} (h : RepL w ρ [a, b, c, d, e] vs) : ∃ v0 v1 v2 v3 v4, vs = [v0, v1, v2, v3, v4] ∧ Rep w ρ a v0 ∧ Rep w ρ b v1 ∧ Rep w ρ c v2 ∧ Rep w ρ d v3 ∧ Rep w ρ e v4 := by
  unfold RepL at h; obtain ⟨v0, vs, rfl, h0, h⟩ := h
  unfold RepL at h; obtain ⟨v1, vs, rfl, h1, h⟩ := h
  unfold RepL at h; obtain ⟨v2, vs, rfl, h2, h⟩ := h
  unfold RepL at h; obtain ⟨v3, vs, rfl, h3, h⟩ := h
  unfold RepL at h; obtain ⟨v4, vs, rfl, h4, h⟩ := h
  unfold RepL at h; subst h
  exact ⟨_, _, _, _, _, rfl, h0, h1, h2, h3, h4⟩
theorem cells_of {t : TypeId} {i : TI} (h : tab t = some i) : (Try.prog).cellsOf t = i.size := by
  obtain ⟨d, j, hs⟩ := TI.says (tab_ok t i h)
  exact hs.cells
theorem ACR.row {f : FuncId} {args : List AV} {c : Nat} {p : Nd → Prop} (h : ACR Try.prog f args c (R0 p) (R1 p)) : ACR Try.prog f args c (fun _ => False) (R1 p) :=
  ⟨h.1, fun w L S rb k vs g0 h1 h2 h3 => (h.2 w L S rb k vs g0 h1 h2 h3).mono fun e w' ⟨v, S', k1, k2, k3, k4, k5, k6⟩ => ⟨v, S', k1, k2, k3, k4, k5, .inr (by
    rcases k6 with ⟨r, q1, n, hs, hn, rfl⟩ | q
    · unfold nodeT at q1
      rw [nodeTL_eq, hn] at q1
      obtain ⟨vs, rfl, hone, hl⟩ := rep_agg.1 q1
      obtain ⟨v0, v1, v2, v3, v4, rfl, r0, r1, r2, r3, r4⟩ := repL5_inv hl
      obtain ⟨a, c', rfl, ht, _⟩ := rep_view.1 r3
      have hc := ht rfl
      simp only [strsE, List.map_nil, List.length_nil] at hc
      subst hc
      have le : ∀ id, Cx.Le w' (pureC nil S' none) w' (oneC S' id (.slice a 0 0) 0) := fun id => ⟨fun b hb => ⟨hb, fun _ => rfl⟩, fun b hb => False.elim hb, fun id' hid' => False.elim hid', fun _ h => by cases h⟩
      refine ⟨nodeN n, namesRow n, .slice a 0 0, fun id => ?_, ⟨⟨cells_of tab9, fun g hg => by cases a <;> simp [blk] at hg⟩, ?_, (fun h => by cases h), [], .inl ?_, ?_, fun u hu => by cases hu⟩, fun g hg => by cases a <;> simp [blk] at hg, n, hs, rfl, rfl⟩
      · have hl0 : (namesRow n).es.length = 0 := by simp [namesRow, hn, strsE]
        rw [hl0]
        unfold nodeN
        rw [hn]
        refine rep_agg.2 ⟨_, rfl, hone, repL5 (r0.le (le id)) (r1.le (le id)) (r2.le (le id)) (rep_own.2 ⟨rfl, by simp [oneC], ⟨a, 0, rfl, .inl rfl⟩, fun u hu _ => by simp [oneC] at hu; exact hu⟩) (r4.le (le id))⟩
      · simp [namesRow, hn, strsE]
      · simp [namesRow, hn, strsE]
      · simp only [namesRow, hn, strsE, List.map_nil, List.flatten_nil]; unfold RepL; rfl
    · exact q)⟩⟩
theorem validNode_AC (n : Nd) (t : VC) : AC Try.prog 62 [nodeT t n] 0 (fun r => r = .bool (validB n)) := by
  refine AC.ofGrow (enters_of Try.func62 (by kernel_rfl) (by kernel_rfl)) (fun w L S rb vs h => ?_)
  unfold RepL at h
  obtain ⟨v, vs', rfl, h1, h2⟩ := h
  unfold RepL at h2
  subst h2
  refine (validNode_ok n v w (node_of_rep h1)).mono ?_
  rintro e w' ⟨rfl, hg⟩
  exact ⟨_, _, rfl, hg, rep_bool.2 rfl, rfl⟩
end Go.Proofs.Ytgfnmhfdmmnaoaa.Eng
namespace Go.Proofs.Ytgfnmhfdmmnaoaa.Eng
open Go Go.RowKit
inductive WkE : List (List AV) → List (List AV) → Prop
  | nil : WkE [] []
  | cons {c d : List AV} {cs ds : List (List AV)} (h : WkL c d) (t : WkE cs ds) : WkE (c :: cs) (d :: ds)
theorem WkL.length {cs ds : List AV} (h : WkL cs ds) : ds.length = cs.length := by
  induction h with
  | nil => rfl
  | cons _ _ ih => simp [ih]
theorem WkE.length {cs ds : List (List AV)} (h : WkE cs ds) : ds.length = cs.length := by
  induction h with
  | nil => rfl
  | cons _ _ ih => simp [ih]
theorem WkE.sz {cs ds : List (List AV)} {n : Nat} (h : WkE cs ds) (hs : ∀ e ∈ cs, e.length = n) : ∀ e ∈ ds, e.length = n := by
  induction h with
  | nil => intro e he; cases he
  | cons h _ ih =>
    intro e he
    rcases List.mem_cons.1 he with rfl | he
    · rw [h.length]; exact hs _ (by simp)
    · exact ih (fun e he => hs e (by simp [he])) e he
theorem WkL.cells {cs ds : List AV} (h : WkL cs ds) : ∀ {w : World} {ρ : Cx} {b o : Nat}, RepC w ρ b o cs → RepC w ρ b o ds := by
  induction h with
  | nil => exact fun h => h
  | cons h _ ih =>
    intro w ρ b o hr
    unfold RepC at hr ⊢
    obtain ⟨⟨v, h1, h2, h3⟩, h4⟩ := hr
    exact ⟨⟨v, h1, h2, h _ _ _ h3⟩, ih h4⟩
theorem WkE.rows {cs ds : List (List AV)} (h : WkE cs ds) : ∀ {w : World} {ρ : Cx} {b o : Nat}, RepE w ρ b o cs → RepE w ρ b o ds := by
  induction h with
  | nil => exact fun h => h
  | cons h _ ih =>
    intro w ρ b o hr
    unfold RepE at hr ⊢
    exact ⟨h.cells hr.1, by rw [h.length]; exact ih hr.2⟩
theorem Wk.view {t : VC} {sz : Nat} {es ds : List (List AV)} (h : t ≠ .lent) (he : WkE es ds) : Wk (.view t sz es) (.view .loose sz ds) := fun _ ρ _ hr => by
  obtain ⟨a, c, h1, h2, h3, h4, h5, h6⟩ := rep_view.1 hr
  refine rep_view.2 ⟨a, c, by rw [he.length]; exact h1, (fun e => by cases e), by rw [he.length]; exact h3, by rw [he.length]; exact h4, he.sz h5, ?_⟩
  rcases h6 with rfl | ⟨b, o, k1, k2, k3⟩
  · cases he; exact .inl rfl
  · exact .inr ⟨b, o, k1, by cases t <;> first | exact absurd rfl h | exact k2 | exact k2.1, he.rows k3⟩
theorem WkE.refl : ∀ (es : List (List AV)), WkE es es
  | [] => .nil
  | e :: es => .cons (WkL.refl e) (WkE.refl es)
theorem WkE.append {a b c d : List (List AV)} (h : WkE a b) (k : WkE c d) : WkE (a ++ c) (b ++ d) := by
  induction h with
  | nil => exact k
  | cons h _ ih => exact .cons h ih
end Go.Proofs.Ytgfnmhfdmmnaoaa.Eng
namespace Go.Proofs.Ytgfnmhfdmmnaoaa.Eng
open Go Go.RowKit
attribute [local simp] big size_mk ASt.pay Option.map_map Function.comp_def awant aop acall ado aev ofVal ofVal0 ASt.put ASt.add ASt.turn ASt.kill abox aalloc astore aload aloadD astoreD idOf ASt.at cellsTo afieldAddr afield aindexAddr aindex alen abin aint acmp astr aun apick aextract anil aslice abound abuild afill abuildSlice asCells aps avCells over upd aappend asrc amax amin aconv mkSt slots rowsOf_cons rowsOf_nil usedOf_cons usedOf_nil ZK.av List.replicate ASt.back ASt.addL ASt.killL nodeA nodeT nodeTL_eq nodeL_eq strsE_get strsE_len intsE_get intsE_len strsE_at intsE_at tab2 tab3 tab4 tab5 tab6 tab7 tab8 tab9 tab10 tab11 tab12 tab13 tab14 tab15 tab16 tab17 tab18 tab19 tab21 tab22 tab23 tab24 tab25 tab26 tab27 tab28 tab29 tab30 tab39 tab40 tab41 tab42 tab43 tab47 tab48 tab55 tab56 tab57 tab60 tab61 tab62 tab73 tab74 tab75 tab85 tab92 tab115 tab116 tab143 tab144 tab145 tab154 tab155 tab170 tab175 tab182 tab197 tab198 tab203 tab204 tab205 tab207 tab208 tab209
theorem parts_len {n : Nd} (h : partsB n = true) : n.names.length ≤ 6 ∧ n.kids.length ≤ 6 := by
  unfold partsB at h
  simp only [Bool.and_eq_true, Bool.or_eq_true, decide_eq_true_eq] at h
  obtain ⟨⟨⟨h1, h2⟩, h3⟩, h4⟩ := h
  by_cases k4 : n.kind = 4
  · rw [if_neg (by omega), if_neg (by omega), if_neg (by omega), if_neg (by omega), if_pos k4] at h4
    unfold areNamesB at h4
    simp only [Bool.and_eq_true, decide_eq_true_eq] at h4
    omega
  · have : n.names.length = 0 := by rcases h3 with h3 | h3; exact absurd h3 k4; exact h3
    refine ⟨by omega, ?_⟩
    rw [if_neg k4] at h4
    split at h4
    · simp at h4; rw [h4]; simp
    split at h4
    · simp only [Bool.and_eq_true, decide_eq_true_eq] at h4; omega
    split at h4
    · simp only [Bool.and_eq_true, decide_eq_true_eq] at h4; omega
    split at h4
    · simp only [decide_eq_true_eq] at h4; omega
    · cases h4
theorem repL2_inv {w : World} {ρ : Cx} {a b : AV} {vs : List Value} (h : RepL w ρ [a, b] vs) : ∃ v0 v1, vs = [v0, v1] ∧ Rep w ρ a v0 ∧ Rep w ρ b v1 := by
  unfold RepL at h; obtain ⟨v0, vs, rfl, h0, h⟩ := h
  unfold RepL at h; obtain ⟨v1, vs, rfl, h1, h⟩ := h
  unfold RepL at h; subst h
  exact ⟨_, _, rfl, h0, h1⟩
theorem repL1_inv {w : World} {ρ : Cx} {a : AV} {vs : List Value} (h : RepL w ρ [a] vs) : ∃ v0, vs = [v0] ∧ Rep w ρ a v0 := by
  unfold RepL at h; obtain ⟨v0, vs, rfl, h0, h⟩ := h
  unfold RepL at h; subst h
  exact ⟨_, rfl, h0⟩
theorem repL2 {w : World} {ρ : Cx} {a b : AV} {v0 v1 : Value} (h0 : Rep w ρ a v0) (h1 : Rep w ρ b v1) : RepL w ρ [a, b] [v0, v1] := by
  unfold RepL; refine ⟨_, _, rfl, h0, ?_⟩
  unfold RepL; refine ⟨_, _, rfl, h1, ?_⟩
  unfold RepL; rfl
theorem ValidNode_AC (n : Nd) (t : VC) : AC Try.prog 17 [nodeT t n] 0 (fun r => r = .bool (validB n)) := by
  refine AC.ofGrow (enters_of Try.func17 (by kernel_rfl) (by kernel_rfl)) (fun w L S rb vs h => ?_)
  obtain ⟨v, rfl, h1⟩ := repL1_inv h
  refine (ValidNode_ok n v w (node_of_rep h1)).mono ?_
  rintro e w' ⟨rfl, hg⟩
  exact ⟨_, _, rfl, hg, rep_bool.2 rfl, rfl⟩
theorem shapeL_mem : ∀ {l : List Nd} {d : Nat}, shapeL l d = true → ∀ k ∈ l, shapeB k d = true
  | [], _, _, k, hk => by cases hk
  | x :: l, d, h, k, hk => by
    simp only [shapeL, Bool.and_eq_true] at h
    rcases List.mem_cons.1 hk with rfl | hk
    · exact h.1
    · exact shapeL_mem h.2 k hk
theorem shape_sml : ∀ n, ∀ d, shapeB n d = true → Sml n := Nd.ind' _ (fun n ih d h => by
  rw [shapeB_eq] at h
  simp only [Bool.and_eq_true] at h
  have hp := parts_len h.1.2
  exact .mk n (by omega) (by omega) (fun k hk => ih k hk (d - 1) (shapeL_mem h.2 k hk)))
theorem eqs_iff {a b : ByteArray} : eqs a b = true ↔ a = b := by
  rw [eqs_def, beq_iff_eq]
  exact ⟨toList_inj, fun h => by rw [h]⟩
theorem lts_lt (a b : ByteArray) : lts a b = lt a b := lts_def a b
theorem tup2_pur {a b : AV} (h : Pur a) (k : Pur b) : Pur (.tup [a, b]) := pur_tup (by
  simp only [List.forall_mem_cons, List.not_mem_nil, false_implies, implies_true, and_true]
  exact ⟨h, k⟩)
theorem bytes_clo {t : VC} (zs : List Int) : Clo (.view t 1 (bytesE zs)) := clo_view (by
  intro e he c hc
  obtain ⟨z, _, rfl⟩ := List.mem_map.1 he
  rw [List.mem_singleton.1 hc]; exact clo_int)
def namesR (xs : List ByteArray) : Row := ⟨false, 9, 1, strsE xs⟩
def zeroN : List AV := [.int .i64 0, .int .i64 0, .str ⟨#[]⟩, .view .tight 0 [], .view .tight 0 []]
def part (ks : List Nd) (i : Nat) : List (List AV) := (ks.take i).map nodeL ++ List.replicate (ks.length - i) zeroN
theorem sml_ind {p : Nd → Prop} (h : ∀ n, Sml n → (∀ k ∈ n.kids, p k) → p n) : ∀ n, Sml n → p n := Nd.ind' _ (fun n ih hs => h n hs (fun k hk => ih k hk (hs.kid hk)))
end Go.Proofs.Ytgfnmhfdmmnaoaa.Eng
namespace Go.Proofs.Ytgfnmhfdmmnaoaa
open Go Go.RowKit
def Row0 (w : World) (g : Nat) (L : List Value) (e : TypeId) : Prop := Hid (w.heap[g]? = some (.cells L.toArray e (0, 0)))
theorem Row0.out {w : World} {g : Nat} {L : List Value} {e : TypeId} (h : Row0 w g L e) : w.heap[g]? = some (.cells L.toArray e (0, 0)) := h
theorem Row0.lt {w : World} {g : Nat} {L : List Value} {e : TypeId} (h : Row0 w g L e) : g < w.heap.size := (Array.getElem?_eq_some_iff.1 h.out).1
theorem Row0.ext {X : Nat → Prop} {w w' : World} {g : Nat} {L : List Value} {e : TypeId} (h : Row0 w g L e) (hx : Ext X w w') (hg : ¬ X g) : Row0 w' g L e := by
  show w'.heap[g]? = _
  rw [hx.block g h.lt hg]; exact h
theorem Row0.cell {w : World} {g : Nat} {L : List Value} {e : TypeId} (h : Row0 w g L e) {j : Nat} {v : Value} (hj : L[j]? = some v) : w.cell? ⟨g, j, none⟩ = some v := by
  unfold World.cell?
  rw [h.out]
  simpa using hj
theorem addr_plus (b o j : Nat) : (⟨b, o, Option.none⟩ : Addr).add j = ⟨b, o + j, Option.none⟩ := by unfold Addr.add; split <;> simp_all
theorem splice_two {α : Type} (A Z xs X : List α) (o1 o2 : Nat) (h1 : A.length = o1) (h2 : o2 = o1 + xs.length) (h3 : xs.length + X.length ≤ Z.length) : splice (splice (A ++ Z) o1 xs) o2 X = A ++ (xs ++ (X ++ Z.drop (xs.length + X.length))) := by
  subst h1 h2
  have e1 : splice (A ++ Z) A.length xs = A ++ (xs ++ Z.drop xs.length) := by
    unfold splice
    rw [List.take_left, List.drop_append, Nat.add_sub_cancel_left, List.drop_of_length_le (by omega), List.nil_append]
  rw [e1, ← List.append_assoc]
  unfold splice
  rw [← List.length_append, List.take_left, List.drop_append, Nat.add_sub_cancel_left, List.drop_of_length_le (by omega), List.nil_append, List.drop_drop]
  simp
theorem splice_shift {α : Type} (L xs X : List α) (o m : Nat) (h1 : xs.length = m) (h2 : o + m + X.length ≤ L.length) : splice (splice L (o + m) X) o xs = L.take o ++ (xs ++ (X ++ L.drop (o + m + X.length))) := by
  subst h1
  unfold splice
  have e1 : List.take o (List.take (o + xs.length) L ++ (X ++ List.drop (o + xs.length + X.length) L)) = List.take o L := by
    rw [List.take_append_of_le_length (by rw [List.length_take]; omega), List.take_take]
    congr 1; omega
  have e2 : List.drop (o + xs.length) (List.take (o + xs.length) L ++ (X ++ List.drop (o + xs.length + X.length) L)) = X ++ List.drop (o + xs.length + X.length) L := by
    have : (List.take (o + xs.length) L).length = o + xs.length := by rw [List.length_take]; omega
    rw [List.drop_append, this, Nat.sub_self, List.drop_of_length_le (by omega), List.nil_append, List.drop_zero]
  rw [e1, e2]
variable {P : Program}
theorem run_copyN (w : World) (dT sT ty elem : TypeId) (sz g o dLen dCap b off sLen sCap : Nat) (L M : List Value) (e e' : TypeId) (cs : List Value)
    (hu : P.underlying dT = some (.slice elem)) (hs : (P.info? elem).map (·.size) = some sz) (hg : Row0 w g L e) (hb : Row0 w b M e') (hn : cs.length = Nat.min sLen dLen * sz)
    (hsrc : cs = (M.drop off).take cs.length) (hfit : o + cs.length ≤ L.length) (h1 : ∀ v ∈ cs, v.oneCell' = true) :
    (Builtin.copy_ #[dT, sT] ty #[.slice (some ⟨g, o, none⟩) dLen dCap, .slice (some ⟨b, off, none⟩) sLen sCap]).run P w = .ok (goInt (Nat.min sLen dLen : Nat)) (w.setRow g (splice L o cs).toArray) := by
  have hcell : ∀ j v, cs[j]? = some v → w.cell? ((⟨b, off, none⟩ : Addr).add j) = some v := fun j v hj => by
    rw [addr_plus]
    refine hb.cell ?_
    rw [hsrc] at hj
    have hjl : j < cs.length := by
      have := (List.getElem?_eq_some_iff.1 hj).1
      rw [List.length_take] at this; omega
    rw [List.getElem?_take_of_lt hjl, List.getElem?_drop] at hj
    exact hj
  have hl := run_loadCells_list (P := P) w ⟨b, off, none⟩ cs hcell
  have hst := run_storeCells_at P g o e cs 0 L.toArray w hg.out (by simpa using hfit) h1
  cases hq : P.info? elem with
  | none => simp [hq] at hs
  | some i =>
    have hi : i.size = sz := by simpa [hq] using hs
    simp only [Nat.add_zero] at hst
    simp [Builtin.copy_, run_underlying hu, Builtin.lenOf, Builtin.firstCells, sizeOf, typeInfo, hq, hi, ← hn, hl, hst, splice]
theorem Row0.set {w : World} {g : Nat} {L L' : List Value} {e : TypeId} (h : Row0 w g L e) : Row0 (w.setRow g L'.toArray) g L' e := setRow_heap w g _ _ e _ h.out
theorem setRow_ext (w : World) (g : Nat) (cs : Array Value) : Ext (fun k => k = g) w (w.setRow g cs) := ⟨rfl, rfl, rfl, by simp [World.setRow], fun k _ hk => setRow_other w g k cs hk⟩
theorem wpList_copyN {w : World} {ops : Array Oper} {rest : List Oper} {o : Oper} {a : Act} {Q : Exit → Act → World → Prop} (hgd : o.guard = none) (d s : Operand) (dT sT : TypeId)
    (ho : o.op = .call { callee := .builtin .copy, args := #[d, s], argTypes := #[dT, sT] }) (elem : TypeId) (sz : Nat) (hu : P.underlying dT = some (.slice elem)) (hs : (P.info? elem).map (·.size) = some sz)
    (g oo dLen dCap b off sLen sCap : Nat) (hd : a.eval d = .slice (some ⟨g, oo, none⟩) dLen dCap) (hv : a.eval s = .slice (some ⟨b, off, none⟩) sLen sCap) (L M : List Value) (e e' : TypeId) (hg : Row0 w g L e) (hb : Row0 w b M e') (cs : List Value)
    (hn : cs.length = Nat.min sLen dLen * sz) (hsrc : cs = (M.drop off).take cs.length) (hfit : oo + cs.length ≤ L.length) (h1 : ∀ v ∈ cs, v.oneCell' = true)
    (h : ∀ x w', Row0 w' g (splice L oo cs) e → Ext (fun k => k = g) w w' → wpList P ops Q rest (a.put o.dst x) w') : wpList P ops Q (o :: rest) a w := by
  refine wpList_plain hgd fun K hK => ?_
  have hrun := run_copyN (P := P) w dT sT o.type elem sz g oo dLen dCap b off sLen sCap L M e e' cs hu hs hg hb hn hsrc hfit h1
  unfold Oper.wp
  simp only [execOp, ho, resolve, invoke, builtin, Sem.run_bind, Sem.run_pure, Result.andThen_ok, List.map_toArray, List.map_cons, List.map_nil, hd, hv, hrun]
  exact hK _ _ (h _ _ hg.set (setRow_ext w g _))
theorem step_copyN {ops : Array Oper} {o : Oper} {a : Act} {w : World} {K : Act → World → Prop} {Q : Exit → Act → World → Prop} {E : Prop} (hgd : o.guard = none) (d s : Operand) (dT sT : TypeId)
    (ho : o.op = .call { callee := .builtin .copy, args := #[d, s], argTypes := #[dT, sT] }) (elem : TypeId) (sz : Nat) (hu : P.underlying dT = some (.slice elem)) (hs : (P.info? elem).map (·.size) = some sz)
    (g oo dLen dCap b off sLen sCap : Nat) (hd : a.eval d = .slice (some ⟨g, oo, none⟩) dLen dCap) (hv : a.eval s = .slice (some ⟨b, off, none⟩) sLen sCap) (L M : List Value) (e e' : TypeId) (hg : Row0 w g L e) (hb : Row0 w b M e') (cs : List Value)
    (hn : cs.length = Nat.min sLen dLen * sz) (hsrc : cs = (M.drop off).take cs.length) (hfit : oo + cs.length ≤ L.length) (h1 : ∀ v ∈ cs, v.oneCell' = true)
    (h : ∀ x w', Row0 w' g (splice L oo cs) e → Ext (fun k => k = g) w w' → K (a.put o.dst x) w') :
    if Region.wanted o (yielded ops a.tmps) = true then Oper.wp P o a w K Q else E := by
  have hw : Region.wanted o (yielded ops a.tmps) = true := by simp [Region.wanted, hgd]
  rw [if_pos hw]
  have hrun := run_copyN (P := P) w dT sT o.type elem sz g oo dLen dCap b off sLen sCap L M e e' cs hu hs hg hb hn hsrc hfit h1
  unfold Oper.wp
  simp only [execOp, ho, resolve, invoke, builtin, Sem.run_bind, Sem.run_pure, Result.andThen_ok, List.map_toArray, List.map_cons, List.map_nil, hd, hv, hrun]
  exact h _ _ hg.set (setRow_ext w g _)
theorem run_firstCells_row (w : World) (size n : Nat) (g c : Nat) (L : List Value) (e : TypeId) (h : Row0 w g L e) (hl : n * size ≤ L.length) :
    (Builtin.firstCells size n (.slice (some ⟨g, 0, none⟩) n c)).run P w = .ok (L.take (n * size)).toArray w := by
  have hcell : ∀ j v, (L.take (n * size))[j]? = some v → w.cell? ((⟨g, 0, none⟩ : Addr).add j) = some v := fun j v hj => by
    rw [addr_plus, Nat.zero_add]
    refine h.cell ?_
    have hjl := (List.getElem?_eq_some_iff.1 hj).1
    rw [List.length_take] at hjl
    rwa [List.getElem?_take_of_lt (by omega)] at hj
  have hl2 := run_loadCells_list (P := P) w ⟨g, 0, none⟩ _ hcell
  have : (L.take (n * size)).length = n * size := by rw [List.length_take]; omega
  rw [this] at hl2
  simp [Builtin.firstCells, hl2]
theorem wpList_appendZ {w : World} {ops : Array Oper} {rest : List Oper} {o : Oper} {a : Act} {Q : Exit → Act → World → Prop} (hgd : o.guard = none) (x y : Operand) (t tn : TypeId)
    (ho : o.op = .call { callee := .builtin .append, args := #[x, y], argTypes := #[t, tn] }) (e : TypeId) (i : TypeInfo) (z : Value) (kq kn : IntKind) (ht : P.underlying t = some (.slice e)) (htn : P.underlying tn = some (.int kn)) (hi : P.info? e = some i) (hz : i.zero = some z) (hzs : z.cells.size = i.size)
    (g n c k : Nat) (hx : a.eval x = .slice (some ⟨g, 0, none⟩) n c) (hy : a.eval y = .int kq k) (L : List Value) (hL : Row0 w g L e) (hl : n * i.size ≤ L.length) (h0 : 0 < k) (hs : 0 < i.size) (hc : c < n + k) (h63 : n + k ≤ maxLen) (hby : (n + k) * i.bytes ≤ 140737488355328)
    (h : ∀ G w' Z, Row0 w' w.heap.size (L.take (n * i.size) ++ Z) e → Z.length = (G - n) * i.size → n + k ≤ G → G ≤ maxLen → Grow w w' → wpList P ops Q rest (a.put o.dst (.slice (some ⟨w.heap.size, 0, none⟩) (n + k) G)) w') : wpList P ops Q (o :: rest) a w := by
  refine wpList_plain hgd fun K hK => ?_
  have hold : (Builtin.firstCells i.size n (.slice (some ⟨g, 0, none⟩) n c)).run P w.drew = .ok (L.take (n * i.size)).toArray w.drew := run_firstCells_row w.drew i.size n g c L e hL hl
  have h63' : ((n + k : Nat) : Int) ≤ 9223372036854775807 := by unfold maxLen at h63; omega
  have hkb : k * i.bytes ≤ 281474976710656 := Nat.le_trans (Nat.mul_le_mul_right _ (Nat.le_add_left k n)) (by omega)
  have hrun := Lib.run_append_grow_zeros w t tn o.type e i z kq kn ht htn hi hz (some ⟨g, 0, none⟩) n c _ hold k h0 hs hc h63' hkb (growslice_fits hc hby)
  unfold Oper.wp
  simp only [execOp, ho, resolve, invoke, builtin, Sem.run_bind, Sem.run_pure, Result.andThen_ok, List.map_toArray, List.map_cons, List.map_nil, hx, hy, hrun]
  have hge := grownCap_ge w (n + k) c e
  refine hK _ _ (h (grownCap w (n + k) c e) _ ((Builtin.zeroCells z.cells k).toList ++ (Builtin.zeroCells z.cells (grownCap w (n + k) c e - (n + k))).toList) ?_ ?_ hge (grownCap_le_maxLen w _ _ _ h63) (((Ext.refl nil w).drew).alloc _))
  · show _ = _
    have := heap_alloc_new w.drew (.cells ((L.take (n * i.size)).toArray ++ Builtin.zeroCells z.cells k ++ Builtin.zeroCells z.cells (grownCap w (n + k) c e - (n + k))) e)
    rw [show w.heap.size = w.drew.heap.size from rfl, this]
    congr 2
    apply Array.ext'
    simp [List.append_assoc]
  · simp only [List.length_append, Array.length_toList, size_zeroCells, hzs]
    rw [← Nat.add_mul]
    congr 1; omega
theorem run_overlaps_rows (w : World) (tS tR e : TypeId) (ht : P.underlying tS = some (.slice e)) (size : Nat) (hz : ∀ w, (Go.sizeOf e).run P w = .ok size w) (g o g' o' la ca lb cb : Nat) (L L' : List Value) (e1 e2 : TypeId) (hg : Row0 w g L e1) (hg' : Row0 w g' L' e2) (hne : g ≠ g') (hL : 0 < L'.length) :
    (Extern.SlicesOverlaps.overlaps #[tS, tS] #[tR] #[.slice (some ⟨g, o, none⟩) la ca, .slice (some ⟨g', o', none⟩) lb cb]).run P w = .ok (.bool false) w := by
  have hsh : ∀ (g : Nat) (L : List Value) (e : TypeId), Row0 w g L e → w.shape? g = some (e, L.length) := fun g L e h => by
    have := h.out
    unfold World.shape?
    simp [this]
  have hfr : ∀ (g : Nat) (L : List Value) (e : TypeId) (o : Nat), Row0 w g L e → w.frozen? ⟨g, o, none⟩ = false := fun g L e o h => by
    have := h.out
    simp [World.frozen?, this]
  exact Lib.run_overlaps_apart w tS tR e ht size hz ⟨g, o, none⟩ ⟨g', o', none⟩ la ca lb cb hne e1 e2 L.length L'.length (hsh _ _ _ hg) (hsh _ _ _ hg') (by omega) (hfr _ _ _ _ hg) (hfr _ _ _ _ hg)
end Go.Proofs.Ytgfnmhfdmmnaoaa
namespace Go.Proofs.Ytgfnmhfdmmnaoaa
open Go Go.RowKit Go.Proofs.Ytgfnmhfdmmnaoaa.Eng
theorem insN_grow (w : World) (b n i vb vc : Nat) (L M : List Value) (e1 : TypeId) (xs : List Value) (hb : Row0 w b L 30) (hv : Row0 w vb M e1) (hL : n * 5 ≤ L.length) (hM : M.take 5 = xs) (hxl : xs.length = 5) (hi : i < n) (hn : n ≤ 1000000) (h1 : ∀ u ∈ L, u.oneCell' = true) (h2 : ∀ u ∈ xs, u.oneCell' = true) :
    Calls Try.prog 187 #[.slice (some ⟨b, 0, none⟩) n n, .int .i64 i, .slice (some ⟨vb, 0, none⟩) 1 vc] w fun e w' =>
      ∃ g G Z, e = .returned (.slice (some ⟨g, 0, none⟩) (n + 1 : Nat) G) ∧ Grow w w' ∧ w.heap.size ≤ g ∧ Row0 w' g (L.take (i * 5) ++ (xs ++ ((L.take (n * 5)).drop (i * 5) ++ Z))) 30 ∧ Z.length = (G - (n + 1)) * 5 ∧ n + 1 ≤ G ∧ G ≤ maxLen := by
  obtain ⟨d, j, hs⟩ := TI.says (tab_ok _ _ tab30)
  obtain ⟨j', zv, zs, k1, k2, k3, k3', k3'', k4, k5, k6⟩ := zero_ok (w := w) (ρ := pureC nil nil none) (tab_ok _ _ tab30) (by decide)
  rw [hs.inf] at k1; cases k1
  have hjs := hs.sz
  have hjb := hs.by'
  have hinf := hs.inf
  dsimp only at hjs hjb k6
  have hzs : zv.cells.size = j.size := by rw [k3, hjs]; simpa using k6
  have hsz : (Try.prog.info? 30).map (·.size) = some 5 := by rw [hinf]; simp [hjs]
  have mixed := mixed_ok
  have hz1 : ¬ ((1 : Int) = 0) := by omega
  have hz2 : ¬ ((i : Int) = (n : Int)) := by omega
  have hz3 : (n : Int) < (n : Int) + 1 := by omega
  have hw1 : IntKind.i64.wrap ((n : Int) + 1) = (n : Int) + 1 := by rw [IntKind.wrap_i64]; omega
  have hw2 : IntKind.i64.wrap ((n : Int) + 1 - (i : Int)) = ((n + 1 - i : Nat) : Int) := by rw [IntKind.wrap_i64]; omega
  have hw3 : IntKind.i64.wrap ((i : Int) + 1) = (i : Int) + 1 := by rw [IntKind.wrap_i64]; omega
  have hb1 : (0 : Int) ≤ (i : Int) + 1 := by omega
  have hb2 : (0 : Int) ≤ (i : Int) := by omega
  have hin : i ≤ n := by omega
  have hni : ¬ (n = i) := by omega
  have htn : ((i : Int) + 1).toNat = i + 1 := by omega
  have hb3 : (i : Int) ≤ (n : Int) := by omega
  have hbn : b ≠ w.heap.size := by have := hb.lt; omega
  obtain ⟨X, hX⟩ : ∃ X, X = (L.take (n * 5)).drop (i * 5) := ⟨_, rfl⟩
  have hXl : X.length = (n - i) * 5 := by rw [hX, List.length_drop, List.length_take, Nat.sub_mul]; omega
  have hXs : X = (L.drop (i * 5)).take X.length := by rw [hXl, hX, List.drop_take, Nat.sub_mul]
  have hX1 : ∀ v ∈ X, v.oneCell' = true := fun v hv => h1 v (by rw [hX] at hv; exact List.mem_of_mem_take (List.mem_of_mem_drop hv))
  have HB := Lib.hid hb
  have HV := Lib.hid hv
  clear hb hv
  go_enter Try.func187, Try.ntmps187
  go_wp2_with (first
    | (at_builtin; refine wpList_appendZ rfl _ _ 28 3 rfl 30 j zv .i64 .i64 Try.underlying28 Try.underlying3 hinf k2 hzs b i n (n + 1 - i) rfl rfl L HB.out (by rw [hjs]; omega) (by omega) (by rw [hjs]; omega) (by omega) (by unfold maxLen; omega) (by rw [hjb]; omega) ?_; intro G w1 Z R1 Z1 G1 G2 E1; have B1 := HB.out.ext E1 (fun h => h); have V1 := HV.out.ext E1 (fun h => h); have G3 : ¬ (G = i) := (by omega); have G4 : ¬ (G = i + 1) := (by omega); have G5 : i + (n + 1 - i) = n + 1 := (by omega))
    | (refine wpList_copyN rfl (.tmp 43) (.tmp 44) 28 28 rfl 30 5 Try.underlying28 hsz w.heap.size _ _ _ vb 0 1 vc rfl rfl (L.take (i * j.size) ++ Z) M 30 e1 R1 V1 xs (by rw [hxl]; simp only [Nat.min_def]; split <;> omega) (by rw [hxl, List.drop_zero, hM]) (by simp only [List.length_append, List.length_take, Z1, hxl, hjs]; omega) h2 ?_; intro x2 w2 R2 E2; have B2 := B1.ext E2 (fun h => hbn h)))
  go_region_law_o (refine step_copyN rfl (.tmp 50) (.tmp 53) 28 28 rfl 30 5 Try.underlying28 hsz w.heap.size ((i + 1) * 5) (n + 1 - (i + 1)) (G - (i + 1)) b (i * 5) (n - i) (n - i) (by simp [Act.eval, Act.put]) (by simp [Act.eval, Act.put]) _ L 30 30 R2 B2 X (by rw [hXl, show Nat.min (n - i) (n + 1 - (i + 1)) = n - i from by rw [show n + 1 - (i + 1) = n - i by omega]; exact Nat.min_self _]) hXs (by rw [length_splice _ _ _ (by simp only [List.length_append, List.length_take, Z1, hxl, hjs]; omega)]; simp only [List.length_append, List.length_take, Z1, hXl, hjs]; omega) hX1 ?_; intro x3 w3 R3 E3)
  go_wp2
  go_ret
  have hZ : xs.length + X.length ≤ Z.length := by rw [hxl, hXl, Z1, hjs]; omega
  rw [hjs] at R3
  rw [splice_two _ _ _ _ _ _ (by rw [List.length_take]; omega) (by rw [hxl]; omega) hZ] at R3
  refine ⟨w.heap.size, G, Z.drop (xs.length + X.length), by simp, ?_, Nat.le_refl _, by rw [← hX]; exact R3, by rw [List.length_drop, hxl, hXl, Z1, hjs]; omega, by omega, G2⟩
  exact Grow.inner (Ext.drew (E1.inner E2 (fun k hk => Nat.le_of_eq (Eq.symm hk)))) E3 (fun k hk => Nat.le_of_eq (Eq.symm hk))
theorem insN_room (w : World) (b n c i vb vc : Nat) (L M : List Value) (e1 : TypeId) (xs : List Value) (hb : Row0 w b L 30) (hv : Row0 w vb M e1) (hbv : vb ≠ b) (hL : L.length = c * 5) (hM : M.take 5 = xs) (hxl : xs.length = 5) (hi : i < n) (hroom : n + 1 ≤ c) (hc : c ≤ maxLen) (h1 : ∀ u ∈ L.take (n * 5), u.oneCell' = true) (h2 : ∀ u ∈ xs, u.oneCell' = true) :
    Calls Try.prog 187 #[.slice (some ⟨b, 0, none⟩) n c, .int .i64 i, .slice (some ⟨vb, 0, none⟩) 1 vc] w fun e w' =>
      e = .returned (.slice (some ⟨b, 0, none⟩) (n + 1 : Nat) c) ∧ Ext (fun k => k = b) w w' ∧ Row0 w' b (L.take (i * 5) ++ (xs ++ ((L.take (n * 5)).drop (i * 5) ++ L.drop ((n + 1) * 5)))) 30 := by
  obtain ⟨d, j, hs⟩ := TI.says (tab_ok _ _ tab30)
  have hjs := hs.sz
  have hinf := hs.inf
  dsimp only at hjs
  have hsz : (Try.prog.info? 30).map (·.size) = some 5 := by rw [hinf]; simp [hjs]
  have hc63 : c ≤ 9223372036854775807 := by unfold maxLen at hc; exact hc
  have mixed := mixed_ok
  have hz1 : ¬ ((1 : Int) = 0) := by omega
  have hz2 : ¬ ((i : Int) = (n : Int)) := by omega
  have hz3 : ¬ ((c : Int) < (n : Int) + 1) := by omega
  have hw1 : IntKind.i64.wrap ((n : Int) + 1) = (n : Int) + 1 := by rw [IntKind.wrap_i64]; omega
  have hw3 : IntKind.i64.wrap ((i : Int) + 1) = (i : Int) + 1 := by rw [IntKind.wrap_i64]; omega
  have hb1 : (0 : Int) ≤ (i : Int) + 1 := by omega
  have hb2 : (0 : Int) ≤ (i : Int) := by omega
  have hb4 : (0 : Int) ≤ (n : Int) + 1 := by omega
  have hin : i ≤ n := by omega
  have hni : ¬ (c = i) := by omega
  have hni2 : ¬ (c = i + 1) := by omega
  have htn : ((i : Int) + 1).toNat = i + 1 := by omega
  have htn2 : ((n : Int) + 1).toNat = n + 1 := by omega
  have hb3 : (i : Int) ≤ (n : Int) := by omega
  have hb5 : (i : Int) + 1 ≤ (n : Int) + 1 := by omega
  have hb6 : (n : Int) + 1 ≤ (c : Int) := by omega
  have hb7 : (i : Int) ≤ (n : Int) + 1 := by omega
  obtain ⟨X, hX⟩ : ∃ X, X = (L.take (n * 5)).drop (i * 5) := ⟨_, rfl⟩
  have hXl : X.length = (n - i) * 5 := by rw [hX, List.length_drop, List.length_take, Nat.sub_mul, hL]; omega
  have hXs : X = (L.drop (i * 5)).take X.length := by rw [hXl, hX, List.drop_take, Nat.sub_mul]
  have hX1 : ∀ v ∈ X, v.oneCell' = true := fun v hv => h1 v (by rw [hX] at hv; exact List.mem_of_mem_drop hv)
  have hov : ∀ lb cb, (callFunc 196 #[.slice (some ⟨vb, 0, none⟩) 1 vc, .slice (some ⟨b, (i + 1) * 5, none⟩) lb cb]).run Try.prog w = .ok (.value (.bool false)) w := fun lb cb => by
    rw [run_callFunc_extern (P := Try.prog) (f := 196) (fn := Try.f196) (e := Extern.SlicesOverlaps.overlaps #[28, 28] #[4]) (by kernel_rfl) (by kernel_rfl) (by kernel_rfl) (by kernel_rfl) (by kernel_rfl)]
    rw [run_overlaps_rows (P := Try.prog) w 28 4 30 Try.underlying28 5 (fun w => hs.sizeOf w) vb 0 b ((i + 1) * 5) 1 vc lb cb M L e1 30 hv hb hbv (by rw [hL]; omega)]
    rfl
  have HB := Lib.hid hb
  have HV := Lib.hid hv
  clear hb hv
  go_enter Try.func187, Try.ntmps187
  go_wp2_with (simp only [hov])
  go_region_law_o (refine step_copyN rfl (.tmp 73) (.tmp 76) 28 28 rfl 30 5 Try.underlying28 hsz b ((i + 1) * 5) (n + 1 - (i + 1)) (c - (i + 1)) b (i * 5) (n + 1 - i) (c - i) (by simp [Act.eval, Act.put]) (by simp [Act.eval, Act.put]) L L 30 30 HB.out HB.out X (by rw [hXl, show Nat.min (n + 1 - i) (n + 1 - (i + 1)) = n - i from by rw [show n + 1 - (i + 1) = n - i by omega]; exact Nat.min_eq_right (by omega)]) hXs (by rw [hXl, hL]; omega) hX1 ?_; intro x2 w2 R2 E2)
  have V2 := HV.out.ext (Ext.trans (Ext.drew (Ext.refl _ w)) E2) (fun h => hbv h)
  go_wp2_with (refine wpList_copyN rfl (.tmp 80) (.tmp 81) 28 28 rfl 30 5 Try.underlying28 hsz b _ _ _ vb 0 1 vc rfl rfl (splice L ((i + 1) * 5) X) M 30 e1 R2 V2 xs (by rw [hxl]; simp only [Nat.min_def]; split <;> omega) (by rw [hxl, List.drop_zero, hM]) (by rw [length_splice _ _ _ (by rw [hXl, hL]; omega), hxl, hL]; omega) h2 ?_; intro x3 w3 R3 E3)
  go_ret
  rw [show (i + 1) * 5 = i * 5 + 5 by omega, splice_shift _ _ _ _ _ hxl (by rw [hXl, hL]; omega)] at R3
  refine ⟨by simp, Ext.trans (Ext.trans (Ext.drew (Ext.refl _ w)) E2) E3, ?_⟩
  rw [← hX, show (n + 1) * 5 = i * 5 + 5 + X.length by rw [hXl]; omega]
  exact R3
theorem wp_appRN {w : World} {ops : Array Oper} {rest : List Oper} {o : Oper} {a : Act} {Q : Exit → Act → World → Prop} (hgd : o.guard = none) (ho : o.op = .call { callee := .builtin .append, args := #[.tmp 23, .tmp 24], argTypes := #[28, 28] })
    (u : Value) (hx : a.eval (.tmp 23) = u) (n : Nat) (olds : List Value) (hat : Hid (Eng.RowAt w 0 30 5 u n olds)) (vb vc : Nat) (hy : a.eval (.tmp 24) = .slice (some ⟨vb, 0, none⟩) 1 vc) (M : List Value) (e1 : TypeId) (hv : Row0 w vb M e1) (xs : List Value) (hM : M.take 5 = xs) (hxl : xs.length = 5) (h2 : ∀ u ∈ xs, u.oneCell' = true) (hn : n ≤ 1000000)
    (h : ∀ v' w', Eng.RowAt w' 0 30 5 v' (n + 1) (olds ++ xs) → Ext (fun k => blk u = some k) w w' → (∀ g, blk v' = some g → blk u = some g ∨ w.heap.size ≤ g) → wpList Try.prog ops Q rest (a.put o.dst v') w') : wpList Try.prog ops Q (o :: rest) a w := by
  obtain ⟨d, j, hs⟩ := TI.says (tab_ok _ _ tab30)
  obtain ⟨j', zv, zs, k1, k2, k3, k3', k3'', k4, k5, k6⟩ := zero_ok (w := w) (ρ := pureC nil nil none) (tab_ok _ _ tab30) (by decide)
  rw [hs.inf] at k1; cases k1
  have hjs := hs.sz
  have hjb := hs.by'
  dsimp only at hjs hjb k6
  have hsrc : Eng.Src w (some ⟨vb, 0, none⟩) 1 xs := .inr ⟨_, rfl, fun q v hq => by
    rw [addr_plus, Nat.zero_add]
    refine hv.cell ?_
    rw [← hM] at hq
    have hl := (List.getElem?_eq_some_iff.1 hq).1
    rw [List.length_take] at hl
    rwa [List.getElem?_take_of_lt (by omega)] at hq⟩
  obtain ⟨v', w', m1, m2, m3, m4, _⟩ := run_append_row (P := Try.prog) (B := 0) 28 o.type 30 j zv Try.underlying28 hs.inf k2 (by rw [k3, hjs]; simpa using k6) (by rw [hjs]; exact hat.out) (Nat.zero_le _) (some ⟨vb, 0, none⟩) 1 vc xs (by rw [hxl, hjs]) hsrc h2 (by rw [hjb]; omega) (by unfold maxLen; omega)
  refine wpList_plain hgd fun K hK => ?_
  unfold Oper.wp
  simp only [execOp, ho, resolve, invoke, builtin, Sem.run_bind, Sem.run_pure, Result.andThen_ok, List.map_toArray, List.map_cons, List.map_nil, hx, hy, m1]
  exact hK _ _ (h v' w' (by rw [hjs] at m2; exact m2) m3 m4)
theorem insN_end (w : World) (b n c vb vc : Nat) (M : List Value) (e1 : TypeId) (xs olds : List Value) (hat : Eng.RowAt w 0 30 5 (.slice (some ⟨b, 0, none⟩) n c) n olds) (hv : Row0 w vb M e1) (hM : M.take 5 = xs) (hxl : xs.length = 5) (h2 : ∀ u ∈ xs, u.oneCell' = true) (hn : n ≤ 1000000) (hnc : n ≤ c) (hc : c ≤ maxLen) :
    Calls Try.prog 187 #[.slice (some ⟨b, 0, none⟩) n c, .int .i64 n, .slice (some ⟨vb, 0, none⟩) 1 vc] w fun e w' =>
      ∃ v', e = .returned v' ∧ Eng.RowAt w' 0 30 5 v' (n + 1) (olds ++ xs) ∧ Ext (fun k => blk (.slice (some ⟨b, 0, none⟩) n c) = some k) w w' ∧ ∀ g, blk v' = some g → blk (.slice (some ⟨b, 0, none⟩) n c) = some g ∨ w.heap.size ≤ g := by
  have hc63 : c ≤ 9223372036854775807 := by unfold maxLen at hc; exact hc
  have hz1 : ¬ ((1 : Int) = 0) := by omega
  have hb2 : (0 : Int) ≤ (n : Int) := by omega
  have hb3 : (n : Int) ≤ (c : Int) := by omega
  have HA := Lib.hid hat
  have HV := Lib.hid hv
  clear hat hv
  by_cases hcn : c = n
  · go_enter Try.func187, Try.ntmps187
    go_wp2_with (at_builtin; refine wp_appRN rfl rfl (.slice (some ⟨b, 0, none⟩) n c) (by simp [Act.eval, Act.put, hcn]) n olds HA vb vc rfl M e1 HV.out xs hM hxl h2 hn ?_; intro v4 w4 R4 E4 B4)
    go_ret
    exact ⟨_, by simp, R4, E4, B4⟩
  · go_enter Try.func187, Try.ntmps187
    go_wp2_with (at_builtin; refine wp_appRN rfl rfl (.slice (some ⟨b, 0, none⟩) n c) (by simp [Act.eval, Act.put]) n olds HA vb vc rfl M e1 HV.out xs hM hxl h2 hn ?_; intro v4 w4 R4 E4 B4)
    go_ret
    exact ⟨_, by simp, R4, E4, B4⟩
theorem insN_nil (w : World) (ad : Option Addr) (vb vc : Nat) (M : List Value) (e1 : TypeId) (xs : List Value) (hv : Row0 w vb M e1) (hM : M.take 5 = xs) (hxl : xs.length = 5) (h2 : ∀ u ∈ xs, u.oneCell' = true) :
    Calls Try.prog 187 #[.slice ad 0 0, .int .i64 0, .slice (some ⟨vb, 0, none⟩) 1 vc] w fun e w' =>
      ∃ v', e = .returned v' ∧ Eng.RowAt w' 0 30 5 v' 1 xs ∧ Grow w w' ∧ ∀ g, blk v' = some g → w.heap.size ≤ g := by
  have hat : Eng.RowAt w 0 30 5 (.slice ad 0 0) 0 [] := .inl ⟨rfl, rfl, ad, rfl⟩
  have hnb : ∀ k, ¬ blk (.slice ad 0 0) = some k := fun k hk => by cases ad <;> simp [blk] at hk
  have hz1 : ¬ ((1 : Int) = 0) := by omega
  have HA := Lib.hid hat
  have HV := Lib.hid hv
  clear hat hv
  cases ad with
  | none =>
    go_enter Try.func187, Try.ntmps187
    go_wp2_with (at_builtin; refine wp_appRN rfl rfl (.slice none 0 0) (by simp [Act.eval, Act.put]) 0 [] HA vb vc rfl M e1 HV.out xs hM hxl h2 (by omega) ?_; intro v4 w4 R4 E4 B4)
    go_ret
    exact ⟨v4, by simp, by simpa using R4, E4.mono (fun k hk => hnb k hk), fun g hg => (B4 g (by simpa using hg)).resolve_left (hnb g)⟩
  | some ad =>
    go_enter Try.func187, Try.ntmps187
    go_wp2_with (at_builtin; refine wp_appRN rfl rfl (.slice (some ad) 0 0) (by simp [Act.eval, Act.put]) 0 [] HA vb vc rfl M e1 HV.out xs hM hxl h2 (by omega) ?_; intro v4 w4 R4 E4 B4)
    go_ret
    exact ⟨v4, by simp, by simpa using R4, E4.mono (fun k hk => hnb k hk), fun g hg => (B4 g (by simpa using hg)).resolve_left (hnb g)⟩
theorem insN_at (w : World) (u : Value) (n i : Nat) (olds : List Value) (vb vc : Nat) (M : List Value) (e1 : TypeId) (xs : List Value) (hat : Eng.RowAt w 0 30 5 u n olds) (hone : ∀ u ∈ olds, u.oneCell' = true) (hv : Row0 w vb M e1) (hne : blk u ≠ some vb) (hM : M.take 5 = xs) (hxl : xs.length = 5) (h2 : ∀ u ∈ xs, u.oneCell' = true) (hi : i ≤ n) (hn : n ≤ 1000000) :
    Calls Try.prog 187 #[u, .int .i64 i, .slice (some ⟨vb, 0, none⟩) 1 vc] w fun e w' =>
      ∃ v', e = .returned v' ∧ Eng.RowAt w' 0 30 5 v' (n + 1) (olds.take (i * 5) ++ (xs ++ olds.drop (i * 5))) ∧ Ext (fun k => blk u = some k) w w' ∧ ∀ g, blk v' = some g → blk u = some g ∨ w.heap.size ≤ g := by
  have hat0 := hat
  rcases hat with ⟨rfl, rfl, ad, rfl⟩ | ⟨g, cap, cur, rfl, hp, _, hg, hnc, hcm, hcs, htk, hol⟩
  · have : i = 0 := by omega
    subst this
    refine (insN_nil w ad vb vc M e1 xs hv hM hxl h2).mono ?_
    rintro e w' ⟨v', rfl, q1, q2, q3⟩
    exact ⟨v', rfl, by simpa using q1, q2.mono (fun _ h => h.elim), fun g hg => .inr (q3 g hg)⟩
  · have hbl : blk (.slice (some ⟨g, 0, none⟩) n cap) = some g := blk_slice _ _ _ hp
    have hG : Row0 w g cur.toList 30 := by show _ = _; rw [hg]
    rcases Nat.lt_or_ge i n with hlt | hge
    · have hcl : cur.toList.length = cap * 5 := by rw [Array.length_toList, hcs]
      have hcut : (cur.toList.take (n * 5)).take (i * 5) = cur.toList.take (i * 5) := by rw [List.take_take, Nat.min_eq_left (by omega)]
      rcases Nat.lt_or_ge n cap with hroom | hfull
      · refine (insN_room w g n cap i vb vc cur.toList M e1 xs hG hv (fun e => hne (by rw [hbl, e])) hcl hM hxl hlt hroom hcm (by rw [htk]; exact hone) h2).mono ?_
        rintro e w' ⟨rfl, q1, q2⟩
        refine ⟨_, rfl, .inr ⟨g, cap, _, rfl, hp, Nat.zero_le _, q2.out, hroom, hcm, ?_, ?_, ?_⟩, q1.mono (fun k hk => by rw [hk]; exact hbl), fun g' hg' => by rw [blk_slice _ _ _ hp] at hg'; exact .inl (by rw [hbl]; exact hg')⟩
        · simp only [List.size_toArray, List.length_append, List.length_take, List.length_drop, hcl, hxl, Nat.add_mul]; omega
        · simp only [List.append_assoc]
          rw [htk, ← hcut, htk, ← List.append_assoc xs, ← List.append_assoc, ← List.append_assoc]
          exact List.take_left' (by simp only [List.length_append, List.length_take, List.length_drop, hol, hxl, Nat.add_mul]; omega)
        · simp only [List.length_append, List.length_take, List.length_drop, hol, hxl, Nat.add_mul]; omega
      · have hce : cap = n := by omega
        subst hce
        refine (insN_grow w g cap i vb vc cur.toList M e1 xs hG hv (by omega) hM hxl hlt hn ?_ h2).mono ?_
        · rw [← List.take_of_length_le (l := cur.toList) (i := cap * 5) (by omega), htk]; exact hone
        · rintro e w' ⟨g', G, Z, rfl, q1, q2, q3, q4, q5, q6⟩
          refine ⟨_, rfl, .inr ⟨g', G, _, rfl, by omega, Nat.zero_le _, q3.out, q5, q6, ?_, ?_, ?_⟩, q1.mono (fun _ h => h.elim), fun g'' hg' => by rw [blk_slice _ _ _ (by omega)] at hg'; cases hg'; exact .inr q2⟩
          · simp only [List.size_toArray, List.length_append, List.length_take, List.length_drop, hcl, hxl, q4, Nat.add_mul, Nat.sub_mul]; omega
          · rw [htk, ← hcut, htk, ← List.append_assoc xs, ← List.append_assoc]
            exact List.take_left' (by simp only [List.length_append, List.length_take, List.length_drop, hol, hxl, Nat.add_mul]; omega)
          · simp only [List.length_append, List.length_take, List.length_drop, hol, hxl, Nat.add_mul]; omega
    · have : i = n := by omega
      subst this
      refine (insN_end w g i cap vb vc M e1 xs olds hat0 hv hM hxl h2 hn hnc hcm).mono ?_
      rintro e w' ⟨v', rfl, q1, q2, q3⟩
      refine ⟨v', rfl, ?_, q2, q3⟩
      rw [List.take_of_length_le (by omega), List.drop_of_length_le (by omega), List.append_nil]
      exact q1
theorem insN_inv3 {w : World} {ρ : Cx} {a b c : AV} {vs : List Value} (h : RepL w ρ [a, b, c] vs) : ∃ x y z, vs = [x, y, z] ∧ Eng.Rep w ρ a x ∧ Eng.Rep w ρ b y ∧ Eng.Rep w ρ c z := by
  unfold RepL at h
  obtain ⟨x, _, rfl, h1, h⟩ := h
  unfold RepL at h
  obtain ⟨y, _, rfl, h2, h⟩ := h
  unfold RepL at h
  obtain ⟨z, _, rfl, h3, h⟩ := h
  unfold RepL at h
  subst h
  exact ⟨x, y, z, rfl, h1, h2, h3⟩
theorem insN_ACG (es : List (List AV)) (x : List AV) (i : Nat) (hi : i ≤ es.length) (hn : es.length ≤ 1000000) (hes : ∀ e ∈ es, ∀ c ∈ e, Pur c) (hx : ∀ c ∈ x, Pur c) :
    ACG Try.prog 187 [.own 1000 es.length, .int .i64 i, .own 1001 1] [(1000, ⟨false, 30, 5, es⟩), (1001, ⟨false, 30, 5, [x]⟩)] 0 (fun r l => r = .own 1 (es.length + 1) ∧ l = [(1, ⟨false, 30, 5, es.take i ++ (x :: es.drop i)⟩)]) := by
  refine ⟨Go.Proofs.Ytgfnmhfdmmnaoaa.Eng.enters_of Try.func187 (by kernel_rfl) (by kernel_rfl), by simp, fun w ρ k vs hL hS hrd hU hR hargs => ?_⟩
  obtain ⟨v0, v1, v2, rfl, a0, a1, a2⟩ := insN_inv3 hargs
  obtain ⟨u0, p1, p2, ⟨p3, _⟩, p4, p5, xs0, p6, p7, p8⟩ := hR.rw 1000 _ rfl
  obtain ⟨u1, q1, q2, _, q4, q5, xs1, q6, q7, q8⟩ := hR.rw 1001 _ rfl
  dsimp only at p2 p4 p6 p7 q2 q4 q6 q7
  obtain ⟨_, _, _, hv0⟩ := rep_own.1 a0
  obtain ⟨_, _, _, hv2⟩ := rep_own.1 a2
  have := hv0 u0 p1 p2.symm
  subst this
  have := hv2 u1 q1 q2.symm
  subst this
  rw [rep_int] at a1
  subst a1
  rcases q6 with ⟨h0, _⟩ | ⟨g, cap, cur, rfl, hp, _, hg, hnc, hcm, hcs, htk, hol⟩
  · simp at h0
  have hG : Row0 w g cur.toList 30 := by show _ = _; rw [hg]
  have hbl : blk (.slice (some ⟨g, 0, none⟩) [x].length cap) = some g := blk_slice _ _ _ hp
  have htk' : cur.toList.take 5 = xs1 := by rw [← htk]; simp
  refine (insN_at w v0 es.length i xs0 g cap cur.toList 30 xs1 p6 p8 hG (fun e => ?_) htk' (by simpa using hol) q8 hi hn).mono ?_
  · have := hR.dj 1000 1001 _ _ g p1 q1 e hbl
    omega
  · rintro e w' ⟨v', rfl, m1, m2, m3⟩
    have hfl : (es.take i ++ (x :: es.drop i)).flatten = (es.take i).flatten ++ (x ++ (es.drop i).flatten) := by simp
    have hlt : (es.take i).flatten.length = i * 5 := by rw [flat_len (fun e he => p4 e (List.mem_of_mem_take he)), List.length_take, Nat.min_eq_left hi]
    have hsp : es.flatten = (es.take i).flatten ++ (es.drop i).flatten := by rw [← List.flatten_append, List.take_append_drop]
    have hl2 : (es.take i ++ (x :: es.drop i)).length = es.length + 1 := by simp; omega
    obtain ⟨ρ', r1, r2, r3, r4, r5, r6, r7, r8, r9⟩ := acg_one (k := k) (c := 0) hL hS hrd hR (m2.mono (fun b hb => ⟨1000, v0, p1, hb⟩)) ⟨false, 30, 5, es.take i ++ (x :: es.drop i)⟩ v' _ rfl p3 (fun y hy => by
      rcases List.mem_append.1 hy with hy | hy
      · exact p4 y (List.mem_of_mem_take hy)
      · rcases List.mem_cons.1 hy with rfl | hy
        · exact q4 _ (by simp)
        · exact p4 y (List.mem_of_mem_drop hy)) (by dsimp only; rw [hl2]; exact m1) (fun g hg => (m3 g hg).imp (fun h => ⟨1000, v0, p1, h⟩) (fun h => h)) (by
        dsimp only
        rw [hfl]
        rw [hsp] at p7
        have t1 := p7.take (i * 5)
        have t2 := p7.drop (i * 5)
        rw [← hlt, List.take_left] at t1
        rw [← hlt, List.drop_left] at t2
        rw [hlt] at t1 t2
        exact t1.append ((by simpa using q7 : RepL w ρ x xs1).append t2)) (fun e he c hc => by
        rcases List.mem_append.1 he with he | he
        · exact hes e (List.mem_of_mem_take he) c hc
        · rcases List.mem_cons.1 he with rfl | he
          · exact hx c hc
          · exact hes e (List.mem_of_mem_drop he) c hc) (fun u hu => by
        rcases List.mem_append.1 hu with hu | hu
        · exact p8 u (List.mem_of_mem_take hu)
        · rcases List.mem_append.1 hu with hu | hu
          · exact q8 u hu
          · exact p8 u (List.mem_of_mem_drop hu))
    exact ⟨v', _, _, ρ', rfl, r1, r2, r3, r4, r5, r6, r7, (fun id r h1 h2 u h3 => by rw [r8 id (by have := rowsOf_key h1; simp at this; omega)] at h3; cases h3), by rw [hl2] at r9; exact r9, rfl, rfl⟩
end Go.Proofs.Ytgfnmhfdmmnaoaa
namespace Go.Proofs.Ytgfnmhfdmmnaoaa
open Go Go.RowKit Go.Proofs.Ytgfnmhfdmmnaoaa.Eng
theorem insS_grow (w : World) (b n i vb vc : Nat) (L M : List Value) (e1 : TypeId) (xs : List Value) (hb : Row0 w b L 9) (hv : Row0 w vb M e1) (hL : n * 1 ≤ L.length) (hM : M.take 1 = xs) (hxl : xs.length = 1) (hi : i < n) (hn : n ≤ 1000000) (h1 : ∀ u ∈ L, u.oneCell' = true) (h2 : ∀ u ∈ xs, u.oneCell' = true) :
    Calls Try.prog 186 #[.slice (some ⟨b, 0, none⟩) n n, .int .i64 i, .slice (some ⟨vb, 0, none⟩) 1 vc] w fun e w' =>
      ∃ g G Z, e = .returned (.slice (some ⟨g, 0, none⟩) (n + 1 : Nat) G) ∧ Grow w w' ∧ w.heap.size ≤ g ∧ Row0 w' g (L.take (i * 1) ++ (xs ++ ((L.take (n * 1)).drop (i * 1) ++ Z))) 9 ∧ Z.length = (G - (n + 1)) * 1 ∧ n + 1 ≤ G ∧ G ≤ maxLen := by
  obtain ⟨d, j, hs⟩ := TI.says (tab_ok _ _ tab9)
  obtain ⟨j', zv, zs, k1, k2, k3, k3', k3'', k4, k5, k6⟩ := zero_ok (w := w) (ρ := pureC nil nil none) (tab_ok _ _ tab9) (by decide)
  rw [hs.inf] at k1; cases k1
  have hjs := hs.sz
  have hjb := hs.by'
  have hinf := hs.inf
  dsimp only at hjs hjb k6
  have hzs : zv.cells.size = j.size := by rw [k3, hjs]; simpa using k6
  have hsz : (Try.prog.info? 9).map (·.size) = some 1 := by rw [hinf]; simp [hjs]
  have mixed := mixed_ok
  have hz1 : ¬ ((1 : Int) = 0) := by omega
  have hz2 : ¬ ((i : Int) = (n : Int)) := by omega
  have hz3 : (n : Int) < (n : Int) + 1 := by omega
  have hw1 : IntKind.i64.wrap ((n : Int) + 1) = (n : Int) + 1 := by rw [IntKind.wrap_i64]; omega
  have hw2 : IntKind.i64.wrap ((n : Int) + 1 - (i : Int)) = ((n + 1 - i : Nat) : Int) := by rw [IntKind.wrap_i64]; omega
  have hw3 : IntKind.i64.wrap ((i : Int) + 1) = (i : Int) + 1 := by rw [IntKind.wrap_i64]; omega
  have hb1 : (0 : Int) ≤ (i : Int) + 1 := by omega
  have hb2 : (0 : Int) ≤ (i : Int) := by omega
  have hin : i ≤ n := by omega
  have hni : ¬ (n = i) := by omega
  have htn : ((i : Int) + 1).toNat = i + 1 := by omega
  have hb3 : (i : Int) ≤ (n : Int) := by omega
  have hbn : b ≠ w.heap.size := by have := hb.lt; omega
  obtain ⟨X, hX⟩ : ∃ X, X = (L.take (n * 1)).drop (i * 1) := ⟨_, rfl⟩
  have hXl : X.length = (n - i) * 1 := by rw [hX, List.length_drop, List.length_take, Nat.sub_mul]; omega
  have hXs : X = (L.drop (i * 1)).take X.length := by rw [hXl, hX, List.drop_take, Nat.sub_mul]
  have hX1 : ∀ v ∈ X, v.oneCell' = true := fun v hv => h1 v (by rw [hX] at hv; exact List.mem_of_mem_take (List.mem_of_mem_drop hv))
  have HB := Lib.hid hb
  have HV := Lib.hid hv
  clear hb hv
  go_enter Try.func186, Try.ntmps186
  go_wp2_with (first
    | (at_builtin; refine wpList_appendZ rfl _ _ 23 3 rfl 9 j zv .i64 .i64 Try.underlying23 Try.underlying3 hinf k2 hzs b i n (n + 1 - i) rfl rfl L HB.out (by rw [hjs]; omega) (by omega) (by rw [hjs]; omega) (by omega) (by unfold maxLen; omega) (by rw [hjb]; omega) ?_; intro G w1 Z R1 Z1 G1 G2 E1; have B1 := HB.out.ext E1 (fun h => h); have V1 := HV.out.ext E1 (fun h => h); have G3 : ¬ (G = i) := (by omega); have G4 : ¬ (G = i + 1) := (by omega); have G5 : i + (n + 1 - i) = n + 1 := (by omega))
    | (refine wpList_copyN rfl (.tmp 43) (.tmp 44) 23 23 rfl 9 1 Try.underlying23 hsz w.heap.size _ _ _ vb 0 1 vc rfl rfl (L.take (i * j.size) ++ Z) M 9 e1 R1 V1 xs (by rw [hxl]; simp only [Nat.min_def]; split <;> omega) (by rw [hxl, List.drop_zero, hM]) (by simp only [List.length_append, List.length_take, Z1, hxl, hjs]; omega) h2 ?_; intro x2 w2 R2 E2; have B2 := B1.ext E2 (fun h => hbn h)))
  go_region_law_o (refine step_copyN rfl (.tmp 50) (.tmp 53) 23 23 rfl 9 1 Try.underlying23 hsz w.heap.size ((i + 1) * 1) (n + 1 - (i + 1)) (G - (i + 1)) b (i * 1) (n - i) (n - i) (by simp [Act.eval, Act.put]) (by simp [Act.eval, Act.put]) _ L 9 9 R2 B2 X (by rw [hXl, show Nat.min (n - i) (n + 1 - (i + 1)) = n - i from by rw [show n + 1 - (i + 1) = n - i by omega]; exact Nat.min_self _]) hXs (by rw [length_splice _ _ _ (by simp only [List.length_append, List.length_take, Z1, hxl, hjs]; omega)]; simp only [List.length_append, List.length_take, Z1, hXl, hjs]; omega) hX1 ?_; intro x3 w3 R3 E3)
  go_wp2
  go_ret
  have hZ : xs.length + X.length ≤ Z.length := by rw [hxl, hXl, Z1, hjs]; omega
  rw [hjs] at R3
  rw [splice_two _ _ _ _ _ _ (by rw [List.length_take]; omega) (by rw [hxl]; omega) hZ] at R3
  refine ⟨w.heap.size, G, Z.drop (xs.length + X.length), by simp, ?_, Nat.le_refl _, by rw [← hX]; exact R3, by rw [List.length_drop, hxl, hXl, Z1, hjs]; omega, by omega, G2⟩
  exact Grow.inner (Ext.drew (E1.inner E2 (fun k hk => Nat.le_of_eq (Eq.symm hk)))) E3 (fun k hk => Nat.le_of_eq (Eq.symm hk))
theorem insS_room (w : World) (b n c i vb vc : Nat) (L M : List Value) (e1 : TypeId) (xs : List Value) (hb : Row0 w b L 9) (hv : Row0 w vb M e1) (hbv : vb ≠ b) (hL : L.length = c * 1) (hM : M.take 1 = xs) (hxl : xs.length = 1) (hi : i < n) (hroom : n + 1 ≤ c) (hc : c ≤ maxLen) (h1 : ∀ u ∈ L.take (n * 1), u.oneCell' = true) (h2 : ∀ u ∈ xs, u.oneCell' = true) :
    Calls Try.prog 186 #[.slice (some ⟨b, 0, none⟩) n c, .int .i64 i, .slice (some ⟨vb, 0, none⟩) 1 vc] w fun e w' =>
      e = .returned (.slice (some ⟨b, 0, none⟩) (n + 1 : Nat) c) ∧ Ext (fun k => k = b) w w' ∧ Row0 w' b (L.take (i * 1) ++ (xs ++ ((L.take (n * 1)).drop (i * 1) ++ L.drop ((n + 1) * 1)))) 9 := by
  obtain ⟨d, j, hs⟩ := TI.says (tab_ok _ _ tab9)
  have hjs := hs.sz
  have hinf := hs.inf
  dsimp only at hjs
  have hsz : (Try.prog.info? 9).map (·.size) = some 1 := by rw [hinf]; simp [hjs]
  have hc63 : c ≤ 9223372036854775807 := by unfold maxLen at hc; exact hc
  have mixed := mixed_ok
  have hz1 : ¬ ((1 : Int) = 0) := by omega
  have hz2 : ¬ ((i : Int) = (n : Int)) := by omega
  have hz3 : ¬ ((c : Int) < (n : Int) + 1) := by omega
  have hw1 : IntKind.i64.wrap ((n : Int) + 1) = (n : Int) + 1 := by rw [IntKind.wrap_i64]; omega
  have hw3 : IntKind.i64.wrap ((i : Int) + 1) = (i : Int) + 1 := by rw [IntKind.wrap_i64]; omega
  have hb1 : (0 : Int) ≤ (i : Int) + 1 := by omega
  have hb2 : (0 : Int) ≤ (i : Int) := by omega
  have hb4 : (0 : Int) ≤ (n : Int) + 1 := by omega
  have hin : i ≤ n := by omega
  have hni : ¬ (c = i) := by omega
  have hni2 : ¬ (c = i + 1) := by omega
  have htn : ((i : Int) + 1).toNat = i + 1 := by omega
  have htn2 : ((n : Int) + 1).toNat = n + 1 := by omega
  have hb3 : (i : Int) ≤ (n : Int) := by omega
  have hb5 : (i : Int) + 1 ≤ (n : Int) + 1 := by omega
  have hb6 : (n : Int) + 1 ≤ (c : Int) := by omega
  have hb7 : (i : Int) ≤ (n : Int) + 1 := by omega
  obtain ⟨X, hX⟩ : ∃ X, X = (L.take (n * 1)).drop (i * 1) := ⟨_, rfl⟩
  have hXl : X.length = (n - i) * 1 := by rw [hX, List.length_drop, List.length_take, Nat.sub_mul, hL]; omega
  have hXs : X = (L.drop (i * 1)).take X.length := by rw [hXl, hX, List.drop_take, Nat.sub_mul]
  have hX1 : ∀ v ∈ X, v.oneCell' = true := fun v hv => h1 v (by rw [hX] at hv; exact List.mem_of_mem_drop hv)
  have hov : ∀ lb cb, (callFunc 194 #[.slice (some ⟨vb, 0, none⟩) 1 vc, .slice (some ⟨b, i + 1, none⟩) lb cb]).run Try.prog w = .ok (.value (.bool false)) w := fun lb cb => by
    rw [run_callFunc_extern (P := Try.prog) (f := 194) (fn := Try.f194) (e := Extern.SlicesOverlaps.overlaps #[23, 23] #[4]) (by kernel_rfl) (by kernel_rfl) (by kernel_rfl) (by kernel_rfl) (by kernel_rfl)]
    rw [run_overlaps_rows (P := Try.prog) w 23 4 9 Try.underlying23 1 (fun w => hs.sizeOf w) vb 0 b (i + 1) 1 vc lb cb M L e1 9 hv hb hbv (by rw [hL]; omega)]
    rfl
  have HB := Lib.hid hb
  have HV := Lib.hid hv
  clear hb hv
  go_enter Try.func186, Try.ntmps186
  go_wp2_with (simp only [hov])
  go_region_law_o (refine step_copyN rfl (.tmp 73) (.tmp 76) 23 23 rfl 9 1 Try.underlying23 hsz b ((i + 1) * 1) (n + 1 - (i + 1)) (c - (i + 1)) b (i * 1) (n + 1 - i) (c - i) (by simp [Act.eval, Act.put]) (by simp [Act.eval, Act.put]) L L 9 9 HB.out HB.out X (by rw [hXl, show Nat.min (n + 1 - i) (n + 1 - (i + 1)) = n - i from by rw [show n + 1 - (i + 1) = n - i by omega]; exact Nat.min_eq_right (by omega)]) hXs (by rw [hXl, hL]; omega) hX1 ?_; intro x2 w2 R2 E2)
  have V2 := HV.out.ext (Ext.trans (Ext.drew (Ext.refl _ w)) E2) (fun h => hbv h)
  go_wp2_with (refine wpList_copyN rfl (.tmp 80) (.tmp 81) 23 23 rfl 9 1 Try.underlying23 hsz b _ _ _ vb 0 1 vc rfl rfl (splice L ((i + 1) * 1) X) M 9 e1 R2 V2 xs (by rw [hxl]; simp only [Nat.min_def]; split <;> omega) (by rw [hxl, List.drop_zero, hM]) (by rw [length_splice _ _ _ (by rw [hXl, hL]; omega), hxl, hL]; omega) h2 ?_; intro x3 w3 R3 E3)
  go_ret
  simp only [Nat.mul_one] at R3 ⊢
  rw [splice_shift L xs X i 1 (by simpa using hxl) (by rw [hXl, hL]; omega)] at R3
  refine ⟨by simp, Ext.trans (Ext.trans (Ext.drew (Ext.refl _ w)) E2) E3, ?_⟩
  rw [Nat.mul_one] at hX
  rw [Nat.mul_one] at hX
  rw [← hX, show n + 1 = i + 1 + X.length by rw [hXl]; omega]
  exact R3
theorem wp_appRS {w : World} {ops : Array Oper} {rest : List Oper} {o : Oper} {a : Act} {Q : Exit → Act → World → Prop} (hgd : o.guard = none) (ho : o.op = .call { callee := .builtin .append, args := #[.tmp 23, .tmp 24], argTypes := #[23, 23] })
    (u : Value) (hx : a.eval (.tmp 23) = u) (n : Nat) (olds : List Value) (hat : Hid (Eng.RowAt w 0 9 1 u n olds)) (vb vc : Nat) (hy : a.eval (.tmp 24) = .slice (some ⟨vb, 0, none⟩) 1 vc) (M : List Value) (e1 : TypeId) (hv : Row0 w vb M e1) (xs : List Value) (hM : M.take 1 = xs) (hxl : xs.length = 1) (h2 : ∀ u ∈ xs, u.oneCell' = true) (hn : n ≤ 1000000)
    (h : ∀ v' w', Eng.RowAt w' 0 9 1 v' (n + 1) (olds ++ xs) → Ext (fun k => blk u = some k) w w' → (∀ g, blk v' = some g → blk u = some g ∨ w.heap.size ≤ g) → wpList Try.prog ops Q rest (a.put o.dst v') w') : wpList Try.prog ops Q (o :: rest) a w := by
  obtain ⟨d, j, hs⟩ := TI.says (tab_ok _ _ tab9)
  obtain ⟨j', zv, zs, k1, k2, k3, k3', k3'', k4, k5, k6⟩ := zero_ok (w := w) (ρ := pureC nil nil none) (tab_ok _ _ tab9) (by decide)
  rw [hs.inf] at k1; cases k1
  have hjs := hs.sz
  have hjb := hs.by'
  dsimp only at hjs hjb k6
  have hsrc : Eng.Src w (some ⟨vb, 0, none⟩) 1 xs := .inr ⟨_, rfl, fun q v hq => by
    rw [addr_plus, Nat.zero_add]
    refine hv.cell ?_
    rw [← hM] at hq
    have hl := (List.getElem?_eq_some_iff.1 hq).1
    rw [List.length_take] at hl
    rwa [List.getElem?_take_of_lt (by omega)] at hq⟩
  obtain ⟨v', w', m1, m2, m3, m4, _⟩ := run_append_row (P := Try.prog) (B := 0) 23 o.type 9 j zv Try.underlying23 hs.inf k2 (by rw [k3, hjs]; simpa using k6) (by rw [hjs]; exact hat.out) (Nat.zero_le _) (some ⟨vb, 0, none⟩) 1 vc xs (by rw [hxl, hjs]) hsrc h2 (by rw [hjb]; omega) (by unfold maxLen; omega)
  refine wpList_plain hgd fun K hK => ?_
  unfold Oper.wp
  simp only [execOp, ho, resolve, invoke, builtin, Sem.run_bind, Sem.run_pure, Result.andThen_ok, List.map_toArray, List.map_cons, List.map_nil, hx, hy, m1]
  exact hK _ _ (h v' w' (by rw [hjs] at m2; exact m2) m3 m4)
theorem insS_end (w : World) (b n c vb vc : Nat) (M : List Value) (e1 : TypeId) (xs olds : List Value) (hat : Eng.RowAt w 0 9 1 (.slice (some ⟨b, 0, none⟩) n c) n olds) (hv : Row0 w vb M e1) (hM : M.take 1 = xs) (hxl : xs.length = 1) (h2 : ∀ u ∈ xs, u.oneCell' = true) (hn : n ≤ 1000000) (hnc : n ≤ c) (hc : c ≤ maxLen) :
    Calls Try.prog 186 #[.slice (some ⟨b, 0, none⟩) n c, .int .i64 n, .slice (some ⟨vb, 0, none⟩) 1 vc] w fun e w' =>
      ∃ v', e = .returned v' ∧ Eng.RowAt w' 0 9 1 v' (n + 1) (olds ++ xs) ∧ Ext (fun k => blk (.slice (some ⟨b, 0, none⟩) n c) = some k) w w' ∧ ∀ g, blk v' = some g → blk (.slice (some ⟨b, 0, none⟩) n c) = some g ∨ w.heap.size ≤ g := by
  have hc63 : c ≤ 9223372036854775807 := by unfold maxLen at hc; exact hc
  have hz1 : ¬ ((1 : Int) = 0) := by omega
  have hb2 : (0 : Int) ≤ (n : Int) := by omega
  have hb3 : (n : Int) ≤ (c : Int) := by omega
  have HA := Lib.hid hat
  have HV := Lib.hid hv
  clear hat hv
  by_cases hcn : c = n
  · go_enter Try.func186, Try.ntmps186
    go_wp2_with (at_builtin; refine wp_appRS rfl rfl (.slice (some ⟨b, 0, none⟩) n c) (by simp [Act.eval, Act.put, hcn]) n olds HA vb vc rfl M e1 HV.out xs hM hxl h2 hn ?_; intro v4 w4 R4 E4 B4)
    go_ret
    exact ⟨_, by simp, R4, E4, B4⟩
  · go_enter Try.func186, Try.ntmps186
    go_wp2_with (at_builtin; refine wp_appRS rfl rfl (.slice (some ⟨b, 0, none⟩) n c) (by simp [Act.eval, Act.put]) n olds HA vb vc rfl M e1 HV.out xs hM hxl h2 hn ?_; intro v4 w4 R4 E4 B4)
    go_ret
    exact ⟨_, by simp, R4, E4, B4⟩
theorem insS_nil (w : World) (ad : Option Addr) (vb vc : Nat) (M : List Value) (e1 : TypeId) (xs : List Value) (hv : Row0 w vb M e1) (hM : M.take 1 = xs) (hxl : xs.length = 1) (h2 : ∀ u ∈ xs, u.oneCell' = true) :
    Calls Try.prog 186 #[.slice ad 0 0, .int .i64 0, .slice (some ⟨vb, 0, none⟩) 1 vc] w fun e w' =>
      ∃ v', e = .returned v' ∧ Eng.RowAt w' 0 9 1 v' 1 xs ∧ Grow w w' ∧ ∀ g, blk v' = some g → w.heap.size ≤ g := by
  have hat : Eng.RowAt w 0 9 1 (.slice ad 0 0) 0 [] := .inl ⟨rfl, rfl, ad, rfl⟩
  have hnb : ∀ k, ¬ blk (.slice ad 0 0) = some k := fun k hk => by cases ad <;> simp [blk] at hk
  have hz1 : ¬ ((1 : Int) = 0) := by omega
  have HA := Lib.hid hat
  have HV := Lib.hid hv
  clear hat hv
  cases ad with
  | none =>
    go_enter Try.func186, Try.ntmps186
    go_wp2_with (at_builtin; refine wp_appRS rfl rfl (.slice none 0 0) (by simp [Act.eval, Act.put]) 0 [] HA vb vc rfl M e1 HV.out xs hM hxl h2 (by omega) ?_; intro v4 w4 R4 E4 B4)
    go_ret
    exact ⟨v4, by simp, by simpa using R4, E4.mono (fun k hk => hnb k hk), fun g hg => (B4 g (by simpa using hg)).resolve_left (hnb g)⟩
  | some ad =>
    go_enter Try.func186, Try.ntmps186
    go_wp2_with (at_builtin; refine wp_appRS rfl rfl (.slice (some ad) 0 0) (by simp [Act.eval, Act.put]) 0 [] HA vb vc rfl M e1 HV.out xs hM hxl h2 (by omega) ?_; intro v4 w4 R4 E4 B4)
    go_ret
    exact ⟨v4, by simp, by simpa using R4, E4.mono (fun k hk => hnb k hk), fun g hg => (B4 g (by simpa using hg)).resolve_left (hnb g)⟩
theorem insS_at (w : World) (u : Value) (n i : Nat) (olds : List Value) (vb vc : Nat) (M : List Value) (e1 : TypeId) (xs : List Value) (hat : Eng.RowAt w 0 9 1 u n olds) (hone : ∀ u ∈ olds, u.oneCell' = true) (hv : Row0 w vb M e1) (hne : blk u ≠ some vb) (hM : M.take 1 = xs) (hxl : xs.length = 1) (h2 : ∀ u ∈ xs, u.oneCell' = true) (hi : i ≤ n) (hn : n ≤ 1000000) :
    Calls Try.prog 186 #[u, .int .i64 i, .slice (some ⟨vb, 0, none⟩) 1 vc] w fun e w' =>
      ∃ v', e = .returned v' ∧ Eng.RowAt w' 0 9 1 v' (n + 1) (olds.take (i * 1) ++ (xs ++ olds.drop (i * 1))) ∧ Ext (fun k => blk u = some k) w w' ∧ ∀ g, blk v' = some g → blk u = some g ∨ w.heap.size ≤ g := by
  have hat0 := hat
  rcases hat with ⟨rfl, rfl, ad, rfl⟩ | ⟨g, cap, cur, rfl, hp, _, hg, hnc, hcm, hcs, htk, hol⟩
  · have : i = 0 := by omega
    subst this
    refine (insS_nil w ad vb vc M e1 xs hv hM hxl h2).mono ?_
    rintro e w' ⟨v', rfl, q1, q2, q3⟩
    exact ⟨v', rfl, by simpa using q1, q2.mono (fun _ h => h.elim), fun g hg => .inr (q3 g hg)⟩
  · have hbl : blk (.slice (some ⟨g, 0, none⟩) n cap) = some g := blk_slice _ _ _ hp
    have hG : Row0 w g cur.toList 9 := by show _ = _; rw [hg]
    rcases Nat.lt_or_ge i n with hlt | hge
    · have hcl : cur.toList.length = cap * 1 := by rw [Array.length_toList, hcs]
      have hcut : (cur.toList.take (n * 1)).take (i * 1) = cur.toList.take (i * 1) := by rw [List.take_take, Nat.min_eq_left (by omega)]
      rcases Nat.lt_or_ge n cap with hroom | hfull
      · refine (insS_room w g n cap i vb vc cur.toList M e1 xs hG hv (fun e => hne (by rw [hbl, e])) hcl hM hxl hlt hroom hcm (by rw [htk]; exact hone) h2).mono ?_
        rintro e w' ⟨rfl, q1, q2⟩
        refine ⟨_, rfl, .inr ⟨g, cap, _, rfl, hp, Nat.zero_le _, q2.out, hroom, hcm, ?_, ?_, ?_⟩, q1.mono (fun k hk => by rw [hk]; exact hbl), fun g' hg' => by rw [blk_slice _ _ _ hp] at hg'; exact .inl (by rw [hbl]; exact hg')⟩
        · simp only [List.size_toArray, List.length_append, List.length_take, List.length_drop, hcl, hxl, Nat.add_mul]; omega
        · simp only [List.append_assoc]
          rw [htk, ← hcut, htk, ← List.append_assoc xs, ← List.append_assoc, ← List.append_assoc]
          exact List.take_left' (by simp only [List.length_append, List.length_take, List.length_drop, hol, hxl, Nat.add_mul]; omega)
        · simp only [List.length_append, List.length_take, List.length_drop, hol, hxl, Nat.add_mul]; omega
      · have hce : cap = n := by omega
        subst hce
        refine (insS_grow w g cap i vb vc cur.toList M e1 xs hG hv (by omega) hM hxl hlt hn ?_ h2).mono ?_
        · rw [← List.take_of_length_le (l := cur.toList) (i := cap * 1) (by omega), htk]; exact hone
        · rintro e w' ⟨g', G, Z, rfl, q1, q2, q3, q4, q5, q6⟩
          refine ⟨_, rfl, .inr ⟨g', G, _, rfl, by omega, Nat.zero_le _, q3.out, q5, q6, ?_, ?_, ?_⟩, q1.mono (fun _ h => h.elim), fun g'' hg' => by rw [blk_slice _ _ _ (by omega)] at hg'; cases hg'; exact .inr q2⟩
          · simp only [List.size_toArray, List.length_append, List.length_take, List.length_drop, hcl, hxl, q4, Nat.add_mul, Nat.sub_mul]; omega
          · rw [htk, ← hcut, htk, ← List.append_assoc xs, ← List.append_assoc]
            exact List.take_left' (by simp only [List.length_append, List.length_take, List.length_drop, hol, hxl, Nat.add_mul]; omega)
          · simp only [List.length_append, List.length_take, List.length_drop, hol, hxl, Nat.add_mul]; omega
    · have : i = n := by omega
      subst this
      refine (insS_end w g i cap vb vc M e1 xs olds hat0 hv hM hxl h2 hn hnc hcm).mono ?_
      rintro e w' ⟨v', rfl, q1, q2, q3⟩
      refine ⟨v', rfl, ?_, q2, q3⟩
      rw [List.take_of_length_le (by omega), List.drop_of_length_le (by omega), List.append_nil]
      exact q1
theorem insS_inv3 {w : World} {ρ : Cx} {a b c : AV} {vs : List Value} (h : RepL w ρ [a, b, c] vs) : ∃ x y z, vs = [x, y, z] ∧ Eng.Rep w ρ a x ∧ Eng.Rep w ρ b y ∧ Eng.Rep w ρ c z := by
  unfold RepL at h
  obtain ⟨x, _, rfl, h1, h⟩ := h
  unfold RepL at h
  obtain ⟨y, _, rfl, h2, h⟩ := h
  unfold RepL at h
  obtain ⟨z, _, rfl, h3, h⟩ := h
  unfold RepL at h
  subst h
  exact ⟨x, y, z, rfl, h1, h2, h3⟩
theorem insS_ACG (es : List (List AV)) (x : List AV) (i : Nat) (hi : i ≤ es.length) (hn : es.length ≤ 1000000) (hes : ∀ e ∈ es, ∀ c ∈ e, Pur c) (hx : ∀ c ∈ x, Pur c) :
    ACG Try.prog 186 [.own 1000 es.length, .int .i64 i, .own 1001 1] [(1000, ⟨false, 9, 1, es⟩), (1001, ⟨false, 9, 1, [x]⟩)] 0 (fun r l => r = .own 1 (es.length + 1) ∧ l = [(1, ⟨false, 9, 1, es.take i ++ (x :: es.drop i)⟩)]) := by
  refine ⟨Go.Proofs.Ytgfnmhfdmmnaoaa.Eng.enters_of Try.func186 (by kernel_rfl) (by kernel_rfl), by simp, fun w ρ k vs hL hS hrd hU hR hargs => ?_⟩
  obtain ⟨v0, v1, v2, rfl, a0, a1, a2⟩ := insS_inv3 hargs
  obtain ⟨u0, p1, p2, ⟨p3, _⟩, p4, p5, xs0, p6, p7, p8⟩ := hR.rw 1000 _ rfl
  obtain ⟨u1, q1, q2, _, q4, q5, xs1, q6, q7, q8⟩ := hR.rw 1001 _ rfl
  dsimp only at p2 p4 p6 p7 q2 q4 q6 q7
  obtain ⟨_, _, _, hv0⟩ := rep_own.1 a0
  obtain ⟨_, _, _, hv2⟩ := rep_own.1 a2
  have := hv0 u0 p1 p2.symm
  subst this
  have := hv2 u1 q1 q2.symm
  subst this
  rw [rep_int] at a1
  subst a1
  rcases q6 with ⟨h0, _⟩ | ⟨g, cap, cur, rfl, hp, _, hg, hnc, hcm, hcs, htk, hol⟩
  · simp at h0
  have hG : Row0 w g cur.toList 9 := by show _ = _; rw [hg]
  have hbl : blk (.slice (some ⟨g, 0, none⟩) [x].length cap) = some g := blk_slice _ _ _ hp
  have htk' : cur.toList.take 1 = xs1 := by rw [← htk]; simp
  refine (insS_at w v0 es.length i xs0 g cap cur.toList 9 xs1 p6 p8 hG (fun e => ?_) htk' (by simpa using hol) q8 hi hn).mono ?_
  · have := hR.dj 1000 1001 _ _ g p1 q1 e hbl
    omega
  · rintro e w' ⟨v', rfl, m1, m2, m3⟩
    have hfl : (es.take i ++ (x :: es.drop i)).flatten = (es.take i).flatten ++ (x ++ (es.drop i).flatten) := by simp
    have hlt : (es.take i).flatten.length = i * 1 := by rw [flat_len (fun e he => p4 e (List.mem_of_mem_take he)), List.length_take, Nat.min_eq_left hi]
    have hsp : es.flatten = (es.take i).flatten ++ (es.drop i).flatten := by rw [← List.flatten_append, List.take_append_drop]
    have hl2 : (es.take i ++ (x :: es.drop i)).length = es.length + 1 := by simp; omega
    obtain ⟨ρ', r1, r2, r3, r4, r5, r6, r7, r8, r9⟩ := acg_one (k := k) (c := 0) hL hS hrd hR (m2.mono (fun b hb => ⟨1000, v0, p1, hb⟩)) ⟨false, 9, 1, es.take i ++ (x :: es.drop i)⟩ v' _ rfl p3 (fun y hy => by
      rcases List.mem_append.1 hy with hy | hy
      · exact p4 y (List.mem_of_mem_take hy)
      · rcases List.mem_cons.1 hy with rfl | hy
        · exact q4 _ (by simp)
        · exact p4 y (List.mem_of_mem_drop hy)) (by dsimp only; rw [hl2]; exact m1) (fun g hg => (m3 g hg).imp (fun h => ⟨1000, v0, p1, h⟩) (fun h => h)) (by
        dsimp only
        rw [hfl]
        rw [hsp] at p7
        have t1 := p7.take (i * 1)
        have t2 := p7.drop (i * 1)
        rw [← hlt, List.take_left] at t1
        rw [← hlt, List.drop_left] at t2
        rw [hlt] at t1 t2
        exact t1.append ((by simpa using q7 : RepL w ρ x xs1).append t2)) (fun e he c hc => by
        rcases List.mem_append.1 he with he | he
        · exact hes e (List.mem_of_mem_take he) c hc
        · rcases List.mem_cons.1 he with rfl | he
          · exact hx c hc
          · exact hes e (List.mem_of_mem_drop he) c hc) (fun u hu => by
        rcases List.mem_append.1 hu with hu | hu
        · exact p8 u (List.mem_of_mem_take hu)
        · rcases List.mem_append.1 hu with hu | hu
          · exact q8 u hu
          · exact p8 u (List.mem_of_mem_drop hu))
    exact ⟨v', _, _, ρ', rfl, r1, r2, r3, r4, r5, r6, r7, (fun id r h1 h2 u h3 => by rw [r8 id (by have := rowsOf_key h1; simp at this; omega)] at h3; cases h3), by rw [hl2] at r9; exact r9, rfl, rfl⟩
end Go.Proofs.Ytgfnmhfdmmnaoaa
namespace Go.Proofs.Ytgfnmhfdmmnaoaa.Eng
open Go Go.RowKit
attribute [local simp] big size_mk ASt.pay Option.map_map Function.comp_def awant aop acall ado aev ofVal ofVal0 ASt.put ASt.add ASt.turn ASt.kill abox aalloc astore aload aloadD astoreD idOf ASt.at cellsTo afieldAddr afield aindexAddr aindex alen abin aint acmp astr aun apick aextract anil aslice abound abuild afill abuildSlice asCells aps avCells over upd aappend asrc amax amin aconv mkSt slots rowsOf_cons rowsOf_nil usedOf_cons usedOf_nil ZK.av List.replicate ASt.back ASt.addL ASt.killL nodeA nodeT nodeTL_eq nodeL_eq strsE_get strsE_len intsE_get intsE_len strsE_at intsE_at tab2 tab3 tab4 tab5 tab6 tab7 tab8 tab9 tab10 tab11 tab12 tab13 tab14 tab15 tab16 tab17 tab18 tab19 tab21 tab22 tab23 tab24 tab25 tab26 tab27 tab28 tab29 tab30 tab39 tab40 tab41 tab42 tab43 tab47 tab48 tab55 tab56 tab57 tab60 tab61 tab62 tab73 tab74 tab75 tab85 tab92 tab115 tab116 tab143 tab144 tab145 tab154 tab155 tab170 tab175 tab182 tab197 tab198 tab203 tab204 tab205 tab207 tab208 tab209
end Go.Proofs.Ytgfnmhfdmmnaoaa.Eng
namespace Go.Proofs.Ytgfnmhfdmmnaoaa.Eng
open Go Go.RowKit
end Go.Proofs.Ytgfnmhfdmmnaoaa.Eng
namespace Go.Proofs.Ytgfnmhfdmmnaoaa.Eng
open Go Go.RowKit
section
variable {P : Program} {T : Tab} {w0 : W0} {S0 : Nat → Prop} {rd0 : Option Nat} {k0 : Nat} {w : World} {a : Act} {s : ASt} {ρ : Cx}
end
section
variable {P : Program} {T : Tab} {k0 : Nat} {md : List Nat} {Av : Nat → Prop} {ops : Array Oper} {K : ASt → Prop} {o : Oper} {l : List Oper} {s : ASt}
end
end Go.Proofs.Ytgfnmhfdmmnaoaa.Eng
namespace Go.Proofs.Ytgfnmhfdmmnaoaa.Eng
open Go Go.RowKit
attribute [local simp] big size_mk ASt.pay Option.map_map Function.comp_def awant aop acall ado aev ofVal ofVal0 ASt.put ASt.add ASt.turn ASt.kill abox aalloc astore aload aloadD astoreD idOf ASt.at cellsTo afieldAddr afield aindexAddr aindex alen abin aint acmp astr aun apick aextract anil aslice abound abuild afill abuildSlice asCells aps avCells over upd aappend asrc amax amin aconv mkSt slots rowsOf_cons rowsOf_nil usedOf_cons usedOf_nil ZK.av List.replicate ASt.back ASt.addL ASt.killL nodeA nodeT nodeTL_eq nodeL_eq strsE_get strsE_len intsE_get intsE_len strsE_at intsE_at tab2 tab3 tab4 tab5 tab6 tab7 tab8 tab9 tab10 tab11 tab12 tab13 tab14 tab15 tab16 tab17 tab18 tab19 tab21 tab22 tab23 tab24 tab25 tab26 tab27 tab28 tab29 tab30 tab39 tab40 tab41 tab42 tab43 tab47 tab48 tab55 tab56 tab57 tab60 tab61 tab62 tab73 tab74 tab75 tab85 tab92 tab115 tab116 tab143 tab144 tab145 tab154 tab155 tab170 tab175 tab182 tab197 tab198 tab203 tab204 tab205 tab207 tab208 tab209
theorem AC.args {P : Program} {f : FuncId} {args args' : List AV} {c : Nat} {Post : AV → Prop} (h : AC P f args c Post) (hw : ∀ w ρ vs, RepL w ρ args' vs → RepL w ρ args vs) : AC P f args' c Post :=
  ⟨h.1, fun w L S rb k vs h0 h1 h2 h3 => h.2 w L S rb k vs h0 h1 h2 (hw w _ vs h3)⟩
theorem ACR.args {P : Program} {f : FuncId} {args args' : List AV} {c : Nat} {Post0 : AV → Prop} {Post : (Nat → AV) → Row → Prop} (h : ACR P f args c Post0 Post) (hw : ∀ w ρ vs, RepL w ρ args' vs → RepL w ρ args vs) : ACR P f args' c Post0 Post :=
  ⟨h.1, fun w L S rb k vs h0 h1 h2 h3 => h.2 w L S rb k vs h0 h1 h2 (hw w _ vs h3)⟩
theorem Less.hold {s : ASt} (id : Nat) : Less s (s.hold id) := fun _ _ _ _ _ _ _ _ hs => by
  obtain ⟨ρ', h, _⟩ := SR.held hs id
  exact ⟨ρ', h⟩
end Go.Proofs.Ytgfnmhfdmmnaoaa.Eng
namespace Go.Proofs.Ytgfnmhfdmmnaoaa.Eng
open Go Go.RowKit
end Go.Proofs.Ytgfnmhfdmmnaoaa.Eng
namespace Go.Proofs.Ytgfnmhfdmmnaoaa
open Go.RowKit
end Go.Proofs.Ytgfnmhfdmmnaoaa
namespace Go.Proofs.Ytgfnmhfdmmnaoaa.Eng
open Go Go.RowKit
theorem placeF_cases (n : Nd) (st : ByteArray) : ∀ f k, (placeF n st f k = -1 ∧ ∀ j, k ≤ j → j < k + f → hitP n st j = false) ∨ (∃ j, k ≤ j ∧ j < k + f ∧ placeF n st f k = (j : Int) ∧ hitP n st j = true)
  | 0, k => .inl ⟨rfl, fun j h1 h2 => by omega⟩
  | f + 1, k => by
    rw [placeF]
    cases hb : hitP n st k
    · rcases placeF_cases n st f (k + 1) with ⟨h1, h2⟩ | ⟨j, h1, h2, h3, h4⟩
      · refine .inl ⟨by simpa using h1, fun j h3 h4 => ?_⟩
        rcases Nat.eq_or_lt_of_le h3 with rfl | h5
        · exact hb
        · exact h2 j (by omega) (by omega)
      · exact .inr ⟨j, by omega, by omega, by simpa using h3, h4⟩
    · exact .inr ⟨k, Nat.le_refl _, by omega, by simp, hb⟩
theorem placeI_cases (n : Nd) (st : ByteArray) : (placeI n st = -1 ∧ ∀ j, j < n.kids.length → hitP n st j = false) ∨ (∃ j, j < n.kids.length ∧ placeI n st = (j : Int) ∧ hitP n st j = true) := by
  rcases placeF_cases n st n.kids.length 0 with ⟨h1, h2⟩ | ⟨j, h1, h2, h3, h4⟩
  · exact .inl ⟨h1, fun j hj => h2 j (Nat.zero_le _) (by omega)⟩
  · exact .inr ⟨j, by omega, h3, h4⟩
def Shp (n : Nd) : Prop := ∃ d, shapeB n d = true
theorem Shp.kid {n : Nd} (h : Shp n) {k : Nd} (hk : k ∈ n.kids) : Shp k := by
  obtain ⟨d, h⟩ := h
  rw [shapeB_eq] at h
  simp only [Bool.and_eq_true] at h
  exact ⟨d - 1, shapeL_mem h.2 k hk⟩
theorem Shp.parts {n : Nd} (h : Shp n) : partsB n = true := by
  obtain ⟨d, h⟩ := h
  rw [shapeB_eq] at h
  simp only [Bool.and_eq_true] at h
  exact h.1.2
theorem Shp.kids {n : Nd} (h : Shp n) : n.kids.length ≤ 6 := partsB_kids h.parts
theorem Shp.map {n : Nd} (h : Shp n) (h4 : n.kind = 4) : areNamesB n.names = true ∧ n.kids.length = n.names.length := by
  have hp := h.parts
  unfold partsB at hp
  simp only [Bool.and_eq_true] at hp
  have hp := hp.2
  rw [h4] at hp
  simp at hp
  exact hp
theorem Shp.asc {n : Nd} (h : Shp n) (h4 : n.kind = 4) : Asc n.names := by
  have := (h.map h4).1
  simp only [areNamesB, Bool.and_eq_true] at this
  exact namesB_asc this.2
theorem Shp.plc {n : Nd} (h : Shp n) : Plc n := ⟨fun h4 => by have := (h.map h4).2; omega, fun _ => by have := h.kids; omega⟩
theorem Shp.of {n : Nd} (h : validB n = true) : Shp n := by
  unfold validB at h
  rw [Bool.and_eq_true] at h
  exact ⟨5, h.1⟩
theorem Shp.sml {n : Nd} (h : Shp n) : Sml n := shape_sml n _ h.choose_spec
theorem lb_at {xs : List ByteArray} (ha : Asc xs) {j : Nat} (hj : j < xs.length) : lbound xs xs[j] = j :=
  lb_of (Nat.le_of_lt hj) (fun t ht htj => ha t j ht hj htj) (fun t ht hjt => by
    rcases Nat.eq_or_lt_of_le hjt with rfl | h
    · exact lt_irr _
    · exact bl_asymm _ _ (ha j t hj ht h))
theorem hit_map {n : Nd} {st : ByteArray} (h4 : n.kind = 4) {j : Nat} (hj : j < n.names.length) : hitP n st j = eqs n.names[j] st := by
  simp [hitP, h4, List.getElem?_eq_getElem hj]
end Go.Proofs.Ytgfnmhfdmmnaoaa.Eng
namespace Go.Proofs.Ytgfnmhfdmmnaoaa.Eng
open Go Go.RowKit
attribute [local simp] big size_mk ASt.pay Option.map_map Function.comp_def awant aop acall ado aev ofVal ofVal0 ASt.put ASt.add ASt.turn ASt.kill abox aalloc astore aload aloadD astoreD idOf ASt.at cellsTo afieldAddr afield aindexAddr aindex alen abin aint acmp astr aun apick aextract anil aslice abound abuild afill abuildSlice asCells aps avCells over upd aappend asrc amax amin aconv mkSt slots rowsOf_cons rowsOf_nil usedOf_cons usedOf_nil ZK.av List.replicate ASt.back ASt.addL ASt.killL nodeA nodeT nodeTL_eq nodeL_eq strsE_get strsE_len intsE_get intsE_len strsE_at intsE_at tab2 tab3 tab4 tab5 tab6 tab7 tab8 tab9 tab10 tab11 tab12 tab13 tab14 tab15 tab16 tab17 tab18 tab19 tab21 tab22 tab23 tab24 tab25 tab26 tab27 tab28 tab29 tab30 tab39 tab40 tab41 tab42 tab43 tab47 tab48 tab55 tab56 tab57 tab60 tab61 tab62 tab73 tab74 tab75 tab85 tab92 tab115 tab116 tab143 tab144 tab145 tab154 tab155 tab170 tab175 tab182 tab197 tab198 tab203 tab204 tab205 tab207 tab208 tab209
theorem bsearch_AC (xs : List ByteArray) (s : ByteArray) (t : VC) (ha : Asc xs) (hl : xs.length ≤ 1000) : AC Try.prog 159 [.view t 1 (strsE xs), .str s] 0 (fun r => r = .tup [.int .i64 (lbound xs s : Nat), .bool (mem xs s)]) := by
  refine AC.ofGrow (enters_of Try.func159 (by kernel_rfl) (by kernel_rfl)) (fun w L S rb vs h => ?_)
  obtain ⟨v, u, rfl, h1, h2⟩ := repL2_inv h
  obtain ⟨a, c, rfl, h3⟩ := strs_of_rep h1
  rw [rep_str] at h2
  obtain ⟨rfl, _⟩ := h2
  refine (bsearch_ok a c xs s w h3 ha (by omega)).mono ?_
  rintro e w' ⟨rfl, hg⟩
  exact ⟨_, .tup [.int .i64 (lbound xs s : Nat), .bool (mem xs s)], rfl, hg, rep_tup.2 ⟨[_, _], rfl, repL2 (rep_int.2 rfl) (rep_bool.2 rfl)⟩, rfl⟩
def optA (o : Option Nd) : AV := .tup [nodeA (o.getD Nd.zero), .bool o.isSome]
theorem zero_wk : Wk (node0 0 0 ⟨#[]⟩) (nodeA Nd.zero) := by
  unfold node0 nodeA
  rw [nodeL_eq]
  exact Wk.agg (.cons (Wk.refl _) (.cons (Wk.refl _) (.cons (Wk.refl _) (.cons (Wk.nil (fun h => by cases h)) (.cons (Wk.nil (fun h => by cases h)) .nil)))))
theorem tup2_wk' {a b a' b' : AV} (h1 : Wk a a') (h2 : Wk b b') : Wk (.tup [a, b]) (.tup [a', b']) := Wk.tup (.cons h1 (.cons h2 .nil))
theorem none_end : Pur (.tup [node0 0 0 ⟨#[]⟩, .bool false]) ∧ Wk (.tup [node0 0 0 ⟨#[]⟩, .bool false]) (.tup [nodeA Nd.zero, .bool false]) := ⟨tup2_pur (node0_pur 0 0 ⟨#[]⟩) pur_bool, tup2_wk' zero_wk (Wk.refl _)⟩
def putK (n : Nd) (nm : ByteArray) (v : Nd) : Nd :=
  if mem n.names nm then ⟨n.kind, n.num, n.text, n.names, n.kids.set (lbound n.names nm) v⟩
  else ⟨n.kind, n.num, n.text, n.names.take (lbound n.names nm) ++ (nm :: n.names.drop (lbound n.names nm)), n.kids.take (lbound n.names nm) ++ (v :: n.kids.drop (lbound n.names nm))⟩
theorem lbn_le (xs : List ByteArray) (nm : ByteArray) : lbound xs nm ≤ xs.length := List.countP_le_length
theorem lbn_lt {xs : List ByteArray} {nm : ByteArray} (ha : Asc xs) (h : mem xs nm = true) : lbound xs nm < xs.length := by
  obtain ⟨i, hi, he⟩ := List.getElem_of_mem (mem_iff.1 h)
  subst he
  rw [lb_at ha hi]; exact hi
theorem putK_yes {n v : Nd} {nm : ByteArray} (h : mem n.names nm = true) : putK n nm v = ⟨n.kind, n.num, n.text, n.names, n.kids.set (lbound n.names nm) v⟩ := by unfold putK; rw [if_pos h]
theorem putK_no {n v : Nd} {nm : ByteArray} (h : mem n.names nm = false) : putK n nm v = ⟨n.kind, n.num, n.text, n.names.take (lbound n.names nm) ++ (nm :: n.names.drop (lbound n.names nm)), n.kids.take (lbound n.names nm) ++ (v :: n.kids.drop (lbound n.names nm))⟩ := by unfold putK; rw [h]; rfl
end Go.Proofs.Ytgfnmhfdmmnaoaa.Eng
namespace Go.Proofs.Ytgfnmhfdmmnaoaa.Eng
open Go Go.RowKit
def frB : VC → Bool → List Nat
  | .fr g, false => [g]
  | _, _ => []
mutual
def atB : AV → List Nat
  | .agg cs => atL cs
  | .tup cs => atL cs
  | .fn _ cs => atL cs
  | .view t _ es => frB t es.isEmpty ++ atE es
  | .eptr t cs => frB t false ++ atL cs
  | _ => []
def atL : List AV → List Nat
  | [] => []
  | c :: cs => atB c ++ atL cs
def atE : List (List AV) → List Nat
  | [] => []
  | e :: es => atL e ++ atE es
end
theorem at_any : atB .any = [] := by unfold atB; rfl
theorem at_int {k : IntKind} {n : Int} : atB (.int k n) = [] := by unfold atB; rfl
theorem at_bool {b : Bool} : atB (.bool b) = [] := by unfold atB; rfl
theorem at_str {b : ByteArray} : atB (.str b) = [] := by unfold atB; rfl
theorem at_own {id n : Nat} : atB (.own id n) = [] := by unfold atB; rfl
theorem at_ptr {bx : Bool} {sz n id i j : Nat} : atB (.ptr bx sz n id i j) = [] := by unfold atB; rfl
theorem at_rdr : atB .rdr = [] := by unfold atB; rfl
theorem at_agg {cs : List AV} : atB (.agg cs) = atL cs := by unfold atB; rfl
theorem at_tup {cs : List AV} : atB (.tup cs) = atL cs := by unfold atB; rfl
theorem at_fn {f : FuncId} {cs : List AV} : atB (.fn f cs) = atL cs := by unfold atB; rfl
theorem at_view {t : VC} {sz : Nat} {es : List (List AV)} : atB (.view t sz es) = frB t es.isEmpty ++ atE es := by conv => lhs; unfold atB
theorem atL_nil : atL [] = [] := by unfold atL; rfl
theorem atL_cons {c : AV} {cs : List AV} : atL (c :: cs) = atB c ++ atL cs := by conv => lhs; unfold atL
theorem atE_nil : atE [] = [] := by unfold atE; rfl
theorem atE_cons {e : List AV} {es : List (List AV)} : atE (e :: es) = atL e ++ atE es := by conv => lhs; unfold atE
theorem frB_tight {b : Bool} : frB .tight b = [] := by cases b <;> rfl
theorem frB_fr {g : Nat} {b : Bool} : frB (.fr g) b = if b then [] else [g] := by cases b <;> rfl
theorem atL_mem {b : Nat} : ∀ {cs : List AV}, b ∈ atL cs ↔ ∃ c ∈ cs, b ∈ atB c
  | [] => by rw [atL_nil]; simp
  | c :: cs => by rw [atL_cons, List.mem_append, atL_mem]; simp
theorem atE_mem {b : Nat} : ∀ {es : List (List AV)}, b ∈ atE es ↔ ∃ e ∈ es, b ∈ atL e
  | [] => by rw [atE_nil]; simp
  | e :: es => by rw [atE_cons, List.mem_append, atE_mem]; simp
theorem atE_app {es ds : List (List AV)} : atE (es ++ ds) = atE es ++ atE ds := by
  induction es with
  | nil => rw [atE_nil]; rfl
  | cons e es ih => rw [List.cons_append, atE_cons, atE_cons, ih, List.append_assoc]
section
variable {w : World} {ρ : Cx}
mutual
theorem Rep.at : ∀ {c : AV} {v : Value}, Rep w ρ c v → ∀ b ∈ atB c, ρ.S b ∧ ∀ o, w.frozen? ⟨b, o, none⟩ = false
  | .any, _, _, b, hb => by rw [at_any] at hb; cases hb
  | .int _ _, _, _, b, hb => by rw [at_int] at hb; cases hb
  | .bool _, _, _, b, hb => by rw [at_bool] at hb; cases hb
  | .str _, _, _, b, hb => by rw [at_str] at hb; cases hb
  | .own _ _, _, _, b, hb => by rw [at_own] at hb; cases hb
  | .ptr _ _ _ _ _ _, _, _, b, hb => by rw [at_ptr] at hb; cases hb
  | .rdr, _, _, b, hb => by rw [at_rdr] at hb; cases hb
  | .agg cs, _, h, b, hb => by
    rw [at_agg] at hb
    obtain ⟨vs, _, _, h3⟩ := rep_agg.1 h
    exact RepL.at h3 b hb
  | .tup cs, _, h, b, hb => by
    rw [at_tup] at hb
    obtain ⟨vs, _, h3⟩ := rep_tup.1 h
    exact RepL.at h3 b hb
  | .fn f cs, _, h, b, hb => by
    rw [at_fn] at hb
    obtain ⟨vs, _, h3⟩ := rep_fn.1 h
    exact RepL.at h3 b hb
  | .view t sz es, _, h, b, hb => by
    rw [at_view, List.mem_append] at hb
    obtain ⟨a, c, _, _, _, _, _, h6⟩ := rep_view.1 h
    rcases h6 with rfl | ⟨g, o, _, hg, he⟩
    · rcases hb with hb | hb
      · cases t <;> simp [frB] at hb
      · rw [atE_nil] at hb; cases hb
    · rcases hb with hb | hb
      · cases t <;> cases hem : es.isEmpty <;> rw [hem] at hb <;> simp [frB] at hb
        subst hb
        simp only [Cx.H] at hg
        obtain ⟨h1, rfl, h3⟩ := hg
        exact ⟨h1, h3⟩
      · exact RepE.at he b hb
  | .eptr t cs, _, h, b, hb => by
    unfold atB at hb
    rw [List.mem_append] at hb
    obtain ⟨g, o, _, hg, he⟩ := rep_eptr.1 h
    rcases hb with hb | hb
    · cases t <;> simp [frB] at hb
      subst hb
      simp only [Cx.H] at hg
      obtain ⟨h1, rfl, h3⟩ := hg
      exact ⟨h1, h3⟩
    · exact RepC.at he b hb
theorem RepL.at : ∀ {cs : List AV} {vs : List Value}, RepL w ρ cs vs → ∀ b ∈ atL cs, ρ.S b ∧ ∀ o, w.frozen? ⟨b, o, none⟩ = false
  | [], _, _, b, hb => by rw [atL_nil] at hb; cases hb
  | c :: cs, _, h, b, hb => by
    rw [atL_cons, List.mem_append] at hb
    unfold RepL at h
    obtain ⟨v, vs', _, h2, h3⟩ := h
    rcases hb with hb | hb
    · exact Rep.at h2 b hb
    · exact RepL.at h3 b hb
theorem RepC.at {g : Nat} : ∀ {cs : List AV} {o : Nat}, RepC w ρ g o cs → ∀ b ∈ atL cs, ρ.S b ∧ ∀ o, w.frozen? ⟨b, o, none⟩ = false
  | [], _, _, b, hb => by rw [atL_nil] at hb; cases hb
  | c :: cs, _, h, b, hb => by
    rw [atL_cons, List.mem_append] at hb
    unfold RepC at h
    obtain ⟨⟨v, _, _, h2⟩, h3⟩ := h
    rcases hb with hb | hb
    · exact Rep.at h2 b hb
    · exact RepC.at h3 b hb
theorem RepE.at {g : Nat} : ∀ {es : List (List AV)} {o : Nat}, RepE w ρ g o es → ∀ b ∈ atE es, ρ.S b ∧ ∀ o, w.frozen? ⟨b, o, none⟩ = false
  | [], _, _, b, hb => by rw [atE_nil] at hb; cases hb
  | e :: es, _, h, b, hb => by
    rw [atE_cons, List.mem_append] at hb
    unfold RepE at h
    rcases hb with hb | hb
    · exact RepC.at h.1 b hb
    · exact RepE.at h.2 b hb
end
end
def ACF (P : Program) (f : FuncId) (args : List AV) (c : Nat) (Post : AV → Prop) : Prop :=
  Enters P f ∧ ∀ (w : World) (L S : Nat → Prop) (rb : Option Nat) (k : Nat) (vs : List Value), (∀ b, L b → b < w.heap.size ∧ rb ≠ some b) → (∀ b, S b → b < w.heap.size) → (∀ b, rb = some b → ¬ S b ∧ RdOk w S b (k + c)) → RepL w (pureC L S rb) args vs →
    Calls P f vs.toArray w fun e w' => ∃ v r S', e = .returned v ∧ Ext (fun b => rb = some b) w w' ∧ (∀ b, S b → S' b) ∧ (∀ b, S' b → S b ∨ (w.heap.size ≤ b ∧ b < w'.heap.size)) ∧
      (∀ b, rb = some b → RdOk w' S' b k) ∧ Rep w' (pureC nil S' none) r v ∧ Post r ∧ ∀ b ∈ atB r, w.heap.size ≤ b
section
variable {P : Program} {f : FuncId} {args : List AV} {c : Nat} {Q R : AV → Prop}
theorem ACF.toAC (h : ACF P f args c Q) : AC P f args c Q :=
  ⟨h.1, fun w L S rb k vs h0 h1 h2 h3 => (h.2 w L S rb k vs h0 h1 h2 h3).mono fun e w' ⟨v, r, S', k1, k2, k3, k4, k5, k6, k7, _⟩ => ⟨v, r, S', k1, k2, k3, k4, k5, k6, k7⟩⟩
theorem ACF.toV {A : Nat → Prop} (h : ACF P f args c Q) : ACV P A f args c (fun r => Q r ∧ ∀ b ∈ atB r, ¬ A b) :=
  ⟨h.1, fun w L S rb k vs hA h0 h1 h2 h3 => (h.2 w L S rb k vs h0 h1 h2 h3).mono fun e w' ⟨v, r, S', k1, k2, k3, k4, k5, k6, k7, k8⟩ => ⟨v, r, S', k1, k2, k3, k4, k5, k6, k7, fun b hb h => by have := hA b h; have := k8 b hb; omega⟩⟩
theorem ACF.mono (h : ACF P f args c Q) (hq : ∀ r, Q r → R r) : ACF P f args c R :=
  ⟨h.1, fun w L S rb k vs h0 h1 h2 h3 => (h.2 w L S rb k vs h0 h1 h2 h3).mono fun e w' ⟨v, r, S', k1, k2, k3, k4, k5, k6, k7, k8⟩ => ⟨v, r, S', k1, k2, k3, k4, k5, k6, hq r k7, k8⟩⟩
theorem AC.arg {bs : List AV} (h : AC P f args c Q) (hw : WkL bs args) : AC P f bs c Q :=
  ⟨h.1, fun w L S rb k vs h0 h1 h2 h3 => h.2 w L S rb k vs h0 h1 h2 (hw.rep h3)⟩
theorem ACF.arg {bs : List AV} (h : ACF P f args c Q) (hw : WkL bs args) : ACF P f bs c Q :=
  ⟨h.1, fun w L S rb k vs h0 h1 h2 h3 => h.2 w L S rb k vs h0 h1 h2 (hw.rep h3)⟩
end
section
variable {P : Program} {T : Tab} {k0 : Nat} {md : List Nat} {Av : Nat → Prop} {ops : Array Oper} {K : ASt → Prop} {o : Oper} {l : List Oper} {s : ASt}
theorem arun_callF {f : FuncId} {xs : List Operand} {args : List AV} {c : Nat} {Post : AV → Prop} (hw : awant ops o s = some true) (ha : acall o.op = some (f, xs)) (hx : xs.map (aev s) = args) (hac : ACF P f args c Post) (hclo : cloL args) (hcan : s.can c)
    (h : ∀ r, Post r → (∀ b ∈ atB r, ¬ Av b) → ARun P T k0 Av md ops K l ((s.pay c).put o.dst r)) : ARun P T k0 Av md ops K (o :: l) s :=
  ARun.opA hw fun w0 S0 rd0 w a ρ hT hA hS next Q hn => by
    subst hx
    exact callV_ok hS ha hA hac.toV (lendL_ops (cloL_spec hclo)) hcan (fun r v w' ρ' hp _ hs => hn _ _ _ _ hs (h r hp.1 hp.2))
theorem arun_cF {f : FuncId} {xs : List Operand} {args : List AV} (c : Nat) {Post : AV → Prop} (hac : ACF P f args c Post) (h : ∀ r, Post r → (∀ b ∈ atB r, ¬ Av b) → ARun P T k0 Av md ops K l ((s.pay c).put o.dst r)) (hw : awant ops o s = some true := by (simp [awant] <;> fail)) (ha : acall o.op = some (f, xs) := by rfl)
    (hx : xs.map (aev s) = args := by (simp [ASt.put, ASt.pay, ASt.add, Option.map_map, Function.comp_def, List.set_cons_succ, List.set_cons_zero, aev, ofVal, ofVal0, big, size_mk, nodeA, nodeT, nodeTL_eq, nodeL_eq] <;> fail))
    (hclo : cloL args := by (simp only [cloL] <;> (repeat (first | exact trivial | refine And.intro ?_ ?_ | exact clo_int | exact clo_str | exact clo_bool | exact clo_rdr | exact node_clo _ | exact nodeT_clo _ _ | exact strs_clo _ | exact ints_clo _ | exact nodes_clo _ | exact clo_vnil | exact bytes_clo _ | exact clo_lit _ rfl | assumption | exact item_clo _ | exact items_clo _ | exact store_clo _ _ | exact storeA_clo _ | exact change_clo _ _ _)) <;> fail))
    (hcan : s.can c := by (first | with_reducible exact can_none | (simp only [ASt.put, ASt.pay, ASt.add, Option.map_none]; exact can_none) | ((first | with_reducible refine can_some ?_ | refine can_of ?_ | (simp only [ASt.put, ASt.pay, ASt.add, Option.map_map, Function.comp_def, Option.map_some]; first | refine can_some ?_ | refine can_of ?_)); (first | exact Nat.le_refl _ | (simp <;> fail) | omega)))) : ARun P T k0 Av md ops K (o :: l) s :=
  arun_callF hw ha hx hac hclo hcan h
theorem arunD_cF {P : Program} {T : Tab} {md : List Nat} {Av : Nat → Prop} {pc : Pc} {ops : Array Oper} {K : ASt → Prop} {o : Oper} {l : List Oper} {k : Nat} {s : ASt} {f : FuncId} {xs : List Operand} {args : List AV} (c : Nat) {Post : AV → Prop} (hac : ACF P f args c Post) (hne : ∃ r, (Post r ∧ ∀ b ∈ atB r, ¬ Av b) ∧ NoId r)
    (h : ∀ r, Post r → (∀ b ∈ atB r, ¬ Av b) → NoId r → ARunD P T md Av pc ops K l (k + 1) ((s.pay c).put o.dst r)) (hl : (pc.2.contains k || pc.2.contains (1000 + k)) = false := by rfl) (hw : awant ops o s = some true := by (simp [awant] <;> fail)) (ha : acall o.op = some (f, xs) := by rfl)
    (hx : xs.map (aev s) = args := by (simp [ASt.put, ASt.pay, ASt.add, Option.map_map, Function.comp_def, List.set_cons_succ, List.set_cons_zero, aev, ofVal, ofVal0, big, size_mk, nodeA, nodeT, nodeTL_eq, nodeL_eq] <;> fail))
    (hpc : pc.1 k args = (some c, fun r => Post r ∧ ∀ b ∈ atB r, ¬ Av b) := by rfl)
    (hclo : ∀ x ∈ args, Clo x := by (simp only [List.forall_mem_cons, List.not_mem_nil, false_implies, implies_true, and_true] <;> (repeat (first | exact trivial | refine And.intro ?_ ?_ | exact clo_int | exact clo_str | exact clo_bool | exact clo_rdr | exact node_clo _ | exact nodeT_clo _ _ | exact strs_clo _ | exact ints_clo _ | exact nodes_clo _ | exact clo_vnil | exact bytes_clo _ | exact clo_lit _ rfl | assumption | exact item_clo _ | exact items_clo _ | exact store_clo _ _ | exact storeA_clo _ | exact change_clo _ _ _)) <;> fail))
    (hcan : s.can c := by (first | with_reducible exact can_none | (simp only [ASt.put, ASt.pay, ASt.add, Option.map_none]; exact can_none) | ((first | with_reducible refine can_some ?_ | refine can_of ?_ | (simp only [ASt.put, ASt.pay, ASt.add, Option.map_map, Function.comp_def, Option.map_some]; first | refine can_some ?_ | refine can_of ?_)); (first | exact Nat.le_refl _ | (simp <;> fail) | omega)))) : ARunD P T md Av pc ops K (o :: l) k s :=
  arunD_callV hl hw ha hx hac.toV hpc hclo hcan hne (fun r hr hn => h r hr.1 hr.2 hn)
end
def endF (T : Tab) (fn : Func) (B : Nat) (Post : AV → Prop) : Exit → ASt → Prop
  | .normal, s | .ret, s => ∃ r, ares T s fn.results.toList = some r ∧ Pur r ∧ (∀ b ∈ atB r, B ≤ b) ∧ Post r
  | _, _ => False
theorem endF_ret {T : Tab} {fn : Func} {B : Nat} {Post : AV → Prop} {s : ASt} : endF T fn B Post .ret s = ∃ r, ares T s fn.results.toList = some r ∧ Pur r ∧ (∀ b ∈ atB r, B ≤ b) ∧ Post r := rfl
theorem endF_normal {T : Tab} {fn : Func} {B : Nat} {Post : AV → Prop} {s : ASt} : endF T fn B Post .normal s = ∃ r, ares T s fn.results.toList = some r ∧ Pur r ∧ (∀ b ∈ atB r, B ≤ b) ∧ Post r := rfl
structure W0.New (w0 : W0) : Prop where
  A : ∀ b, b < w0.wd.heap.size → w0.A b
  X : ∀ b, ¬ w0.X b
theorem W0.New.ge {w0 : W0} (h : w0.New) {b : Nat} (hb : ¬ w0.A b) : w0.wd.heap.size ≤ b := by
  rcases Nat.lt_or_ge b w0.wd.heap.size with q | q
  · exact absurd (h.A b q) hb
  · exact q
theorem ACF.of {P : Program} {T : Tab} (hT : Tab.Ok P T) (hm : P.follows .mixedOrders = true) {f : FuncId} {fn : Func} {code : Code} (hf : P.funcs[f]? = some fn) (hb : fn.body = some code) (hn : (fn.name == "runtime.NumGoroutine") = false)
    {args : List AV} {c : Nat} {Post : AV → Prop}
    (h : ∀ E : Env, E.P = P → E.T = T → E.w0.New → AW E code (endF T fn E.w0.wd.heap.size Post) (initSt args fn.ntmps (E.rd0.map fun _ => c))) : ACF P f args c Post := by
  refine ⟨enters_of hf hn (by rw [hb]; rfl), fun w L S rb k vs hL hS hr hargs => ?_⟩
  refine calls_of_wp hf hb ?_
  refine wp_mono (h ⟨P, T, hT, hm, W0.of w, S, rb, k⟩ rfl rfl ⟨fun _ h => h, fun _ h => h⟩ w _ (initC L S rb) (init_SR hL hS hr hargs)) ?_
  rintro e a' w' ⟨s', ρ', h1, h2⟩
  have fin : ∀ r, ares T s' fn.results.toList = some r → Pur r → (∀ b ∈ atB r, w.heap.size ≤ b) → Post r → a'.defers = [] ∧ ∃ v, (results fn a'.tmps).run P w' = .ok v w' ∧ ∃ v' r S', Ending.returned v = .returned v' ∧ Ext (fun b => rb = some b) w w' ∧ (∀ b, S b → S' b) ∧ (∀ b, S' b → S b ∨ (w.heap.size ≤ b ∧ b < w'.heap.size)) ∧
      (∀ b, rb = some b → RdOk w' S' b k) ∧ Rep w' (pureC nil S' none) r v' ∧ Post r ∧ ∀ b ∈ atB r, w.heap.size ≤ b := fun r hr hp hat hq => by
    obtain ⟨v, k1, k2⟩ := ares_ok hT h1 hr
    exact ⟨SR.df h1, v, k1, v, r, ρ'.S, rfl, SR.fin_ext h1, SR.s0 h1, SR.fin_S h1, SR.fin_rd h1, hp _ _ _ k2, hq, hat⟩
  cases e with
  | normal => obtain ⟨r, q1, q2, q3, q4⟩ := h2; exact fin r q1 q2 q3 q4
  | ret => obtain ⟨r, q1, q2, q3, q4⟩ := h2; exact fin r q1 q2 q3 q4
  | _ => exact h2.elim
def W0.note (w0 : W0) (l : List Nat) : W0 := { w0 with A := fun b => w0.A b ∨ b ∈ l }
theorem W0.New.note {w0 : W0} (h : w0.New) (l : List Nat) : (w0.note l).New := ⟨fun b hb => .inl (h.A b hb), h.X⟩
theorem SR.noted {P : Program} {w0 : W0} {S0 : Nat → Prop} {rd0 : Option Nat} {k0 : Nat} {w : World} {a : Act} {s : ASt} {ρ : Cx} (h : SR P w0 S0 rd0 k0 w a s ρ) {l : List Nat} (hl : ∀ b ∈ l, b < w.heap.size) : SR P (w0.note l) S0 rd0 k0 w a s ρ :=
  ⟨h.tm, h.df, h.ext, h.s0, h.sl, h.us, h.rw, h.rn, h.dj, h.ns, h.rl, h.rdk, h.rdn, h.r0, h.ll, h.kp, h.rv, fun b hb => hb.elim (h.av b) (hl b)⟩
theorem SR.unnoted {P : Program} {w0 : W0} {S0 : Nat → Prop} {rd0 : Option Nat} {k0 : Nat} {w : World} {a : Act} {s : ASt} {ρ : Cx} {l : List Nat} (h : SR P (w0.note l) S0 rd0 k0 w a s ρ) : SR P w0 S0 rd0 k0 w a s ρ :=
  ⟨h.tm, h.df, h.ext, h.s0, h.sl, h.us, h.rw, h.rn, h.dj, h.ns, h.rl, h.rdk, h.rdn, h.r0, h.ll, h.kp, h.rv, fun b hb => h.av b (.inl hb)⟩
section
variable {P : Program} {T : Tab} {hT : Tab.Ok P T} {hm : P.follows .mixedOrders = true} {w0 : W0} {S0 : Nat → Prop} {rd0 : Option Nat} {k0 : Nat} {Q : Exit → ASt → Prop} {s : ASt} {code : Code}
theorem AW.noteL (l : List Nat) (hl : ∀ w a ρ, SR P w0 S0 rd0 k0 w a s ρ → ∀ b ∈ l, b < w.heap.size) (h : AW ⟨P, T, hT, hm, w0.note l, S0, rd0, k0⟩ code Q s) : AW ⟨P, T, hT, hm, w0, S0, rd0, k0⟩ code Q s := by
  intro w a ρ hS
  refine wp_mono (h w a ρ (SR.noted hS (hl w a ρ hS))) ?_
  rintro e a' w' ⟨s', ρ', h1, h2⟩
  exact ⟨s', ρ', SR.unnoted h1, h2⟩
theorem AW.noteR (id : Nat) {r : Row} (hr : s.rows id = some r) (h : AW ⟨P, T, hT, hm, w0.note (atE r.es), S0, rd0, k0⟩ code Q s) : AW ⟨P, T, hT, hm, w0, S0, rd0, k0⟩ code Q s :=
  AW.noteL (atE r.es) (fun w a ρ hS b hb => by
    obtain ⟨_, u, _, _, _, _, _, xs, _, q, _⟩ := hS.rw id r hr
    obtain ⟨e, he, hb⟩ := atE_mem.1 hb
    obtain ⟨c, hc, hb⟩ := atL_mem.1 hb
    exact (hS.sl b (q.at b (atL_mem.2 ⟨c, List.mem_flatten.2 ⟨e, he, hc⟩, hb⟩)).1).1) h
theorem AW.bound (h : ∀ N : Nat, (∀ b, w0.A b → b < N) → AW ⟨P, T, hT, hm, w0, S0, rd0, k0⟩ code Q s) : AW ⟨P, T, hT, hm, w0, S0, rd0, k0⟩ code Q s := by
  intro w a ρ hS
  exact h w.heap.size (fun b hb => SR.av hS b hb) w a ρ hS
end
def ASt.holdF (s : ASt) (id g : Nat) : ASt :=
  match s.rows id with
  | some r => { s with tmps := AV.subL id r.es.length (.view (.fr g) r.sz r.es) s.tmps, rows := fun k => ((upd s.rows id none) k).map (Row.sub id r.es.length (.view (.fr g) r.sz r.es)) }
  | none => s
section
variable {P : Program} {w0 : W0} {S0 : Nat → Prop} {rd0 : Option Nat} {k0 : Nat} {w : World} {a : Act} {s : ASt} {ρ : Cx}
theorem SR.heldF (h : SR P w0 S0 rd0 k0 w a s ρ) (id : Nat) : ∃ g ρ', w0.Own g ∧ ¬ ρ.S g ∧ SR P w0 S0 rd0 k0 w a (s.holdF id g) ρ' := by
  unfold ASt.holdF
  split
  · rename_i r hr
    obtain ⟨_, u0, hu0, hln, hok⟩ := h.rw id r hr
    obtain ⟨ρ', h1, h2, h3⟩ := h.hold id r hr
    obtain ⟨g, hg1, hg2, hg3⟩ : ∃ g, w0.Own g ∧ ¬ ρ.S g ∧ (r.es ≠ [] → ∀ a c, u0 = .slice (some a) r.es.length c → a.block = g ∧ ∀ o, w.frozen? ⟨g, o, none⟩ = false) := by
      by_cases hne : r.es = []
      · exact ⟨w.heap.size, .inl h.ext.size, fun hS => by have := (h.sl _ hS).1; omega, fun hn => absurd hne hn⟩
      · obtain ⟨⟨ad, c, rfl, k1, k2, k3⟩, k4⟩ := h3 _ hu0
        have hlen : 0 < r.es.length := List.length_pos_iff.2 hne
        rcases k3 with k3 | ⟨g, rfl, e2, e3⟩
        · exact absurd k3 hne
        · have hbl : blk (.slice (some ⟨g, 0, none⟩) r.es.length c) = some g := blk_slice _ _ _ (by omega)
          refine ⟨g, (h.row_lt hu0 hbl).1, (h.ns id _ g hu0 hbl).1, fun _ a c' he => ?_⟩
          cases he
          refine ⟨rfl, fun o => ?_⟩
          obtain ⟨_, _, _, xs, hat, _⟩ := hok
          rcases hat with ⟨q0, _⟩ | ⟨g', cap, cur, q1, _, _, q2, _⟩
          · omega
          · cases q1
            unfold World.frozen?
            rw [q2]
            simp
    refine ⟨g, ρ', hg1, hg2, ?_⟩
    have hc : ∀ v, Rep w ρ (.own id r.es.length) v → Rep w ρ' (.view (.fr g) r.sz r.es) v := fun v hv => by
      obtain ⟨_, _, _, hq⟩ := rep_own.1 hv
      have := hq u0 hu0 hln.symm
      subst this
      obtain ⟨⟨ad, c, rfl, k1, k2, k3⟩, k4⟩ := h3 _ hu0
      refine rep_view.2 ⟨ad, c, rfl, (fun h => by cases h), k1, k2, k4, ?_⟩
      by_cases hne : r.es = []
      · exact .inl hne
      · rcases k3 with k3 | ⟨g', rfl, e2, e3⟩
        · exact absurd k3 hne
        · obtain ⟨q1, q2⟩ := hg3 hne _ _ rfl
          dsimp only at q1
          subst q1
          exact .inr ⟨g', 0, rfl, ⟨e2, rfl, q2⟩, e3⟩
    refine ⟨h.tm.sub h2 hc, h1.df, h1.ext, h1.s0, h1.sl, h1.us, fun k r' hk => ?_, fun k hk => ?_, h1.dj, h1.ns, h1.rl, h1.rdk, h1.rdn, h1.r0, h1.ll, h1.kp2 (fun k r' hk => by
      simp only [Option.map_eq_some_iff] at hk
      obtain ⟨r0, hk, rfl⟩ := hk
      exact ⟨r0, hk, rfl⟩), h1.rv, h1.av⟩
    · simp only [Option.map_eq_some_iff] at hk
      obtain ⟨r0, hk, rfl⟩ := hk
      have hid : k ≠ id := fun e => by subst e; simp [upd_same] at hk
      rw [upd_ne _ _ hid] at hk
      obtain ⟨q1, u, q2, q3, p0, p1, p2, xs, p3, p4, p5⟩ := h.rw k r0 hk
      obtain ⟨q1', u', q2', q3', p0', p1', p2', xs', p3', p4', p5'⟩ := h1.rw k r0 (by simp only [ASt.kill]; rw [upd_ne _ _ hid]; exact hk)
      have hu' : ρ.row k = some u' := by
        have := (h2.U k ((h.us k).2 q1)).2.2 u' q2'
        exact this (by rw [q3', q3])
      rw [q2] at hu'; cases hu'
      refine ⟨q1', u, q2', by simpa [Row.sub] using q3', p0, fun x hx => ?_, fun hb => by simpa [Row.sub] using p2 hb, xs, by simpa [Row.sub] using p3, ?_, p5⟩
      · simp only [Row.sub, List.mem_map] at hx
        obtain ⟨y, hy, rfl⟩ := hx
        rw [subL_length]; exact p1 y hy
      · simp only [Row.sub]
        rw [subL_flatten]
        exact p4.sub h2 hc
    · simp only [Option.map_eq_none_iff] at hk
      exact h1.rn k hk
  · exact ⟨w.heap.size, ρ, .inl h.ext.size, fun hS => by have := (h.sl _ hS).1; omega, h⟩
end
section
variable {P : Program} {T : Tab} {hT : Tab.Ok P T} {hm : P.follows .mixedOrders = true} {w0 : W0} {S0 : Nat → Prop} {rd0 : Option Nat} {k0 : Nat} {Q : Exit → ASt → Prop} {s : ASt} {code : Code}
theorem AW.holdF (id : Nat) (hN : w0.New) (h : ∀ g, w0.wd.heap.size ≤ g → (∀ (t : Nat) c, s.tmps[t]? = some c → ∀ b ∈ atB c, g ≠ b) → (∀ k r, s.rows k = some r → ∀ b ∈ atE r.es, g ≠ b) → AW ⟨P, T, hT, hm, w0, S0, rd0, k0⟩ code Q (s.holdF id g)) : AW ⟨P, T, hT, hm, w0, S0, rd0, k0⟩ code Q s := by
  intro w a ρ hS
  obtain ⟨g, ρ', h1, h2, h3⟩ := SR.heldF hS id
  refine h g (h1.elim (fun h => h) (fun h => absurd h (hN.X g))) (fun t c hc b hb e => ?_) (fun k r hr b hb e => ?_) w a ρ' h3
  · obtain ⟨v, _, hr⟩ := (SR.tm hS).get hc
    exact h2 (by rw [e]; exact (hr.at b hb).1)
  · obtain ⟨_, u, _, _, _, _, _, xs, _, q, _⟩ := SR.rw hS k r hr
    obtain ⟨e', he, hb⟩ := atE_mem.1 hb
    obtain ⟨c, hc, hb⟩ := atL_mem.1 hb
    have hfl : b ∈ atL r.es.flatten := atL_mem.2 ⟨c, List.mem_flatten.2 ⟨e', he, hc⟩, hb⟩
    exact h2 (by rw [e]; exact (q.at b hfl).1)
end
section
variable {P : Program} {T : Tab} {k0 : Nat} {md : List Nat} {Av : Nat → Prop} {ops : Array Oper} {K : ASt → Prop} {o : Oper} {l : List Oper} {s : ASt}
end
end Go.Proofs.Ytgfnmhfdmmnaoaa.Eng
namespace Go.Proofs.Ytgfnmhfdmmnaoaa
open Go Go.RowKit
structure Shp where
  kind : Int
  names : List ByteArray
  needs : List Bool
  kids : List Shp
theorem Shp.ind' (P : Shp → Prop) (h : ∀ n : Shp, (∀ k ∈ n.kids, P k) → P n) : ∀ n, P n := by
  intro n
  refine Shp.rec (motive_1 := P) (motive_2 := fun l => ∀ k ∈ l, P k) ?_ ?_ ?_ n
  · intro kind names needs kids ih
    exact h ⟨kind, names, needs, kids⟩ ih
  · intro k hk; cases hk
  · intro k ks h1 h2 x hx
    rcases List.mem_cons.1 hx with rfl | hx
    · exact h1
    · exact h2 _ hx
end Go.Proofs.Ytgfnmhfdmmnaoaa
namespace Go.Proofs.Ytgfnmhfdmmnaoaa
open Go.RowKit
end Go.Proofs.Ytgfnmhfdmmnaoaa
namespace Go.Proofs.Ytgfnmhfdmmnaoaa
open Go Go.RowKit
end Go.Proofs.Ytgfnmhfdmmnaoaa
namespace Go.Proofs.Ytgfnmhfdmmnaoaa
open Go Go.RowKit
structure Rep (α : Type) where
  n : Nat
  R : World → (Nat → Prop) → α → List Value → Prop
  F : World → α → List Value → List Nat → Prop
  rlen : ∀ {w S x cs}, R w S x cs → cs.length = n
  flen : ∀ {w x cs fp}, F w x cs fp → cs.length = n
  ext : ∀ {X S : Nat → Prop} {w w' x cs}, Ext X w w' → (∀ k, S k → ¬ X k) → R w S x cs → R w' S x cs
  mono : ∀ {S T : Nat → Prop} {w x cs}, (∀ k, S k → T k) → R w S x cs → R w T x cs
  lt : ∀ {S : Nat → Prop} {w x cs}, R w S x cs → R w (fun k => S k ∧ k < w.heap.size) x cs
  keep : ∀ {w w' x cs fp}, F w x cs fp → (∀ b ∈ fp, ∀ o, w'.cell? ⟨b, o, none⟩ = w.cell? ⟨b, o, none⟩) → F w' x cs fp
  toR : ∀ {S : Nat → Prop} {w x cs fp}, F w x cs fp → (∀ b ∈ fp, S b) → R w S x cs
theorem Rep.grow {α : Type} (E : Rep α) {S : Nat → Prop} {w w' : World} {x : α} {cs : List Value} (h : E.R w S x cs) (hg : Grow w w') : E.R w' S x cs := E.ext hg (fun _ _ h => h) h
section slices
variable {α : Type} (E : Rep α)
variable {E}
end slices
end Go.Proofs.Ytgfnmhfdmmnaoaa
namespace Go.Proofs.Ytgfnmhfdmmnaoaa
open Go.RowKit
def mdig : Nat → List UInt8
  | 0 => []
  | k + 1 => mdig ((k + 1) / 10) ++ dig1 ((k + 1) % 10)
decreasing_by omega
theorem mdig_pos {k : Nat} (h : 0 < k) : mdig k = mdig (k / 10) ++ dig1 (k % 10) := by
  cases k with
  | zero => omega
  | succ k => rw [mdig]
def mtxt (k : Nat) : ByteArray := txt (109 :: mdig k)
theorem txt_append (l m : List UInt8) : txt l ++ txt m = txt (l ++ m) := by
  apply ByteArray.ext
  show ((ByteArray.mk l.toArray) ++ (ByteArray.mk m.toArray)).data = (l ++ m).toArray
  simp
def mkS : Nat → Nat → List ByteArray
  | _, 0 => []
  | k, n + 1 => mtxt k :: mkS (k + 1) n
theorem mkS_len (k n : Nat) : (mkS k n).length = n := by
  induction n generalizing k with
  | zero => rfl
  | succ n ih => simp [mkS, ih]
theorem mkS_get (k n i : Nat) (h : i < (mkS k n).length) : (mkS k n)[i] = mtxt (k + i) := by
  induction n generalizing k i with
  | zero => simp [mkS] at h
  | succ n ih =>
    cases i with
    | zero => simp [mkS]
    | succ i => simp only [mkS, List.getElem_cons_succ]; rw [ih]; congr 1; omega
theorem dig1_size (k : Nat) : (dig1 k).length = 1 := rfl
theorem mdig_len (k : Nat) : (mdig k).length ≤ k := by
  induction k using Nat.strongRecOn with
  | ind k ih =>
    cases k with
    | zero => simp [mdig]
    | succ k =>
      rw [mdig, List.length_append, dig1_size]
      have := ih ((k + 1) / 10) (by omega)
      omega
theorem txt_size (l : List UInt8) : (txt l).size = l.length := by show (txt l).data.size = _; simp [txt]
theorem mtxt_size (k : Nat) (h : k ≤ 1000000000) : (mtxt k).size ≤ big := by
  have h1 : (mtxt k).size = 1 + (mdig k).length := by
    show (txt (109 :: mdig k)).data.size = _
    simp [txt]; omega
  have := mdig_len k
  unfold big; omega
def MtRel (w : World) (k : Nat) (t0 t3 : Value) (wr : World) : Prop := Grow w wr ∧ ∃ (j : Nat) (s : ByteArray) (l : List UInt8), j ≤ k ∧ t0 = .int .i64 (j : Int) ∧ t3 = .string s ∧ s = txt l ∧ mdig k = mdig j ++ l
theorem markText_ok (k : Nat) (w : World) (h1 : 0 < k) (h2 : k ≤ 1000000000) :
    Calls Try.prog 109 #[.int .i64 (k : Int)] w fun e w' => e = .returned (.string (mtxt k)) ∧ Grow w w' := by
  go_enter Try.func109, Try.ntmps109
  go_wp2_with fail
  go_loopw [0, 3] (fun t0 t3 wr => MtRel w k t0 t3 wr) (fun t0 _ _ => (intOf t0).toNat)
  case atStart => exact ⟨Ext.refl _ _, k, _, [], Nat.le_refl _, rfl, rfl, rfl, by simp⟩
  case round =>
    obtain ⟨hg, j, s, l, hj, rfl, rfl, hs, hd⟩ := hrel
    have Hd := Lib.hid hd
    have Hs := Lib.hid hs
    have hsz : s.size ≤ 1000000000 := by
      have e1 := congrArg List.length hd
      rw [List.length_append] at e1
      have e2 := mdig_len k
      rw [hs, txt_size]; omega
    have hz1 : (txt (dig1 (j % 10))).size ≤ 1 := by rw [txt_size]; exact Nat.le_refl _
    clear hd hs
    by_cases h0 : 0 < j
    · have hcv := conv1 (j % 10) (by omega) wr
      rw [show (((j % 10 : Nat)) : Int) = (j : Int) % 10 by omega] at hcv
      go_wp2_with fail
      go_roundw
      case rel => exact ⟨hg.alloc _, j / 10, _, dig1 (j % 10) ++ l, by omega, by go_num, rfl, by rw [← txt_append, Hs.out], by rw [Hd.out, mdig_pos h0]; simp⟩
      case measure => simp [intOf]; omega
    · go_wp2_with fail
      go_ret
      exact ⟨by
        have h2 := Hd.out
        rw [show j = 0 by omega] at h2
        simp only [mdig, List.nil_append] at h2
        rw [mtxt, h2, Hs.out]
        exact congrArg (fun x => Ending.returned (Value.string x)) (txt_append [109] l), hg⟩
end Go.Proofs.Ytgfnmhfdmmnaoaa
namespace Go.Proofs.Ytgfnmhfdmmnaoaa
open Go.RowKit
def inl (fp : List Nat) (k : Nat) : Prop := k ∈ fp
theorem Free.sub {B : Nat} {w w' : World} {fp fx : List Nat} (h : Free B w fp) (he : Ext (inl fx) w w') (hx : ∀ b ∈ fx, ∀ o, w'.frozen? ⟨b, o, none⟩ = false) : Free B w' fp := by
  refine ⟨h.1, fun b hb => ⟨(h.2 b hb).1, Nat.lt_of_lt_of_le (h.2 b hb).2.1 he.size, fun o => ?_⟩⟩
  by_cases hbx : b ∈ fx
  · exact hx b hbx o
  · rw [he.frozen (p := ⟨b, o, none⟩) (h.2 b hb).2.1 hbx]; exact (h.2 b hb).2.2 o
theorem Grow.toX {X : Nat → Prop} {w w' : World} (h : Grow w w') : Ext X w w' := h.mono (fun _ h => False.elim h)
def RowAt (w : World) (b o n : Nat) : Prop := b < w.heap.size ∧ (∀ j, j < n → ∃ u, w.cell? ⟨b, o + j, none⟩ = some u) ∧ ∀ j, w.frozen? ⟨b, j, none⟩ = false
theorem RowAt.ext {X : Nat → Prop} {w w' : World} {b o n : Nat} (h : Ext X w w') (hx : ¬ X b) (hr : RowAt w b o n) : RowAt w' b o n := by
  obtain ⟨h1, h2, h3⟩ := hr
  refine ⟨Nat.lt_of_lt_of_le h1 h.size, fun j hj => ?_, fun j => ?_⟩
  · rw [h.cell (p := ⟨b, o + j, none⟩) h1 hx]; exact h2 j hj
  · rw [h.frozen (p := ⟨b, j, none⟩) h1 hx]; exact h3 j
theorem RowAt.setCell {w : World} {b o n : Nat} (hr : RowAt w b o n) (p : Addr) (v : Value) : RowAt (w.setCell p v) b o n := by
  obtain ⟨h1, h2, h3⟩ := hr
  refine ⟨by rw [size_setCell]; exact h1, fun j hj => cell?_setCell_some (h2 j hj).choose_spec, fun j => ?_⟩
  rw [World.frozen?_setCell]; exact h3 j
theorem markStringS_ok (a : Option Addr) (c : Nat) (xs : List ByteArray) (fp : List Nat) (B k : Nat) (w : World) (hF : StrsF w a c xs fp) (hfr : Free B w fp) (h1 : 0 < k) (h2 : k + xs.length ≤ 1000000000) :
    Calls Try.prog 46 #[.slice a xs.length c, .int .i64 (k : Int)] w fun e w' => e = .returned (.int .i64 ((k + xs.length : Nat) : Int)) ∧ Ext (inl fp) w w' ∧ Free B w' fp ∧ StrsF w' a c (mkS k xs.length) fp := by
  obtain ⟨hle, hlen, hbig, hcc⟩ := hF
  rcases hcc with ⟨rfl, rfl⟩ | ⟨b, o, hne, rfl, rfl, hcc⟩
  · go_enter Try.func46, Try.ntmps46
    go_wp2_with fail
    go_loopw [1, 5] (fun t1 i wr => t1 = .int .i64 k ∧ i = .int .i64 0 ∧ wr = w) (fun _ _ _ => 0)
    case atStart => exact ⟨rfl, rfl, rfl⟩
    case round =>
      obtain ⟨rfl, rfl, rfl⟩ := hrel
      go_wp2_with fail
      go_ret
      exact ⟨by simp, Ext.refl _ _, hfr, ⟨hle, hlen, by simp [mkS], .inl ⟨rfl, rfl⟩⟩⟩
  · have hl : xs.length ≤ 1000000000 := by omega
    have hrow : RowAt w b o xs.length := ⟨(hfr.2 b (by simp)).2.1, fun j hj => ⟨_, hcc j hj⟩, (hfr.2 b (by simp)).2.2⟩
    have Hle := Lib.hid hle
    have Hlen := Lib.hid hlen
    have Hne := Lib.hid hne
    have Hfr := Lib.hid hfr
    clear hle hlen hbig hne hfr hcc
    go_enter Try.func46, Try.ntmps46
    go_wp2_with fail
    go_loopw [1, 5] (fun t1 i wr => ∃ j : Nat, j ≤ xs.length ∧ i = .int .i64 j ∧ t1 = .int .i64 ((k + j : Nat) : Int) ∧ Ext (inl [b]) w wr ∧ RowAt wr b o xs.length ∧ Hid (∀ t, t < j → wr.cell? ⟨b, o + t, none⟩ = some (.string (mtxt (k + t))))) (fun _ i _ => xs.length - (intOf i).toNat)
    case atStart => exact ⟨0, Nat.zero_le _, rfl, rfl, Ext.refl _ _, hrow, Lib.hid (fun t ht => absurd ht (by omega))⟩
    case round =>
      obtain ⟨j, hj, rfl, rfl, hg, hr, Hm⟩ := hrel
      have Hg := Lib.hid hg
      have Hr := Lib.hid hr
      clear hg hr
      by_cases hlt : j < xs.length
      · go_wp2_with fail
        refine (markText_ok (k + j) _ (by omega) (by omega)).mono ?_
        rintro e w2 ⟨rfl, hg2⟩
        have hr2 := Hr.out.ext hg2 (fun h => h)
        have hfz := hr2.2.2
        obtain ⟨u, hu⟩ := hr2.2.1 j hlt
        have Hr2 := Lib.hid hr2
        have Hu := Lib.hid hu
        clear hr2
        go_wp2_with fail
        go_roundw
        case rel =>
          refine ⟨j + 1, by omega, by go_num, by go_num, (Hg.out.trans hg2.toX).setIn (p := ⟨b, o + j, none⟩) (by simp [inl]) _, Hr2.out.setCell _ _, Lib.hid (fun t ht => ?_)⟩
          rw [cell_set Hu.out]
          by_cases e : t = j
          · subst e; rw [if_pos rfl]
          · have hne : ¬ (⟨b, o + t, none⟩ : Addr) = ⟨b, o + j, none⟩ := by intro h'; have := congrArg Addr.off h'; simp at this; exact e this
            rw [if_neg hne]
            exact hg2.some (Hm.out t (by omega))
        case measure => simp [intOf]; omega
      · go_wp2_with fail
        go_ret
        have hx := Hr.out
        refine ⟨by rw [show j = xs.length by omega]; rfl, Hg.out, Hfr.out.sub Hg.out (fun b' hb' o' => by simp at hb'; subst hb'; exact hx.2.2 o'), ?_⟩
        refine ⟨by rw [mkS_len]; exact Hle.out, by rw [mkS_len]; exact Hlen.out, ?_, .inr ⟨b, o, ?_, rfl, rfl, fun i hi => ?_⟩⟩
        · intro x hx
          obtain ⟨i, hi, rfl⟩ := List.getElem_of_mem hx
          rw [mkS_get]; exact mtxt_size _ (by rw [mkS_len] at hi; omega)
        · intro h
          have := congrArg List.length h
          rw [mkS_len] at this
          exact Hne.out (List.length_eq_zero_iff.1 this)
        · rw [mkS_get]; rw [mkS_len] at hi; exact Hm.out i (by omega)
theorem heldStringS_ok (a : Option Addr) (c n k : Nat) (w : World) (ha : StrsR w any a c (mkS k n)) (h1 : 0 < k) (h2 : k + n ≤ 1000000000) :
    Calls Try.prog 47 #[.slice a n c, .int .i64 (k : Int)] w fun e w' => e = .returned (.int .i64 ((k + n : Nat) : Int)) ∧ Grow w w' := by
  have Ha := Lib.hid ha
  clear ha
  go_enter Try.func47, Try.ntmps47
  go_wp2_with fail
  go_loopw [1, 4, 5] (fun t1 t4 i wr => t4 = .int .i64 0 ∧ Grow w wr ∧ ∃ j : Nat, j ≤ n ∧ i = .int .i64 j ∧ t1 = .int .i64 ((k + j : Nat) : Int)) (fun _ _ i _ => n - (intOf i).toNat)
  case atStart => exact ⟨rfl, Ext.refl _ _, 0, Nat.zero_le _, rfl, rfl⟩
  case round =>
    obtain ⟨rfl, hg, j, hj, rfl, rfl⟩ := hrel
    by_cases hlt : j < n
    · obtain ⟨_, _, _, ha4⟩ := (Ha.out).grow hg
      rcases ha4 with hh | ⟨b, o, rfl, _, hca⟩
      · have := congrArg List.length hh; rw [mkS_len] at this; simp at this; omega
      have hx := hca j (by rw [mkS_len]; exact hlt)
      rw [mkS_get] at hx
      clear hca Ha
      go_wp2_with fail
      (refine wp_region_later (by kernel_rfl) (by kernel_rfl) ?_; (repeat (first | go_big_quiet_step ((go_at_call 109; exact later_call (v := .string (mtxt (k + j))) (markText_ok (k + j) _ (by omega) (by omega)))) | quiet_step ((go_at_call 109; exact later_call (v := .string (mtxt (k + j))) (markText_ok (k + j) _ (by omega) (by omega)))))); refine wpQuiet_nil ?_; rintro _ ⟨x_w2, rfl⟩; have hg_w2 := later_grow wr x_w2; generalize later wr x_w2 = w2 at hg_w2 ⊢)
      go_wp2_with fail
      go_roundw
      case rel => exact ⟨rfl, hg.trans hg_w2, j + 1, by omega, by go_num, by go_num⟩
      case measure => simp [intOf]; omega
    · go_wp2_with fail
      go_ret
      exact ⟨by rw [show j = n by omega]; rfl, hg⟩
theorem markText_i (k : Nat) (i : Int) (w : World) (hi : i = (k : Int)) (h1 : 0 < k) (h2 : k ≤ 1000000000) :
    Calls Try.prog 109 #[.int .i64 i] w fun e w' => e = .returned (.string (mtxt k)) ∧ Grow w w' := by
  subst hi; exact markText_ok k w h1 h2
theorem markStringS_i (a : Option Addr) (c : Nat) (xs : List ByteArray) (fp : List Nat) (B k : Nat) (i : Int) (w : World) (hi : i = (k : Int)) (hF : StrsF w a c xs fp) (hfr : Free B w fp) (h1 : 0 < k) (h2 : k + xs.length ≤ 1000000000) :
    Calls Try.prog 46 #[.slice a xs.length c, .int .i64 i] w fun e w' => e = .returned (.int .i64 ((k + xs.length : Nat) : Int)) ∧ Ext (inl fp) w w' ∧ Free B w' fp ∧ StrsF w' a c (mkS k xs.length) fp := by
  subst hi; exact markStringS_ok a c xs fp B k w hF hfr h1 h2
theorem heldStringS_i (a : Option Addr) (c n k : Nat) (i : Int) (w : World) (hi : i = (k : Int)) (ha : StrsR w any a c (mkS k n)) (h1 : 0 < k) (h2 : k + n ≤ 1000000000) :
    Calls Try.prog 47 #[.slice a n c, .int .i64 i] w fun e w' => e = .returned (.int .i64 ((k + n : Nat) : Int)) ∧ Grow w w' := by
  subst hi; exact heldStringS_ok a c n k w ha h1 h2
end Go.Proofs.Ytgfnmhfdmmnaoaa
