/-
  Texts of this claim, joined.
-/
import Derived.BigQuiet
import Derived.Laws.AppendOwn
import Derived.Laws.AppendOwnNone
import Derived.Laws.OwnMore
import Derived.Lib.Bytealg
import Derived.Test.YtiobnaielfeeaaaPrE

set_option linter.unusedSimpArgs false
set_option linter.unusedVariables false
set_option linter.unnecessarySimpa false
set_option maxRecDepth 100000
set_option maxHeartbeats 16000000
namespace Go.Proofs.Ytiobnaielfeeaaa
open Go.RowKit
mutual
def cmpN : Nd → Nd → Int
  | ⟨kind, num, text, names, kids⟩, b =>
    if sgnI kind b.kind ≠ 0 then sgnI kind b.kind else if sgnI num b.num ≠ 0 then sgnI num b.num else if sgnT text b.text ≠ 0 then sgnT text b.text
    else cmpKs (decide (kind = 4)) names b.names kids b.kids
def cmpKs : Bool → List ByteArray → List ByteArray → List Nd → List Nd → Int
  | m, ns, ms, k :: ks, j :: js =>
    if m = true ∧ sgnT (ns.headD ⟨#[]⟩) (ms.headD ⟨#[]⟩) ≠ 0 then sgnT (ns.headD ⟨#[]⟩) (ms.headD ⟨#[]⟩) else if cmpN k j ≠ 0 then cmpN k j else cmpKs m ns.tail ms.tail ks js
  | _, _, _, [], js => sgnI 0 js.length
  | _, _, _, ks, [] => sgnI ks.length 0
end
theorem cmpN_eq (a b : Nd) : cmpN a b = if sgnI a.kind b.kind ≠ 0 then sgnI a.kind b.kind else if sgnI a.num b.num ≠ 0 then sgnI a.num b.num else if sgnT a.text b.text ≠ 0 then sgnT a.text b.text
    else cmpKs (decide (a.kind = 4)) a.names b.names a.kids b.kids := by cases a; simp [cmpN]
theorem headD_drop (l : List ByteArray) (k : Nat) (h : k < l.length) (d : ByteArray) : (l.drop k).headD d = l[k] := by
  rw [drop_cons _ _ h]; rfl
theorem cmpKs_map {ns ms : List ByteArray} {ks js : List Nd} {k : Nat} (h1 : k < ks.length) (h2 : k < js.length) (h3 : k < ns.length) (h4 : k < ms.length) :
    cmpKs true (ns.drop k) (ms.drop k) (ks.drop k) (js.drop k) = if sgnT ns[k] ms[k] ≠ 0 then sgnT ns[k] ms[k] else if cmpN ks[k] js[k] ≠ 0 then cmpN ks[k] js[k] else cmpKs true (ns.drop (k + 1)) (ms.drop (k + 1)) (ks.drop (k + 1)) (js.drop (k + 1)) := by
  rw [drop_cons _ _ h1, drop_cons _ _ h2, cmpKs, headD_drop _ _ h3, headD_drop _ _ h4]
  simp [List.tail_drop]
theorem cmpKs_list {ns ms : List ByteArray} {ks js : List Nd} {k : Nat} (h1 : k < ks.length) (h2 : k < js.length) :
    cmpKs false (ns.drop k) (ms.drop k) (ks.drop k) (js.drop k) = if cmpN ks[k] js[k] ≠ 0 then cmpN ks[k] js[k] else cmpKs false (ns.drop (k + 1)) (ms.drop (k + 1)) (ks.drop (k + 1)) (js.drop (k + 1)) := by
  rw [drop_cons _ _ h1, drop_cons _ _ h2, cmpKs]
  simp [List.tail_drop]
theorem cmpKs_end (m : Bool) (ns ms : List ByteArray) (ks js : List Nd) (k : Nat) (hk1 : k ≤ ks.length) (hk2 : k ≤ js.length) (h : ¬ (k < ks.length ∧ k < js.length)) :
    cmpKs m (ns.drop k) (ms.drop k) (ks.drop k) (js.drop k) = sgnI ks.length js.length := by
  by_cases h1 : k < ks.length
  · have h2 : k = js.length := by omega
    have e : js.drop k = [] := List.drop_eq_nil_of_le (by omega)
    rw [drop_cons _ _ h1, e, cmpKs]
    · simp only [List.length_cons, List.length_drop, sgnI]
      rw [if_neg (by omega), if_pos (by omega), if_neg (by omega), if_pos (by omega)]
    · intro h; simp at h; omega
  · have h2 : k = ks.length := by omega
    have e : ks.drop k = [] := List.drop_eq_nil_of_le (by omega)
    rw [e, cmpKs]
    simp only [List.length_drop, sgnI]
    by_cases h3 : k < js.length
    · rw [if_pos (by omega), if_pos (by omega)]
    · rw [if_neg (by omega), if_neg (by omega), if_neg (by omega), if_neg (by omega)]
def CmpIOk (a : Nd) : Prop := ∀ (b : Nd) (v u : Value) (w : World), Good a → Good b → NodeR w any a v → NodeR w any b u →
    Calls Try.prog 48 #[v, u] w fun e w' => e = .returned (.int .i64 (cmpN a b)) ∧ Grow w w'
def CmpSOk (a : Nd) : Prop := ∀ (b : Nd) (v u : Value) (w : World), Good a → Good b → NodeR w any a v → NodeR w any b u →
    Calls Try.prog 49 #[v, u] w fun e w' => e = .returned (.int .i64 (cmpN a b)) ∧ Grow w w'
theorem bne0 {c : Int} (h : c = 0) : (c != 0) = false := by simp [h]
theorem bne1 {c : Int} (h : ¬ c = 0) : (c != 0) = true := by simp [h]
theorem compareValid_of (a : Nd) (ih : ∀ k ∈ a.kids, CmpIOk k) : CmpIOk a := by
  intro b v u w hga hgb hv hu
  obtain ⟨na, nc, ka, kc, rfl, hc⟩ := hv
  obtain ⟨na2, nc2, ka2, kc2, rfl, hc2⟩ := hu
  obtain ⟨_, hns, hks⟩ := hc.parts
  obtain ⟨_, hns2, hks2⟩ := hc2.parts
  have l1 : a.kids.length ≤ 6 := hga.kids6
  have l2 : b.kids.length ≤ 6 := hgb.kids6
  have Hns := Lib.hid hns
  have Hks := Lib.hid hks
  have Hns2 := Lib.hid hns2
  have Hks2 := Lib.hid hks2
  have Hga := Lib.hid hga
  have Hgb := Lib.hid hgb
  have Ih := Lib.hid ih
  have Hf := Lib.hid (cmpN_eq a b)
  clear hc hc2 hns hks hns2 hks2 hga hgb ih
  unfold nodeV
  by_cases h1 : sgnI a.kind b.kind = 0
  rotate_left
  · have b1 := bne1 h1
    have Hff : Hid (cmpN a b = sgnI a.kind b.kind) := Lib.hid (by rw [Hf.out, if_pos h1])
    clear h1
    go_enter Try.func48, Try.ntmps48
    go_wp2_with fail
    refine (cmpCompare_ok _ _ _).mono ?_
    rintro e w' ⟨rfl, rfl⟩
    go_wp2_with fail
    go_ret
    exact ⟨by simp [Hff.out], (by repeat (first | with_reducible exact Ext.refl _ _ | with_reducible refine Ext.trans ?_ (by assumption) | with_reducible refine Ext.drew ?_ | with_reducible refine Ext.drewN ?_ _ | with_reducible refine Ext.alloc ?_ _ | with_reducible refine Ext.setNew ?_ (by simp; done) _ | with_reducible refine Ext.setNew ?_ (by simp; omega) _))⟩
  have b1 := bne0 h1
  by_cases h2 : sgnI a.num b.num = 0
  rotate_left
  · have b2 := bne1 h2
    have Hff : Hid (cmpN a b = sgnI a.num b.num) := Lib.hid (by rw [Hf.out, if_neg (by simpa using h1), if_pos h2])
    clear h1 h2
    go_enter Try.func48, Try.ntmps48
    go_wp2_with fail
    refine (cmpCompare_ok _ _ _).mono ?_
    rintro e w' ⟨rfl, rfl⟩
    go_wp2_with fail
    refine (cmpCompare_ok _ _ _).mono ?_
    rintro e w' ⟨rfl, rfl⟩
    go_wp2_with fail
    go_ret
    exact ⟨by simp [Hff.out], (by repeat (first | with_reducible exact Ext.refl _ _ | with_reducible refine Ext.trans ?_ (by assumption) | with_reducible refine Ext.drew ?_ | with_reducible refine Ext.drewN ?_ _ | with_reducible refine Ext.alloc ?_ _ | with_reducible refine Ext.setNew ?_ (by simp; done) _ | with_reducible refine Ext.setNew ?_ (by simp; omega) _))⟩
  have b2 := bne0 h2
  by_cases h3 : sgnT a.text b.text = 0
  rotate_left
  · have b3 := bne1 h3
    have Hff : Hid (cmpN a b = sgnT a.text b.text) := Lib.hid (by rw [Hf.out, if_neg (by simpa using h1), if_neg (by simpa using h2), if_pos h3])
    clear h1 h2 h3
    go_enter Try.func48, Try.ntmps48
    go_wp2_with fail
    refine (cmpCompare_ok _ _ _).mono ?_
    rintro e w' ⟨rfl, rfl⟩
    go_wp2_with fail
    refine (cmpCompare_ok _ _ _).mono ?_
    rintro e w' ⟨rfl, rfl⟩
    go_wp2_with fail
    refine (stringsCompare_ok _ _ _).mono ?_
    rintro e w' ⟨rfl, rfl⟩
    go_wp2_with fail
    go_ret
    exact ⟨by simp [Hff.out], (by repeat (first | with_reducible exact Ext.refl _ _ | with_reducible refine Ext.trans ?_ (by assumption) | with_reducible refine Ext.drew ?_ | with_reducible refine Ext.drewN ?_ _ | with_reducible refine Ext.alloc ?_ _ | with_reducible refine Ext.setNew ?_ (by simp; done) _ | with_reducible refine Ext.setNew ?_ (by simp; omega) _))⟩
  have b3 := bne0 h3
  have hkk : a.kind = b.kind := sgnI_zero.1 h1
  have Hkk := Lib.hid hkk
  have Hff : Hid (cmpN a b = cmpKs (decide (a.kind = 4)) a.names b.names a.kids b.kids) := Lib.hid (by rw [Hf.out, if_neg (by simpa using h1), if_neg (by simpa using h2), if_neg (by simpa using h3)])
  clear h1 h2 h3 hkk
  go_enter Try.func48, Try.ntmps48
  go_wp2_with fail
  refine (cmpCompare_ok _ _ _).mono ?_
  rintro e w' ⟨rfl, rfl⟩
  go_wp2_with fail
  refine (cmpCompare_ok _ _ _).mono ?_
  rintro e w' ⟨rfl, rfl⟩
  go_wp2_with fail
  refine (stringsCompare_ok _ _ _).mono ?_
  rintro e w' ⟨rfl, rfl⟩
  go_wp2_with fail
  clear b1 b2 b3
  go_loopw [4, 8] (fun t4 i wr => t4 = .int .i64 0 ∧ Grow w wr ∧ BoxN wr w.heap.size (nodeL a na nc ka kc) ∧ BoxN wr (w.heap.size + 1) (nodeL b na2 nc2 ka2 kc2) ∧ ∃ k : Nat, k ≤ a.kids.length ∧ k ≤ b.kids.length ∧ i = .int .i64 k ∧ cmpKs (decide (a.kind = 4)) a.names b.names a.kids b.kids = cmpKs (decide (a.kind = 4)) (a.names.drop k) (b.names.drop k) (a.kids.drop k) (b.kids.drop k)) (fun _ i _ => a.kids.length - (intOf i).toNat)
  case atStart => exact ⟨rfl, (by repeat (first | with_reducible exact Ext.refl _ _ | with_reducible refine Ext.trans ?_ (by assumption) | with_reducible refine Ext.drew ?_ | with_reducible refine Ext.drewN ?_ _ | with_reducible refine Ext.alloc ?_ _ | with_reducible refine Ext.setNew ?_ (by simp; done) _ | with_reducible refine Ext.setNew ?_ (by simp; omega) _)), (BoxN.new w (nodeL a na nc ka kc) _).grow ((Ext.refl nil _).alloc _), BoxN.new1 w _ (nodeL b na2 nc2 ka2 kc2) _, 0, Nat.zero_le _, Nat.zero_le _, rfl, rfl⟩
  case round =>
    obtain ⟨rfl, hg0, B1, B2, k, hk1, hk2, rfl, hs⟩ := hrel
    have Hs := Lib.hid hs
    clear hs
    have HB1 := Lib.hid B1
    have HB2 := Lib.hid B2
    clear B1 B2
    by_cases hlt : k < a.kids.length ∧ k < b.kids.length
    · obtain ⟨hlt1, hlt2⟩ := hlt
      rcases Hks.out.2.2 with hh | ⟨bk, ok, rfl, _, hkr⟩
      · rw [hh] at hlt1; simp at hlt1
      rcases Hks2.out.2.2 with hh | ⟨bk2, ok2, rfl, _, hkr2⟩
      · rw [hh] at hlt2; simp at hlt2
      obtain ⟨na', nc', ka', kc', c0, c1, c2, c3, c4, hkc⟩ := (hkr.ext hg0 (fun _ _ h => h) (fun h => h)).get k hlt1
      obtain ⟨na3, nc3, ka3, kc3, d0, d1, d2, d3, d4, hkc2⟩ := (hkr2.ext hg0 (fun _ _ h => h) (fun h => h)).get k hlt2
      have Hkc : Hid (NodeR wr any a.kids[k] (nodeV a.kids[k] na' nc' ka' kc')) := Lib.hid ⟨_, _, _, _, rfl, hkc⟩
      have Hkc2 : Hid (NodeR wr any b.kids[k] (nodeV b.kids[k] na3 nc3 ka3 kc3)) := Lib.hid ⟨_, _, _, _, rfl, hkc2⟩
      have Hgka := Lib.hid (Hga.out.kid (List.getElem_mem hlt1))
      have Hgkb := Lib.hid (Hgb.out.kid (List.getElem_mem hlt2))
      clear hkr hkr2 hkc hkc2
      have p3 := HB1.out.cell 3 _ rfl
      have p4 := HB1.out.cell 4 _ rfl
      have p0 := HB1.out.cell 0 _ rfl
      have q3 := HB2.out.cell 3 _ rfl
      have q4 := HB2.out.cell 4 _ rfl
      by_cases h4 : a.kind = 4
      · have e1 := (Hga.out.map h4).2
        have e2 := (Hgb.out.map (by rw [← Hkk.out]; exact h4)).2
        have n1 : k < a.names.length := by omega
        have n2 : k < b.names.length := by omega
        have b4 : (a.kind == 4) = true := by simp [h4]
        have hst := cmpKs_map (ns := a.names) (ms := b.names) hlt1 hlt2 n1 n2
        rcases ((Hns.out).grow hg0).2.2.2 with hh | ⟨b5, o5, rfl, _, hc5⟩
        · rw [hh] at n1; simp at n1
        rcases ((Hns2.out).grow hg0).2.2.2 with hh | ⟨b6, o6, rfl, _, hc6⟩
        · rw [hh] at n2; simp at n2
        have x1 := hc5 k n1
        have x2 := hc6 k n2
        clear hc5 hc6 e1 e2
        have Hd : Hid (decide (a.kind = 4) = true) := Lib.hid (by simp [h4])
        clear h4
        by_cases h5 : sgnT a.names[k] b.names[k] = 0
        · have b5' := bne0 h5
          have hst' := hst.trans (if_neg (by simpa using h5))
          clear hst h5
          by_cases h6 : cmpN a.kids[k] b.kids[k] = 0
          · have b6' := bne0 h6
            have Hst := Lib.hid (hst'.trans (if_neg (by simpa using h6)))
            clear hst' h6
            go_wp2_with fail
            (refine wp_region_later (by kernel_rfl) (by kernel_rfl) ?_; (repeat (first | go_big_quiet_step ((go_at_call 80; exact later_call_same (stringsCompare_ok _ _ _))) | quiet_step ((go_at_call 80; exact later_call_same (stringsCompare_ok _ _ _))))); refine wpQuiet_nil ?_; rintro _ ⟨x_w2, rfl⟩; have hg_w2 := later_grow wr x_w2; generalize later wr x_w2 = w2 at hg_w2 ⊢)
            (replace p0 := hg_w2.some p0; replace p3 := hg_w2.some p3; replace p4 := hg_w2.some p4; replace q3 := hg_w2.some q3; replace q4 := hg_w2.some q4; replace c0 := hg_w2.some c0; replace c1 := hg_w2.some c1; replace c2 := hg_w2.some c2; replace c3 := hg_w2.some c3; replace c4 := hg_w2.some c4; replace d0 := hg_w2.some d0; replace d1 := hg_w2.some d1; replace d2 := hg_w2.some d2; replace d3 := hg_w2.some d3; replace d4 := hg_w2.some d4)
            go_wp2_with fail
            (refine wp_region_later (by kernel_rfl) (by kernel_rfl) ?_; (repeat (first | go_big_quiet_step ((go_at_call 48; exact later_call (v := .int .i64 (cmpN a.kids[k] b.kids[k])) (Ih.out _ (List.getElem_mem hlt1) b.kids[k] _ _ _ Hgka.out Hgkb.out (Hkc.out.grow (hg_w2.trans (later_grow _ _))) (Hkc2.out.grow (hg_w2.trans (later_grow _ _)))))) | quiet_step ((go_at_call 48; exact later_call (v := .int .i64 (cmpN a.kids[k] b.kids[k])) (Ih.out _ (List.getElem_mem hlt1) b.kids[k] _ _ _ Hgka.out Hgkb.out (Hkc.out.grow (hg_w2.trans (later_grow _ _))) (Hkc2.out.grow (hg_w2.trans (later_grow _ _)))))))); refine wpQuiet_nil ?_; rintro _ ⟨x_w3, rfl⟩; have hg_w3 := later_grow w2 x_w3; generalize later w2 x_w3 = w3 at hg_w3 ⊢)
            go_wp2_with fail
            go_roundw
            case rel => exact ⟨rfl, (by repeat (first | with_reducible exact Ext.refl _ _ | with_reducible refine Ext.trans ?_ (by assumption) | with_reducible refine Ext.drew ?_ | with_reducible refine Ext.drewN ?_ _ | with_reducible refine Ext.alloc ?_ _ | with_reducible refine Ext.setNew ?_ (by simp; done) _ | with_reducible refine Ext.setNew ?_ (by simp; omega) _)), HB1.out.grow (by repeat (first | with_reducible exact Ext.refl _ _ | with_reducible refine Ext.trans ?_ (by assumption) | with_reducible refine Ext.drew ?_ | with_reducible refine Ext.drewN ?_ _ | with_reducible refine Ext.alloc ?_ _ | with_reducible refine Ext.setNew ?_ (by simp; done) _ | with_reducible refine Ext.setNew ?_ (by simp; omega) _)), HB2.out.grow (by repeat (first | with_reducible exact Ext.refl _ _ | with_reducible refine Ext.trans ?_ (by assumption) | with_reducible refine Ext.drew ?_ | with_reducible refine Ext.drewN ?_ _ | with_reducible refine Ext.alloc ?_ _ | with_reducible refine Ext.setNew ?_ (by simp; done) _ | with_reducible refine Ext.setNew ?_ (by simp; omega) _)), k + 1, by omega, by omega, by go_num, by rw [Hs.out, Hd.out, Hst.out]⟩
            case measure => simp [intOf]; omega
          · have b6' := bne1 h6
            have Hst := Lib.hid (hst'.trans (if_pos h6))
            clear hst' h6
            go_wp2_with fail
            (refine wp_region_later (by kernel_rfl) (by kernel_rfl) ?_; (repeat (first | go_big_quiet_step ((go_at_call 80; exact later_call_same (stringsCompare_ok _ _ _))) | quiet_step ((go_at_call 80; exact later_call_same (stringsCompare_ok _ _ _))))); refine wpQuiet_nil ?_; rintro _ ⟨x_w2, rfl⟩; have hg_w2 := later_grow wr x_w2; generalize later wr x_w2 = w2 at hg_w2 ⊢)
            (replace p0 := hg_w2.some p0; replace p3 := hg_w2.some p3; replace p4 := hg_w2.some p4; replace q3 := hg_w2.some q3; replace q4 := hg_w2.some q4; replace c0 := hg_w2.some c0; replace c1 := hg_w2.some c1; replace c2 := hg_w2.some c2; replace c3 := hg_w2.some c3; replace c4 := hg_w2.some c4; replace d0 := hg_w2.some d0; replace d1 := hg_w2.some d1; replace d2 := hg_w2.some d2; replace d3 := hg_w2.some d3; replace d4 := hg_w2.some d4)
            go_wp2_with fail
            (refine wp_region_later (by kernel_rfl) (by kernel_rfl) ?_; (repeat (first | go_big_quiet_step ((go_at_call 48; exact later_call (v := .int .i64 (cmpN a.kids[k] b.kids[k])) (Ih.out _ (List.getElem_mem hlt1) b.kids[k] _ _ _ Hgka.out Hgkb.out (Hkc.out.grow (hg_w2.trans (later_grow _ _))) (Hkc2.out.grow (hg_w2.trans (later_grow _ _)))))) | quiet_step ((go_at_call 48; exact later_call (v := .int .i64 (cmpN a.kids[k] b.kids[k])) (Ih.out _ (List.getElem_mem hlt1) b.kids[k] _ _ _ Hgka.out Hgkb.out (Hkc.out.grow (hg_w2.trans (later_grow _ _))) (Hkc2.out.grow (hg_w2.trans (later_grow _ _)))))))); refine wpQuiet_nil ?_; rintro _ ⟨x_w3, rfl⟩; have hg_w3 := later_grow w2 x_w3; generalize later w2 x_w3 = w3 at hg_w3 ⊢)
            go_wp2_with fail
            go_ret
            exact ⟨by rw [Hff.out, Hs.out, Hd.out, Hst.out]; rfl, (by repeat (first | with_reducible exact Ext.refl _ _ | with_reducible refine Ext.trans ?_ (by assumption) | with_reducible refine Ext.drew ?_ | with_reducible refine Ext.drewN ?_ _ | with_reducible refine Ext.alloc ?_ _ | with_reducible refine Ext.setNew ?_ (by simp; done) _ | with_reducible refine Ext.setNew ?_ (by simp; omega) _))⟩
        · have b5' := bne1 h5
          have Hst := Lib.hid (hst.trans (if_pos h5))
          clear hst h5
          go_wp2_with fail
          (refine wp_region_later (by kernel_rfl) (by kernel_rfl) ?_; (repeat (first | go_big_quiet_step ((go_at_call 80; exact later_call_same (stringsCompare_ok _ _ _))) | quiet_step ((go_at_call 80; exact later_call_same (stringsCompare_ok _ _ _))))); refine wpQuiet_nil ?_; rintro _ ⟨x_w2, rfl⟩; have hg_w2 := later_grow wr x_w2; generalize later wr x_w2 = w2 at hg_w2 ⊢)
          go_wp2_with fail
          go_ret
          exact ⟨by rw [Hff.out, Hs.out, Hd.out, Hst.out]; rfl, (by repeat (first | with_reducible exact Ext.refl _ _ | with_reducible refine Ext.trans ?_ (by assumption) | with_reducible refine Ext.drew ?_ | with_reducible refine Ext.drewN ?_ _ | with_reducible refine Ext.alloc ?_ _ | with_reducible refine Ext.setNew ?_ (by simp; done) _ | with_reducible refine Ext.setNew ?_ (by simp; omega) _))⟩
      · have b4 : (a.kind == 4) = false := by simp [h4]
        have hst := cmpKs_list (ns := a.names) (ms := b.names) hlt1 hlt2
        have Hd : Hid (decide (a.kind = 4) = false) := Lib.hid (by simp [h4])
        clear h4
        by_cases h6 : cmpN a.kids[k] b.kids[k] = 0
        · have b6' := bne0 h6
          have Hst := Lib.hid (hst.trans (if_neg (by simpa using h6)))
          clear hst h6
          go_wp2_with fail
          (refine wp_region_later (by kernel_rfl) (by kernel_rfl) ?_; (repeat (first | go_big_quiet_step ((go_at_call 48; exact later_call (v := .int .i64 (cmpN a.kids[k] b.kids[k])) (Ih.out _ (List.getElem_mem hlt1) b.kids[k] _ _ _ Hgka.out Hgkb.out (Hkc.out.grow (later_grow _ _)) (Hkc2.out.grow (later_grow _ _))))) | quiet_step ((go_at_call 48; exact later_call (v := .int .i64 (cmpN a.kids[k] b.kids[k])) (Ih.out _ (List.getElem_mem hlt1) b.kids[k] _ _ _ Hgka.out Hgkb.out (Hkc.out.grow (later_grow _ _)) (Hkc2.out.grow (later_grow _ _))))))); refine wpQuiet_nil ?_; rintro _ ⟨x_w3, rfl⟩; have hg_w3 := later_grow wr x_w3; generalize later wr x_w3 = w3 at hg_w3 ⊢)
          go_wp2_with fail
          go_roundw
          case rel => exact ⟨rfl, (by repeat (first | with_reducible exact Ext.refl _ _ | with_reducible refine Ext.trans ?_ (by assumption) | with_reducible refine Ext.drew ?_ | with_reducible refine Ext.drewN ?_ _ | with_reducible refine Ext.alloc ?_ _ | with_reducible refine Ext.setNew ?_ (by simp; done) _ | with_reducible refine Ext.setNew ?_ (by simp; omega) _)), HB1.out.grow (by repeat (first | with_reducible exact Ext.refl _ _ | with_reducible refine Ext.trans ?_ (by assumption) | with_reducible refine Ext.drew ?_ | with_reducible refine Ext.drewN ?_ _ | with_reducible refine Ext.alloc ?_ _ | with_reducible refine Ext.setNew ?_ (by simp; done) _ | with_reducible refine Ext.setNew ?_ (by simp; omega) _)), HB2.out.grow (by repeat (first | with_reducible exact Ext.refl _ _ | with_reducible refine Ext.trans ?_ (by assumption) | with_reducible refine Ext.drew ?_ | with_reducible refine Ext.drewN ?_ _ | with_reducible refine Ext.alloc ?_ _ | with_reducible refine Ext.setNew ?_ (by simp; done) _ | with_reducible refine Ext.setNew ?_ (by simp; omega) _)), k + 1, by omega, by omega, by go_num, by rw [Hs.out, Hd.out, Hst.out]⟩
          case measure => simp [intOf]; omega
        · have b6' := bne1 h6
          have Hst := Lib.hid (hst.trans (if_pos h6))
          clear hst h6
          go_wp2_with fail
          (refine wp_region_later (by kernel_rfl) (by kernel_rfl) ?_; (repeat (first | go_big_quiet_step ((go_at_call 48; exact later_call (v := .int .i64 (cmpN a.kids[k] b.kids[k])) (Ih.out _ (List.getElem_mem hlt1) b.kids[k] _ _ _ Hgka.out Hgkb.out (Hkc.out.grow (later_grow _ _)) (Hkc2.out.grow (later_grow _ _))))) | quiet_step ((go_at_call 48; exact later_call (v := .int .i64 (cmpN a.kids[k] b.kids[k])) (Ih.out _ (List.getElem_mem hlt1) b.kids[k] _ _ _ Hgka.out Hgkb.out (Hkc.out.grow (later_grow _ _)) (Hkc2.out.grow (later_grow _ _))))))); refine wpQuiet_nil ?_; rintro _ ⟨x_w3, rfl⟩; have hg_w3 := later_grow wr x_w3; generalize later wr x_w3 = w3 at hg_w3 ⊢)
          go_wp2_with fail
          go_ret
          exact ⟨by rw [Hff.out, Hs.out, Hd.out, Hst.out]; rfl, (by repeat (first | with_reducible exact Ext.refl _ _ | with_reducible refine Ext.trans ?_ (by assumption) | with_reducible refine Ext.drew ?_ | with_reducible refine Ext.drewN ?_ _ | with_reducible refine Ext.alloc ?_ _ | with_reducible refine Ext.setNew ?_ (by simp; done) _ | with_reducible refine Ext.setNew ?_ (by simp; omega) _))⟩
    · have Hend := Lib.hid (cmpKs_end (decide (a.kind = 4)) a.names b.names a.kids b.kids k hk1 hk2 hlt)
      have p4 := HB1.out.cell 4 _ rfl
      have q4 := HB2.out.cell 4 _ rfl
      by_cases h1 : k < a.kids.length
      · have h2 : ¬ k < b.kids.length := by omega
        go_wp2_with fail
        refine (cmpCompare_ok _ _ _).mono ?_
        rintro e w' ⟨rfl, rfl⟩
        go_wp2_with fail
        go_ret
        exact ⟨by rw [Hff.out, Hs.out, Hend.out]; rfl, hg0⟩
      · go_wp2_with fail
        refine (cmpCompare_ok _ _ _).mono ?_
        rintro e w' ⟨rfl, rfl⟩
        go_wp2_with fail
        go_ret
        exact ⟨by rw [Hff.out, Hs.out, Hend.out]; rfl, hg0⟩
theorem compareValid_ok : ∀ a, CmpIOk a := Nd.ind' CmpIOk compareValid_of
end Go.Proofs.Ytiobnaielfeeaaa
namespace Go.Proofs.Ytiobnaielfeeaaa
open Go.RowKit
theorem sgnI_swap (a b : Int) : sgnI b a = - sgnI a b := by
  unfold sgnI
  by_cases h1 : a < b
  · rw [if_neg (by omega), if_pos h1, if_pos h1]; rfl
  · by_cases h2 : b < a
    · rw [if_pos h2, if_neg h1, if_pos h2]
    · rw [if_neg h2, if_neg h1, if_neg h1, if_neg h2]; rfl
theorem sgnT_swap (a b : ByteArray) : sgnT b a = - sgnT a b := by
  rcases bl_cases a b with ⟨h1, h2, _, _, h3⟩ | ⟨h1, h2, _, _, h3⟩ | h
  · simp [sgnT, lt, h1, h2]
  · simp [sgnT, lt, h1, h2]
  · subst h; simp [sgnT_refl]
def th (x y : Int) : Int := if x ≠ 0 then x else y
theorem th_neg (x y : Int) : th (-x) (-y) = - th x y := by unfold th; by_cases h : x = 0 <;> simp [h]
theorem cmpN_th (a b : Nd) : cmpN a b = th (sgnI a.kind b.kind) (th (sgnI a.num b.num) (th (sgnT a.text b.text) (cmpKs (decide (a.kind = 4)) a.names b.names a.kids b.kids))) := by
  rw [cmpN_eq]; rfl
theorem cmpKs_th (m : Bool) (ns ms : List ByteArray) (k j : Nd) (ks js : List Nd) : cmpKs m ns ms (k :: ks) (j :: js) = th (if m = true then sgnT (ns.headD ⟨#[]⟩) (ms.headD ⟨#[]⟩) else 0) (th (cmpN k j) (cmpKs m ns.tail ms.tail ks js)) := by
  rw [cmpKs]
  unfold th
  cases m <;> simp
theorem cmpKs_nil (m : Bool) (ns ms : List ByteArray) (js : List Nd) : cmpKs m ns ms [] js = sgnI 0 js.length := by rw [cmpKs]
theorem cmpKs_nil' (m : Bool) (ns ms : List ByteArray) (ks : List Nd) : cmpKs m ns ms ks [] = sgnI ks.length 0 := by
  cases ks with
  | nil => rw [cmpKs]; rfl
  | cons k ks => rw [cmpKs]; simp
theorem cmpKs_swap (m : Bool) : ∀ (ks : List Nd), (∀ k ∈ ks, ∀ j, cmpN j k = - cmpN k j) → ∀ (js : List Nd) (ns ms : List ByteArray), cmpKs m ms ns js ks = - cmpKs m ns ms ks js
  | [], _, js, ns, ms => by rw [cmpKs_nil, cmpKs_nil', sgnI_swap]
  | k :: ks, ih, [], ns, ms => by rw [cmpKs_nil, cmpKs_nil', sgnI_swap]
  | k :: ks, ih, j :: js, ns, ms => by
    rw [cmpKs_th, cmpKs_th, ih k (by simp) j, cmpKs_swap m ks (fun k hk => ih k (by simp [hk])) js ns.tail ms.tail, th_neg]
    have : (if m = true then sgnT (ms.headD ⟨#[]⟩) (ns.headD ⟨#[]⟩) else 0) = - (if m = true then sgnT (ns.headD ⟨#[]⟩) (ms.headD ⟨#[]⟩) else 0) := by
      split
      · exact sgnT_swap _ _
      · rfl
    rw [this, th_neg]
theorem cmpN_swap : ∀ a b : Nd, cmpN b a = - cmpN a b := Nd.ind' _ (fun a ih b => by
  rw [cmpN_th b a, cmpN_th a b, sgnI_swap a.kind b.kind]
  by_cases hk : a.kind = b.kind
  · rw [sgnI_swap a.num b.num, sgnT_swap a.text b.text, hk, cmpKs_swap _ a.kids ih, th_neg, th_neg, th_neg]
  · have hz : sgnI a.kind b.kind ≠ 0 := fun h => hk (sgnI_zero.1 h)
    have hz' : - sgnI a.kind b.kind ≠ 0 := by omega
    unfold th
    rw [if_pos hz, if_pos hz'])
theorem cmpN_refl (a : Nd) : cmpN a a = 0 := by have := cmpN_swap a a; omega
theorem Good.names {n : Nd} (h : Good n) (h4 : n.kind ≠ 4) : n.names = [] := by
  have hp := h.parts
  unfold partsB at hp
  simp only [Bool.and_eq_true, Bool.or_eq_true, decide_eq_true_eq] at hp
  rcases hp.1.2 with h | h
  · exact absurd h h4
  · exact List.length_eq_zero_iff.1 (by simpa using h)
def T3 (x y z : Int) : Prop := x ≤ 0 → y ≤ 0 → z ≤ 0 ∧ (z = 0 → x = 0 ∧ y = 0)
theorem T3.th {x y z x' y' z' : Int} (h : T3 x y z) (h' : x = 0 → y = 0 → z = 0 → T3 x' y' z') : T3 (th x x') (th y y') (th z z') := by
  unfold T3 Go.Proofs.Ytiobnaielfeeaaa.th at *
  intro h1 h2
  have hx : x ≤ 0 := by split at h1 <;> omega
  have hy : y ≤ 0 := by split at h2 <;> omega
  obtain ⟨hz, hzz⟩ := h hx hy
  by_cases h0 : z = 0
  · obtain ⟨hx0, hy0⟩ := hzz h0
    rw [if_neg (by simpa using hx0)] at h1
    rw [if_neg (by simpa using hy0)] at h2
    rw [if_neg (by simpa using h0), if_neg (by simpa using hx0), if_neg (by simpa using hy0)]
    exact h' hx0 hy0 h0 h1 h2
  · rw [if_pos h0]
    exact ⟨hz, fun h => absurd h h0⟩
end Go.Proofs.Ytiobnaielfeeaaa
namespace Go.Proofs.Ytiobnaielfeeaaa
open Go.RowKit
theorem compare_of (a : Nd) (ih : ∀ k ∈ a.kids, CmpSOk k) : CmpSOk a := by
  intro b v u w hga hgb hv hu
  obtain ⟨na, nc, ka, kc, rfl, hc⟩ := hv
  obtain ⟨na2, nc2, ka2, kc2, rfl, hc2⟩ := hu
  obtain ⟨_, hns, hks⟩ := hc.parts
  obtain ⟨_, hns2, hks2⟩ := hc2.parts
  have l1 : a.kids.length ≤ 6 := hga.kids6
  have l2 : b.kids.length ≤ 6 := hgb.kids6
  have Hns := Lib.hid hns
  have Hks := Lib.hid hks
  have Hns2 := Lib.hid hns2
  have Hks2 := Lib.hid hks2
  have Hga := Lib.hid hga
  have Hgb := Lib.hid hgb
  have Ih := Lib.hid ih
  have Hf := Lib.hid (cmpN_eq a b)
  clear hc hc2 hns hks hns2 hks2 hga hgb ih
  unfold nodeV
  by_cases h1 : sgnI a.kind b.kind = 0
  rotate_left
  · have b1 : (a.kind != b.kind) = true := by simpa using fun e => h1 (sgnI_zero.2 e)
    have Hff : Hid (cmpN a b = sgnI a.kind b.kind) := Lib.hid (by rw [Hf.out, if_pos h1])
    clear h1
    go_enter Try.func49, Try.ntmps49
    go_wp2_with fail
    refine (order_ok _ _ _).mono ?_
    rintro e w' ⟨rfl, rfl⟩
    go_wp2_with fail
    go_ret
    exact ⟨by simp [Hff.out], (by repeat (first | with_reducible exact Ext.refl _ _ | with_reducible refine Ext.trans ?_ (by assumption) | with_reducible refine Ext.drew ?_ | with_reducible refine Ext.drewN ?_ _ | with_reducible refine Ext.alloc ?_ _ | with_reducible refine Ext.setNew ?_ (by simp; done) _ | with_reducible refine Ext.setNew ?_ (by simp; omega) _))⟩
  have b1 : (a.kind != b.kind) = false := by simpa using sgnI_zero.1 h1
  by_cases h2 : sgnI a.num b.num = 0
  rotate_left
  · have b2 : (a.num != b.num) = true := by simpa using fun e => h2 (sgnI_zero.2 e)
    have Hff : Hid (cmpN a b = sgnI a.num b.num) := Lib.hid (by rw [Hf.out, if_neg (by simpa using h1), if_pos h2])
    clear h1 h2
    go_enter Try.func49, Try.ntmps49
    go_wp2_with fail
    refine (order_ok _ _ _).mono ?_
    rintro e w' ⟨rfl, rfl⟩
    go_wp2_with fail
    go_ret
    exact ⟨by simp [Hff.out], (by repeat (first | with_reducible exact Ext.refl _ _ | with_reducible refine Ext.trans ?_ (by assumption) | with_reducible refine Ext.drew ?_ | with_reducible refine Ext.drewN ?_ _ | with_reducible refine Ext.alloc ?_ _ | with_reducible refine Ext.setNew ?_ (by simp; done) _ | with_reducible refine Ext.setNew ?_ (by simp; omega) _))⟩
  have b2 : (a.num != b.num) = false := by simpa using sgnI_zero.1 h2
  by_cases h3 : sgnT a.text b.text = 0
  rotate_left
  · have b3 : (a.text.toList == b.text.toList) = false := by rw [beq_toList]; simpa using fun e => h3 (sgnT_zero.2 e)
    have Hff : Hid (cmpN a b = sgnT a.text b.text) := Lib.hid (by rw [Hf.out, if_neg (by simpa using h1), if_neg (by simpa using h2), if_pos h3])
    clear h1 h2 h3
    go_enter Try.func49, Try.ntmps49
    go_wp2_with fail
    refine (orderText_ok _ _ _).mono ?_
    rintro e w' ⟨rfl, rfl⟩
    go_wp2_with fail
    go_ret
    exact ⟨by simp [Hff.out], (by repeat (first | with_reducible exact Ext.refl _ _ | with_reducible refine Ext.trans ?_ (by assumption) | with_reducible refine Ext.drew ?_ | with_reducible refine Ext.drewN ?_ _ | with_reducible refine Ext.alloc ?_ _ | with_reducible refine Ext.setNew ?_ (by simp; done) _ | with_reducible refine Ext.setNew ?_ (by simp; omega) _))⟩
  have b3 : (a.text.toList == b.text.toList) = true := by rw [beq_toList]; simpa using sgnT_zero.1 h3
  have hkk : a.kind = b.kind := sgnI_zero.1 h1
  have Hkk := Lib.hid hkk
  have Hff : Hid (cmpN a b = cmpKs (decide (a.kind = 4)) a.names b.names a.kids b.kids) := Lib.hid (by rw [Hf.out, if_neg (by simpa using h1), if_neg (by simpa using h2), if_neg (by simpa using h3)])
  clear h1 h2 h3 hkk
  go_enter Try.func49, Try.ntmps49
  go_wp2_with fail
  clear b1 b2 b3
  go_loopw [4, 5] (fun t4 i wr => t4 = .int .i64 0 ∧ Grow w wr ∧ BoxN wr w.heap.size (nodeL a na nc ka kc) ∧ BoxN wr (w.heap.size + 1) (nodeL b na2 nc2 ka2 kc2) ∧ ∃ k : Nat, k ≤ a.kids.length ∧ k ≤ b.kids.length ∧ i = .int .i64 k ∧ cmpKs (decide (a.kind = 4)) a.names b.names a.kids b.kids = cmpKs (decide (a.kind = 4)) (a.names.drop k) (b.names.drop k) (a.kids.drop k) (b.kids.drop k)) (fun _ i _ => a.kids.length - (intOf i).toNat)
  case atStart => exact ⟨rfl, (by repeat (first | with_reducible exact Ext.refl _ _ | with_reducible refine Ext.trans ?_ (by assumption) | with_reducible refine Ext.drew ?_ | with_reducible refine Ext.drewN ?_ _ | with_reducible refine Ext.alloc ?_ _ | with_reducible refine Ext.setNew ?_ (by simp; done) _ | with_reducible refine Ext.setNew ?_ (by simp; omega) _)), (BoxN.new w (nodeL a na nc ka kc) _).grow ((Ext.refl nil _).alloc _), BoxN.new1 w _ (nodeL b na2 nc2 ka2 kc2) _, 0, Nat.zero_le _, Nat.zero_le _, rfl, rfl⟩
  case round =>
    obtain ⟨rfl, hg0, B1, B2, k, hk1, hk2, rfl, hs⟩ := hrel
    have Hs := Lib.hid hs
    clear hs
    have HB1 := Lib.hid B1
    have HB2 := Lib.hid B2
    clear B1 B2
    by_cases hlt : k < a.kids.length ∧ k < b.kids.length
    · obtain ⟨hlt1, hlt2⟩ := hlt
      rcases Hks.out.2.2 with hh | ⟨bk, ok, rfl, _, hkr⟩
      · rw [hh] at hlt1; simp at hlt1
      rcases Hks2.out.2.2 with hh | ⟨bk2, ok2, rfl, _, hkr2⟩
      · rw [hh] at hlt2; simp at hlt2
      obtain ⟨na', nc', ka', kc', c0, c1, c2, c3, c4, hkc⟩ := (hkr.ext hg0 (fun _ _ h => h) (fun h => h)).get k hlt1
      obtain ⟨na3, nc3, ka3, kc3, d0, d1, d2, d3, d4, hkc2⟩ := (hkr2.ext hg0 (fun _ _ h => h) (fun h => h)).get k hlt2
      have Hkc : Hid (NodeR wr any a.kids[k] (nodeV a.kids[k] na' nc' ka' kc')) := Lib.hid ⟨_, _, _, _, rfl, hkc⟩
      have Hkc2 : Hid (NodeR wr any b.kids[k] (nodeV b.kids[k] na3 nc3 ka3 kc3)) := Lib.hid ⟨_, _, _, _, rfl, hkc2⟩
      have Hgka := Lib.hid (Hga.out.kid (List.getElem_mem hlt1))
      have Hgkb := Lib.hid (Hgb.out.kid (List.getElem_mem hlt2))
      clear hkr hkr2 hkc hkc2
      have p3 := HB1.out.cell 3 _ rfl
      have p4 := HB1.out.cell 4 _ rfl
      have p0 := HB1.out.cell 0 _ rfl
      have q3 := HB2.out.cell 3 _ rfl
      have q4 := HB2.out.cell 4 _ rfl
      by_cases h4 : a.kind = 4
      · have e1 := (Hga.out.map h4).2
        have e2 := (Hgb.out.map (by rw [← Hkk.out]; exact h4)).2
        have n1 : k < a.names.length := by omega
        have n2 : k < b.names.length := by omega
        have b4 : (a.kind == 4) = true := by simp [h4]
        have hst := cmpKs_map (ns := a.names) (ms := b.names) hlt1 hlt2 n1 n2
        rcases ((Hns.out).grow hg0).2.2.2 with hh | ⟨b5, o5, rfl, _, hc5⟩
        · rw [hh] at n1; simp at n1
        rcases ((Hns2.out).grow hg0).2.2.2 with hh | ⟨b6, o6, rfl, _, hc6⟩
        · rw [hh] at n2; simp at n2
        have x1 := hc5 k n1
        have x2 := hc6 k n2
        clear hc5 hc6 e1 e2
        have Hd : Hid (decide (a.kind = 4) = true) := Lib.hid (by simp [h4])
        clear h4
        by_cases h5 : sgnT a.names[k] b.names[k] = 0
        · have b5' : (a.names[k].toList == b.names[k].toList) = true := by rw [beq_toList]; simpa using sgnT_zero.1 h5
          have hst' := hst.trans (if_neg (by simpa using h5))
          clear hst h5
          by_cases h6 : cmpN a.kids[k] b.kids[k] = 0
          · have b6' := bne0 h6
            have Hst := Lib.hid (hst'.trans (if_neg (by simpa using h6)))
            clear hst' h6
            go_wp2_with fail
            (refine wp_region_later (by kernel_rfl) (by kernel_rfl) ?_; (repeat (first | go_big_quiet_step (fail) | quiet_step (fail))); refine wpQuiet_nil ?_; rintro _ ⟨x_w2, rfl⟩; have hg_w2 := later_grow wr x_w2; generalize later wr x_w2 = w2 at hg_w2 ⊢)
            (replace p0 := hg_w2.some p0; replace p3 := hg_w2.some p3; replace p4 := hg_w2.some p4; replace q3 := hg_w2.some q3; replace q4 := hg_w2.some q4; replace c0 := hg_w2.some c0; replace c1 := hg_w2.some c1; replace c2 := hg_w2.some c2; replace c3 := hg_w2.some c3; replace c4 := hg_w2.some c4; replace d0 := hg_w2.some d0; replace d1 := hg_w2.some d1; replace d2 := hg_w2.some d2; replace d3 := hg_w2.some d3; replace d4 := hg_w2.some d4)
            go_wp2_with fail
            (refine wp_region_later (by kernel_rfl) (by kernel_rfl) ?_; (repeat (first | go_big_quiet_step ((go_at_call 49; exact later_call (v := .int .i64 (cmpN a.kids[k] b.kids[k])) (Ih.out _ (List.getElem_mem hlt1) b.kids[k] _ _ _ Hgka.out Hgkb.out (Hkc.out.grow (hg_w2.trans (later_grow _ _))) (Hkc2.out.grow (hg_w2.trans (later_grow _ _)))))) | quiet_step ((go_at_call 49; exact later_call (v := .int .i64 (cmpN a.kids[k] b.kids[k])) (Ih.out _ (List.getElem_mem hlt1) b.kids[k] _ _ _ Hgka.out Hgkb.out (Hkc.out.grow (hg_w2.trans (later_grow _ _))) (Hkc2.out.grow (hg_w2.trans (later_grow _ _)))))))); refine wpQuiet_nil ?_; rintro _ ⟨x_w3, rfl⟩; have hg_w3 := later_grow w2 x_w3; generalize later w2 x_w3 = w3 at hg_w3 ⊢)
            go_wp2_with fail
            go_roundw
            case rel => exact ⟨rfl, (by repeat (first | with_reducible exact Ext.refl _ _ | with_reducible refine Ext.trans ?_ (by assumption) | with_reducible refine Ext.drew ?_ | with_reducible refine Ext.drewN ?_ _ | with_reducible refine Ext.alloc ?_ _ | with_reducible refine Ext.setNew ?_ (by simp; done) _ | with_reducible refine Ext.setNew ?_ (by simp; omega) _)), HB1.out.grow (by repeat (first | with_reducible exact Ext.refl _ _ | with_reducible refine Ext.trans ?_ (by assumption) | with_reducible refine Ext.drew ?_ | with_reducible refine Ext.drewN ?_ _ | with_reducible refine Ext.alloc ?_ _ | with_reducible refine Ext.setNew ?_ (by simp; done) _ | with_reducible refine Ext.setNew ?_ (by simp; omega) _)), HB2.out.grow (by repeat (first | with_reducible exact Ext.refl _ _ | with_reducible refine Ext.trans ?_ (by assumption) | with_reducible refine Ext.drew ?_ | with_reducible refine Ext.drewN ?_ _ | with_reducible refine Ext.alloc ?_ _ | with_reducible refine Ext.setNew ?_ (by simp; done) _ | with_reducible refine Ext.setNew ?_ (by simp; omega) _)), k + 1, by omega, by omega, by go_num, by rw [Hs.out, Hd.out, Hst.out]⟩
            case measure => simp [intOf]; omega
          · have b6' := bne1 h6
            have Hst := Lib.hid (hst'.trans (if_pos h6))
            clear hst' h6
            go_wp2_with fail
            (refine wp_region_later (by kernel_rfl) (by kernel_rfl) ?_; (repeat (first | go_big_quiet_step (fail) | quiet_step (fail))); refine wpQuiet_nil ?_; rintro _ ⟨x_w2, rfl⟩; have hg_w2 := later_grow wr x_w2; generalize later wr x_w2 = w2 at hg_w2 ⊢)
            (replace p0 := hg_w2.some p0; replace p3 := hg_w2.some p3; replace p4 := hg_w2.some p4; replace q3 := hg_w2.some q3; replace q4 := hg_w2.some q4; replace c0 := hg_w2.some c0; replace c1 := hg_w2.some c1; replace c2 := hg_w2.some c2; replace c3 := hg_w2.some c3; replace c4 := hg_w2.some c4; replace d0 := hg_w2.some d0; replace d1 := hg_w2.some d1; replace d2 := hg_w2.some d2; replace d3 := hg_w2.some d3; replace d4 := hg_w2.some d4)
            go_wp2_with fail
            (refine wp_region_later (by kernel_rfl) (by kernel_rfl) ?_; (repeat (first | go_big_quiet_step ((go_at_call 49; exact later_call (v := .int .i64 (cmpN a.kids[k] b.kids[k])) (Ih.out _ (List.getElem_mem hlt1) b.kids[k] _ _ _ Hgka.out Hgkb.out (Hkc.out.grow (hg_w2.trans (later_grow _ _))) (Hkc2.out.grow (hg_w2.trans (later_grow _ _)))))) | quiet_step ((go_at_call 49; exact later_call (v := .int .i64 (cmpN a.kids[k] b.kids[k])) (Ih.out _ (List.getElem_mem hlt1) b.kids[k] _ _ _ Hgka.out Hgkb.out (Hkc.out.grow (hg_w2.trans (later_grow _ _))) (Hkc2.out.grow (hg_w2.trans (later_grow _ _)))))))); refine wpQuiet_nil ?_; rintro _ ⟨x_w3, rfl⟩; have hg_w3 := later_grow w2 x_w3; generalize later w2 x_w3 = w3 at hg_w3 ⊢)
            go_wp2_with fail
            go_ret
            exact ⟨by rw [Hff.out, Hs.out, Hd.out, Hst.out]; rfl, (by repeat (first | with_reducible exact Ext.refl _ _ | with_reducible refine Ext.trans ?_ (by assumption) | with_reducible refine Ext.drew ?_ | with_reducible refine Ext.drewN ?_ _ | with_reducible refine Ext.alloc ?_ _ | with_reducible refine Ext.setNew ?_ (by simp; done) _ | with_reducible refine Ext.setNew ?_ (by simp; omega) _))⟩
        · have b5' : (a.names[k].toList == b.names[k].toList) = false := by rw [beq_toList]; simpa using fun e => h5 (sgnT_zero.2 e)
          have Hst := Lib.hid (hst.trans (if_pos h5))
          clear hst h5
          go_wp2_with fail
          (refine wp_region_later (by kernel_rfl) (by kernel_rfl) ?_; (repeat (first | go_big_quiet_step (fail) | quiet_step (fail))); refine wpQuiet_nil ?_; rintro _ ⟨x_w2, rfl⟩; have hg_w2 := later_grow wr x_w2; generalize later wr x_w2 = w2 at hg_w2 ⊢)
          (replace p0 := hg_w2.some p0; replace p3 := hg_w2.some p3; replace p4 := hg_w2.some p4; replace q3 := hg_w2.some q3; replace q4 := hg_w2.some q4; replace c0 := hg_w2.some c0; replace c1 := hg_w2.some c1; replace c2 := hg_w2.some c2; replace c3 := hg_w2.some c3; replace c4 := hg_w2.some c4; replace d0 := hg_w2.some d0; replace d1 := hg_w2.some d1; replace d2 := hg_w2.some d2; replace d3 := hg_w2.some d3; replace d4 := hg_w2.some d4; replace x1 := hg_w2.some x1; replace x2 := hg_w2.some x2)
          go_wp2_with fail
          (refine wp_region_later (by kernel_rfl) (by kernel_rfl) ?_; (repeat (first | go_big_quiet_step ((go_at_call 82; exact later_call_same (orderText_ok _ _ _))) | quiet_step ((go_at_call 82; exact later_call_same (orderText_ok _ _ _))))); refine wpQuiet_nil ?_; rintro _ ⟨x_w3, rfl⟩; have hg_w3 := later_grow w2 x_w3; generalize later w2 x_w3 = w3 at hg_w3 ⊢)
          go_wp2_with fail
          go_ret
          exact ⟨by rw [Hff.out, Hs.out, Hd.out, Hst.out]; rfl, (by repeat (first | with_reducible exact Ext.refl _ _ | with_reducible refine Ext.trans ?_ (by assumption) | with_reducible refine Ext.drew ?_ | with_reducible refine Ext.drewN ?_ _ | with_reducible refine Ext.alloc ?_ _ | with_reducible refine Ext.setNew ?_ (by simp; done) _ | with_reducible refine Ext.setNew ?_ (by simp; omega) _))⟩
      · have b4 : (a.kind == 4) = false := by simp [h4]
        have hst := cmpKs_list (ns := a.names) (ms := b.names) hlt1 hlt2
        have Hd : Hid (decide (a.kind = 4) = false) := Lib.hid (by simp [h4])
        clear h4
        by_cases h6 : cmpN a.kids[k] b.kids[k] = 0
        · have b6' := bne0 h6
          have Hst := Lib.hid (hst.trans (if_neg (by simpa using h6)))
          clear hst h6
          go_wp2_with fail
          (refine wp_region_later (by kernel_rfl) (by kernel_rfl) ?_; (repeat (first | go_big_quiet_step (fail) | quiet_step (fail))); refine wpQuiet_nil ?_; rintro _ ⟨x_w2, rfl⟩; have hg_w2 := later_grow wr x_w2; generalize later wr x_w2 = w2 at hg_w2 ⊢)
          (replace p0 := hg_w2.some p0; replace p3 := hg_w2.some p3; replace p4 := hg_w2.some p4; replace q3 := hg_w2.some q3; replace q4 := hg_w2.some q4; replace c0 := hg_w2.some c0; replace c1 := hg_w2.some c1; replace c2 := hg_w2.some c2; replace c3 := hg_w2.some c3; replace c4 := hg_w2.some c4; replace d0 := hg_w2.some d0; replace d1 := hg_w2.some d1; replace d2 := hg_w2.some d2; replace d3 := hg_w2.some d3; replace d4 := hg_w2.some d4)
          go_wp2_with fail
          (refine wp_region_later (by kernel_rfl) (by kernel_rfl) ?_; (repeat (first | go_big_quiet_step ((go_at_call 49; exact later_call (v := .int .i64 (cmpN a.kids[k] b.kids[k])) (Ih.out _ (List.getElem_mem hlt1) b.kids[k] _ _ _ Hgka.out Hgkb.out (Hkc.out.grow (hg_w2.trans (later_grow _ _))) (Hkc2.out.grow (hg_w2.trans (later_grow _ _)))))) | quiet_step ((go_at_call 49; exact later_call (v := .int .i64 (cmpN a.kids[k] b.kids[k])) (Ih.out _ (List.getElem_mem hlt1) b.kids[k] _ _ _ Hgka.out Hgkb.out (Hkc.out.grow (hg_w2.trans (later_grow _ _))) (Hkc2.out.grow (hg_w2.trans (later_grow _ _)))))))); refine wpQuiet_nil ?_; rintro _ ⟨x_w3, rfl⟩; have hg_w3 := later_grow w2 x_w3; generalize later w2 x_w3 = w3 at hg_w3 ⊢)
          go_wp2_with fail
          go_roundw
          case rel => exact ⟨rfl, (by repeat (first | with_reducible exact Ext.refl _ _ | with_reducible refine Ext.trans ?_ (by assumption) | with_reducible refine Ext.drew ?_ | with_reducible refine Ext.drewN ?_ _ | with_reducible refine Ext.alloc ?_ _ | with_reducible refine Ext.setNew ?_ (by simp; done) _ | with_reducible refine Ext.setNew ?_ (by simp; omega) _)), HB1.out.grow (by repeat (first | with_reducible exact Ext.refl _ _ | with_reducible refine Ext.trans ?_ (by assumption) | with_reducible refine Ext.drew ?_ | with_reducible refine Ext.drewN ?_ _ | with_reducible refine Ext.alloc ?_ _ | with_reducible refine Ext.setNew ?_ (by simp; done) _ | with_reducible refine Ext.setNew ?_ (by simp; omega) _)), HB2.out.grow (by repeat (first | with_reducible exact Ext.refl _ _ | with_reducible refine Ext.trans ?_ (by assumption) | with_reducible refine Ext.drew ?_ | with_reducible refine Ext.drewN ?_ _ | with_reducible refine Ext.alloc ?_ _ | with_reducible refine Ext.setNew ?_ (by simp; done) _ | with_reducible refine Ext.setNew ?_ (by simp; omega) _)), k + 1, by omega, by omega, by go_num, by rw [Hs.out, Hd.out, Hst.out]⟩
          case measure => simp [intOf]; omega
        · have b6' := bne1 h6
          have Hst := Lib.hid (hst.trans (if_pos h6))
          clear hst h6
          go_wp2_with fail
          (refine wp_region_later (by kernel_rfl) (by kernel_rfl) ?_; (repeat (first | go_big_quiet_step (fail) | quiet_step (fail))); refine wpQuiet_nil ?_; rintro _ ⟨x_w2, rfl⟩; have hg_w2 := later_grow wr x_w2; generalize later wr x_w2 = w2 at hg_w2 ⊢)
          (replace p0 := hg_w2.some p0; replace p3 := hg_w2.some p3; replace p4 := hg_w2.some p4; replace q3 := hg_w2.some q3; replace q4 := hg_w2.some q4; replace c0 := hg_w2.some c0; replace c1 := hg_w2.some c1; replace c2 := hg_w2.some c2; replace c3 := hg_w2.some c3; replace c4 := hg_w2.some c4; replace d0 := hg_w2.some d0; replace d1 := hg_w2.some d1; replace d2 := hg_w2.some d2; replace d3 := hg_w2.some d3; replace d4 := hg_w2.some d4)
          go_wp2_with fail
          (refine wp_region_later (by kernel_rfl) (by kernel_rfl) ?_; (repeat (first | go_big_quiet_step ((go_at_call 49; exact later_call (v := .int .i64 (cmpN a.kids[k] b.kids[k])) (Ih.out _ (List.getElem_mem hlt1) b.kids[k] _ _ _ Hgka.out Hgkb.out (Hkc.out.grow (hg_w2.trans (later_grow _ _))) (Hkc2.out.grow (hg_w2.trans (later_grow _ _)))))) | quiet_step ((go_at_call 49; exact later_call (v := .int .i64 (cmpN a.kids[k] b.kids[k])) (Ih.out _ (List.getElem_mem hlt1) b.kids[k] _ _ _ Hgka.out Hgkb.out (Hkc.out.grow (hg_w2.trans (later_grow _ _))) (Hkc2.out.grow (hg_w2.trans (later_grow _ _)))))))); refine wpQuiet_nil ?_; rintro _ ⟨x_w3, rfl⟩; have hg_w3 := later_grow w2 x_w3; generalize later w2 x_w3 = w3 at hg_w3 ⊢)
          go_wp2_with fail
          go_ret
          exact ⟨by rw [Hff.out, Hs.out, Hd.out, Hst.out]; rfl, (by repeat (first | with_reducible exact Ext.refl _ _ | with_reducible refine Ext.trans ?_ (by assumption) | with_reducible refine Ext.drew ?_ | with_reducible refine Ext.drewN ?_ _ | with_reducible refine Ext.alloc ?_ _ | with_reducible refine Ext.setNew ?_ (by simp; done) _ | with_reducible refine Ext.setNew ?_ (by simp; omega) _))⟩
    · have Hend := Lib.hid (cmpKs_end (decide (a.kind = 4)) a.names b.names a.kids b.kids k hk1 hk2 hlt)
      have p4 := HB1.out.cell 4 _ rfl
      have q4 := HB2.out.cell 4 _ rfl
      by_cases h1 : k < a.kids.length
      · have h2 : ¬ k < b.kids.length := by omega
        go_wp2_with fail
        refine (order_ok _ _ _).mono ?_
        rintro e w' ⟨rfl, rfl⟩
        go_wp2_with fail
        go_ret
        exact ⟨by rw [Hff.out, Hs.out, Hend.out]; rfl, hg0⟩
      · go_wp2_with fail
        refine (order_ok _ _ _).mono ?_
        rintro e w' ⟨rfl, rfl⟩
        go_wp2_with fail
        go_ret
        exact ⟨by rw [Hff.out, Hs.out, Hend.out]; rfl, hg0⟩
theorem compare_ok : ∀ a, CmpSOk a := Nd.ind' CmpSOk compare_of
end Go.Proofs.Ytiobnaielfeeaaa
-- EV: rows skip
namespace Go.Proofs.Ytiobnaielfeeaaa.Eng
open Go Go.RowKit
attribute [local simp] big size_mk ASt.pay Option.map_map Function.comp_def awant aop acall ado aev ofVal ofVal0 ASt.put ASt.add ASt.turn ASt.kill abox aalloc astore aload aloadD astoreD idOf ASt.at cellsTo afieldAddr afield aindexAddr aindex alen abin aint acmp astr aun apick aextract anil aslice abound abuild afill abuildSlice asCells aps avCells over upd aappend asrc amax amin aconv mkSt slots rowsOf_cons rowsOf_nil usedOf_cons usedOf_nil ZK.av List.replicate ASt.back ASt.addL ASt.killL nodeA nodeT nodeTL_eq nodeL_eq strsE_get strsE_len intsE_get intsE_len strsE_at intsE_at nodeN namesRow nodeO kidsRow tab2 tab3 tab4 tab5 tab6 tab7 tab8 tab9 tab10 tab11 tab12 tab13 tab14 tab15 tab16 tab17 tab18 tab19 tab21 tab22 tab23 tab24 tab25 tab26 tab27 tab28 tab29 tab30 tab48 tab51 tab52 tab59 tab77 tab78 tab79 tab91 tab95 tab96 tab97 tab109 tab116 tab132 tab133 tab138 tab139 tab144 tab145 tab146 tab148 tab149 tab150
theorem specCompare_AC (a b : Nd) (ha : Good a) (hb : Good b) : AC Try.prog 49 [nodeA a, nodeA b] 0 (fun r => r = .int .i64 (cmpN a b)) := by
  refine AC.ofGrow (enters_of Try.func49 (by kernel_rfl) (by kernel_rfl)) (fun w L S rb vs h => ?_)
  obtain ⟨v, u, rfl, h1, h2⟩ := repL2_inv h
  refine (compare_ok a b v u w ha hb (nodeA_of_rep h1) (nodeA_of_rep h2)).mono ?_
  rintro e w' ⟨rfl, hg⟩
  exact ⟨_, _, rfl, hg, rep_int.2 rfl, rfl⟩
end Go.Proofs.Ytiobnaielfeeaaa.Eng
namespace Go.Proofs.Ytiobnaielfeeaaa
open Go Go.RowKit
def BoolsF (w : World) (a : Option Addr) (c : Nat) (xs : List Bool) (fp : List Nat) : Prop :=
  xs.length ≤ c ∧ xs.length ≤ big ∧ ((xs = [] ∧ fp = []) ∨ ∃ b o, xs ≠ [] ∧ a = some ⟨b, o, none⟩ ∧ fp = [b] ∧ ∀ i (h : i < xs.length), w.cell? ⟨b, o + i, none⟩ = some (.bool xs[i]))
theorem BoolsF.keep {w w' : World} {a : Option Addr} {c : Nat} {xs : List Bool} {fp : List Nat} (hs : BoolsF w a c xs fp)
    (h : ∀ b ∈ fp, ∀ o, w'.cell? ⟨b, o, none⟩ = w.cell? ⟨b, o, none⟩) : BoolsF w' a c xs fp := by
  obtain ⟨h1, h2, h4⟩ := hs
  refine ⟨h1, h2, h4.imp id ?_⟩
  rintro ⟨b, o, hne, rfl, rfl, hc⟩
  exact ⟨b, o, hne, rfl, rfl, fun i hi => by rw [h b (by simp)]; exact hc i hi⟩
theorem BoolsF.toR {w : World} {a : Option Addr} {c : Nat} {xs : List Bool} {fp : List Nat} (hs : BoolsF w a c xs fp) {S : Nat → Prop} (hS : ∀ b ∈ fp, S b) : BoolsR w S a c xs := by
  obtain ⟨h1, h2, h4⟩ := hs
  refine ⟨h1, h2, h4.imp (fun h => h.1) ?_⟩
  rintro ⟨b, o, _, rfl, rfl, hc⟩
  exact ⟨b, o, rfl, hS b (by simp), hc⟩
mutual
def ShapeF (w : World) : Shp → Option Addr → Nat → Option Addr → Nat → Option Addr → Nat → List Nat → Prop
  | ⟨_, names, needs, kids⟩, na, nc, ba, bc, ka, kc, fp => ∃ f1 f2 f3, fp = f1 ++ f2 ++ f3 ∧ StrsF w na nc names f1 ∧ BoolsF w ba bc needs f2 ∧ kids.length ≤ kc ∧ kids.length ≤ big ∧
      ((kids = [] ∧ f3 = []) ∨ ∃ b o f4, kids ≠ [] ∧ ka = some ⟨b, o, none⟩ ∧ f3 = b :: f4 ∧ ShpsF w b o kids f4)
def ShpsF (w : World) (b : Nat) : Nat → List Shp → List Nat → Prop
  | _, [], fp => fp = []
  | o, k :: ks, fp => ∃ f1 f2, fp = f1 ++ f2 ∧ (∃ na nc ba bc ka kc, w.cell? ⟨b, o, none⟩ = some (.int .i64 k.kind) ∧ w.cell? ⟨b, o + 1, none⟩ = some (.slice na k.names.length nc) ∧ w.cell? ⟨b, o + 2, none⟩ = some (.slice ba k.needs.length bc) ∧
      w.cell? ⟨b, o + 3, none⟩ = some (.slice ka k.kids.length kc) ∧ ShapeF w k na nc ba bc ka kc f1) ∧ ShpsF w b (o + 4) ks f2
end
def ShpLF (w : World) (a : Option Addr) (c : Nat) (l : List Shp) (fp : List Nat) : Prop :=
  l.length ≤ c ∧ l.length ≤ big ∧ ((l = [] ∧ fp = []) ∨ ∃ b o f, l ≠ [] ∧ a = some ⟨b, o, none⟩ ∧ fp = b :: f ∧ ShpsF w b o l f)
theorem ShapeF.mk {w : World} {n : Shp} {na : Option Addr} {nc : Nat} {ba : Option Addr} {bc : Nat} {ka : Option Addr} {kc : Nat} {f1 f2 f3 : List Nat}
    (h2 : StrsF w na nc n.names f1) (h3 : BoolsF w ba bc n.needs f2) (h4 : ShpLF w ka kc n.kids f3) : ShapeF w n na nc ba bc ka kc (f1 ++ f2 ++ f3) := by
  cases n; unfold ShapeF
  exact ⟨f1, f2, f3, rfl, h2, h3, h4⟩
def ShapeO (w : World) (n : Shp) (v : Value) (fp : List Nat) : Prop := ∃ na nc ba bc ka kc, v = shapeV n na nc ba bc ka kc ∧ ShapeF w n na nc ba bc ka kc fp
mutual
theorem ShapeF.keep {w w' : World} : ∀ {n : Shp} {na : Option Addr} {nc : Nat} {ba : Option Addr} {bc : Nat} {ka : Option Addr} {kc : Nat} {fp : List Nat}, ShapeF w n na nc ba bc ka kc fp →
    (∀ b ∈ fp, ∀ o, w'.cell? ⟨b, o, none⟩ = w.cell? ⟨b, o, none⟩) → ShapeF w' n na nc ba bc ka kc fp
  | ⟨_, _, _, kids⟩, na, nc, ba, bc, ka, kc, fp, hn, h => by
    unfold ShapeF at hn ⊢
    obtain ⟨f1, f2, f3, rfl, h1, h2, h3, h4, h5⟩ := hn
    refine ⟨f1, f2, f3, rfl, h1.keep (fun b hb => h b (by simp [hb])), h2.keep (fun b hb => h b (by simp [hb])), h3, h4, h5.imp id ?_⟩
    rintro ⟨b, o, f4, hne, rfl, rfl, hc⟩
    exact ⟨b, o, f4, hne, rfl, rfl, ShpsF.keep hc (fun x hx => h x (by simp [hx])) (fun o' _ _ => h b (by simp) o')⟩
theorem ShpsF.keep {w w' : World} {b : Nat} : ∀ {l : List Shp} {o : Nat} {fp : List Nat}, ShpsF w b o l fp → (∀ x ∈ fp, ∀ o', w'.cell? ⟨x, o', none⟩ = w.cell? ⟨x, o', none⟩) →
    (∀ o', o ≤ o' → o' < o + 4 * l.length → w'.cell? ⟨b, o', none⟩ = w.cell? ⟨b, o', none⟩) → ShpsF w' b o l fp
  | [], _, _, hk, _, _ => by unfold ShpsF at hk ⊢; exact hk
  | k :: ks, o, fp, hk, h, hb => by
    unfold ShpsF at hk ⊢
    obtain ⟨f1, f2, rfl, ⟨na, nc, ba, bc, ka, kc, c0, c1, c2, c3, hn⟩, hr⟩ := hk
    simp only [List.length_cons] at hb
    refine ⟨f1, f2, rfl, ⟨na, nc, ba, bc, ka, kc, ?_, ?_, ?_, ?_, ShapeF.keep hn (fun x hx => h x (by simp [hx]))⟩, ShpsF.keep hr (fun x hx => h x (by simp [hx])) (fun o' h1 h2 => hb o' (by omega) (by omega))⟩
    · rw [hb _ (by omega) (by omega)]; exact c0
    · rw [hb _ (by omega) (by omega)]; exact c1
    · rw [hb _ (by omega) (by omega)]; exact c2
    · rw [hb _ (by omega) (by omega)]; exact c3
end
mutual
theorem ShapeF.toC {w : World} {S : Nat → Prop} : ∀ {n : Shp} {na : Option Addr} {nc : Nat} {ba : Option Addr} {bc : Nat} {ka : Option Addr} {kc : Nat} {fp : List Nat}, ShapeF w n na nc ba bc ka kc fp → (∀ b ∈ fp, S b) → ShapeC w S n na nc ba bc ka kc
  | ⟨_, _, _, kids⟩, na, nc, ba, bc, ka, kc, fp, hn, h => by
    unfold ShapeF at hn; unfold ShapeC
    obtain ⟨f1, f2, f3, rfl, h1, h2, h3, h4, h5⟩ := hn
    refine ⟨h1.toR (fun b hb => h b (by simp [hb])), h2.toR (fun b hb => h b (by simp [hb])), h3, h4, h5.imp (fun h => h.1) ?_⟩
    rintro ⟨b, o, f4, _, rfl, rfl, hc⟩
    exact ⟨b, o, rfl, h b (by simp), ShpsF.toR hc (fun x hx => h x (by simp [hx]))⟩
theorem ShpsF.toR {w : World} {S : Nat → Prop} {b : Nat} : ∀ {l : List Shp} {o : Nat} {fp : List Nat}, ShpsF w b o l fp → (∀ x ∈ fp, S x) → ShpsR w S b o l
  | [], _, _, _, _ => by unfold ShpsR; trivial
  | k :: ks, o, fp, hk, h => by
    unfold ShpsF at hk; unfold ShpsR
    obtain ⟨f1, f2, rfl, ⟨na, nc, ba, bc, ka, kc, c0, c1, c2, c3, hn⟩, hr⟩ := hk
    exact ⟨⟨na, nc, ba, bc, ka, kc, c0, c1, c2, c3, ShapeF.toC hn (fun x hx => h x (by simp [hx]))⟩, ShpsF.toR hr (fun x hx => h x (by simp [hx]))⟩
end
theorem ShapeO.toR {w : World} {n : Shp} {v : Value} {fp : List Nat} (h : ShapeO w n v fp) {S : Nat → Prop} (hS : ∀ b ∈ fp, S b) : ShapeR w S n v := by
  obtain ⟨na, nc, ba, bc, ka, kc, hv, hc⟩ := h
  exact ⟨na, nc, ba, bc, ka, kc, hv, hc.toC hS⟩
end Go.Proofs.Ytiobnaielfeeaaa
namespace Go.Proofs.Ytiobnaielfeeaaa
open Go Go.RowKit
def CellsAt (w : World) (b o : Nat) (cs : List Value) : Prop := ∀ i v, cs[i]? = some v → w.cell? ⟨b, o + i, none⟩ = some v
theorem CellsAt.ext {X : Nat → Prop} {w w' : World} (h : Ext X w w') {b o : Nat} (hb : ¬ X b) {cs : List Value} (hc : CellsAt w b o cs) : CellsAt w' b o cs :=
  fun i v hi => h.some (hc i v hi) hb
theorem CellsAt.keep {w w' : World} {b o : Nat} {cs : List Value} (hc : CellsAt w b o cs) (h : ∀ o', o ≤ o' → o' < o + cs.length → w'.cell? ⟨b, o', none⟩ = w.cell? ⟨b, o', none⟩) : CellsAt w' b o cs :=
  fun i v hi => by
    have := (List.getElem?_eq_some_iff.1 hi).1
    rw [h _ (by omega) (by omega)]; exact hc i v hi
structure Rep (α : Type) where
  n : Nat
  R : World → (Nat → Prop) → α → List Value → Prop
  F : World → α → List Value → List Nat → Prop
  rlen : ∀ {w S x cs}, R w S x cs → cs.length = n
  flen : ∀ {w x cs fp}, F w x cs fp → cs.length = n
  ext : ∀ {X S : Nat → Prop} {w w' x cs}, Ext X w w' → (∀ k, S k → ¬ X k) → R w S x cs → R w' S x cs
  mono : ∀ {S T : Nat → Prop} {w x cs}, (∀ k, S k → T k) → R w S x cs → R w T x cs
  lt : ∀ {S : Nat → Prop} {w x cs}, R w S x cs → R w (fun k => S k ∧ k < w.heap.size) x cs
  keep : ∀ {w w' x cs fp}, F w x cs fp → (∀ b ∈ fp, ∀ o, w'.cell? ⟨b, o, none⟩ = w.cell? ⟨b, o, none⟩) → F w' x cs fp
  toR : ∀ {S : Nat → Prop} {w x cs fp}, F w x cs fp → (∀ b ∈ fp, S b) → R w S x cs
theorem Rep.grow {α : Type} (E : Rep α) {S : Nat → Prop} {w w' : World} {x : α} {cs : List Value} (h : E.R w S x cs) (hg : Grow w w') : E.R w' S x cs := E.ext hg (fun _ _ h => h) h
def intRep : Rep Int where
  n := 1
  R := fun _ _ x cs => cs = [.int .i64 x]
  F := fun _ x cs fp => cs = [.int .i64 x] ∧ fp = []
  rlen := fun h => by rw [h]; rfl
  flen := fun h => by rw [h.1]; rfl
  ext := fun _ _ h => h
  mono := fun _ h => h
  lt := fun h => h
  keep := fun h _ => h
  toR := fun h _ => h.1
def strRep : Rep ByteArray where
  n := 1
  R := fun _ _ x cs => cs = [.string x] ∧ x.size ≤ big
  F := fun _ x cs fp => cs = [.string x] ∧ x.size ≤ big ∧ fp = []
  rlen := fun h => by rw [h.1]; rfl
  flen := fun h => by rw [h.1]; rfl
  ext := fun _ _ h => h
  mono := fun _ h => h
  lt := fun h => h
  keep := fun h _ => h
  toR := fun h _ => ⟨h.1, h.2.1⟩
def pairRep {α β : Type} (A : Rep α) (B : Rep β) : Rep (α × β) where
  n := A.n + B.n
  R := fun w S x cs => ∃ c d, cs = c ++ d ∧ A.R w S x.1 c ∧ B.R w S x.2 d
  F := fun w x cs fp => ∃ c d f g, cs = c ++ d ∧ fp = f ++ g ∧ A.F w x.1 c f ∧ B.F w x.2 d g
  rlen := by rintro w S x cs ⟨c, d, rfl, h1, h2⟩; rw [List.length_append, A.rlen h1, B.rlen h2]
  flen := by rintro w x cs fp ⟨c, d, f, g, rfl, rfl, h1, h2⟩; rw [List.length_append, A.flen h1, B.flen h2]
  ext := by rintro X S w w' x cs h hS ⟨c, d, rfl, h1, h2⟩; exact ⟨c, d, rfl, A.ext h hS h1, B.ext h hS h2⟩
  mono := by rintro S T w x cs h ⟨c, d, rfl, h1, h2⟩; exact ⟨c, d, rfl, A.mono h h1, B.mono h h2⟩
  lt := by rintro S w x cs ⟨c, d, rfl, h1, h2⟩; exact ⟨c, d, rfl, A.lt h1, B.lt h2⟩
  keep := by rintro w w' x cs fp ⟨c, d, f, g, rfl, rfl, h1, h2⟩ h; exact ⟨c, d, f, g, rfl, rfl, A.keep h1 (fun b hb => h b (by simp [hb])), B.keep h2 (fun b hb => h b (by simp [hb]))⟩
  toR := by rintro S w x cs fp ⟨c, d, f, g, rfl, rfl, h1, h2⟩ h; exact ⟨c, d, rfl, A.toR h1 (fun b hb => h b (by simp [hb])), B.toR h2 (fun b hb => h b (by simp [hb]))⟩
section slices
variable {α : Type} (E : Rep α)
def SlR (w : World) (S : Nat → Prop) (a : Option Addr) (c : Nat) (l : List α) : Prop :=
  l.length ≤ c ∧ l.length ≤ big ∧ (l = [] ∨ ∃ b o, a = some ⟨b, o, none⟩ ∧ S b ∧ ∀ i (h : i < l.length), ∃ cs, CellsAt w b (o + i * E.n) cs ∧ E.R w S l[i] cs)
def RowF (w : World) (b : Nat) : Nat → List α → List Nat → Prop
  | _, [], fp => fp = []
  | o, x :: l, fp => ∃ f1 f2 cs, fp = f1 ++ f2 ∧ CellsAt w b o cs ∧ E.F w x cs f1 ∧ RowF w b (o + E.n) l f2
def SlF (w : World) (a : Option Addr) (c : Nat) (l : List α) (fp : List Nat) : Prop :=
  l.length ≤ c ∧ l.length ≤ big ∧ ((l = [] ∧ fp = []) ∨ ∃ b o f, l ≠ [] ∧ a = some ⟨b, o, none⟩ ∧ fp = b :: f ∧ RowF E w b o l f)
variable {E}
theorem RowF.keep {w w' : World} {b : Nat} : ∀ {l : List α} {o : Nat} {fp : List Nat}, RowF E w b o l fp → (∀ x ∈ fp, ∀ o', w'.cell? ⟨x, o', none⟩ = w.cell? ⟨x, o', none⟩) →
    (∀ o', o ≤ o' → o' < o + l.length * E.n → w'.cell? ⟨b, o', none⟩ = w.cell? ⟨b, o', none⟩) → RowF E w' b o l fp
  | [], _, _, hk, _, _ => hk
  | x :: l, o, fp, hk, h, hb => by
    obtain ⟨f1, f2, cs, rfl, hc, hx, hr⟩ := hk
    have hl := E.flen hx
    have e : (x :: l).length * E.n = l.length * E.n + E.n := by simp [Nat.succ_mul]
    rw [e] at hb
    exact ⟨f1, f2, cs, rfl, hc.keep (fun o' h1 h2 => hb o' h1 (by omega)), E.keep hx (fun b hb => h b (by simp [hb])), RowF.keep hr (fun b hb => h b (by simp [hb])) (fun o' h1 h2 => hb o' (by omega) (by omega))⟩
theorem RowF.toR {S : Nat → Prop} {w : World} {b : Nat} : ∀ {l : List α} {o : Nat} {fp : List Nat}, RowF E w b o l fp → (∀ x ∈ fp, S x) → ∀ i (h : i < l.length), ∃ cs, CellsAt w b (o + i * E.n) cs ∧ E.R w S l[i] cs
  | [], _, _, _, _, i, h => absurd h (by simp)
  | x :: l, o, fp, hk, h, 0, _ => by
    obtain ⟨f1, f2, cs, rfl, hc, hx, _⟩ := hk
    exact ⟨cs, by simpa using hc, E.toR hx (fun b hb => h b (by simp [hb]))⟩
  | x :: l, o, fp, hk, h, i + 1, hi => by
    obtain ⟨f1, f2, cs, rfl, _, _, hr⟩ := hk
    have := RowF.toR hr (fun b hb => h b (by simp [hb])) i (by simpa using hi)
    rw [show o + (i + 1) * E.n = o + E.n + i * E.n by rw [Nat.succ_mul]; omega]
    simpa using this
theorem SlF.keep {w w' : World} {a : Option Addr} {c : Nat} {l : List α} {fp : List Nat} (hs : SlF E w a c l fp)
    (h : ∀ b ∈ fp, ∀ o, w'.cell? ⟨b, o, none⟩ = w.cell? ⟨b, o, none⟩) : SlF E w' a c l fp := by
  obtain ⟨h1, h2, h4⟩ := hs
  refine ⟨h1, h2, h4.imp id ?_⟩
  rintro ⟨b, o, f, hne, rfl, rfl, hc⟩
  exact ⟨b, o, f, hne, rfl, rfl, hc.keep (fun x hx => h x (by simp [hx])) (fun o' _ _ => h b (by simp) o')⟩
theorem SlF.toR {S : Nat → Prop} {w : World} {a : Option Addr} {c : Nat} {l : List α} {fp : List Nat} (hs : SlF E w a c l fp) (hS : ∀ b ∈ fp, S b) : SlR E w S a c l := by
  obtain ⟨h1, h2, h4⟩ := hs
  refine ⟨h1, h2, h4.imp (fun h => h.1) ?_⟩
  rintro ⟨b, o, f, _, rfl, rfl, hc⟩
  exact ⟨b, o, rfl, hS b (by simp), hc.toR (fun x hx => hS x (by simp [hx]))⟩
theorem SlR.ext {X S : Nat → Prop} {w w' : World} (h : Ext X w w') (hS : ∀ k, S k → ¬ X k) {a : Option Addr} {c : Nat} {l : List α} (hs : SlR E w S a c l) : SlR E w' S a c l := by
  obtain ⟨h1, h2, h4⟩ := hs
  refine ⟨h1, h2, h4.imp id ?_⟩
  rintro ⟨b, o, rfl, hb, hc⟩
  exact ⟨b, o, rfl, hb, fun i hi => by obtain ⟨cs, h1, h2⟩ := hc i hi; exact ⟨cs, h1.ext h (hS b hb), E.ext h hS h2⟩⟩
theorem SlR.grow {S : Nat → Prop} {w w' : World} {a : Option Addr} {c : Nat} {l : List α} (hs : SlR E w S a c l) (h : Grow w w') : SlR E w' S a c l := hs.ext h (fun _ _ h => h)
theorem SlR.mono {S T : Nat → Prop} {w : World} (h : ∀ k, S k → T k) {a : Option Addr} {c : Nat} {l : List α} (hs : SlR E w S a c l) : SlR E w T a c l := by
  obtain ⟨h1, h2, h4⟩ := hs
  refine ⟨h1, h2, h4.imp id ?_⟩
  rintro ⟨b, o, rfl, hb, hc⟩
  exact ⟨b, o, rfl, h b hb, fun i hi => by obtain ⟨cs, h1, h2⟩ := hc i hi; exact ⟨cs, h1, E.mono h h2⟩⟩
theorem CellsAt.lt {w : World} {b o : Nat} {cs : List Value} (hc : CellsAt w b o cs) (h : cs ≠ []) : b < w.heap.size := by
  cases cs with
  | nil => exact absurd rfl h
  | cons v vs => exact lt_of_cell (hc 0 v rfl)
end slices
def slRep {α : Type} (E : Rep α) (h0 : 0 < E.n) : Rep (List α) where
  n := 1
  R := fun w S l cs => ∃ a c, cs = [.slice a l.length c] ∧ SlR E w S a c l
  F := fun w l cs fp => ∃ a c, cs = [.slice a l.length c] ∧ SlF E w a c l fp
  rlen := by rintro w S x cs ⟨a, c, rfl, _⟩; rfl
  flen := by rintro w x cs fp ⟨a, c, rfl, _⟩; rfl
  ext := by rintro X S w w' x cs h hS ⟨a, c, rfl, hs⟩; exact ⟨a, c, rfl, hs.ext h hS⟩
  mono := by rintro S T w x cs h ⟨a, c, rfl, hs⟩; exact ⟨a, c, rfl, hs.mono h⟩
  lt := by
    rintro S w l cs ⟨a, c, rfl, h1, h2, h3⟩
    refine ⟨a, c, rfl, h1, h2, ?_⟩
    rcases Nat.eq_zero_or_pos l.length with hl | hl
    · exact .inl (List.length_eq_zero_iff.1 hl)
    rcases h3 with h3 | ⟨b, o, rfl, hb, hc⟩
    · exact .inl h3
    · refine .inr ⟨b, o, rfl, ⟨hb, ?_⟩, fun i hi => by obtain ⟨cs, h1, h2⟩ := hc i hi; exact ⟨cs, h1, E.lt h2⟩⟩
      obtain ⟨cs, h1, h2⟩ := hc 0 hl
      exact h1.lt (by intro e; have := E.rlen h2; rw [e] at this; simp at this; omega)
  keep := by rintro w w' x cs fp ⟨a, c, rfl, hs⟩ h; exact ⟨a, c, rfl, hs.keep h⟩
  toR := by rintro S w x cs fp ⟨a, c, rfl, hs⟩ h; exact ⟨a, c, rfl, hs.toR h⟩
end Go.Proofs.Ytiobnaielfeeaaa
namespace Go.Proofs.Ytiobnaielfeeaaa
open Go.RowKit
end Go.Proofs.Ytiobnaielfeeaaa
namespace Go.Proofs.Ytiobnaielfeeaaa
open Go.RowKit
def inl (fp : List Nat) (k : Nat) : Prop := k ∈ fp
theorem Free.sub {B : Nat} {w w' : World} {fp fx : List Nat} (h : Free B w fp) (he : Ext (inl fx) w w') (hx : ∀ b ∈ fx, ∀ o, w'.frozen? ⟨b, o, none⟩ = false) : Free B w' fp := by
  refine ⟨h.1, fun b hb => ⟨(h.2 b hb).1, Nat.lt_of_lt_of_le (h.2 b hb).2.1 he.size, fun o => ?_⟩⟩
  by_cases hbx : b ∈ fx
  · exact hx b hbx o
  · rw [he.frozen (p := ⟨b, o, none⟩) (h.2 b hb).2.1 hbx]; exact (h.2 b hb).2.2 o
def RowAt (w : World) (b o n : Nat) : Prop := b < w.heap.size ∧ (∀ j, j < n → ∃ u, w.cell? ⟨b, o + j, none⟩ = some u) ∧ ∀ j, w.frozen? ⟨b, j, none⟩ = false
theorem RowAt.ext {X : Nat → Prop} {w w' : World} {b o n : Nat} (h : Ext X w w') (hx : ¬ X b) (hr : RowAt w b o n) : RowAt w' b o n := by
  obtain ⟨h1, h2, h3⟩ := hr
  refine ⟨Nat.lt_of_lt_of_le h1 h.size, fun j hj => ?_, fun j => ?_⟩
  · rw [h.cell (p := ⟨b, o + j, none⟩) h1 hx]; exact h2 j hj
  · rw [h.frozen (p := ⟨b, j, none⟩) h1 hx]; exact h3 j
theorem RowAt.setCell {w : World} {b o n : Nat} (hr : RowAt w b o n) (p : Addr) (v : Value) : RowAt (w.setCell p v) b o n := by
  obtain ⟨h1, h2, h3⟩ := hr
  refine ⟨by rw [size_setCell]; exact h1, fun j hj => cell?_setCell_some (h2 j hj).choose_spec, fun j => ?_⟩
  rw [World.frozen?_setCell]; exact h3 j
end Go.Proofs.Ytiobnaielfeeaaa
namespace Go.Proofs.Ytiobnaielfeeaaa
open Go.RowKit
theorem KidsF.append {w : World} {b : Nat} : ∀ {l m : List Nd} {o : Nat} {f g : List Nat}, KidsF w b o l f → KidsF w b (o + l.length * 5) m g → KidsF w b o (l ++ m) (f ++ g)
  | [], m, o, f, g, h1, h2 => by
    unfold KidsF at h1; subst h1; simpa using h2
  | x :: l, m, o, f, g, h1, h2 => by
    unfold KidsF at h1
    obtain ⟨f1, f2, rfl, hx, hr⟩ := h1
    rw [List.cons_append]; unfold KidsF
    refine ⟨f1, f2 ++ g, by simp, hx, KidsF.append hr ?_⟩
    rw [show o + 5 + l.length * 5 = o + (x :: l).length * 5 by simp; omega]
    exact h2
theorem KidsF.split {w : World} {b : Nat} : ∀ {l m : List Nd} {o : Nat} {fp : List Nat}, KidsF w b o (l ++ m) fp → ∃ f g, fp = f ++ g ∧ KidsF w b o l f ∧ KidsF w b (o + l.length * 5) m g
  | [], m, o, fp, h => ⟨[], fp, rfl, by unfold KidsF; rfl, by simpa using h⟩
  | x :: l, m, o, fp, h => by
    rw [List.cons_append] at h; unfold KidsF at h
    obtain ⟨f1, f2, rfl, hx, hr⟩ := h
    obtain ⟨f, g, rfl, h1, h2⟩ := KidsF.split hr
    rw [show o + 5 + l.length * 5 = o + (x :: l).length * 5 by simp; omega] at h2
    exact ⟨f1 ++ f, g, by simp, by unfold KidsF; exact ⟨f1, f, rfl, hx, h1⟩, h2⟩
theorem set_ne (w : World) (b p b' q : Nat) (v : Value) (h : b' ≠ b ∨ q ≠ p) : (w.setCell ⟨b, p, none⟩ v).cell? ⟨b', q, none⟩ = w.cell? ⟨b', q, none⟩ :=
  World.cell?_setCell_other _ _ _ _ (by intro e; cases e; rcases h with h | h <;> exact h rfl)
end Go.Proofs.Ytiobnaielfeeaaa
namespace Go.Proofs.Ytiobnaielfeeaaa
open Go.RowKit
end Go.Proofs.Ytiobnaielfeeaaa
namespace Go.Proofs.Ytiobnaielfeeaaa
open Go Go.RowKit
section
variable {P : Program} {ops : Array Oper} {Vs : Nat → Option (Value → World → Prop)} {w : World} {Q : Act → World → Prop}
end
end Go.Proofs.Ytiobnaielfeeaaa
namespace Go.Proofs.Ytiobnaielfeeaaa
open Go Go.RowKit
section
variable {P : Program} {ops : Array Oper} {Vs : Nat → Option (Value → World → Prop)} {w : World} {Q : Act → World → Prop}
end
end Go.Proofs.Ytiobnaielfeeaaa
namespace Go.Proofs.Ytiobnaielfeeaaa
open Go.RowKit
mutual
def mis : Shp → Nd → Option (List ByteArray)
  | ⟨kind, names, needs, kids⟩, n => if kind = 0 then none else if kind ≠ n.kind then some [] else misL names needs kids n
def misL : List ByteArray → List Bool → List Shp → Nd → Option (List ByteArray)
  | nm :: ns, nd :: bs, k :: ks, n => if mem n.names nm then (match mis k (kidOf n nm) with | some p => some (nm :: p) | none => misL ns bs ks n) else if nd then some [nm] else misL ns bs ks n
  | _, _, _, _ => none
end
theorem mis_eq (x : Shp) (n : Nd) : mis x n = if x.kind = 0 then none else if x.kind ≠ n.kind then some [] else misL x.names x.needs x.kids n := by cases x; simp [mis]
def MisR (w w' : World) (r : Option (List ByteArray)) (v : Value) : Prop :=
  ∃ a c fp, v = .tuple #[.slice a (r.getD []).length c, .bool r.isSome] ∧ StrsF w' a c (r.getD []) fp ∧ Free w.heap.size w' fp ∧ (r.getD [] = [] → a = none ∧ c = 0)
theorem MisR.grow {w w' w'' : World} {r : Option (List ByteArray)} {v : Value} (h : MisR w w' r v) (hg : Grow w' w'') : MisR w w'' r v := by
  obtain ⟨a, c, fp, hv, h1, h2, h3⟩ := h
  exact ⟨a, c, fp, hv, h1.keep (hg.keeps h2 (fun _ _ h => h)), h2.ext hg (fun _ _ h => h), h3⟩
theorem MisR.none (w w' : World) : MisR w w' .none (.tuple #[.slice .none 0 0, .bool false]) :=
  ⟨.none, 0, [], rfl, ⟨Nat.le_refl _, Nat.zero_le _, by simp, .inl ⟨rfl, rfl⟩⟩, Free.nil _ _, fun _ => ⟨rfl, rfl⟩⟩
theorem MisR.nil (w w' : World) : MisR w w' (some []) (.tuple #[.slice .none 0 0, .bool true]) :=
  ⟨.none, 0, [], rfl, ⟨Nat.le_refl _, Nat.zero_le _, by simp, .inl ⟨rfl, rfl⟩⟩, Free.nil _ _, fun _ => ⟨rfl, rfl⟩⟩
theorem strs_of_row {w : World} {B : Nat} {T : TypeId} {v : Value} {n : Nat} {xs : List ByteArray} (h : w.ownsRow B T 1 v n (xs.map Value.string)) (hx : ∀ x ∈ xs, x.size ≤ big) :
    ∃ a c fp, v = .slice a xs.length c ∧ StrsF w a c xs fp ∧ Free B w fp ∧ (xs = [] → fp = []) := by
  obtain ⟨h1, h2⟩ := h
  have hn : n = xs.length := by simp at h1; omega
  subst hn
  rcases h2 with ⟨rfl, h0⟩ | ⟨g, cap, cur, rfl, hb, hg, hle, hcap, hcs, htake⟩
  · have : xs = [] := List.length_eq_zero_iff.1 h0
    subst this
    exact ⟨none, 0, [], rfl, ⟨Nat.le_refl _, Nat.zero_le _, by simp, .inl ⟨rfl, rfl⟩⟩, Free.nil _ _, fun _ => rfl⟩
  · have hlen : xs.length ≤ big := by unfold maxLen at hcap; unfold big; omega
    by_cases he : xs = []
    · subst he
      exact ⟨_, _, [], rfl, ⟨Nat.zero_le _, Nat.zero_le _, by simp, .inl ⟨rfl, rfl⟩⟩, Free.nil _ _, fun _ => rfl⟩
    · refine ⟨_, _, [g], rfl, ⟨hle, hlen, hx, .inr ⟨g, 0, he, rfl, rfl, fun i hi => ?_⟩⟩, ⟨by simp, fun b hb' => ?_⟩, fun h => absurd h he⟩
      · unfold World.cell?
        simp only [hg, Nat.zero_add]
        have : cur.toList[i]? = some (Value.string xs[i]) := by
          have h3 : (cur.toList.take (xs.length * 1))[i]? = some (Value.string xs[i]) := by rw [htake]; simp [hi]
          rw [List.getElem?_take] at h3
          rw [if_pos (by omega)] at h3
          exact h3
        rw [Array.getElem?_toList] at this
        simpa [World.frozen?] using this
      · simp at hb'
        subst hb'
        refine ⟨hb, (Array.getElem?_eq_some_iff.1 hg).1, fun o => ?_⟩
        unfold World.frozen?
        simp [hg]
theorem MisR.one (W w : World) (x : ByteArray) (T : TypeId) (b : Nat) (hb : b = w.heap.size) (h : W.heap.size ≤ w.heap.size) (hx : x.size ≤ big) :
    MisR W (w.alloc (.cells #[.string x] T)) (some [x]) (.tuple #[.slice (some ⟨b, 0, Option.none⟩) 1 1, .bool true]) := by
  subst hb
  refine ⟨_, _, [w.heap.size], rfl, ⟨Nat.le_refl _, by simp [big], by simpa using hx, .inr ⟨_, 0, by simp, rfl, rfl, fun i hi => ?_⟩⟩, ⟨by simp, fun b hb => ?_⟩, fun h => by simp at h⟩
  · simp at hi
    subst hi
    rw [World.cell?_alloc_new]; rfl
  · simp at hb
    subst hb
    exact ⟨h, by simp, fun o => World.frozen?_alloc_new w _ T o⟩
theorem addr_add (b o j : Nat) : (⟨b, o, Option.none⟩ : Addr).add j = ⟨b, o + j, Option.none⟩ := by unfold Addr.add; split <;> simp_all
theorem MisR.row {w w' : World} {T : TypeId} {v : Value} {n : Nat} {x : ByteArray} {p : List ByteArray} (h : w'.ownsRow w.heap.size T 1 v n ((x :: p).map Value.string)) (hx : ∀ y ∈ x :: p, y.size ≤ big) :
    MisR w w' (some (x :: p)) (.tuple #[v, .bool true]) := by
  obtain ⟨a, c, fp, hv, h1, h2, _⟩ := strs_of_row h hx
  exact ⟨a, c, fp, by rw [hv]; rfl, h1, h2, fun h => by simp at h⟩
theorem MisR.base {w0 w w' : World} {r : Option (List ByteArray)} {v : Value} (h : MisR w w' r v) (hs : w0.heap.size ≤ w.heap.size) : MisR w0 w' r v := by
  obtain ⟨a, c, fp, hv, h1, h2, h3⟩ := h
  exact ⟨a, c, fp, hv, h1, h2.mono hs, h3⟩
theorem misL_len (n : Nd) (d : Nat) : ∀ (ks : List Shp), (∀ k ∈ ks, ∀ m p, mis k m = some p → p.length ≤ d) → ∀ ns bs p, misL ns bs ks n = some p → p.length ≤ d + 1
  | [], _, ns, bs, p, h => by cases ns <;> cases bs <;> simp [misL] at h
  | k :: ks, hk, [], bs, p, h => by simp [misL] at h
  | k :: ks, hk, nm :: ns, [], p, h => by simp [misL] at h
  | k :: ks, hk, nm :: ns, nd :: bs, p, h => by
    rw [misL] at h
    by_cases hm : mem n.names nm = true
    · rw [if_pos hm] at h
      cases hx : mis k (kidOf n nm) with
      | none => rw [hx] at h; exact misL_len n d ks (fun k' hk' => hk k' (by simp [hk'])) ns bs p h
      | some q =>
        rw [hx] at h
        simp at h
        subst h
        have := hk k (by simp) _ _ hx
        simp; omega
    · rw [if_neg hm] at h
      by_cases hn : nd = true
      · rw [if_pos hn] at h; simp at h; subst h; simp
      · rw [if_neg hn] at h
        exact misL_len n d ks (fun k' hk' => hk k' (by simp [hk'])) ns bs p h
theorem mis_len : ∀ (d : Nat) (x : Shp) (n : Nd) (p : List ByteArray), shpB x d = true → mis x n = some p → p.length ≤ d
  | 0, x, n, p, h, _ => by rw [shpB_eq] at h; simp at h
  | d + 1, x, n, p, h, hp => by
    rw [shpB_eq, shpL_all] at h
    simp only [Bool.and_eq_true, List.all_eq_true, Nat.add_sub_cancel] at h
    rw [mis_eq] at hp
    by_cases h0 : x.kind = 0
    · simp [h0] at hp
    · rw [if_neg h0] at hp
      by_cases h1 : x.kind ≠ n.kind
      · rw [if_pos h1] at hp; simp at hp; subst hp; simp
      · rw [if_neg h1] at hp
        exact misL_len n d x.kids (fun k hk m q hq => mis_len d k m q (h.2 k hk) hq) _ _ _ hp
theorem GoodS.len {x : Shp} (h : GoodS x) {n : Nd} {p : List ByteArray} (hp : mis x n = some p) : p.length ≤ 5 := by
  obtain ⟨d, hd, h⟩ := h
  exact Nat.le_trans (mis_len d x n p h hp) hd
end Go.Proofs.Ytiobnaielfeeaaa
namespace Go.Proofs.Ytiobnaielfeeaaa
open Go Go.RowKit
def NCells (w : World) (S : Nat → Prop) : List Nd → List Value → Prop
  | [], cs => cs = []
  | n :: l, cs => ∃ na nc ka kc cs', cs = nodeL n na nc ka kc ++ cs' ∧ NodeC w S n na nc ka kc ∧ NCells w S l cs'
theorem NCells.len {w : World} {S : Nat → Prop} : ∀ {l : List Nd} {cs : List Value}, NCells w S l cs → cs.length = l.length * 5
  | [], cs, h => by cases h; rfl
  | n :: l, cs, h => by
    obtain ⟨na, nc, ka, kc, cs', rfl, _, h⟩ := h
    rw [List.length_append, NCells.len h]; simp [nodeL, Nat.succ_mul]; omega
theorem NCells.append {w : World} {S : Nat → Prop} : ∀ {l m : List Nd} {cs ds : List Value}, NCells w S l cs → NCells w S m ds → NCells w S (l ++ m) (cs ++ ds)
  | [], m, cs, ds, h, k => by cases h; exact k
  | n :: l, m, cs, ds, h, k => by
    obtain ⟨na, nc, ka, kc, cs', rfl, hn, h⟩ := h
    exact ⟨na, nc, ka, kc, cs' ++ ds, by simp, hn, NCells.append h k⟩
theorem NCells.ext {X S : Nat → Prop} {w w' : World} (he : Ext X w w') (hS : ∀ k, S k → ¬ X k) : ∀ {l : List Nd} {cs : List Value}, NCells w S l cs → NCells w' S l cs
  | [], cs, h => h
  | n :: l, cs, h => by
    obtain ⟨na, nc, ka, kc, cs', rfl, hn, h⟩ := h
    exact ⟨na, nc, ka, kc, cs', rfl, hn.ext he hS, NCells.ext he hS h⟩
theorem NCells.mono {S T : Nat → Prop} {w : World} (hS : ∀ k, S k → T k) : ∀ {l : List Nd} {cs : List Value}, NCells w S l cs → NCells w T l cs
  | [], cs, h => h
  | n :: l, cs, h => by
    obtain ⟨na, nc, ka, kc, cs', rfl, hn, h⟩ := h
    exact ⟨na, nc, ka, kc, cs', rfl, hn.mono hS, NCells.mono hS h⟩
theorem NCells.one {w : World} {S : Nat → Prop} {n : Nd} {na : Option Addr} {nc : Nat} {ka : Option Addr} {kc : Nat} (h : NodeC w S n na nc ka kc) : NCells w S [n] (nodeL n na nc ka kc) :=
  ⟨na, nc, ka, kc, [], by simp, h, rfl⟩
theorem NCells.kids {w : World} {S : Nat → Prop} {b : Nat} : ∀ {l : List Nd} {cs : List Value} {o : Nat}, NCells w S l cs → (∀ i v, cs[i]? = some v → w.cell? ⟨b, o + i, none⟩ = some v) → KidsR w S b o l
  | [], _, _, _, _ => by unfold KidsR; trivial
  | n :: l, cs, o, h, hc => by
    obtain ⟨na, nc, ka, kc, cs', rfl, hn, h⟩ := h
    unfold KidsR
    refine ⟨⟨na, nc, ka, kc, hc 0 _ rfl, hc 1 _ rfl, hc 2 _ rfl, hc 3 _ rfl, hc 4 _ rfl, hn⟩, NCells.kids h (fun i v hi => ?_)⟩
    have := hc (5 + i) v (by rw [List.getElem?_append_right (by simp [nodeL])]; simpa [nodeL] using hi)
    rw [show o + (5 + i) = o + 5 + i by omega] at this
    exact this
theorem KidsR.cells {w : World} {S : Nat → Prop} {b : Nat} : ∀ {l : List Nd} {o : Nat}, KidsR w S b o l → ∃ cs, NCells w S l cs ∧ ∀ i v, cs[i]? = some v → w.cell? ⟨b, o + i, none⟩ = some v
  | [], _, _ => ⟨[], rfl, fun i v h => by simp at h⟩
  | n :: l, o, h => by
    unfold KidsR at h
    obtain ⟨⟨na, nc, ka, kc, c0, c1, c2, c3, c4, hn⟩, hr⟩ := h
    obtain ⟨cs, h1, h2⟩ := hr.cells
    refine ⟨nodeL n na nc ka kc ++ cs, ⟨na, nc, ka, kc, cs, rfl, hn, h1⟩, fun i v hi => ?_⟩
    match i, hi with
    | 0, hi => simp [nodeL] at hi; subst hi; exact c0
    | 1, hi => simp [nodeL] at hi; subst hi; exact c1
    | 2, hi => simp [nodeL] at hi; subst hi; exact c2
    | 3, hi => simp [nodeL] at hi; subst hi; exact c3
    | 4, hi => simp [nodeL] at hi; subst hi; exact c4
    | i + 5, hi =>
      have := h2 i v (by simpa [nodeL] using hi)
      rw [show o + (i + 5) = o + 5 + i by omega]
      exact this
end Go.Proofs.Ytiobnaielfeeaaa
namespace Go.Proofs.Ytiobnaielfeeaaa
open Go Go.RowKit
def Src (w : World) (y : Option Addr) (m : Nat) (news : List Value) : Prop := (m = 0 ∧ news = []) ∨ ∃ ad, y = some ad ∧ ∀ j u, news[j]? = some u → w.cell? (ad.add j) = some u
theorem Src.grow {w w' : World} {y : Option Addr} {m : Nat} {news : List Value} (h : Src w y m news) (hg : Grow w w') : Src w' y m news :=
  h.imp id (fun ⟨ad, hy, hc⟩ => ⟨ad, hy, fun j u hj => hg.some (hc j u hj)⟩)
def offRow (B : Nat) (v : Value) (k : Nat) : Prop := B ≤ k ∧ v.ownBlock ≠ some k
theorem grownBy_ext {w w' : World} {v : Value} (h : w.grownBy w' v.ownBlock) : Ext (fun k => v.ownBlock = some k) w w' :=
  ⟨h.os, h.tape, h.output, h.size, fun k hk hx => h.block k hk (fun e => hx e.symm)⟩
theorem NCells.grown {w w' : World} {B : Nat} {v v' : Value} {l : List Nd} {cs : List Value} (hlt : NCells w (fun k => offRow B v k ∧ k < w.heap.size) l cs) (hg : w.grownBy w' v.ownBlock) (hv : v'.ownBlock = v.ownBlock ∨ v'.ownBlock = some w.heap.size) :
    NCells w' (offRow B v') l cs := by
  have h1 := hlt.ext (grownBy_ext hg) (fun k hk hx => hk.1.2 hx)
  refine h1.mono (fun k hk => ⟨hk.1.1, fun e => ?_⟩)
  rcases hv with hv | hv
  · rw [hv] at e; exact hk.1.2 e
  · rw [hv] at e; cases e; exact Nat.lt_irrefl _ hk.2
theorem StrsR.lt {S : Nat → Prop} {w : World} {a : Option Addr} {c : Nat} {xs : List ByteArray} (h : StrsR w S a c xs) : StrsR w (fun k => S k ∧ k < w.heap.size) a c xs := by
  obtain ⟨h1, h2, h3, h4⟩ := h
  refine ⟨h1, h2, h3, ?_⟩
  rcases Nat.eq_zero_or_pos xs.length with hl | hl
  · exact .inl (List.length_eq_zero_iff.1 hl)
  rcases h4 with h4 | ⟨b, o, rfl, hb, hc⟩
  · exact .inl h4
  · exact .inr ⟨b, o, rfl, ⟨hb, lt_of_cell (hc 0 hl)⟩, hc⟩
mutual
theorem NodeC.lt {S : Nat → Prop} {w : World} : ∀ {n : Nd} {na : Option Addr} {nc : Nat} {ka : Option Addr} {kc : Nat}, NodeC w S n na nc ka kc → NodeC w (fun k => S k ∧ k < w.heap.size) n na nc ka kc
  | ⟨_, _, _, _, kids⟩, na, nc, ka, kc, h => by
    unfold NodeC at h ⊢
    obtain ⟨h1, h2, h3, h4, h5⟩ := h
    refine ⟨h1, h2.lt, h3, h4, ?_⟩
    rcases h5 with h5 | ⟨b, o, rfl, hb, hk⟩
    · exact .inl h5
    · cases kids with
      | nil => exact .inl rfl
      | cons k ks =>
        refine .inr ⟨b, o, rfl, ⟨hb, ?_⟩, KidsR.lt hk⟩
        unfold KidsR at hk
        obtain ⟨⟨_, _, _, _, c0, _⟩, _⟩ := hk
        exact lt_of_cell c0
theorem KidsR.lt {S : Nat → Prop} {w : World} {b : Nat} : ∀ {l : List Nd} {o : Nat}, KidsR w S b o l → KidsR w (fun k => S k ∧ k < w.heap.size) b o l
  | [], _, _ => by unfold KidsR; trivial
  | k :: ks, o, h => by
    unfold KidsR at h ⊢
    obtain ⟨⟨na, nc, ka, kc, c0, c1, c2, c3, c4, hn⟩, hr⟩ := h
    exact ⟨⟨na, nc, ka, kc, c0, c1, c2, c3, c4, hn.lt⟩, KidsR.lt hr⟩
end
theorem NCells.lt {S : Nat → Prop} {w : World} : ∀ {l : List Nd} {cs : List Value}, NCells w S l cs → NCells w (fun k => S k ∧ k < w.heap.size) l cs
  | [], cs, h => h
  | n :: l, cs, h => by
    obtain ⟨na, nc, ka, kc, cs', rfl, hn, h⟩ := h
    exact ⟨na, nc, ka, kc, cs', rfl, hn.lt, NCells.lt h⟩
theorem BoxN.grown {w w' : World} {b : Nat} {cs : List Value} {v : Value} (h : BoxN w b cs) (hg : w.grownBy w' v.ownBlock) (hb : ∀ k, v.ownBlock = some k → b < k) : BoxN w' b cs :=
  h.ext (grownBy_ext hg) (fun e => by have := hb _ e; omega)
end Go.Proofs.Ytiobnaielfeeaaa
namespace Go.Proofs.Ytiobnaielfeeaaa
open Go Go.RowKit
theorem NodeC.grow' {S : Nat → Prop} {w w' : World} {n : Nd} {na : Option Addr} {nc : Nat} {ka : Option Addr} {kc : Nat} (h : NodeC w S n na nc ka kc) (hg : Grow w w') : NodeC w' S n na nc ka kc := h.ext hg (fun _ _ h => h)
theorem Grow.toX' {X : Nat → Prop} {w w' : World} (h : Grow w w') : Ext X w w' := h.mono (fun _ h => False.elim h)
def nodeRep : Rep Nd where
  n := 5
  R := fun w S x cs => ∃ na nc ka kc, cs = nodeL x na nc ka kc ∧ NodeC w S x na nc ka kc
  F := fun w x cs fp => ∃ na nc ka kc, cs = nodeL x na nc ka kc ∧ NodeF w x na nc ka kc fp
  rlen := by rintro w S x cs ⟨na, nc, ka, kc, rfl, _⟩; rfl
  flen := by rintro w x cs fp ⟨na, nc, ka, kc, rfl, _⟩; rfl
  ext := by rintro X S w w' x cs h hS ⟨na, nc, ka, kc, rfl, hn⟩; exact ⟨na, nc, ka, kc, rfl, hn.ext h hS⟩
  mono := by rintro S T w x cs h ⟨na, nc, ka, kc, rfl, hn⟩; exact ⟨na, nc, ka, kc, rfl, hn.mono h⟩
  lt := by rintro S w x cs ⟨na, nc, ka, kc, rfl, hn⟩; exact ⟨na, nc, ka, kc, rfl, hn.lt⟩
  keep := by rintro w w' x cs fp ⟨na, nc, ka, kc, rfl, hn⟩ h; exact ⟨na, nc, ka, kc, rfl, hn.keep h⟩
  toR := by rintro S w x cs fp ⟨na, nc, ka, kc, rfl, hn⟩ h; exact ⟨na, nc, ka, kc, rfl, hn.toC h⟩
end Go.Proofs.Ytiobnaielfeeaaa
namespace Go.Proofs.Ytiobnaielfeeaaa
open Go Go.RowKit
structure Elm (wr w : World) (b p n : Nat) (cs : List Value) (G : List Nat) : Prop where
  ext : Ext (inl (b :: G)) wr w
  len : cs.length = n
  cells : ∀ i v, cs[i]? = some v → w.cell? ⟨b, p + i, none⟩ = some v
  rest : ∀ q, (q < p ∨ p + n ≤ q) → w.cell? ⟨b, q, none⟩ = wr.cell? ⟨b, q, none⟩
  fr : ∀ q, w.frozen? ⟨b, q, none⟩ = false
  lt : b < w.heap.size
theorem Elm.new {w : World} {b p n : Nat} {cs : List Value} (hc : CellsAt w b p cs) (hl : cs.length = n) (hf : ∀ q, w.frozen? ⟨b, q, none⟩ = false) (hb : b < w.heap.size) : Elm w w b p n cs [] :=
  ⟨Ext.refl _ _, hl, hc, fun _ _ => rfl, hf, hb⟩
theorem Elm.set {wr w : World} {b p n : Nat} {cs : List Value} {G : List Nat} (h : Elm wr w b p n cs G) (i : Nat) (hi : i < cs.length) (v : Value) : Elm wr (w.setCell ⟨b, p + i, none⟩ v) b p n (cs.set i v) G := by
  have h0 := h.cells i cs[i] (List.getElem?_eq_getElem hi)
  refine ⟨h.ext.setIn (p := ⟨b, p + i, none⟩) (by simp [inl]) v, by rw [List.length_set]; exact h.len, fun j u hj => ?_, fun q hq => ?_, fun q => by rw [World.frozen?_setCell]; exact h.fr q, by rw [size_setCell]; exact h.lt⟩
  · rw [cell_set h0]
    rw [List.getElem?_set] at hj
    by_cases e : j = i
    · subst e; rw [if_pos rfl]; simpa [hi] using hj
    · have hne : ¬ (⟨b, p + j, none⟩ : Addr) = ⟨b, p + i, none⟩ := by intro h'; have := congrArg Addr.off h'; simp at this; exact e this
      rw [if_neg hne]
      rw [if_neg (fun h' => e h'.symm)] at hj
      exact h.cells j u hj
  · have := h.len
    rw [set_ne _ _ _ _ _ _ (.inr (by omega))]; exact h.rest q hq
theorem Elm.sub {wr w w' : World} {b p n : Nat} {cs : List Value} {G g : List Nat} (h : Elm wr w b p n cs G) (he : Ext (inl g) w w') (hb : b ∉ g) : Elm wr w' b p n cs (G ++ g) := by
  refine ⟨(h.ext.mono (fun k hk => ?_)).trans (he.mono (fun k hk => ?_)), h.len, fun i v hi => he.some (h.cells i v hi) hb, fun q hq => ?_, fun q => ?_, Nat.lt_of_lt_of_le h.lt he.size⟩
  · simp [inl] at hk ⊢
    rcases hk with hk | hk
    · exact .inl hk
    · exact .inr (.inl hk)
  · simp [inl] at hk ⊢; exact .inr (.inr hk)
  · rw [he.cell (p := ⟨b, q, none⟩) h.lt hb]; exact h.rest q hq
  · rw [he.frozen (p := ⟨b, q, none⟩) h.lt hb]; exact h.fr q
theorem Elm.grow {wr w w' : World} {b p n : Nat} {cs : List Value} {G : List Nat} (h : Elm wr w b p n cs G) (hg : Grow w w') : Elm wr w' b p n cs G := by
  have := h.sub (g := []) (hg.toX' (X := inl [])) (by simp)
  simpa using this
section rows
variable {α : Type} {E : Rep α}
theorem RowF.split {w : World} {b : Nat} : ∀ {l m : List α} {o : Nat} {fp : List Nat}, RowF E w b o (l ++ m) fp → ∃ f g, fp = f ++ g ∧ RowF E w b o l f ∧ RowF E w b (o + l.length * E.n) m g
  | [], m, o, fp, h => ⟨[], fp, rfl, rfl, by simpa using h⟩
  | x :: l, m, o, fp, h => by
    obtain ⟨f1, f2, cs, rfl, hc, hx, hr⟩ := h
    obtain ⟨f, g, rfl, h1, h2⟩ := RowF.split hr
    rw [show o + E.n + l.length * E.n = o + (x :: l).length * E.n by simp [Nat.succ_mul]; omega] at h2
    exact ⟨f1 ++ f, g, by simp, ⟨f1, f, cs, rfl, hc, hx, h1⟩, h2⟩
end rows
end Go.Proofs.Ytiobnaielfeeaaa
namespace Go.Proofs.Ytiobnaielfeeaaa
open Go.RowKit
end Go.Proofs.Ytiobnaielfeeaaa
namespace Go.Proofs.Ytiobnaielfeeaaa
open Go.RowKit
abbrev Ent := Nd × ByteArray
def entRep : Rep Ent := pairRep nodeRep (strRep)
theorem entRep_n : entRep.n = 6 := rfl
def entL (x : Ent) (na0 : Option Addr) (nc0 : Nat) (ka0 : Option Addr) (kc0 : Nat) : List Value := [.int .i64 x.1.kind, .int .i64 x.1.num, .string x.1.text, .slice na0 x.1.names.length nc0, .slice ka0 x.1.kids.length kc0, .string x.2]
theorem entRep_open {w : World} {S : Nat → Prop} {x : Ent} {cs : List Value} (h : entRep.R w S x cs) : ∃ (na0 : Option Addr) (nc0 : Nat) (ka0 : Option Addr) (kc0 : Nat), cs = entL x na0 nc0 ka0 kc0 ∧ NodeC w S x.1 na0 nc0 ka0 kc0 ∧ x.2.size ≤ big := by
  obtain ⟨_, _, rfl, ⟨na0, nc0, ka0, kc0, rfl, h0⟩, ⟨rfl, h1⟩⟩ := h
  exact ⟨na0, nc0, ka0, kc0, rfl, h0, h1⟩
end Go.Proofs.Ytiobnaielfeeaaa
namespace Go.Proofs.Ytiobnaielfeeaaa
open Go.RowKit
end Go.Proofs.Ytiobnaielfeeaaa
namespace Go.Proofs.Ytiobnaielfeeaaa
open Go.RowKit
def entsV (l : List Ent) : Bool := l.all (fun e => validB e.1)
def entsB (l : List Ent) : Bool := decide (l.length ≤ 10) && entsV l
theorem entsV_drop (l : List Ent) (k : Nat) (h : k < l.length) : entsV (l.drop k) = (validB l[k].1 && entsV (l.drop (k + 1))) := by
  unfold entsV; rw [drop_cons _ _ h, List.all_cons]
theorem entsV_end (l : List Ent) (k : Nat) (h : ¬ k < l.length) : entsV (l.drop k) = true := by
  rw [List.drop_eq_nil_of_le (Nat.le_of_not_lt h)]; rfl
theorem areEntries_ok (l : List Ent) (a : Option Addr) (c : Nat) (w : World) (hn : SlR entRep w any a c l) :
    Calls Try.prog 57 #[.slice a l.length c] w fun e w' => e = .returned (.bool (entsB l)) ∧ Grow w w' := by
  have hbig : l.length ≤ 9223372036854775807 := hn.2.1
  have Hn := Lib.hid hn
  clear hn
  by_cases hl : 10 < l.length
  · go_enter Try.func57, Try.ntmps57
    go_wp2
    go_ret
    exact ⟨by simp [entsB]; omega, Ext.refl _ _⟩
  · have Hb : Hid (entsB l = entsV l) := Lib.hid (by simp [entsB]; intro h; omega)
    go_enter Try.func57, Try.ntmps57
    go_wp2
    go_loopw [2, 4, 10] (fun n _ i wr => n = .bool false ∧ Grow w wr ∧ ∃ k : Nat, k ≤ l.length ∧ i = .int .i64 k ∧ Hid (entsV l = entsV (l.drop k))) (fun _ _ i _ => l.length - (intOf i).toNat)
    case atStart => exact ⟨rfl, Ext.refl _ _, 0, Nat.zero_le _, rfl, Lib.hid rfl⟩
    case round =>
      obtain ⟨rfl, hg, k, hk, rfl, Hr⟩ := hrel
      by_cases hlt : k < l.length
      · obtain ⟨_, _, hks⟩ := (Hn.out).grow hg
        rcases hks with hks | ⟨bk, ok, rfl, _, hkr⟩
        · simp [hks] at hlt
        obtain ⟨cs, hcs, hx⟩ := hkr k hlt
        obtain ⟨na0, nc0, ka0, kc0, rfl, h0, h1⟩ := entRep_open hx
        rw [entRep_n] at hcs
        have x0 : wr.cell? ⟨bk, ok + k * 6, none⟩ = _ := hcs 0 _ rfl
        have x1 := hcs 1 _ rfl
        have x2 := hcs 2 _ rfl
        have x3 := hcs 3 _ rfl
        have x4 := hcs 4 _ rfl
        have x5 := hcs 5 _ rfl
        have H0 := Lib.hid h0
        have Hs := Lib.hid (entsV_drop l k hlt)
        clear hkr hcs hx h0 h1
        cases hv : validB l[k].1
        · have Hv := Lib.hid hv
          clear hv
          go_wp2_with fail
          refine (ValidNode_ok l[k].1 _ _ ⟨_, _, _, _, rfl, H0.out.grow' (by repeat (first | with_reducible exact Ext.refl _ _ | with_reducible refine Ext.trans ?_ (by assumption) | with_reducible refine Ext.drew ?_ | with_reducible refine Ext.drewN ?_ _ | with_reducible refine Ext.alloc ?_ _ | with_reducible refine Ext.setNew ?_ (by simp; done) _ | with_reducible refine Ext.setNew ?_ (by simp; omega) _))⟩).mono ?_
          rintro e w2 ⟨rfl, hg2⟩
          simp only [Hv.out]
          go_wp2_with fail
          go_ret
          exact ⟨by rw [Hb.out, Hr.out, Hs.out, Hv.out]; rfl, (by repeat (first | with_reducible exact Ext.refl _ _ | with_reducible refine Ext.trans ?_ (by assumption) | with_reducible refine Ext.drew ?_ | with_reducible refine Ext.drewN ?_ _ | with_reducible refine Ext.alloc ?_ _ | with_reducible refine Ext.setNew ?_ (by simp; done) _ | with_reducible refine Ext.setNew ?_ (by simp; omega) _))⟩
        · have Hv := Lib.hid hv
          clear hv
          go_wp2_with fail
          refine (ValidNode_ok l[k].1 _ _ ⟨_, _, _, _, rfl, H0.out.grow' (by repeat (first | with_reducible exact Ext.refl _ _ | with_reducible refine Ext.trans ?_ (by assumption) | with_reducible refine Ext.drew ?_ | with_reducible refine Ext.drewN ?_ _ | with_reducible refine Ext.alloc ?_ _ | with_reducible refine Ext.setNew ?_ (by simp; done) _ | with_reducible refine Ext.setNew ?_ (by simp; omega) _))⟩).mono ?_
          rintro e w2 ⟨rfl, hg2⟩
          simp only [Hv.out]
          go_wp2_with fail
          go_roundw
          case rel => exact ⟨rfl, (by repeat (first | with_reducible exact Ext.refl _ _ | with_reducible refine Ext.trans ?_ (by assumption) | with_reducible refine Ext.drew ?_ | with_reducible refine Ext.drewN ?_ _ | with_reducible refine Ext.alloc ?_ _ | with_reducible refine Ext.setNew ?_ (by simp; done) _ | with_reducible refine Ext.setNew ?_ (by simp; omega) _)), k + 1, by omega, by go_num, Lib.hid (by rw [Hr.out, Hs.out, Hv.out]; rfl)⟩
          case measure => simp [intOf]; omega
      · have He := Lib.hid (entsV_end l k hlt)
        go_wp2
        go_ret
        exact ⟨by rw [Hb.out, Hr.out, He.out]; rfl, hg⟩
theorem validEntries_ok (l : List Ent) (a : Option Addr) (c : Nat) (w : World) (hn : SlR entRep w any a c l) :
    Calls Try.prog 61 #[.slice a l.length c] w fun e w' => e = .returned (.bool (entsB l)) ∧ Grow w w' := by
  have hbig : l.length ≤ 9223372036854775807 := hn.2.1
  have Hn := Lib.hid hn
  clear hn
  have Hb : Hid (entsB l = (decide (l.length ≤ 10) && entsV l)) := Lib.hid rfl
  go_enter Try.func61, Try.ntmps61
  go_wp2
  go_loopw [2, 3] (fun n i wr => n = .bool false ∧ Grow w wr ∧ ∃ k : Nat, k ≤ l.length ∧ i = .int .i64 k ∧ Hid (entsV l = entsV (l.drop k))) (fun _ i _ => l.length - (intOf i).toNat)
  case atStart => exact ⟨rfl, Ext.refl _ _, 0, Nat.zero_le _, rfl, Lib.hid rfl⟩
  case round =>
    obtain ⟨rfl, hg, k, hk, rfl, Hr⟩ := hrel
    by_cases hlt : k < l.length
    · obtain ⟨_, _, hks⟩ := (Hn.out).grow hg
      rcases hks with hks | ⟨bk, ok, rfl, _, hkr⟩
      · simp [hks] at hlt
      obtain ⟨cs, hcs, hx⟩ := hkr k hlt
      obtain ⟨na0, nc0, ka0, kc0, rfl, h0, h1⟩ := entRep_open hx
      rw [entRep_n] at hcs
      have x0 : wr.cell? ⟨bk, ok + k * 6, none⟩ = _ := hcs 0 _ rfl
      have x1 := hcs 1 _ rfl
      have x2 := hcs 2 _ rfl
      have x3 := hcs 3 _ rfl
      have x4 := hcs 4 _ rfl
      have H0 := Lib.hid h0
      have Hs := Lib.hid (entsV_drop l k hlt)
      clear hkr hcs hx h0 h1
      cases hv : validB l[k].1
      · have Hv := Lib.hid hv
        clear hv
        go_wp2_with fail
        refine (validNode_ok l[k].1 _ _ ⟨_, _, _, _, rfl, H0.out.grow' (by repeat (first | with_reducible exact Ext.refl _ _ | with_reducible refine Ext.trans ?_ (by assumption) | with_reducible refine Ext.drew ?_ | with_reducible refine Ext.drewN ?_ _ | with_reducible refine Ext.alloc ?_ _ | with_reducible refine Ext.setNew ?_ (by simp; done) _ | with_reducible refine Ext.setNew ?_ (by simp; omega) _))⟩).mono ?_
        rintro e w2 ⟨rfl, hg2⟩
        simp only [Hv.out]
        go_wp2_with fail
        go_ret
        exact ⟨by rw [Hb.out, Hr.out, Hs.out, Hv.out]; simp, (by repeat (first | with_reducible exact Ext.refl _ _ | with_reducible refine Ext.trans ?_ (by assumption) | with_reducible refine Ext.drew ?_ | with_reducible refine Ext.drewN ?_ _ | with_reducible refine Ext.alloc ?_ _ | with_reducible refine Ext.setNew ?_ (by simp; done) _ | with_reducible refine Ext.setNew ?_ (by simp; omega) _))⟩
      · have Hv := Lib.hid hv
        clear hv
        go_wp2_with fail
        refine (validNode_ok l[k].1 _ _ ⟨_, _, _, _, rfl, H0.out.grow' (by repeat (first | with_reducible exact Ext.refl _ _ | with_reducible refine Ext.trans ?_ (by assumption) | with_reducible refine Ext.drew ?_ | with_reducible refine Ext.drewN ?_ _ | with_reducible refine Ext.alloc ?_ _ | with_reducible refine Ext.setNew ?_ (by simp; done) _ | with_reducible refine Ext.setNew ?_ (by simp; omega) _))⟩).mono ?_
        rintro e w2 ⟨rfl, hg2⟩
        simp only [Hv.out]
        go_wp2_with fail
        go_roundw
        case rel => exact ⟨rfl, (by repeat (first | with_reducible exact Ext.refl _ _ | with_reducible refine Ext.trans ?_ (by assumption) | with_reducible refine Ext.drew ?_ | with_reducible refine Ext.drewN ?_ _ | with_reducible refine Ext.alloc ?_ _ | with_reducible refine Ext.setNew ?_ (by simp; done) _ | with_reducible refine Ext.setNew ?_ (by simp; omega) _)), k + 1, by omega, by go_num, Lib.hid (by rw [Hr.out, Hs.out, Hv.out]; rfl)⟩
        case measure => simp [intOf]; omega
    · have He := Lib.hid (entsV_end l k hlt)
      go_wp2
      go_ret
      exact ⟨by rw [Hb.out, Hr.out, He.out]; simp; try omega, hg⟩
end Go.Proofs.Ytiobnaielfeeaaa
namespace Go.Proofs.Ytiobnaielfeeaaa
open Go.RowKit
theorem entsB_len {l : List Ent} (h : entsB l = true) : l.length ≤ 10 := by
  simp only [entsB, Bool.and_eq_true, decide_eq_true_eq] at h; exact h.1
theorem entsB_good {l : List Ent} (h : entsB l = true) : ∀ e ∈ l, Good e.1 := by
  simp only [entsB, Bool.and_eq_true, entsV, List.all_eq_true] at h; exact fun e he => validB_good (h.2 e he)
def OwnS (w w' : World) (xs : List ByteArray) (v : Value) : Prop := ∃ a c fp, v = .slice a xs.length c ∧ StrsF w' a c xs fp ∧ Free w.heap.size w' fp
theorem OwnS.nil (w w' : World) : OwnS w w' [] (.slice none 0 0) := ⟨none, 0, [], rfl, ⟨Nat.le_refl _, Nat.zero_le _, by simp, .inl ⟨rfl, rfl⟩⟩, Free.nil _ _⟩
theorem OwnS.grow {w w' w'' : World} {xs : List ByteArray} {v : Value} (h : OwnS w w' xs v) (hg : Grow w' w'') : OwnS w w'' xs v := by
  obtain ⟨a, c, fp, hv, h1, h2⟩ := h
  exact ⟨a, c, fp, hv, h1.keep (hg.keeps h2 (fun _ _ h => h)), h2.ext hg (fun _ _ h => h)⟩
theorem Free.down {B B' : Nat} {w : World} {fp : List Nat} (h : Free B w fp) (hb : B' ≤ B) : Free B' w fp := ⟨h.1, fun y hy => ⟨Nat.le_trans hb (h.2 y hy).1, (h.2 y hy).2⟩⟩
theorem OwnS.row {w w' : World} {B : Nat} {T : TypeId} {v : Value} {n : Nat} {xs : List ByteArray} (hB : w.heap.size ≤ B) (h : w'.ownsRow B T 1 v n (xs.map Value.string)) (hx : ∀ x ∈ xs, x.size ≤ big) : OwnS w w' xs v := by
  obtain ⟨a, c, fp, hv, h1, h2, _⟩ := strs_of_row h hx
  exact ⟨a, c, fp, hv, h1, h2.down hB⟩
end Go.Proofs.Ytiobnaielfeeaaa
namespace Go.Proofs.Ytiobnaielfeeaaa
open Go.RowKit
def Seg (A Z : Nat) (w : World) (fp : List Nat) : Prop := Free A w fp ∧ ∀ y ∈ fp, y < Z
theorem Seg.of {A : Nat} {w : World} {fp : List Nat} (h : Free A w fp) : Seg A w.heap.size w fp := ⟨h, fun y hy => (h.2 y hy).2.1⟩
theorem Seg.grow {A Z : Nat} {w w' : World} {fp : List Nat} (h : Seg A Z w fp) (hg : Grow w w') : Seg A Z w' fp := ⟨h.1.ext hg (fun _ _ h => h), h.2⟩
theorem Seg.off {A Z A' Z' : Nat} {w w0 : World} {fp fx : List Nat} (h : Seg A Z w fp) (hx : Seg A' Z' w0 fx) (hd : Z ≤ A' ∨ Z' ≤ A) : ∀ y ∈ fp, ¬ inl fx y := fun y hy h2 => by
  have h3 := h.2 y hy
  have h4 := (h.1.2 y hy).1
  have h5 := hx.2 y h2
  have h6 := (hx.1.2 y h2).1
  omega
theorem Seg.ext {A Z A' Z' : Nat} {w w' w0 : World} {fp fx : List Nat} (h : Seg A Z w fp) (hx : Seg A' Z' w0 fx) (hd : Z ≤ A' ∨ Z' ≤ A) (he : Ext (inl fx) w w') : Seg A Z w' fp := ⟨h.1.ext he (h.off hx hd), h.2⟩
theorem Seg.keeps {A Z A' Z' : Nat} {w w' w0 : World} {fp fx : List Nat} (h : Seg A Z w fp) (hx : Seg A' Z' w0 fx) (hd : Z ≤ A' ∨ Z' ≤ A) (he : Ext (inl fx) w w') : ∀ b ∈ fp, ∀ o, w'.cell? ⟨b, o, none⟩ = w.cell? ⟨b, o, none⟩ := he.keeps h.1 (h.off hx hd)
theorem Seg.inner {A Z : Nat} {w0 w w' : World} {fp : List Nat} (h : Seg A Z w fp) (hg : Grow w0 w) (he : Ext (inl fp) w w') (hA : w0.heap.size ≤ A) : Grow w0 w' :=
  hg.inner he (fun i hi => Nat.le_trans hA (h.1.2 i hi).1)
theorem Seg.box {A Z b : Nat} {w0 w w' : World} {fp : List Nat} {cs : List Value} (h : Seg A Z w0 fp) (hB : BoxN w b cs) (he : Ext (inl fp) w w') (hd : b < A ∨ Z ≤ b) : BoxN w' b cs :=
  hB.ext he (fun hi => by have h3 := h.2 b hi; have h4 := (h.1.2 b hi).1; omega)
theorem Seg.below {A Z : Nat} {w0 w w' : World} {fp : List Nat} {a : Option Addr} {c Y : Nat} {xs : List ByteArray} (h : Seg A Z w0 fp) (hs : StrsR w (fun k => k < Y) a c xs) (he : Ext (inl fp) w w') (hd : Y ≤ A) : StrsR w' (fun k => k < Y) a c xs :=
  hs.ext he (fun k hk hi => by have h4 := (h.1.2 k hi).1; omega)
end Go.Proofs.Ytiobnaielfeeaaa
namespace Go.Proofs.Ytiobnaielfeeaaa
open Go.RowKit
def packA (cs : List Value) : Value := .agg cs.toArray
def RV {α : Type} (E : Rep α) (pk : List Value → Value) (w : World) (S : Nat → Prop) (x : α) (v : Value) : Prop := ∃ cs, v = pk cs ∧ E.R w S x cs
def FV {α : Type} (E : Rep α) (pk : List Value → Value) (w : World) (x : α) (v : Value) (fp : List Nat) : Prop := ∃ cs, v = pk cs ∧ E.F w x cs fp
section
variable {α : Type} {E : Rep α} {pk : List Value → Value}
theorem RV.ext {X S : Nat → Prop} {w w' : World} {x : α} {v : Value} (h : RV E pk w S x v) (he : Ext X w w') (hS : ∀ k, S k → ¬ X k) : RV E pk w' S x v := by
  obtain ⟨cs, hv, hc⟩ := h; exact ⟨cs, hv, E.ext he hS hc⟩
theorem RV.grow {S : Nat → Prop} {w w' : World} {x : α} {v : Value} (h : RV E pk w S x v) (hg : Grow w w') : RV E pk w' S x v := h.ext hg (fun _ _ h => h)
theorem RV.mono {S T : Nat → Prop} {w : World} {x : α} {v : Value} (h : RV E pk w S x v) (hS : ∀ k, S k → T k) : RV E pk w T x v := by
  obtain ⟨cs, hv, hc⟩ := h; exact ⟨cs, hv, E.mono hS hc⟩
theorem RV.any {S : Nat → Prop} {w : World} {x : α} {v : Value} (h : RV E pk w S x v) : RV E pk w any x v := h.mono (fun _ _ => trivial)
theorem FV.keep {w w' : World} {x : α} {v : Value} {fp : List Nat} (h : FV E pk w x v fp) (hk : ∀ b ∈ fp, ∀ o, w'.cell? ⟨b, o, none⟩ = w.cell? ⟨b, o, none⟩) : FV E pk w' x v fp := by
  obtain ⟨cs, hv, hc⟩ := h; exact ⟨cs, hv, E.keep hc hk⟩
theorem FV.rv {w : World} {x : α} {v : Value} {fp : List Nat} (h : FV E pk w x v fp) : RV E pk w Go.Proofs.Ytiobnaielfeeaaa.any x v := by
  obtain ⟨cs, hv, hc⟩ := h; exact ⟨cs, hv, E.toR hc (fun _ _ => trivial)⟩
theorem FV.grow {w w' : World} {x : α} {v : Value} {fp : List Nat} {A Z : Nat} (h : FV E pk w x v fp) (hs : Seg A Z w fp) (hg : Grow w w') : FV E pk w' x v fp := h.keep (hg.keeps hs.1 (fun _ _ h => h))
theorem Seg.rv {A Z Y : Nat} {w0 w w' : World} {fp : List Nat} {x : α} {v : Value} (h : Seg A Z w0 fp) (hs : RV E pk w (fun k => k < Y) x v) (he : Ext (inl fp) w w') (hd : Y ≤ A) : RV E pk w' (fun k => k < Y) x v :=
  hs.ext he (fun k hk hi => by have h4 := (h.1.2 k hi).1; omega)
end
end Go.Proofs.Ytiobnaielfeeaaa
namespace Go.Proofs.Ytiobnaielfeeaaa
open Go.RowKit
abbrev Itm := ByteArray × Int × Nd
def itmRep : Rep Itm := pairRep strRep (pairRep intRep (nodeRep))
theorem itmRep_n : itmRep.n = 7 := rfl
def itmL (x : Itm) (na2 : Option Addr) (nc2 : Nat) (ka2 : Option Addr) (kc2 : Nat) : List Value := [.string x.1, .int .i64 x.2.1, .int .i64 x.2.2.kind, .int .i64 x.2.2.num, .string x.2.2.text, .slice na2 x.2.2.names.length nc2, .slice ka2 x.2.2.kids.length kc2]
theorem itmRep_open {w : World} {S : Nat → Prop} {x : Itm} {cs : List Value} (h : itmRep.R w S x cs) : ∃ (na2 : Option Addr) (nc2 : Nat) (ka2 : Option Addr) (kc2 : Nat), cs = itmL x na2 nc2 ka2 kc2 ∧ x.1.size ≤ big ∧ NodeC w S x.2.2 na2 nc2 ka2 kc2 := by
  obtain ⟨_, _, rfl, ⟨rfl, h0⟩, ⟨_, _, rfl, rfl, ⟨na2, nc2, ka2, kc2, rfl, h2⟩⟩⟩ := h
  exact ⟨na2, nc2, ka2, kc2, rfl, h0, h2⟩
end Go.Proofs.Ytiobnaielfeeaaa
namespace Go.Proofs.Ytiobnaielfeeaaa
open Go.RowKit
end Go.Proofs.Ytiobnaielfeeaaa
namespace Go.Proofs.Ytiobnaielfeeaaa
open Go.RowKit
def nameC (c : UInt8) : Bool := inR c.toNat 97 122 || inR c.toNat 48 57
def nameB (s : ByteArray) : Bool := decide (1 ≤ s.size) && decide (s.size ≤ 8) && s.data.toList.all nameC
theorem all_end {p : UInt8 → Bool} (s : ByteArray) (k : Nat) (h : ¬ k < s.size) (hk : k ≤ s.size) (h1 : (s.data.toList.take k).all p = true) : s.data.toList.all p = true := by
  have : k = s.data.toList.length := by simp; omega
  rwa [this, List.take_length] at h1
theorem validName_ok (s : ByteArray) (w : World) (hs : s.size ≤ big) :
    Calls Try.prog 131 #[.string s] w fun e w' => e = .returned (.bool (nameB s)) ∧ w = w' := by
  unfold big at hs
  go_enter Try.func131, Try.ntmps131
  go_wp2
  go_loop [2, 3] (fun n i => n = .bool false ∧ ∃ k : Nat, k ≤ s.size ∧ i = .int .i64 k ∧ Hid ((s.data.toList.take k).all nameC = true)) (fun _ i => s.size - (intOf i).toNat)
  case atStart => exact ⟨rfl, 0, Nat.zero_le _, rfl, Lib.hid rfl⟩
  case round =>
    obtain ⟨rfl, k, hk, rfl, Hall⟩ := hrel
    by_cases hlt : k < s.size
    · have hby := byte_lt s[k]
      cases a2 : inR (s[k].toNat : Int) 97 122
      · cases b2 : inR (s[k].toNat : Int) 48 57
        · have Hf : Hid (nameB s = false) := Lib.hid (by
            have := all_stop s k hlt (p := nameC) (by simp [nameC, a2, b2])
            simp [nameB, this])
          go_wp2_with (go_at_call 71; refine (inRange_ok _ _ _ _).mono ?_; rintro e w' ⟨rfl, rfl⟩)
          go_ret
          exact ⟨by simp [Hf.out], rfl⟩
        · have Hf := Lib.hid (all_step s k hlt Hall.out (p := nameC) (by simp [nameC, b2]))
          go_wp2_with (go_at_call 71; refine (inRange_ok _ _ _ _).mono ?_; rintro e w' ⟨rfl, rfl⟩)
          go_round
          case rel => exact ⟨rfl, k + 1, by omega, by go_num, Hf⟩
          case measure => simp [intOf]; omega
      · have Hf := Lib.hid (all_step s k hlt Hall.out (p := nameC) (by simp [nameC, a2]))
        go_wp2_with (go_at_call 71; refine (inRange_ok _ _ _ _).mono ?_; rintro e w' ⟨rfl, rfl⟩)
        go_round
        case rel => exact ⟨rfl, k + 1, by omega, by go_num, Hf⟩
        case measure => simp [intOf]; omega
    · have Hf : Hid (nameB s = inR s.size 1 8) := Lib.hid (by rw [Bool.eq_iff_iff]; simp [nameB, all_end s k hlt hk Hall.out, inR]; omega)
      go_wp2_with (go_at_call 71; refine (inRange_ok _ _ _ _).mono ?_; rintro e w' ⟨rfl, rfl⟩)
      go_ret
      exact ⟨by simp [Hf.out], rfl⟩
end Go.Proofs.Ytiobnaielfeeaaa
namespace Go.Proofs.Ytiobnaielfeeaaa
open Go.RowKit
abbrev Sto := List Itm × Int
theorem itmRep_pos : 0 < itmRep.n := by rw [itmRep_n]; omega
def stoRep : Rep Sto := pairRep (slRep itmRep itmRep_pos) intRep
def stoV (s : Sto) (a : Option Addr) (c : Nat) : Value := .agg #[.slice a s.1.length c, .int .i64 s.2]
theorem sto_open {w : World} {S : Nat → Prop} {s : Sto} {v : Value} (h : RV stoRep packA w S s v) : ∃ a c, v = stoV s a c ∧ SlR itmRep w S a c s.1 := by
  obtain ⟨cs, rfl, _, _, rfl, ⟨a, c, rfl, h⟩, rfl⟩ := h; exact ⟨a, c, rfl, h⟩
theorem sto_shut {w : World} {S : Nat → Prop} {s : Sto} {a : Option Addr} {c : Nat} (h : SlR itmRep w S a c s.1) : RV stoRep packA w S s (stoV s a c) := ⟨_, rfl, _, _, rfl, ⟨a, c, rfl, h⟩, rfl⟩
def itmB (clock : Int) (x : Itm) : Bool := nameB x.1 && inR x.2.1 1 clock && validB x.2.2
def itmsFrom (clock : Int) : Option ByteArray → List Itm → Bool
  | _, [] => true
  | p, x :: r => (match p with | none => true | some y => lt y x.1) && itmB clock x && itmsFrom clock (some x.1) r
def itmsAt (clock : Int) (l : List Itm) (k : Nat) : Bool := itmsFrom clock (if k = 0 then none else (l[k - 1]?).map (·.1)) (l.drop k)
def itmsB (clock : Int) (l : List Itm) : Bool := itmsFrom clock none l
def storeB (s : Sto) : Bool := decide (s.1.length ≤ 10) && inR s.2 0 999 && itmsB s.2 s.1
theorem itmsAt_zero (clock : Int) (l : List Itm) : itmsAt clock l 0 = itmsB clock l := by simp [itmsAt, itmsB]
theorem itmsAt_end (clock : Int) (l : List Itm) (k : Nat) (h : ¬ k < l.length) : itmsAt clock l k = true := by
  unfold itmsAt; rw [List.drop_eq_nil_of_le (by omega)]; cases k <;> simp [itmsFrom]
theorem itmsAt_first (clock : Int) (l : List Itm) (h : 0 < l.length) : itmsAt clock l 0 = (itmB clock l[0] && itmsAt clock l 1) := by
  unfold itmsAt; rw [drop_cons l 0 h]; simp [itmsFrom, h]
theorem itmsAt_next (clock : Int) (l : List Itm) (k : Nat) (h : k < l.length) (h0 : 0 < k) : itmsAt clock l k = (lt l[k - 1].1 l[k].1 && itmB clock l[k] && itmsAt clock l (k + 1)) := by
  unfold itmsAt
  rw [drop_cons l k h, if_neg (by omega), List.getElem?_eq_getElem (by omega)]
  simp [itmsFrom, h]
theorem itmsAt_bad {clock : Int} {l : List Itm} {k : Nat} (h : k < l.length) (hb : itmB clock l[k] = false ∨ (0 < k ∧ lt (l[k - 1]'(by omega)).1 l[k].1 = false)) : itmsAt clock l k = false := by
  rcases Nat.eq_zero_or_pos k with rfl | h0
  · rcases hb with hb | ⟨hb, _⟩
    · rw [itmsAt_first _ _ h, hb]; rfl
    · omega
  · rw [itmsAt_next _ _ _ h h0]
    rcases hb with hb | ⟨_, hb⟩
    · rw [hb]; simp
    · rw [hb]; simp
theorem itmsAt_good {clock : Int} {l : List Itm} {k : Nat} (h : k < l.length) (hb : itmB clock l[k] = true) (ho : ∀ _ : 0 < k, lt (l[k - 1]'(by omega)).1 l[k].1 = true) : itmsAt clock l k = itmsAt clock l (k + 1) := by
  rcases Nat.eq_zero_or_pos k with rfl | h0
  · rw [itmsAt_first _ _ h, hb]; rfl
  · rw [itmsAt_next _ _ _ h h0, hb, ho h0]; simp
theorem itmsFrom_all {clock : Int} : ∀ {p : Option ByteArray} {l : List Itm}, itmsFrom clock p l = true → ∀ x ∈ l, itmB clock x = true
  | _, [], _, x, hx => by cases hx
  | p, y :: r, h, x, hx => by
    unfold itmsFrom at h
    simp only [Bool.and_eq_true] at h
    rcases List.mem_cons.1 hx with rfl | hx
    · exact h.1.2
    · exact itmsFrom_all h.2 x hx
theorem lt_trans {a b c : ByteArray} (h1 : lt a b = true) (h2 : lt b c = true) : lt a c = true := bl_trans _ _ _ h1 h2
theorem itmsFrom_asc {clock : Int} : ∀ {p : Option ByteArray} {l : List Itm}, itmsFrom clock p l = true → (l.map (·.1)).Pairwise (fun a b => lt a b = true) ∧ ∀ y, p = some y → ∀ x ∈ l, lt y x.1 = true
  | _, [], _ => ⟨List.Pairwise.nil, fun _ _ x hx => by cases hx⟩
  | p, y :: r, h => by
    unfold itmsFrom at h
    simp only [Bool.and_eq_true] at h
    obtain ⟨i1, i2⟩ := itmsFrom_asc h.2
    refine ⟨List.Pairwise.cons (fun z hz => ?_) i1, ?_⟩
    · obtain ⟨x, hx, rfl⟩ := List.mem_map.1 hz
      exact i2 _ rfl x hx
    · rintro q rfl x hx
      have h0 : lt q y.1 = true := h.1.1
      rcases List.mem_cons.1 hx with rfl | hx
      · exact h0
      · exact lt_trans h0 (i2 _ rfl x hx)
theorem storeB_parts {s : Sto} (h : storeB s = true) : s.1.length ≤ 10 ∧ 0 ≤ s.2 ∧ s.2 ≤ 999 ∧ (∀ x ∈ s.1, itmB s.2 x = true) ∧ (s.1.map (·.1)).Pairwise (fun a b => lt a b = true) := by
  unfold storeB inR at h
  simp only [Bool.and_eq_true, decide_eq_true_eq] at h
  exact ⟨h.1.1, h.1.2.1, h.1.2.2, itmsFrom_all h.2, (itmsFrom_asc h.2).1⟩
end Go.Proofs.Ytiobnaielfeeaaa
namespace Go.Proofs.Ytiobnaielfeeaaa.Eng
open Go Go.RowKit
def itemL (x : Itm) : List AV := .str x.1 :: .int .i64 x.2.1 :: nodeL x.2.2
def itemA (x : Itm) : AV := .agg (itemL x)
theorem itemL_eq (x : Itm) : itemL x = [.str x.1, .int .i64 x.2.1, .int .i64 x.2.2.kind, .int .i64 x.2.2.num, .str x.2.2.text, .view .loose 1 (strsE x.2.2.names), .view .loose 5 (x.2.2.kids.map nodeL)] := by unfold itemL; rw [nodeL_eq]
theorem itemL_pur (x : Itm) : ∀ c ∈ itemL x, Pur c := by
  intro c hc
  simp only [itemL, List.mem_cons] at hc
  rcases hc with rfl | rfl | hc
  · exact pur_str
  · exact pur_int
  · exact nodeL_pur _ c hc
theorem itemL_in {U : Nat → Bool} (x : Itm) : ∀ c ∈ itemL x, AV.In U c := by
  intro c hc
  simp only [itemL, List.mem_cons] at hc
  rcases hc with rfl | rfl | hc
  · exact in_str
  · exact in_int
  · exact nodeL_in _ c hc
theorem item_pur (x : Itm) : Pur (itemA x) := pur_agg (itemL_pur x)
theorem item_clo (x : Itm) : Clo (itemA x) := (item_pur x).clo
theorem item_in {U : Nat → Bool} (x : Itm) : AV.In U (itemA x) := in_agg.2 (itemL_in x)
theorem itemsE_pur (l : List Itm) : ∀ e ∈ l.map itemL, ∀ c ∈ e, Pur c := fun e he c hc => by
  obtain ⟨k, _, rfl⟩ := List.mem_map.1 he
  exact itemL_pur k c hc
theorem itemsE_clo (l : List Itm) : ∀ e ∈ l.map itemL, ∀ c ∈ e, Clo c := fun e he c hc => (itemsE_pur l e he c hc).clo
theorem itemsE_in {U : Nat → Bool} (l : List Itm) : ∀ e ∈ l.map itemL, ∀ c ∈ e, AV.In U c := fun e he c hc => by
  obtain ⟨k, _, rfl⟩ := List.mem_map.1 he
  exact itemL_in k c hc
theorem items_clo {t : VC} (l : List Itm) : Clo (.view t 7 (l.map itemL)) := clo_view (itemsE_clo l)
theorem items_in {U : Nat → Bool} {t : VC} (l : List Itm) : AV.In U (.view t 7 (l.map itemL)) := in_view.2 (itemsE_in l)
theorem itemL_sub {id m : Nat} {c : AV} (x : Itm) : AV.subL id m c (itemL x) = itemL x := by rw [itemL_eq]; simp [AV.subL, AV.sub]
theorem itemsE_sub {id m : Nat} {c : AV} (l : List Itm) : (l.map itemL).map (AV.subL id m c) = l.map itemL := by
  rw [List.map_map]; exact List.map_congr_left (fun k _ => itemL_sub k)
def storeT (t : VC) (s : Sto) : AV := .agg [.view t 7 (s.1.map itemL), .int .i64 s.2]
def storeA (s : Sto) : AV := storeT .loose s
theorem store_clo (t : VC) (s : Sto) : Clo (storeT t s) := clo_agg (by
  simp only [List.forall_mem_cons, List.not_mem_nil, false_implies, implies_true, and_true]
  exact ⟨items_clo _, clo_int⟩)
theorem storeA_clo (s : Sto) : Clo (storeA s) := store_clo .loose s
theorem store_in {U : Nat → Bool} (t : VC) (s : Sto) : AV.In U (storeT t s) := in_agg.2 (by
  simp only [List.forall_mem_cons, List.not_mem_nil, false_implies, implies_true, and_true]
  exact ⟨items_in _, in_int⟩)
theorem storeA_in {U : Nat → Bool} (s : Sto) : AV.In U (storeA s) := store_in .loose s
def storeO (s : Sto) (id : Nat) : AV := .agg [.own id s.1.length, .int .i64 s.2]
def itemsRow (s : Sto) : Row := ⟨false, 133, 7, s.1.map itemL⟩
theorem storeO_res (s : Sto) (id0 : Nat) : Res1 id0 (storeO s) := Res1.agg [fun id => .own id s.1.length, fun _ => .int .i64 s.2] (by
  simp only [List.forall_mem_cons, List.not_mem_nil, false_implies, implies_true, and_true]
  exact ⟨Res1.own _ _, Res1.pur _ pur_int⟩)
theorem storeO_sub (s : Sto) : AV.sub 0 (itemsRow s).es.length (.view .loose (itemsRow s).sz (itemsRow s).es) (storeO s 0) = storeA s := by
  simp [storeO, storeA, storeT, itemsRow, AV.sub, AV.subL]
def SR1 (p : Sto → Prop) (f : Nat → AV) (R : Row) : Prop := ∃ s, p s ∧ f = storeO s ∧ R = itemsRow s
theorem AC.ofS {P : Program} {f : FuncId} {args : List AV} {c : Nat} {p : Sto → Prop} (h : ACR P f args c (fun _ => False) (SR1 p)) : AC P f args c (fun r => ∃ s, p s ∧ r = storeA s) := by
  refine (AC.ofR h ?_).mono ?_
  · rintro r R ⟨n, _, rfl, rfl⟩
    rw [storeO_sub]; exact storeA_in n
  · rintro r (h | ⟨f, R, ⟨n, h1, rfl, rfl⟩, rfl⟩)
    · exact h.elim
    · rw [storeO_sub]; exact ⟨n, h1, rfl⟩
def SmlS (s : Sto) : Prop := s.1.length ≤ 1000 ∧ ∀ x ∈ s.1, Sml x.2.2
theorem less_s {s : ASt} {tm : List AV} {rl : List (Nat × Row)} {us : List Nat} {rd : Option Nat} (h1 : lessL s.tmps tm := by (simp [lessL, mkSt, slots] <;> fail)) (h2 : ∀ p ∈ rl, s.rows p.1 = some p.2 := by (simp [upd, mkSt, rowsOf_cons] <;> fail)) (h3 : ∀ id ∈ us, s.used id = true := by (simp [upd, mkSt, usedOf_cons] <;> fail))
    (h4 : rd = s.rd ∨ ∃ j j', s.rd = some j ∧ rd = some j' ∧ j' ≤ j := by first | exact rd_less (by omega) | (simp [mkSt] <;> fail))
    (h5 : ∀ c ∈ tm, AV.In (usedOf us) c := by (simp [slots, in_any, in_int, in_bool, in_str, in_ptr, in_own, in_agg, in_vnil, in_rdr, usedOf_cons, usedOf_nil, strs_in, ints_in, nodes_in, items_in, in_tup] <;> fail))
    (h6 : ∀ p ∈ rl, usedOf us p.1 = true ∧ ∀ e ∈ p.2.es, ∀ c ∈ e, AV.In (usedOf us) c := by (simp only [List.forall_mem_cons, List.not_mem_nil, false_implies, implies_true, and_true, true_and, itemA, itemL_eq, storeA, storeT, storeO, itemsRow] <;> (repeat (first | with_reducible exact trivial | with_reducible refine And.intro ?_ ?_ | with_reducible exact in_int | with_reducible exact in_str | with_reducible exact in_bool | with_reducible exact strs_in _ | with_reducible exact nodes_in _ | with_reducible exact items_in _ | with_reducible exact in_vnil | with_reducible exact in_any | exact hin _ | with_reducible refine take_in ?_ | with_reducible exact strsE_in _ | with_reducible exact nodesE_in _ | with_reducible exact nodeL_in _ | with_reducible exact itemsE_in _ | with_reducible exact itemL_in _ | with_reducible refine app_in ?_ ?_ | with_reducible refine sing_in ?_ | (focus (simp [in_any, in_int, in_bool, in_str, in_ptr, in_own, in_agg, in_vnil, in_rdr, usedOf_cons, usedOf_nil, strs_in, ints_in, nodes_in, items_in] <;> fail)))) <;> fail)) : Less s (mkSt tm rl us rd) := less_of h1 h2 h3 h4 h5 h6
end Go.Proofs.Ytiobnaielfeeaaa.Eng
namespace Go.Proofs.Ytiobnaielfeeaaa
open Go Go.RowKit
def RB (b n : Nat) (K : World → Prop) (w w' : World) : Prop := Ext (fun k => k = b) w w' ∧ (RowIn w b n → RowIn w' b n) ∧ (K w → K w')
theorem RB.refl (b n : Nat) (K : World → Prop) (w : World) : RB b n K w w := ⟨Ext.refl _ _, fun h => h, fun h => h⟩
theorem RB.trans {b n : Nat} {K : World → Prop} {a c d : World} (h : RB b n K a c) (k : RB b n K c d) : RB b n K a d := ⟨h.1.trans k.1, fun x => k.2.1 (h.2.1 x), fun x => k.2.2 (h.2.2 x)⟩
structure LaterB (b n : Nat) (K : World → Prop) (w : World) : Type where
  at' : World
  rel : RB b n K w at'
def laterB {b n : Nat} {K : World → Prop} (w : World) (x : LaterB b n K w) : World := x.at'
instance laterB_some (b n : Nat) (K : World → Prop) (w : World) : Nonempty (LaterB b n K w) := ⟨⟨w, RB.refl _ _ _ _⟩⟩
theorem laterB_rel {b n : Nat} {K : World → Prop} (w : World) (x : LaterB b n K w) : RB b n K w (laterB w x) := x.rel
@[go_sem] theorem laterB_cell {b n : Nat} {K : World → Prop} (w : World) (x : LaterB b n K w) (a : Addr) (h : (w.cell? a).isSome = true) (hb : ¬ a.block = b) : (laterB w x).cell? a = w.cell? a := by
  obtain ⟨v, hv⟩ := Option.isSome_iff_exists.1 h
  rw [hv]; exact (laterB_rel w x).1.some hv hb
section
variable {P : Program} {ops : Array Oper} {Vs : Nat → Option (Value → World → Prop)} {w : World} {Q : Act → World → Prop} {b n : Nat} {K : World → Prop}
end
end Go.Proofs.Ytiobnaielfeeaaa
namespace Go.Proofs.Ytiobnaielfeeaaa
open Go.RowKit
theorem bl_ne {a b : ByteArray} (h : lt a b = true) : (a.toList == b.toList) = false := by
  cases h' : a.toList == b.toList
  · rfl
  · have : a.toList = b.toList := by simpa using h'
    unfold lt at h
    rw [this, bl_irrefl] at h; cases h
end Go.Proofs.Ytiobnaielfeeaaa
namespace Go.Proofs.Ytiobnaielfeeaaa
open Go.RowKit
theorem validName_same (x : ByteArray) (w : World) (hs : x.size ≤ big) : Calls Try.prog 131 #[.string x] w fun e w' => e = .returned (.bool (nameB x)) ∧ w' = w :=
  (validName_ok x w hs).mono fun _ _ ⟨h1, h2⟩ => ⟨h1, h2.symm⟩
theorem validStore_ok (s : Sto) (v : Value) (w : World) (h : RV stoRep packA w any s v) :
    Calls Try.prog 117 #[v] w fun e w' => e = .returned (.bool (storeB s)) ∧ Grow w w' := by
  obtain ⟨a, c, rfl, hs⟩ := sto_open h
  have hbig : s.1.length ≤ 9223372036854775807 := hs.2.1
  have Hs := Lib.hid hs
  clear h hs
  unfold stoV
  have Hb : Hid (storeB s = (decide (s.1.length ≤ 10) && inR s.2 0 999 && itmsB s.2 s.1)) := Lib.hid rfl
  have HB := Lib.hid (BoxN.new w [.slice a s.1.length c, .int .i64 s.2] 97)
  go_enter Try.func117, Try.ntmps117
  go_wp2_with fail
  go_loopw [2, 3, 4] (fun n i _ wr => n = .bool false ∧ Grow w wr ∧ BoxN wr w.heap.size [.slice a s.1.length c, .int .i64 s.2] ∧ ∃ k : Nat, k ≤ s.1.length ∧ i = .int .i64 k ∧ Hid (itmsB s.2 s.1 = itmsAt s.2 s.1 k)) (fun _ i _ _ => s.1.length - (intOf i).toNat)
  case atStart => exact ⟨rfl, (by repeat (first | with_reducible exact Ext.refl _ _ | with_reducible refine Ext.trans ?_ (by assumption) | with_reducible refine Ext.drew ?_ | with_reducible refine Ext.drewN ?_ _ | with_reducible refine Ext.alloc ?_ _ | with_reducible refine Ext.setNew ?_ (by simp; done) _ | with_reducible refine Ext.setNew ?_ (by simp; omega) _)), HB.out, 0, Nat.zero_le _, rfl, Lib.hid (itmsAt_zero _ _).symm⟩
  case round =>
    obtain ⟨rfl, hg, hB, k, hk, rfl, Hr⟩ := hrel
    have HB := Lib.hid hB
    have zB := hB.lt
    clear hB
    have q0 := HB.out.cell 0 _ rfl
    have q1 := HB.out.cell 1 _ rfl
    by_cases hlt : k < s.1.length
    · obtain ⟨_, _, hks⟩ := (Hs.out).grow hg
      rcases hks with hks | ⟨bk, ok, rfl, _, hkr⟩
      · simp [hks] at hlt
      obtain ⟨cs, hcs, hx⟩ := hkr k hlt
      obtain ⟨na0, nc0, ka0, kc0, rfl, hsz, h0⟩ := itmRep_open hx
      rw [itmRep_n] at hcs
      have x0 : wr.cell? ⟨bk, ok + k * 7, none⟩ = _ := hcs 0 _ rfl
      have x1 := hcs 1 _ rfl
      have x2 := hcs 2 _ rfl
      have x3 := hcs 3 _ rfl
      have x4 := hcs 4 _ rfl
      have x5 := hcs 5 _ rfl
      have x6 := hcs 6 _ rfl
      have zb : bk < wr.heap.size := lt_of_cell x0
      have H0 := Lib.hid h0
      have prev : ∀ h0 : 0 < k, wr.cell? ⟨bk, ok + (k - 1) * 7, none⟩ = some (.string (s.1[k - 1]'(by omega)).1) := fun h0 => by
        obtain ⟨cs', hcs', hx'⟩ := hkr (k - 1) (by omega)
        obtain ⟨_, _, _, _, rfl, _, _⟩ := itmRep_open hx'
        rw [itmRep_n] at hcs'
        exact hcs' 0 _ rfl
      have Prev := Lib.hid prev
      have HVc : Hid (∀ w', Grow wr w' → Calls Try.prog 43 #[.agg #[.int .i64 s.1[k].2.2.kind, .int .i64 s.1[k].2.2.num, .string s.1[k].2.2.text, .slice na0 s.1[k].2.2.names.length nc0, .slice ka0 s.1[k].2.2.kids.length kc0]] w' fun e w'' => e = .returned (.bool (validB s.1[k].2.2)) ∧ Grow w' w'') := Lib.hid (fun w' hg => validNode_ok s.1[k].2.2 _ _ ⟨_, _, _, _, rfl, H0.out.grow' hg⟩)
      clear hkr hcs hx h0 prev
      by_cases hbad : itmB s.2 s.1[k] = false ∨ (0 < k ∧ lt (s.1[k - 1]'(by omega)).1 s.1[k].1 = false)
      · have Hs' : Hid (itmsAt s.2 s.1 k = false) := Lib.hid (itmsAt_bad hlt hbad)
        have Hsb : Hid (storeB s = false) := Lib.hid (by rw [Hb.out, Hr.out, Hs'.out]; simp)
        cases hn : nameB s.1[k].1
        · have Hn := Lib.hid hn
          clear hn hbad
          go_wp2_with fail
          (refine wp_region_later (by kernel_rfl) (by kernel_rfl) ?_; (repeat (first | go_big_quiet_step ((first | (go_at_call 131; exact later_call_same (v := .bool false) (by simpa only [Hn.out] using validName_same s.1[k].1 _ hsz)) | (go_at_call 43; exact later_call (v := .bool false) (by simpa only [Hv.out] using HVc.out _ (((Ext.refl nil _).alloc _).trans (later_grow _ _)))) | (go_at_call 71; exact later_call_same (v := .bool false) (by simpa only [Hi.out] using inRange_ok s.1[k].2.1 1 s.2 _)))) | quiet_step ((first | (go_at_call 131; exact later_call_same (v := .bool false) (by simpa only [Hn.out] using validName_same s.1[k].1 _ hsz)) | (go_at_call 43; exact later_call (v := .bool false) (by simpa only [Hv.out] using HVc.out _ (((Ext.refl nil _).alloc _).trans (later_grow _ _)))) | (go_at_call 71; exact later_call_same (v := .bool false) (by simpa only [Hi.out] using inRange_ok s.1[k].2.1 1 s.2 _)))))); refine wpQuiet_nil ?_; rintro _ ⟨x_w2, rfl⟩; have hg_w2 := later_grow _ x_w2; generalize later _ x_w2 = w2 at hg_w2 ⊢)
          go_wp2_with fail
          go_ret
          exact ⟨by simp [Hsb.out], (by repeat (first | with_reducible exact Ext.refl _ _ | with_reducible refine Ext.trans ?_ (by assumption) | with_reducible refine Ext.drew ?_ | with_reducible refine Ext.drewN ?_ _ | with_reducible refine Ext.alloc ?_ _ | with_reducible refine Ext.setNew ?_ (by simp; done) _ | with_reducible refine Ext.setNew ?_ (by simp; omega) _))⟩
        have Hn := Lib.hid hn
        cases hv : validB s.1[k].2.2
        · have Hv := Lib.hid hv
          clear hv hn hbad
          go_wp2_with fail
          (refine wp_region_later (by kernel_rfl) (by kernel_rfl) ?_; (repeat (first | go_big_quiet_step ((first | (go_at_call 131; exact later_call_same (v := .bool true) (by simpa only [Hn.out] using validName_same s.1[k].1 _ hsz)) | (go_at_call 43; exact later_call (v := .bool false) (by simpa only [Hv.out] using HVc.out _ (((Ext.refl nil _).alloc _).trans (later_grow _ _)))) | (go_at_call 71; exact later_call_same (v := .bool false) (by simpa only [Hi.out] using inRange_ok s.1[k].2.1 1 s.2 _)))) | quiet_step ((first | (go_at_call 131; exact later_call_same (v := .bool true) (by simpa only [Hn.out] using validName_same s.1[k].1 _ hsz)) | (go_at_call 43; exact later_call (v := .bool false) (by simpa only [Hv.out] using HVc.out _ (((Ext.refl nil _).alloc _).trans (later_grow _ _)))) | (go_at_call 71; exact later_call_same (v := .bool false) (by simpa only [Hi.out] using inRange_ok s.1[k].2.1 1 s.2 _)))))); refine wpQuiet_nil ?_; rintro _ ⟨x_w2, rfl⟩; have hg_w2 := later_grow _ x_w2; generalize later _ x_w2 = w2 at hg_w2 ⊢)
          go_wp2_with fail
          go_ret
          exact ⟨by simp [Hsb.out], (by repeat (first | with_reducible exact Ext.refl _ _ | with_reducible refine Ext.trans ?_ (by assumption) | with_reducible refine Ext.drew ?_ | with_reducible refine Ext.drewN ?_ _ | with_reducible refine Ext.alloc ?_ _ | with_reducible refine Ext.setNew ?_ (by simp; done) _ | with_reducible refine Ext.setNew ?_ (by simp; omega) _))⟩
        have Hv := Lib.hid hv
        cases hi : inR s.1[k].2.1 1 s.2
        · have Hi := Lib.hid hi
          clear hi hv hn hbad
          go_wp2_with fail
          (refine wp_region_later (by kernel_rfl) (by kernel_rfl) ?_; (repeat (first | go_big_quiet_step ((first | (go_at_call 131; exact later_call_same (v := .bool true) (by simpa only [Hn.out] using validName_same s.1[k].1 _ hsz)) | (go_at_call 43; exact later_call (v := .bool true) (by simpa only [Hv.out] using HVc.out _ (((Ext.refl nil _).alloc _).trans (later_grow _ _)))) | (go_at_call 71; exact later_call_same (v := .bool false) (by simpa only [Hi.out] using inRange_ok s.1[k].2.1 1 s.2 _)))) | quiet_step ((first | (go_at_call 131; exact later_call_same (v := .bool true) (by simpa only [Hn.out] using validName_same s.1[k].1 _ hsz)) | (go_at_call 43; exact later_call (v := .bool true) (by simpa only [Hv.out] using HVc.out _ (((Ext.refl nil _).alloc _).trans (later_grow _ _)))) | (go_at_call 71; exact later_call_same (v := .bool false) (by simpa only [Hi.out] using inRange_ok s.1[k].2.1 1 s.2 _)))))); refine wpQuiet_nil ?_; rintro _ ⟨x_w2, rfl⟩; have hg_w2 := later_grow _ x_w2; generalize later _ x_w2 = w2 at hg_w2 ⊢)
          go_wp2_with fail
          go_ret
          exact ⟨by simp [Hsb.out], (by repeat (first | with_reducible exact Ext.refl _ _ | with_reducible refine Ext.trans ?_ (by assumption) | with_reducible refine Ext.drew ?_ | with_reducible refine Ext.drewN ?_ _ | with_reducible refine Ext.alloc ?_ _ | with_reducible refine Ext.setNew ?_ (by simp; done) _ | with_reducible refine Ext.setNew ?_ (by simp; omega) _))⟩
        have Hi := Lib.hid hi
        obtain ⟨hk0, hlt'⟩ := hbad.resolve_left (by simp [itmB, hn, hv, hi])
        have hki : (0 : Int) < (k : Int) := by omega
        have y0 := Prev.out hk0
        have k1 : ((k : Int) - 1).toNat = k - 1 := by omega
        have k2 : (0 : Int) ≤ (k : Int) - 1 := by omega
        have k3 : (k : Int) - 1 < (s.1.length : Int) := by omega
        clear hn hv hi
        rcases bl_cases (s.1[k - 1]'(by omega)).1 s.1[k].1 with ⟨l1, l2, l3, l4, _⟩ | ⟨l1, l2, l3, l4, _⟩ | l0
        · have := hlt'.symm.trans l1; cases this
        · clear hlt'
          go_wp2_with fail
          (refine wp_region_later (by kernel_rfl) (by kernel_rfl) ?_; (repeat (first | go_big_quiet_step ((first | (go_at_call 131; exact later_call_same (v := .bool true) (by simpa only [Hn.out] using validName_same s.1[k].1 _ hsz)) | (go_at_call 43; exact later_call (v := .bool true) (by simpa only [Hv.out] using HVc.out _ (((Ext.refl nil _).alloc _).trans (later_grow _ _)))) | (go_at_call 71; exact later_call_same (v := .bool true) (by simpa only [Hi.out] using inRange_ok s.1[k].2.1 1 s.2 _)))) | quiet_step ((first | (go_at_call 131; exact later_call_same (v := .bool true) (by simpa only [Hn.out] using validName_same s.1[k].1 _ hsz)) | (go_at_call 43; exact later_call (v := .bool true) (by simpa only [Hv.out] using HVc.out _ (((Ext.refl nil _).alloc _).trans (later_grow _ _)))) | (go_at_call 71; exact later_call_same (v := .bool true) (by simpa only [Hi.out] using inRange_ok s.1[k].2.1 1 s.2 _)))))); refine wpQuiet_nil ?_; rintro _ ⟨x_w2, rfl⟩; have hg_w2 := later_grow _ x_w2; generalize later _ x_w2 = w2 at hg_w2 ⊢)
          go_wp2_with fail
          go_ret
          exact ⟨by simp [Hsb.out], (by repeat (first | with_reducible exact Ext.refl _ _ | with_reducible refine Ext.trans ?_ (by assumption) | with_reducible refine Ext.drew ?_ | with_reducible refine Ext.drewN ?_ _ | with_reducible refine Ext.alloc ?_ _ | with_reducible refine Ext.setNew ?_ (by simp; done) _ | with_reducible refine Ext.setNew ?_ (by simp; omega) _))⟩
        · rw [l0] at y0
          clear l0 hlt'
          have l1 := blF_irrefl s.1[k].1
          go_wp2_with fail
          (refine wp_region_later (by kernel_rfl) (by kernel_rfl) ?_; (repeat (first | go_big_quiet_step ((first | (go_at_call 131; exact later_call_same (v := .bool true) (by simpa only [Hn.out] using validName_same s.1[k].1 _ hsz)) | (go_at_call 43; exact later_call (v := .bool true) (by simpa only [Hv.out] using HVc.out _ (((Ext.refl nil _).alloc _).trans (later_grow _ _)))) | (go_at_call 71; exact later_call_same (v := .bool true) (by simpa only [Hi.out] using inRange_ok s.1[k].2.1 1 s.2 _)))) | quiet_step ((first | (go_at_call 131; exact later_call_same (v := .bool true) (by simpa only [Hn.out] using validName_same s.1[k].1 _ hsz)) | (go_at_call 43; exact later_call (v := .bool true) (by simpa only [Hv.out] using HVc.out _ (((Ext.refl nil _).alloc _).trans (later_grow _ _)))) | (go_at_call 71; exact later_call_same (v := .bool true) (by simpa only [Hi.out] using inRange_ok s.1[k].2.1 1 s.2 _)))))); refine wpQuiet_nil ?_; rintro _ ⟨x_w2, rfl⟩; have hg_w2 := later_grow _ x_w2; generalize later _ x_w2 = w2 at hg_w2 ⊢)
          go_wp2_with fail
          go_ret
          exact ⟨by simp [Hsb.out], (by repeat (first | with_reducible exact Ext.refl _ _ | with_reducible refine Ext.trans ?_ (by assumption) | with_reducible refine Ext.drew ?_ | with_reducible refine Ext.drewN ?_ _ | with_reducible refine Ext.alloc ?_ _ | with_reducible refine Ext.setNew ?_ (by simp; done) _ | with_reducible refine Ext.setNew ?_ (by simp; omega) _))⟩
      · have hgood : itmB s.2 s.1[k] = true := by
          cases h : itmB s.2 s.1[k]
          · exact absurd (.inl h) hbad
          · rfl
        have hord : ∀ h0 : 0 < k, lt (s.1[k - 1]'(by omega)).1 s.1[k].1 = true := fun h0 => by
          cases h : lt (s.1[k - 1]'(by omega)).1 s.1[k].1
          · exact absurd (.inr ⟨h0, h⟩) hbad
          · rfl
        have Hord := Lib.hid hord
        have Hs' : Hid (itmsAt s.2 s.1 k = itmsAt s.2 s.1 (k + 1)) := Lib.hid (itmsAt_good hlt hgood hord)
        unfold itmB at hgood
        simp only [Bool.and_eq_true] at hgood
        have Hn := Lib.hid hgood.1.1
        have Hi := Lib.hid hgood.1.2
        have Hv := Lib.hid hgood.2
        clear hbad hgood hord
        by_cases hk0 : 0 < k
        · have hki : (0 : Int) < (k : Int) := by omega
          have y0 := Prev.out hk0
          have k1 : ((k : Int) - 1).toNat = k - 1 := by omega
          have k2 : (0 : Int) ≤ (k : Int) - 1 := by omega
          have k3 : (k : Int) - 1 < (s.1.length : Int) := by omega
          have l1 : lt (s.1[k - 1]'(by omega)).1 s.1[k].1 = true := Hord.out hk0
          have l2 : Op.bytesLess s.1[k].1.toList (s.1[k - 1]'(by omega)).1.toList = false := bl_asymm _ _ l1
          have l3 : ((s.1[k - 1]'(by omega)).1.toList == s.1[k].1.toList) = false := bl_ne l1
          have l4 : (s.1[k].1.toList == (s.1[k - 1]'(by omega)).1.toList) = false := by rw [beq_toList] at l3 ⊢; simp only [decide_eq_false_iff_not] at l3 ⊢; exact fun e => l3 e.symm
          go_wp2_with fail
          (refine wp_region_later (by kernel_rfl) (by kernel_rfl) ?_; (repeat (first | go_big_quiet_step ((first | (go_at_call 131; exact later_call_same (v := .bool true) (by simpa only [Hn.out] using validName_same s.1[k].1 _ hsz)) | (go_at_call 43; exact later_call (v := .bool true) (by simpa only [Hv.out] using HVc.out _ (((Ext.refl nil _).alloc _).trans (later_grow _ _)))) | (go_at_call 71; exact later_call_same (v := .bool true) (by simpa only [Hi.out] using inRange_ok s.1[k].2.1 1 s.2 _)))) | quiet_step ((first | (go_at_call 131; exact later_call_same (v := .bool true) (by simpa only [Hn.out] using validName_same s.1[k].1 _ hsz)) | (go_at_call 43; exact later_call (v := .bool true) (by simpa only [Hv.out] using HVc.out _ (((Ext.refl nil _).alloc _).trans (later_grow _ _)))) | (go_at_call 71; exact later_call_same (v := .bool true) (by simpa only [Hi.out] using inRange_ok s.1[k].2.1 1 s.2 _)))))); refine wpQuiet_nil ?_; rintro _ ⟨x_w2, rfl⟩; have hg_w2 := later_grow _ x_w2; generalize later _ x_w2 = w2 at hg_w2 ⊢)
          have hgr : Grow wr w2 := (by repeat (first | with_reducible exact Ext.refl _ _ | with_reducible refine Ext.trans ?_ (by assumption) | with_reducible refine Ext.drew ?_ | with_reducible refine Ext.drewN ?_ _ | with_reducible refine Ext.alloc ?_ _ | with_reducible refine Ext.setNew ?_ (by simp; done) _ | with_reducible refine Ext.setNew ?_ (by simp; omega) _))
          go_wp2_with fail
          go_roundw
          case rel => exact ⟨rfl, hg.trans hgr, HB.out.grow hgr, k + 1, by omega, by go_num, Lib.hid (by rw [Hr.out, Hs'.out])⟩
          case measure => simp [intOf]; omega
        · have hki : ¬ (0 : Int) < (k : Int) := by omega
          go_wp2_with fail
          (refine wp_region_later (by kernel_rfl) (by kernel_rfl) ?_; (repeat (first | go_big_quiet_step ((first | (go_at_call 131; exact later_call_same (v := .bool true) (by simpa only [Hn.out] using validName_same s.1[k].1 _ hsz)) | (go_at_call 43; exact later_call (v := .bool true) (by simpa only [Hv.out] using HVc.out _ (((Ext.refl nil _).alloc _).trans (later_grow _ _)))) | (go_at_call 71; exact later_call_same (v := .bool true) (by simpa only [Hi.out] using inRange_ok s.1[k].2.1 1 s.2 _)))) | quiet_step ((first | (go_at_call 131; exact later_call_same (v := .bool true) (by simpa only [Hn.out] using validName_same s.1[k].1 _ hsz)) | (go_at_call 43; exact later_call (v := .bool true) (by simpa only [Hv.out] using HVc.out _ (((Ext.refl nil _).alloc _).trans (later_grow _ _)))) | (go_at_call 71; exact later_call_same (v := .bool true) (by simpa only [Hi.out] using inRange_ok s.1[k].2.1 1 s.2 _)))))); refine wpQuiet_nil ?_; rintro _ ⟨x_w2, rfl⟩; have hg_w2 := later_grow _ x_w2; generalize later _ x_w2 = w2 at hg_w2 ⊢)
          have hgr : Grow wr w2 := (by repeat (first | with_reducible exact Ext.refl _ _ | with_reducible refine Ext.trans ?_ (by assumption) | with_reducible refine Ext.drew ?_ | with_reducible refine Ext.drewN ?_ _ | with_reducible refine Ext.alloc ?_ _ | with_reducible refine Ext.setNew ?_ (by simp; done) _ | with_reducible refine Ext.setNew ?_ (by simp; omega) _))
          go_wp2_with fail
          go_roundw
          case rel => exact ⟨rfl, hg.trans hgr, HB.out.grow hgr, k + 1, by omega, by go_num, Lib.hid (by rw [Hr.out, Hs'.out])⟩
          case measure => simp [intOf]; omega
    · have He := Lib.hid (itmsAt_end s.2 s.1 k hlt)
      by_cases hl : s.1.length ≤ 10
      · have Hf : Hid (storeB s = inR s.2 0 999) := Lib.hid (by rw [Hb.out, Hr.out, He.out]; simp [hl])
        go_wp2_with (go_at_call 71; refine (inRange_ok _ _ _ _).mono ?_; rintro e w' ⟨rfl, rfl⟩)
        go_ret
        exact ⟨by simp [Hf.out], hg⟩
      · have Hf : Hid (storeB s = false) := Lib.hid (by rw [Hb.out]; simp [hl])
        go_wp2_with fail
        go_ret
        exact ⟨by simp [Hf.out], hg⟩
end Go.Proofs.Ytiobnaielfeeaaa
namespace Go.Proofs.Ytiobnaielfeeaaa
open Go.RowKit
end Go.Proofs.Ytiobnaielfeeaaa
namespace Go.Proofs.Ytiobnaielfeeaaa
open Go.RowKit
end Go.Proofs.Ytiobnaielfeeaaa
-- EV: store
namespace Go.Proofs.Ytiobnaielfeeaaa.Eng
open Go Go.RowKit
theorem itmRep_shutE {w : World} {S : Nat → Prop} {x : Itm} {na : Option Addr} {nc : Nat} {ka : Option Addr} {kc : Nat} (h1 : x.1.size ≤ big) (h2 : NodeC w S x.2.2 na nc ka kc) : itmRep.R w S x (itmL x na nc ka kc) :=
  ⟨[.string x.1], _, rfl, ⟨rfl, h1⟩, [.int .i64 x.2.1], _, rfl, rfl, na, nc, ka, kc, rfl, h2⟩
theorem items_of_rep {w : World} {ρ : Cx} {t : VC} {l : List Itm} {v : Value} (h : Rep w ρ (.view t 7 (l.map itemL)) v) : ∃ a c, v = .slice a l.length c ∧ SlR itmRep w any a c l := by
  obtain ⟨a, c, rfl, _, h3, h4, h5, h6⟩ := rep_view.1 h
  simp only [List.length_map] at *
  refine ⟨a, c, rfl, h3, h4, ?_⟩
  rcases h6 with h6 | ⟨b, o, ha, _, he⟩
  · exact .inl (List.map_eq_nil_iff.1 h6)
  · refine .inr ⟨b, o, ha, trivial, fun i hi => ?_⟩
    have e := he.get h5 (i := i) (e := itemL l[i]) (by rw [List.getElem?_map, List.getElem?_eq_getElem hi]; rfl)
    rw [itemL_eq] at e
    generalize l[i] = x at *
    obtain ⟨v0, p0, _, q0⟩ := e.get (i := 0) rfl
    obtain ⟨v1, p1, _, q1⟩ := e.get (i := 1) rfl
    obtain ⟨v2, p2, _, q2⟩ := e.get (i := 2) rfl
    obtain ⟨v3, p3, _, q3⟩ := e.get (i := 3) rfl
    obtain ⟨v4, p4, _, q4⟩ := e.get (i := 4) rfl
    obtain ⟨v5, p5, _, q5⟩ := e.get (i := 5) rfl
    obtain ⟨v6, p6, _, q6⟩ := e.get (i := 6) rfl
    rw [rep_str] at q0
    rw [rep_int] at q1 q2 q3
    have q4' := q4
    rw [rep_str] at q4'
    obtain ⟨na, nc, r5, _⟩ := rep_view.1 q5
    obtain ⟨ka, kc, r6, _⟩ := rep_view.1 q6
    rw [strsE_len] at r5
    rw [List.length_map] at r6
    obtain ⟨rfl, hsz⟩ := q0
    obtain ⟨rfl, _⟩ := q4'
    subst q1 q2 q3 r5 r6
    refine ⟨_, ?_, itmRep_shutE hsz (nodeC_of_rep _ ρ na nc ka kc q4 q5 q6)⟩
    intro j u hj
    rw [show itmRep.n = 7 from rfl]
    unfold itmL at hj
    rcases j with _ | _ | _ | _ | _ | _ | _ | j
    · cases hj; exact p0
    · cases hj; exact p1
    · cases hj; exact p2
    · cases hj; exact p3
    · cases hj; exact p4
    · cases hj; exact p5
    · cases hj; exact p6
    · simp at hj
theorem store_of_rep {w : World} {ρ : Cx} {t : VC} {s : Sto} {v : Value} (h : Rep w ρ (storeT t s) v) : RV stoRep packA w any s v := by
  obtain ⟨vs, rfl, _, h2⟩ := rep_agg.1 h
  obtain ⟨v0, v1, rfl, q0, q1⟩ := repL2_inv h2
  rw [rep_int] at q1
  subst q1
  obtain ⟨a, c, rfl, hs⟩ := items_of_rep q0
  exact sto_shut hs
theorem validStore_AC (s : Sto) (t : VC) : AC Try.prog 117 [storeT t s] 0 (fun r => r = .bool (storeB s)) := by
  refine AC.ofGrow (enters_of Try.func117 (by kernel_rfl) (by kernel_rfl)) (fun w L S rb vs h => ?_)
  obtain ⟨v, rfl, h1⟩ := repL1_inv h
  refine (validStore_ok s v w (store_of_rep h1)).mono ?_
  rintro e w' ⟨rfl, hg⟩
  exact ⟨_, _, rfl, hg, rep_bool.2 rfl, rfl⟩
theorem validName_AC (x : ByteArray) : AC Try.prog 131 [.str x] 0 (fun r => r = .bool (nameB x)) := by
  refine AC.ofGrow (enters_of Try.func131 (by kernel_rfl) (by kernel_rfl)) (fun w L S rb vs h => ?_)
  obtain ⟨v, rfl, h1⟩ := repL1_inv h
  obtain ⟨rfl, hs⟩ := rep_str.1 h1
  refine (validName_same x w hs).mono ?_
  rintro e w' ⟨rfl, rfl⟩
  exact ⟨_, _, rfl, Ext.refl _ _, rep_bool.2 rfl, rfl⟩
end Go.Proofs.Ytiobnaielfeeaaa.Eng
-- EV: store skip
namespace Go.Proofs.Ytiobnaielfeeaaa.Eng
open Go Go.RowKit
attribute [local simp] big size_mk ASt.pay Option.map_map Function.comp_def awant aop acall ado aev ofVal ofVal0 ASt.put ASt.add ASt.turn ASt.kill abox aalloc astore aload aloadD astoreD idOf ASt.at cellsTo afieldAddr afield aindexAddr aindex alen abin aint acmp astr aun apick aextract anil aslice abound abuild afill abuildSlice asCells aps avCells over upd aappend asrc amax amin aconv mkSt slots rowsOf_cons rowsOf_nil usedOf_cons usedOf_nil ZK.av List.replicate ASt.back ASt.addL ASt.killL nodeA nodeT nodeTL_eq nodeL_eq strsE_get strsE_len intsE_get intsE_len strsE_at intsE_at itemA itemL_eq storeA storeT storeO itemsRow tab2 tab3 tab4 tab5 tab6 tab7 tab8 tab9 tab10 tab11 tab12 tab13 tab14 tab15 tab16 tab17 tab18 tab19 tab21 tab22 tab23 tab24 tab25 tab26 tab27 tab28 tab29 tab30 tab48 tab51 tab52 tab59 tab77 tab78 tab79 tab91 tab95 tab96 tab97 tab109 tab116 tab132 tab133 tab138 tab139 tab144 tab145 tab146 tab148 tab149 tab150
def entE (x : Nd × ByteArray) : List AV := [.int .i64 x.1.kind, .int .i64 x.1.num, .str x.1.text, .view .loose 1 (strsE x.1.names), .view .loose 5 (x.1.kids.map nodeL), .str x.2]
def entsR (l : List (Nd × ByteArray)) : Row := ⟨false, 52, 6, l.map entE⟩
theorem entE_pur (x : Nd × ByteArray) : ∀ c ∈ entE x, Pur c := by
  intro c hc
  unfold entE at hc
  simp only [List.mem_cons, List.not_mem_nil, or_false] at hc
  rcases hc with rfl | rfl | rfl | rfl | rfl | rfl
  · exact pur_int
  · exact pur_int
  · exact pur_str
  · exact strs_pur _ (by decide)
  · exact nodes_pur _ (by decide)
  · exact pur_str
theorem entsE_pur (l : List (Nd × ByteArray)) : ∀ e ∈ l.map entE, ∀ c ∈ e, Pur c := fun e he c hc => by
  obtain ⟨x, _, rfl⟩ := List.mem_map.1 he
  exact entE_pur x c hc
theorem entE_in {U : Nat → Bool} (x : Nd × ByteArray) : ∀ c ∈ entE x, AV.In U c := by
  intro c hc
  unfold entE at hc
  simp only [List.mem_cons, List.not_mem_nil, or_false] at hc
  rcases hc with rfl | rfl | rfl | rfl | rfl | rfl
  · exact in_int
  · exact in_int
  · exact in_str
  · exact strs_in _
  · exact nodes_in _
  · exact in_str
theorem entsE_in {U : Nat → Bool} (l : List (Nd × ByteArray)) : ∀ e ∈ l.map entE, ∀ c ∈ e, AV.In U c := fun e he c hc => by
  obtain ⟨x, _, rfl⟩ := List.mem_map.1 he
  exact entE_in x c hc
theorem entries_ACR (s : Sto) (p : List ByteArray) (t : VC) (hs : ∀ x ∈ s.1, Shp x.2.2) (hl : s.1.length ≤ 1000) (hp : p.length ≤ 1000) : ACR Try.prog 119 [storeA s, .view t 1 (strsE p)] 0 (fun _ => False) (fun f R => ∃ l : List (Nd × ByteArray), l.length ≤ 1000 ∧ (∀ x ∈ l, Shp x.1) ∧ f = (fun id => .own id l.length) ∧ R = entsR l) := by
  unfold storeA storeT
  refine ACR.of tab_ok mixed_ok Try.func119 (by rfl) (by kernel_rfl) ?_; rintro ⟨P, T, hT, hm, w0, S0, rd0, k0⟩ hP hTT; dsimp only at hP hTT; subst hP hTT; unfold initSt; rw [Try.ntmps119]
  (repeat (first | with_reducible refine AW.seq ?_ | ((first | refine arun_kn 4 rfl (fun C hC => ?_) | refine arunD_kn 4 rfl (fun C hC => ?_)); (repeat ((conv => whnf); simp)); refine hC _ ?_; clear hC C; simp only [List.drop, Nat.reduceAdd]) | ((first | refine arun_kn 1 rfl (fun C hC => ?_) | refine arunD_kn 1 rfl (fun C hC => ?_)); (repeat ((conv => whnf); simp)); refine hC _ ?_; clear hC C; simp only [List.drop, Nat.reduceAdd]) | (refine arun_skip ?_ ?_; (focus (simp [awant]; done))) | (refine arunD_skip ?_ ?_; (focus (simp [awant]; done))) | (refine AW.regionK [] (fun K hK => ?_)) | (refine AW.regionDK [] (pcs [] []) (by kernel_rfl) (by kernel_rfl) (fun K hK => ?_)) | (refine AW.condT ?_ ?_; (focus (simp [aev]; done))) | (refine AW.condF ?_ ?_; (focus (simp [aev]; done))) | with_reducible refine AW.block ?_ | ((first | ((first | refine arun_nil ?_ | refine arunD_nil ?_); refine hK _ ?_; clear hK K) | refine AW.skip ?_ | refine AW.exit ?_ | refine AW.ret ?_); simp only [thenA_exit, inBlockA_exit, if_true, if_false, Nat.reduceEqDiff, thenA_normal, inBlockA_normal, reduceIte, thenA_ret, inBlockA_ret, endQ_ret, endR_ret, endG_ret, endQ_normal, endR_normal, endG_normal])))
  refine AW.adopt 5 5 52 6 ⟨_, tab52, rfl⟩ rfl (by simp [upd]) ?_
  simp only [ASt.adopt, ASt.add]
  refine AW.loopS (fun (x : List (Nd × ByteArray) × Nat) => mkSt (slots 0 83 [(1, .view t 1 (strsE p)), (2, .ptr true 2 1 2 0 0), (5, .own 5 x.1.length), (6, .int .i64 x.2)]) [(2, ⟨true, 97, 2, [[.view .loose 7 (s.1.map itemL), .int .i64 s.2]]⟩), (5, entsR x.1)] [2, 5] (rd0.map fun _ => 0)) (fun x => s.1.length - x.2) (fun x => x.2 ≤ s.1.length ∧ x.1.length ≤ x.2 ∧ ∀ y ∈ x.1, Shp y.1) ([], 0) ?_ ⟨Nat.zero_le _, Nat.le_refl _, fun y hy => by cases hy⟩ ?_
  · dsimp only [List.length_nil, List.map_nil, entsR]
    exact less_s
  rintro ⟨l, i⟩ ⟨h1, h2, h3⟩
  dsimp only at h1 h2 h3 ⊢
  unfold entsR
  by_cases hlt : i < s.1.length
  rotate_left
  · (repeat (first | with_reducible refine AW.seq ?_ | ((first | refine arun_kn 4 rfl (fun C hC => ?_) | refine arunD_kn 4 rfl (fun C hC => ?_)); (repeat ((conv => whnf); simp [hlt, List.length_map])); refine hC _ ?_; clear hC C; simp only [List.drop, Nat.reduceAdd]) | ((first | refine arun_kn 1 rfl (fun C hC => ?_) | refine arunD_kn 1 rfl (fun C hC => ?_)); (repeat ((conv => whnf); simp [hlt, List.length_map])); refine hC _ ?_; clear hC C; simp only [List.drop, Nat.reduceAdd]) | (refine arun_skip ?_ ?_; (focus (simp [awant, hlt, List.length_map]; done))) | (refine arunD_skip ?_ ?_; (focus (simp [awant, hlt, List.length_map]; done))) | (refine AW.regionK [] (fun K hK => ?_)) | (refine AW.regionDK [] (pcs [] []) (by kernel_rfl) (by kernel_rfl) (fun K hK => ?_)) | (refine AW.condT ?_ ?_; (focus (simp [aev, hlt, List.length_map]; done))) | (refine AW.condF ?_ ?_; (focus (simp [aev, hlt, List.length_map]; done))) | with_reducible refine AW.block ?_ | ((first | ((first | refine arun_nil ?_ | refine arunD_nil ?_); refine hK _ ?_; clear hK K) | refine AW.skip ?_ | refine AW.exit ?_ | refine AW.ret ?_); simp only [thenA_exit, inBlockA_exit, if_true, if_false, Nat.reduceEqDiff, thenA_normal, inBlockA_normal, reduceIte, thenA_ret, inBlockA_ret, endQ_ret, endR_ret, endG_ret, endQ_normal, endR_normal, endG_normal])))
    exact ⟨.own 5 l.length, by simp [ares, aresL], .inr ⟨fun id => .own id l.length, 5, entsR l, rfl, by simp [upd, rowsOf_cons, entsR], Res1.own _ _, entsE_pur _, l, by omega, h3, rfl, rfl⟩⟩
  have hw : IntKind.i64.wrap ((i : Int) + 1) = (i : Int) + 1 := i64_nat (by omega) (by omega)
  have hsx := hs _ (List.getElem_mem hlt)
  have pa := at_AC t s.1[i].2.2 p hsx hp
  rw [optA_eq] at pa
  unfold nodeA at pa
  rw [nodeL_eq] at pa
  cases hg : getS s.1[i].2.2 p with
  | none =>
    rw [hg] at pa
    (repeat (first | with_reducible refine AW.seq ?_ | ((first | refine arun_kn 4 rfl (fun C hC => ?_) | refine arunD_kn 4 rfl (fun C hC => ?_)); (repeat ((conv => whnf); simp [hlt, hw, List.length_map, optL])); refine hC _ ?_; clear hC C; simp only [List.drop, Nat.reduceAdd]) | ((first | refine arun_kn 1 rfl (fun C hC => ?_) | refine arunD_kn 1 rfl (fun C hC => ?_)); (repeat ((conv => whnf); simp [hlt, hw, List.length_map, optL])); refine hC _ ?_; clear hC C; simp only [List.drop, Nat.reduceAdd]) | (refine arun_skip ?_ ?_; (focus (simp [awant, hlt, hw, List.length_map, optL]; done))) | (refine arun_c0 (pa) ?_; rintro _ rfl) | (refine arunD_skip ?_ ?_; (focus (simp [awant, hlt, hw, List.length_map, optL]; done))) | (refine AW.regionK [] (fun K hK => ?_)) | (refine AW.regionDK [] (pcs [] []) (by kernel_rfl) (by kernel_rfl) (fun K hK => ?_)) | (refine AW.condT ?_ ?_; (focus (simp [aev, hlt, hw, List.length_map, optL]; done))) | (refine AW.condF ?_ ?_; (focus (simp [aev, hlt, hw, List.length_map, optL]; done))) | with_reducible refine AW.block ?_ | ((first | ((first | refine arun_nil ?_ | refine arunD_nil ?_); refine hK _ ?_; clear hK K) | refine AW.skip ?_ | refine AW.exit ?_ | refine AW.ret ?_); simp only [thenA_exit, inBlockA_exit, if_true, if_false, Nat.reduceEqDiff, thenA_normal, inBlockA_normal, reduceIte, thenA_ret, inBlockA_ret, endQ_ret, endR_ret, endG_ret, endQ_normal, endR_normal, endG_normal])))
    have hin : ∀ U : Nat → Bool, ∀ e ∈ l.map entE, ∀ c ∈ e, AV.In U c := fun U => entsE_in l
    exact ⟨(l, i + 1), by dsimp only; omega, ⟨by dsimp only; omega, by dsimp only; omega, h3⟩, (less_of (by simp [lessL, mkSt, slots, entsR, itemA, itemL_eq, storeA, storeT, storeO, itemsRow]) (by simp [upd, mkSt, rowsOf_cons, entsR, itemA, itemL_eq, storeA, storeT, storeO, itemsRow]) (by simp [upd, mkSt, usedOf_cons, entsR, itemA, itemL_eq, storeA, storeT, storeO, itemsRow]) (by first | exact rd_less (by omega) | simp [mkSt, entsR, itemA, itemL_eq, storeA, storeT, storeO, itemsRow]) (by simp [slots, in_any, in_int, in_bool, in_str, in_ptr, in_own, in_agg, in_vnil, in_rdr, usedOf_cons, usedOf_nil, strs_in, ints_in, nodes_in, items_in, in_tup, entsR, itemA, itemL_eq, storeA, storeT, storeO, itemsRow]) (by simp only [List.forall_mem_cons, List.not_mem_nil, false_implies, implies_true, and_true, true_and, entsR, itemA, itemL_eq, storeA, storeT, storeO, itemsRow]; (repeat (first | with_reducible exact trivial | with_reducible refine And.intro ?_ ?_ | with_reducible exact in_int | with_reducible exact in_str | with_reducible exact in_bool | with_reducible exact strs_in _ | with_reducible exact nodes_in _ | with_reducible exact items_in _ | with_reducible exact in_vnil | with_reducible exact in_any | exact hin _ | with_reducible refine take_in ?_ | with_reducible exact strsE_in _ | with_reducible exact nodesE_in _ | with_reducible exact nodeL_in _ | with_reducible exact itemsE_in _ | with_reducible exact itemL_in _ | with_reducible refine app_in ?_ ?_ | with_reducible refine sing_in ?_ | (focus (simp [in_any, in_int, in_bool, in_str, in_ptr, in_own, in_agg, in_vnil, in_rdr, usedOf_cons, usedOf_nil, strs_in, ints_in, nodes_in, items_in, entsR, itemA, itemL_eq, storeA, storeT, storeO, itemsRow]; done)))); done))⟩
  | some m =>
    rw [hg] at pa
    have hm := getS_shp _ _ _ hsx hg
    have hb1 : (l.length + 1) * 96 ≤ 140737488355328 := by omega
    have hb2 : l.length + 1 ≤ 140737488355328 := by omega
    have hwl : IntKind.i64.wrap ((l.length : Int) + 1 - 1) = (l.length : Int) := by rw [Int.add_sub_cancel]; exact i64_nat (by omega) (by omega)
    have hwl' : IntKind.i64.wrap (l.length : Int) = (l.length : Int) := i64_nat (by omega) (by omega)
    (repeat (first | with_reducible refine AW.seq ?_ | ((first | refine arun_kn 4 rfl (fun C hC => ?_) | refine arunD_kn 4 rfl (fun C hC => ?_)); (repeat ((conv => whnf); simp [hlt, hw, List.length_map, hb1, hb2, hwl, hwl', optL])); refine hC _ ?_; clear hC C; simp only [List.drop, Nat.reduceAdd]) | ((first | refine arun_kn 1 rfl (fun C hC => ?_) | refine arunD_kn 1 rfl (fun C hC => ?_)); (repeat ((conv => whnf); simp [hlt, hw, List.length_map, hb1, hb2, hwl, hwl', optL])); refine hC _ ?_; clear hC C; simp only [List.drop, Nat.reduceAdd]) | (refine arun_skip ?_ ?_; (focus (simp [awant, hlt, hw, List.length_map, hb1, hb2, hwl, hwl', optL]; done))) | (refine arun_c0 (pa) ?_; rintro _ rfl) | (refine arunD_skip ?_ ?_; (focus (simp [awant, hlt, hw, List.length_map, hb1, hb2, hwl, hwl', optL]; done))) | (refine AW.regionK [] (fun K hK => ?_)) | (refine AW.regionDK [] (pcs [] []) (by kernel_rfl) (by kernel_rfl) (fun K hK => ?_)) | (refine AW.condT ?_ ?_; (focus (simp [aev, hlt, hw, List.length_map, hb1, hb2, hwl, hwl', optL]; done))) | (refine AW.condF ?_ ?_; (focus (simp [aev, hlt, hw, List.length_map, hb1, hb2, hwl, hwl', optL]; done))) | with_reducible refine AW.block ?_ | ((first | ((first | refine arun_nil ?_ | refine arunD_nil ?_); refine hK _ ?_; clear hK K) | refine AW.skip ?_ | refine AW.exit ?_ | refine AW.ret ?_); simp only [thenA_exit, inBlockA_exit, if_true, if_false, Nat.reduceEqDiff, thenA_normal, inBlockA_normal, reduceIte, thenA_ret, inBlockA_ret, endQ_ret, endR_ret, endG_ret, endQ_normal, endR_normal, endG_normal])))
    refine AW.loopS (fun (x : List (Nd × ByteArray) × Nat) => mkSt (slots 0 83 [(1, .view t 1 (strsE p)), (2, .ptr true 2 1 2 0 0), (5, .own 5 x.1.length), (6, .int .i64 i), (9, .int .i64 x.2)]) [(2, ⟨true, 97, 2, [[.view .loose 7 (s.1.map itemL), .int .i64 s.2]]⟩), (5, entsR x.1)] [2, 5] (rd0.map fun _ => 0)) (fun x => x.2) (fun x => x.2 < x.1.length ∧ x.1.length = l.length + 1 ∧ ∀ y ∈ x.1, Shp y.1) (l ++ [(m, s.1[i].1)], l.length) ?_ ⟨by simp, by simp, fun y hy => by
      rcases List.mem_append.1 hy with hy | hy
      · exact h3 y hy
      · rw [List.mem_singleton.1 hy]; exact hm⟩ ?_
    · dsimp only
      have e1 : (l ++ [(m, s.1[i].1)]).length = l.length + 1 := by simp
      have e2 : (l ++ [(m, s.1[i].1)]).map entE = l.map entE ++ [[.int .i64 m.kind, .int .i64 m.num, .str m.text, .view .loose 1 (strsE m.names), .view .loose 5 (m.kids.map nodeL), .str s.1[i].1]] := by simp [entE]
      have hin : ∀ U : Nat → Bool, ∀ e ∈ (l ++ [(m, s.1[i].1)]).map entE, ∀ c ∈ e, AV.In U c := fun U => entsE_in _
      rw [e2] at hin
      rw [e1]
      exact (less_of (by simp [lessL, mkSt, slots, entsR, e2, itemA, itemL_eq, storeA, storeT, storeO, itemsRow]) (by simp [upd, mkSt, rowsOf_cons, entsR, e2, itemA, itemL_eq, storeA, storeT, storeO, itemsRow]) (by simp [upd, mkSt, usedOf_cons, entsR, e2, itemA, itemL_eq, storeA, storeT, storeO, itemsRow]) (by first | exact rd_less (by omega) | simp [mkSt, entsR, e2, itemA, itemL_eq, storeA, storeT, storeO, itemsRow]) (by simp [slots, in_any, in_int, in_bool, in_str, in_ptr, in_own, in_agg, in_vnil, in_rdr, usedOf_cons, usedOf_nil, strs_in, ints_in, nodes_in, items_in, in_tup, entsR, e2, itemA, itemL_eq, storeA, storeT, storeO, itemsRow]) (by simp only [List.forall_mem_cons, List.not_mem_nil, false_implies, implies_true, and_true, true_and, entsR, e2, itemA, itemL_eq, storeA, storeT, storeO, itemsRow]; (repeat (first | with_reducible exact trivial | with_reducible refine And.intro ?_ ?_ | with_reducible exact in_int | with_reducible exact in_str | with_reducible exact in_bool | with_reducible exact strs_in _ | with_reducible exact nodes_in _ | with_reducible exact items_in _ | with_reducible exact in_vnil | with_reducible exact in_any | exact hin _ | with_reducible refine take_in ?_ | with_reducible exact strsE_in _ | with_reducible exact nodesE_in _ | with_reducible exact nodeL_in _ | with_reducible exact itemsE_in _ | with_reducible exact itemL_in _ | with_reducible refine app_in ?_ ?_ | with_reducible refine sing_in ?_ | (focus (simp [in_any, in_int, in_bool, in_str, in_ptr, in_own, in_agg, in_vnil, in_rdr, usedOf_cons, usedOf_nil, strs_in, ints_in, nodes_in, items_in, entsR, e2, itemA, itemL_eq, storeA, storeT, storeO, itemsRow]; done)))); done))
    rintro ⟨L, k⟩ ⟨g1, g2, g3⟩
    dsimp only at g1 g2 g3 ⊢
    unfold entsR
    have hin : ∀ U : Nat → Bool, ∀ e ∈ L.map entE, ∀ c ∈ e, AV.In U c := fun U => entsE_in L
    cases k with
    | zero =>
      (repeat (first | with_reducible refine AW.seq ?_ | ((first | refine arun_kn 4 rfl (fun C hC => ?_) | refine arunD_kn 4 rfl (fun C hC => ?_)); (repeat ((conv => whnf); simp [hw, List.length_map])); refine hC _ ?_; clear hC C; simp only [List.drop, Nat.reduceAdd]) | ((first | refine arun_kn 1 rfl (fun C hC => ?_) | refine arunD_kn 1 rfl (fun C hC => ?_)); (repeat ((conv => whnf); simp [hw, List.length_map])); refine hC _ ?_; clear hC C; simp only [List.drop, Nat.reduceAdd]) | (refine arun_skip ?_ ?_; (focus (simp [awant, hw, List.length_map]; done))) | (refine arunD_skip ?_ ?_; (focus (simp [awant, hw, List.length_map]; done))) | (refine AW.regionK [] (fun K hK => ?_)) | (refine AW.regionDK [] (pcs [] []) (by kernel_rfl) (by kernel_rfl) (fun K hK => ?_)) | (refine AW.condT ?_ ?_; (focus (simp [aev, hw, List.length_map]; done))) | (refine AW.condF ?_ ?_; (focus (simp [aev, hw, List.length_map]; done))) | with_reducible refine AW.block ?_ | ((first | ((first | refine arun_nil ?_ | refine arunD_nil ?_); refine hK _ ?_; clear hK K) | refine AW.skip ?_ | refine AW.exit ?_ | refine AW.ret ?_); simp only [thenA_exit, inBlockA_exit, if_true, if_false, Nat.reduceEqDiff, thenA_normal, inBlockA_normal, reduceIte, thenA_ret, inBlockA_ret, endQ_ret, endR_ret, endG_ret, endQ_normal, endR_normal, endG_normal])))
      exact ⟨(L, i + 1), by dsimp only; omega, ⟨by dsimp only; omega, by dsimp only; omega, g3⟩, (less_of (by simp [lessL, mkSt, slots, entsR, itemA, itemL_eq, storeA, storeT, storeO, itemsRow]) (by simp [upd, mkSt, rowsOf_cons, entsR, itemA, itemL_eq, storeA, storeT, storeO, itemsRow]) (by simp [upd, mkSt, usedOf_cons, entsR, itemA, itemL_eq, storeA, storeT, storeO, itemsRow]) (by first | exact rd_less (by omega) | simp [mkSt, entsR, itemA, itemL_eq, storeA, storeT, storeO, itemsRow]) (by simp [slots, in_any, in_int, in_bool, in_str, in_ptr, in_own, in_agg, in_vnil, in_rdr, usedOf_cons, usedOf_nil, strs_in, ints_in, nodes_in, items_in, in_tup, entsR, itemA, itemL_eq, storeA, storeT, storeO, itemsRow]) (by simp only [List.forall_mem_cons, List.not_mem_nil, false_implies, implies_true, and_true, true_and, entsR, itemA, itemL_eq, storeA, storeT, storeO, itemsRow]; (repeat (first | with_reducible exact trivial | with_reducible refine And.intro ?_ ?_ | with_reducible exact in_int | with_reducible exact in_str | with_reducible exact in_bool | with_reducible exact strs_in _ | with_reducible exact nodes_in _ | with_reducible exact items_in _ | with_reducible exact in_vnil | with_reducible exact in_any | exact hin _ | with_reducible refine take_in ?_ | with_reducible exact strsE_in _ | with_reducible exact nodesE_in _ | with_reducible exact nodeL_in _ | with_reducible exact itemsE_in _ | with_reducible exact itemL_in _ | with_reducible refine app_in ?_ ?_ | with_reducible refine sing_in ?_ | (focus (simp [in_any, in_int, in_bool, in_str, in_ptr, in_own, in_agg, in_vnil, in_rdr, usedOf_cons, usedOf_nil, strs_in, ints_in, nodes_in, items_in, entsR, itemA, itemL_eq, storeA, storeT, storeO, itemsRow]; done)))); done))⟩
    | succ k =>
      have hk1 : k < L.length := by omega
      have hpos : (0 : Int) < (k : Int) + 1 := by omega
      have hnn : (0 : Int) ≤ (k : Int) + 1 := by omega
      have hnn' : ¬ ((k : Int) + 1 < 0) := by omega
      have htn : ((k : Int) + 1).toNat = k + 1 := by omega
      have g1' : (k : Int) + 1 < (L.length : Int) := by omega
      have hwk' : IntKind.i64.wrap (k : Int) = (k : Int) := i64_nat (by omega) (by omega)
      have hwk : IntKind.i64.wrap ((k : Int) + 1 - 1) = (k : Int) := by rw [Int.add_sub_cancel]; exact i64_nat (by omega) (by omega)
      have pc := specCompare_AC L[k + 1].1 L[k].1 (g3 _ (List.getElem_mem g1)) (g3 _ (List.getElem_mem hk1))
      have x1 : (L.map entE)[k + 1]? = some [.int .i64 L[k + 1].1.kind, .int .i64 L[k + 1].1.num, .str L[k + 1].1.text, .view .loose 1 (strsE L[k + 1].1.names), .view .loose 5 (L[k + 1].1.kids.map nodeL), .str L[k + 1].2] := by rw [List.getElem?_map, List.getElem?_eq_getElem g1]; rfl
      have x2 : (L.map entE)[k]? = some [.int .i64 L[k].1.kind, .int .i64 L[k].1.num, .str L[k].1.text, .view .loose 1 (strsE L[k].1.names), .view .loose 5 (L[k].1.kids.map nodeL), .str L[k].2] := by rw [List.getElem?_map, List.getElem?_eq_getElem hk1]; rfl
      unfold nodeA at pc
      rw [nodeL_eq, nodeL_eq] at pc
      generalize hc : cmpN L[k + 1].1 L[k].1 = c at *
      (repeat (first | with_reducible refine AW.seq ?_ | ((first | refine arun_kn 4 rfl (fun C hC => ?_) | refine arunD_kn 4 rfl (fun C hC => ?_)); (repeat ((conv => whnf); simp [hw, List.length_map])); refine hC _ ?_; clear hC C; simp only [List.drop, Nat.reduceAdd]) | ((first | refine arun_kn 1 rfl (fun C hC => ?_) | refine arunD_kn 1 rfl (fun C hC => ?_)); (repeat ((conv => whnf); simp [hw, List.length_map])); refine hC _ ?_; clear hC C; simp only [List.drop, Nat.reduceAdd]) | (refine arun_skip ?_ ?_; (focus (simp [awant, hw, List.length_map]; done))) | (refine arunD_skip ?_ ?_; (focus (simp [awant, hw, List.length_map]; done))) | (refine AW.regionK [] (fun K hK => ?_)) | (refine AW.condT ?_ ?_; (focus (simp [aev, hw, List.length_map]; done))) | (refine AW.condF ?_ ?_; (focus (simp [aev, hw, List.length_map]; done))) | with_reducible refine AW.block ?_ | ((first | ((first | refine arun_nil ?_ | refine arunD_nil ?_); refine hK _ ?_; clear hK K) | refine AW.skip ?_ | refine AW.exit ?_ | refine AW.ret ?_); simp only [thenA_exit, inBlockA_exit, if_true, if_false, Nat.reduceEqDiff, thenA_normal, inBlockA_normal, reduceIte, thenA_ret, inBlockA_ret, endQ_ret, endR_ret, endG_ret, endQ_normal, endR_normal, endG_normal])))
      refine AW.regionDK [3000] (pcs [(14, 0, fun r => r = .int .i64 c)] []) (by kernel_rfl) (by kernel_rfl) (fun K hK => ?_)
      rcases Int.lt_or_le c 0 with h0 | h0
      · (repeat (first | with_reducible refine AW.seq ?_ | ((first | refine arun_kn 4 rfl (fun C hC => ?_) | refine arunD_kn 4 rfl (fun C hC => ?_)); (repeat ((conv => whnf); simp [hw, List.length_map, hpos, hwk, hwk', hnn, hnn', htn, g1', hk1, g1, x1, x2, entE, h0])); refine hC _ ?_; clear hC C; simp only [List.drop, Nat.reduceAdd]) | ((first | refine arun_kn 1 rfl (fun C hC => ?_) | refine arunD_kn 1 rfl (fun C hC => ?_)); (repeat ((conv => whnf); simp [hw, List.length_map, hpos, hwk, hwk', hnn, hnn', htn, g1', hk1, g1, x1, x2, entE, h0])); refine hC _ ?_; clear hC C; simp only [List.drop, Nat.reduceAdd]) | (refine arun_skip ?_ ?_; (focus (simp [awant, hw, List.length_map, hpos, hwk, hwk', hnn, hnn', htn, g1', hk1, g1, x1, x2, entE, h0]; done))) | (refine arun_c0 (pc) ?_; rintro _ rfl) | (refine arunD_skip ?_ ?_; (focus (simp [awant, hw, List.length_map, hpos, hwk, hwk', hnn, hnn', htn, g1', hk1, g1, x1, x2, entE, h0]; done))) | (refine arunD_cE (0) (pc) (by exact ⟨_, rfl, in_int⟩) ?_; rintro _ rfl; intro _) | (refine AW.regionK [] (fun K hK => ?_)) | (refine AW.regionDK [] (pcs [] []) (by kernel_rfl) (by kernel_rfl) (fun K hK => ?_)) | (refine AW.condT ?_ ?_; (focus (simp [aev, hw, List.length_map, hpos, hwk, hwk', hnn, hnn', htn, g1', hk1, g1, x1, x2, entE, h0]; done))) | (refine AW.condF ?_ ?_; (focus (simp [aev, hw, List.length_map, hpos, hwk, hwk', hnn, hnn', htn, g1', hk1, g1, x1, x2, entE, h0]; done))) | with_reducible refine AW.block ?_ | ((first | ((first | refine arun_nil ?_ | refine arunD_nil ?_); refine hK _ ?_; clear hK K) | refine AW.skip ?_ | refine AW.exit ?_ | refine AW.ret ?_); simp only [thenA_exit, inBlockA_exit, if_true, if_false, Nat.reduceEqDiff, thenA_normal, inBlockA_normal, reduceIte, thenA_ret, inBlockA_ret, endQ_ret, endR_ret, endG_ret, endQ_normal, endR_normal, endG_normal])))
        have hsw : ((L.map entE).set (k + 1) [.int .i64 L[k].1.kind, .int .i64 L[k].1.num, .str L[k].1.text, .view .loose 1 (strsE L[k].1.names), .view .loose 5 (L[k].1.kids.map nodeL), .str L[k].2]).set k [.int .i64 L[k + 1].1.kind, .int .i64 L[k + 1].1.num, .str L[k + 1].1.text, .view .loose 1 (strsE L[k + 1].1.names), .view .loose 5 (L[k + 1].1.kids.map nodeL), .str L[k + 1].2] = ((L.set (k + 1) L[k]).set k L[k + 1]).map entE := by
          rw [List.map_set, List.map_set]; rfl
        have hsl : ((L.set (k + 1) L[k]).set k L[k + 1]).length = L.length := by rw [List.length_set, List.length_set]
        have hsm : ∀ y ∈ (L.set (k + 1) L[k]).set k L[k + 1], Shp y.1 := fun y hy => by
          rcases List.mem_or_eq_of_mem_set hy with hy | rfl
          · rcases List.mem_or_eq_of_mem_set hy with hy | rfl
            · exact g3 y hy
            · exact g3 _ (List.getElem_mem hk1)
          · exact g3 _ (List.getElem_mem g1)
        refine ⟨((L.set (k + 1) L[k]).set k L[k + 1], k), by dsimp only; omega, ⟨by dsimp only; rw [hsl]; omega, by dsimp only; rw [hsl]; exact g2, hsm⟩, ?_⟩
        dsimp only
        rw [hsl, ← hsw]
        have hin : ∀ U : Nat → Bool, ∀ e ∈ ((L.map entE).set (k + 1) [.int .i64 L[k].1.kind, .int .i64 L[k].1.num, .str L[k].1.text, .view .loose 1 (strsE L[k].1.names), .view .loose 5 (L[k].1.kids.map nodeL), .str L[k].2]).set k [.int .i64 L[k + 1].1.kind, .int .i64 L[k + 1].1.num, .str L[k + 1].1.text, .view .loose 1 (strsE L[k + 1].1.names), .view .loose 5 (L[k + 1].1.kids.map nodeL), .str L[k + 1].2], ∀ c ∈ e, AV.In U c := fun U => by rw [hsw]; exact entsE_in _
        exact (less_of (by simp [lessL, mkSt, slots, itemA, itemL_eq, storeA, storeT, storeO, itemsRow]) (by simp [upd, mkSt, rowsOf_cons, itemA, itemL_eq, storeA, storeT, storeO, itemsRow]) (by simp [upd, mkSt, usedOf_cons, itemA, itemL_eq, storeA, storeT, storeO, itemsRow]) (by first | exact rd_less (by omega) | simp [mkSt, itemA, itemL_eq, storeA, storeT, storeO, itemsRow]) (by simp [slots, in_any, in_int, in_bool, in_str, in_ptr, in_own, in_agg, in_vnil, in_rdr, usedOf_cons, usedOf_nil, strs_in, ints_in, nodes_in, items_in, in_tup, itemA, itemL_eq, storeA, storeT, storeO, itemsRow]) (by simp only [List.forall_mem_cons, List.not_mem_nil, false_implies, implies_true, and_true, true_and, itemA, itemL_eq, storeA, storeT, storeO, itemsRow]; (repeat (first | with_reducible exact trivial | with_reducible refine And.intro ?_ ?_ | with_reducible exact in_int | with_reducible exact in_str | with_reducible exact in_bool | with_reducible exact strs_in _ | with_reducible exact nodes_in _ | with_reducible exact items_in _ | with_reducible exact in_vnil | with_reducible exact in_any | exact hin _ | with_reducible refine take_in ?_ | with_reducible exact strsE_in _ | with_reducible exact nodesE_in _ | with_reducible exact nodeL_in _ | with_reducible exact itemsE_in _ | with_reducible exact itemL_in _ | with_reducible refine app_in ?_ ?_ | with_reducible refine sing_in ?_ | (focus (simp [in_any, in_int, in_bool, in_str, in_ptr, in_own, in_agg, in_vnil, in_rdr, usedOf_cons, usedOf_nil, strs_in, ints_in, nodes_in, items_in, itemA, itemL_eq, storeA, storeT, storeO, itemsRow]; done)))); done))
      · have h0' : ¬ c < 0 := by omega
        (repeat (first | with_reducible refine AW.seq ?_ | ((first | refine arun_kn 4 rfl (fun C hC => ?_) | refine arunD_kn 4 rfl (fun C hC => ?_)); (repeat ((conv => whnf); simp [hw, List.length_map, hpos, hwk, hwk', hnn, hnn', htn, g1', hk1, g1, x1, x2, entE, h0'])); refine hC _ ?_; clear hC C; simp only [List.drop, Nat.reduceAdd]) | ((first | refine arun_kn 1 rfl (fun C hC => ?_) | refine arunD_kn 1 rfl (fun C hC => ?_)); (repeat ((conv => whnf); simp [hw, List.length_map, hpos, hwk, hwk', hnn, hnn', htn, g1', hk1, g1, x1, x2, entE, h0'])); refine hC _ ?_; clear hC C; simp only [List.drop, Nat.reduceAdd]) | (refine arun_skip ?_ ?_; (focus (simp [awant, hw, List.length_map, hpos, hwk, hwk', hnn, hnn', htn, g1', hk1, g1, x1, x2, entE, h0']; done))) | (refine arun_c0 (pc) ?_; rintro _ rfl) | (refine arunD_skip ?_ ?_; (focus (simp [awant, hw, List.length_map, hpos, hwk, hwk', hnn, hnn', htn, g1', hk1, g1, x1, x2, entE, h0']; done))) | (refine arunD_cE (0) (pc) (by exact ⟨_, rfl, in_int⟩) ?_; rintro _ rfl; intro _) | (refine AW.regionK [] (fun K hK => ?_)) | (refine AW.regionDK [] (pcs [] []) (by kernel_rfl) (by kernel_rfl) (fun K hK => ?_)) | (refine AW.condT ?_ ?_; (focus (simp [aev, hw, List.length_map, hpos, hwk, hwk', hnn, hnn', htn, g1', hk1, g1, x1, x2, entE, h0']; done))) | (refine AW.condF ?_ ?_; (focus (simp [aev, hw, List.length_map, hpos, hwk, hwk', hnn, hnn', htn, g1', hk1, g1, x1, x2, entE, h0']; done))) | with_reducible refine AW.block ?_ | ((first | ((first | refine arun_nil ?_ | refine arunD_nil ?_); refine hK _ ?_; clear hK K) | refine AW.skip ?_ | refine AW.exit ?_ | refine AW.ret ?_); simp only [thenA_exit, inBlockA_exit, if_true, if_false, Nat.reduceEqDiff, thenA_normal, inBlockA_normal, reduceIte, thenA_ret, inBlockA_ret, endQ_ret, endR_ret, endG_ret, endQ_normal, endR_normal, endG_normal])))
        exact ⟨(L, i + 1), by dsimp only; omega, ⟨by dsimp only; omega, by dsimp only; omega, g3⟩, (less_of (by simp [lessL, mkSt, slots, entsR, itemA, itemL_eq, storeA, storeT, storeO, itemsRow]) (by simp [upd, mkSt, rowsOf_cons, entsR, itemA, itemL_eq, storeA, storeT, storeO, itemsRow]) (by simp [upd, mkSt, usedOf_cons, entsR, itemA, itemL_eq, storeA, storeT, storeO, itemsRow]) (by first | exact rd_less (by omega) | simp [mkSt, entsR, itemA, itemL_eq, storeA, storeT, storeO, itemsRow]) (by simp [slots, in_any, in_int, in_bool, in_str, in_ptr, in_own, in_agg, in_vnil, in_rdr, usedOf_cons, usedOf_nil, strs_in, ints_in, nodes_in, items_in, in_tup, entsR, itemA, itemL_eq, storeA, storeT, storeO, itemsRow]) (by simp only [List.forall_mem_cons, List.not_mem_nil, false_implies, implies_true, and_true, true_and, entsR, itemA, itemL_eq, storeA, storeT, storeO, itemsRow]; (repeat (first | with_reducible exact trivial | with_reducible refine And.intro ?_ ?_ | with_reducible exact in_int | with_reducible exact in_str | with_reducible exact in_bool | with_reducible exact strs_in _ | with_reducible exact nodes_in _ | with_reducible exact items_in _ | with_reducible exact in_vnil | with_reducible exact in_any | exact hin _ | with_reducible refine take_in ?_ | with_reducible exact strsE_in _ | with_reducible exact nodesE_in _ | with_reducible exact nodeL_in _ | with_reducible exact itemsE_in _ | with_reducible exact itemL_in _ | with_reducible refine app_in ?_ ?_ | with_reducible refine sing_in ?_ | (focus (simp [in_any, in_int, in_bool, in_str, in_ptr, in_own, in_agg, in_vnil, in_rdr, usedOf_cons, usedOf_nil, strs_in, ints_in, nodes_in, items_in, entsR, itemA, itemL_eq, storeA, storeT, storeO, itemsRow]; done)))); done))⟩
end Go.Proofs.Ytiobnaielfeeaaa.Eng
namespace Go.Proofs.Ytiobnaielfeeaaa.Eng
open Go Go.RowKit
attribute [local simp] big size_mk ASt.pay Option.map_map Function.comp_def awant aop acall ado aev ofVal ofVal0 ASt.put ASt.add ASt.turn ASt.kill abox aalloc astore aload aloadD astoreD idOf ASt.at cellsTo afieldAddr afield aindexAddr aindex alen abin aint acmp astr aun apick aextract anil aslice abound abuild afill abuildSlice asCells aps avCells over upd aappend asrc amax amin aconv mkSt slots rowsOf_cons rowsOf_nil usedOf_cons usedOf_nil ZK.av List.replicate ASt.back ASt.addL ASt.killL nodeA nodeT nodeTL_eq nodeL_eq strsE_get strsE_len intsE_get intsE_len strsE_at intsE_at tab2 tab3 tab4 tab5 tab6 tab7 tab8 tab9 tab10 tab11 tab12 tab13 tab14 tab15 tab16 tab17 tab18 tab19 tab21 tab22 tab23 tab24 tab25 tab26 tab27 tab28 tab29 tab30 tab48 tab51 tab52 tab59 tab77 tab78 tab79 tab91 tab95 tab96 tab97 tab109 tab116 tab132 tab133 tab138 tab139 tab144 tab145 tab146 tab148 tab149 tab150
def strsRow (p : List ByteArray) : Row := ⟨false, 9, 1, strsE p⟩
def rPath (r : AV) : Prop := ∃ p : List ByteArray, p.length ≤ 1000 ∧ r = .view .loose 1 (strsE p)
theorem rPath_ex : ∃ r, rPath r ∧ NoId r := ⟨_, ⟨[], by simp, rfl⟩, strs_in []⟩
theorem anyPath_ACR : ACR Try.prog 120 [.rdr] 10 (fun _ => False) (fun f R => ∃ p : List ByteArray, p.length ≤ 6 ∧ f = (fun id => .own id p.length) ∧ R = strsRow p) := by
  refine ACR.of tab_ok mixed_ok Try.func120 (by rfl) (by kernel_rfl) ?_; rintro ⟨P, T, hT, hm, w0, S0, rd0, k0⟩ hP hTT; dsimp only at hP hTT; subst hP hTT; unfold initSt; rw [Try.ntmps120]
  (repeat (first | with_reducible refine AW.seq ?_ | ((first | refine arun_kn 4 rfl (fun C hC => ?_) | refine arunD_kn 4 rfl (fun C hC => ?_)); (repeat ((conv => whnf); simp)); refine hC _ ?_; clear hC C; simp only [List.drop, Nat.reduceAdd]) | ((first | refine arun_kn 1 rfl (fun C hC => ?_) | refine arunD_kn 1 rfl (fun C hC => ?_)); (repeat ((conv => whnf); simp)); refine hC _ ?_; clear hC C; simp only [List.drop, Nat.reduceAdd]) | (refine arun_skip ?_ ?_; (focus (simp [awant]; done))) | (refine arun_cU (1) rfl (one_ACU _ _ (by rfl) (by simp) (by simp)) ?_; (rintro _ ⟨y, hy, rfl⟩)) | (refine AW.regionK [] (fun K hK => ?_)) | (refine AW.regionDK [] (pcs [] []) (by kernel_rfl) (by kernel_rfl) (fun K hK => ?_)) | (refine AW.condT ?_ ?_; (focus (simp [aev]; done))) | (refine AW.condF ?_ ?_; (focus (simp [aev]; done))) | with_reducible refine AW.block ?_ | ((first | ((first | refine arun_nil ?_ | refine arunD_nil ?_); refine hK _ ?_; clear hK K) | refine AW.skip ?_ | refine AW.exit ?_ | refine AW.ret ?_); simp only [thenA_exit, inBlockA_exit, if_true, if_false, Nat.reduceEqDiff, thenA_normal, inBlockA_normal, reduceIte, thenA_ret, inBlockA_ret, endQ_ret, endR_ret, endG_ret, endQ_normal, endR_normal, endG_normal])))
  have hy' : 0 ≤ y ∧ y ≤ 6 := by
    simp [intOf] at hy
    omega
  clear hy
  obtain ⟨c0, rfl⟩ := Int.eq_ofNat_of_zero_le hy'.1
  refine AW.adopt 3 3 9 1 ⟨_, tab9, rfl⟩ rfl (by simp [upd]) ?_
  simp only [ASt.adopt, ASt.add]
  refine AW.loopS (fun (x : List ByteArray × Nat × Nat) => mkSt (slots 0 33 [(0, .rdr), (3, .own 3 x.1.length), (4, .int .i64 x.2.1)]) [(3, strsRow x.1)] [3] (rd0.map fun _ => x.2.2)) (fun x => x.2.1) (fun x => x.1.length + x.2.1 ≤ 6 ∧ x.2.1 + 2 ≤ x.2.2) ([], c0, 9) ?_ ⟨by simp; omega, by dsimp only; omega⟩ ?_
  · dsimp only [List.length_nil]
    exact (less_of (by simp [lessL, mkSt, slots, strsRow, strsE]) (by simp [upd, mkSt, rowsOf_cons, strsRow, strsE]) (by simp [upd, mkSt, usedOf_cons, strsRow, strsE]) (by first | exact rd_less (by omega) | simp [mkSt, strsRow, strsE]) (by simp [slots, in_any, in_int, in_bool, in_str, in_ptr, in_own, in_agg, in_vnil, in_rdr, usedOf_cons, usedOf_nil, strs_in, ints_in, nodes_in, in_tup, strsRow, strsE]) (by simp only [List.forall_mem_cons, List.not_mem_nil, false_implies, implies_true, and_true, true_and, strsRow, strsE]; (repeat (first | with_reducible exact trivial | with_reducible refine And.intro ?_ ?_ | with_reducible exact in_int | with_reducible exact in_str | with_reducible exact in_bool | with_reducible exact strs_in _ | with_reducible exact nodes_in _ | with_reducible exact items_in _ | with_reducible exact in_vnil | with_reducible exact in_any | exact hin _ | with_reducible refine take_in ?_ | with_reducible exact strsE_in _ | with_reducible exact nodesE_in _ | with_reducible exact nodeL_in _ | with_reducible exact itemsE_in _ | with_reducible exact itemL_in _ | with_reducible refine app_in ?_ ?_ | with_reducible refine sing_in ?_ | (focus (simp [in_any, in_int, in_bool, in_str, in_ptr, in_own, in_agg, in_vnil, in_rdr, usedOf_cons, usedOf_nil, strs_in, ints_in, nodes_in, strsRow, strsE]; done)))); done))
  · rintro ⟨p, c, b⟩ ⟨h1, h2⟩
    dsimp only at h1 h2 ⊢
    by_cases hlt : 0 < c
    · have hlt' : (0 : Int) < (c : Int) := by omega
      have hw : IntKind.i64.wrap ((c : Int) - 1) = ((c - 1 : Nat) : Int) := by
        rw [i64_nat (by omega) (by omega)]; omega
      have hb1 : (p.length + 1) * 16 ≤ 140737488355328 := by omega
      have hb2 : p.length + 1 ≤ 140737488355328 := by omega
      (repeat (first | with_reducible refine AW.seq ?_ | ((first | refine arun_kn 4 rfl (fun C hC => ?_) | refine arunD_kn 4 rfl (fun C hC => ?_)); (repeat ((conv => whnf); simp [hlt', hlt, hw, hb1, hb2, strsRow, strsE_len])); refine hC _ ?_; clear hC C; simp only [List.drop, Nat.reduceAdd]) | ((first | refine arun_kn 1 rfl (fun C hC => ?_) | refine arunD_kn 1 rfl (fun C hC => ?_)); (repeat ((conv => whnf); simp [hlt', hlt, hw, hb1, hb2, strsRow, strsE_len])); refine hC _ ?_; clear hC C; simp only [List.drop, Nat.reduceAdd]) | (refine arun_skip ?_ ?_; (focus (simp [awant, hlt', hlt, hw, hb1, hb2, strsRow, strsE_len]; done))) | (refine arun_cU (1) rfl (of_ACU _ _ (by rfl) (by simp) (by simp)) ?_; (rintro _ ⟨x, -, rfl⟩)) | (refine AW.regionK [] (fun K hK => ?_)) | (refine AW.regionDK [] (pcs [] []) (by kernel_rfl) (by kernel_rfl) (fun K hK => ?_)) | (refine AW.condT ?_ ?_; (focus (simp [aev, hlt', hlt, hw, hb1, hb2, strsRow, strsE_len]; done))) | (refine AW.condF ?_ ?_; (focus (simp [aev, hlt', hlt, hw, hb1, hb2, strsRow, strsE_len]; done))) | with_reducible refine AW.block ?_ | ((first | ((first | refine arun_nil ?_ | refine arunD_nil ?_); refine hK _ ?_; clear hK K) | refine AW.skip ?_ | refine AW.exit ?_ | refine AW.ret ?_); simp only [thenA_exit, inBlockA_exit, if_true, if_false, Nat.reduceEqDiff, thenA_normal, inBlockA_normal, reduceIte, thenA_ret, inBlockA_ret, endQ_ret, endR_ret, endG_ret, endQ_normal, endR_normal, endG_normal])))
      refine ⟨(p ++ [x], c - 1, b - 1), by dsimp only; omega, ⟨by simp only [List.length_append, List.length_cons, List.length_nil]; omega, by dsimp only; omega⟩, ?_⟩
      have e1 : strsE (p ++ [x]) = strsE p ++ [[.str x]] := by simp [strsE]
      have hl : (p ++ [x]).length = p.length + 1 := by simp
      dsimp only
      rw [hl]
      exact (less_of (by simp [lessL, mkSt, slots, strsRow, e1, strsE_len]) (by simp [upd, mkSt, rowsOf_cons, strsRow, e1, strsE_len]) (by simp [upd, mkSt, usedOf_cons, strsRow, e1, strsE_len]) (by first | exact rd_less (by omega) | simp [mkSt, strsRow, e1, strsE_len]) (by simp [slots, in_any, in_int, in_bool, in_str, in_ptr, in_own, in_agg, in_vnil, in_rdr, usedOf_cons, usedOf_nil, strs_in, ints_in, nodes_in, in_tup, strsRow, e1, strsE_len]) (by simp only [List.forall_mem_cons, List.not_mem_nil, false_implies, implies_true, and_true, true_and, strsRow, e1, strsE_len]; (repeat (first | with_reducible exact trivial | with_reducible refine And.intro ?_ ?_ | with_reducible exact in_int | with_reducible exact in_str | with_reducible exact in_bool | with_reducible exact strs_in _ | with_reducible exact nodes_in _ | with_reducible exact items_in _ | with_reducible exact in_vnil | with_reducible exact in_any | exact hin _ | with_reducible refine take_in ?_ | with_reducible exact strsE_in _ | with_reducible exact nodesE_in _ | with_reducible exact nodeL_in _ | with_reducible exact itemsE_in _ | with_reducible exact itemL_in _ | with_reducible refine app_in ?_ ?_ | with_reducible refine sing_in ?_ | (focus (simp [in_any, in_int, in_bool, in_str, in_ptr, in_own, in_agg, in_vnil, in_rdr, usedOf_cons, usedOf_nil, strs_in, ints_in, nodes_in, strsRow, e1, strsE_len]; done)))); done))
    · have hlt' : ¬ (0 : Int) < (c : Int) := by omega
      cases p with
      | nil =>
        (repeat (first | with_reducible refine AW.seq ?_ | ((first | refine arun_kn 4 rfl (fun C hC => ?_) | refine arunD_kn 4 rfl (fun C hC => ?_)); (repeat ((conv => whnf); simp [hlt', hlt, strsRow, strsE_len])); refine hC _ ?_; clear hC C; simp only [List.drop, Nat.reduceAdd]) | ((first | refine arun_kn 1 rfl (fun C hC => ?_) | refine arunD_kn 1 rfl (fun C hC => ?_)); (repeat ((conv => whnf); simp [hlt', hlt, strsRow, strsE_len])); refine hC _ ?_; clear hC C; simp only [List.drop, Nat.reduceAdd]) | (refine arun_skip ?_ ?_; (focus (simp [awant, hlt', hlt, strsRow, strsE_len]; done))) | (refine AW.regionK [] (fun K hK => ?_)) | (refine AW.regionDK [] (pcs [] []) (by kernel_rfl) (by kernel_rfl) (fun K hK => ?_)) | (refine AW.condT ?_ ?_; (focus (simp [aev, hlt', hlt, strsRow, strsE_len]; done))) | (refine AW.condF ?_ ?_; (focus (simp [aev, hlt', hlt, strsRow, strsE_len]; done))) | with_reducible refine AW.block ?_ | ((first | ((first | refine arun_nil ?_ | refine arunD_nil ?_); refine hK _ ?_; clear hK K) | refine AW.skip ?_ | refine AW.exit ?_ | refine AW.ret ?_); simp only [thenA_exit, inBlockA_exit, if_true, if_false, Nat.reduceEqDiff, thenA_normal, inBlockA_normal, reduceIte, thenA_ret, inBlockA_ret, endQ_ret, endR_ret, endG_ret, endQ_normal, endR_normal, endG_normal])))
        exact ⟨.own 3 0, by simp [ares, aresL], .inr ⟨fun id => .own id 0, 3, strsRow [], rfl, by simp [upd, rowsOf_cons, strsRow], Res1.own _ _, strsE_pur _, [], by simp, rfl, rfl⟩⟩
      | cons q p =>
        have hl : 0 < p.length + 1 := by omega
        have hl' : (0 : Int) < (p.length : Int) + 1 := by omega
        have e1 : strsE (q :: p) = [.str q] :: strsE p := rfl
        simp only [List.length_cons] at h1
        (repeat (first | with_reducible refine AW.seq ?_ | ((first | refine arun_kn 4 rfl (fun C hC => ?_) | refine arunD_kn 4 rfl (fun C hC => ?_)); (repeat ((conv => whnf); simp [hlt', hlt, hl, hl', strsRow, strsE_len, e1])); refine hC _ ?_; clear hC C; simp only [List.drop, Nat.reduceAdd]) | ((first | refine arun_kn 1 rfl (fun C hC => ?_) | refine arunD_kn 1 rfl (fun C hC => ?_)); (repeat ((conv => whnf); simp [hlt', hlt, hl, hl', strsRow, strsE_len, e1])); refine hC _ ?_; clear hC C; simp only [List.drop, Nat.reduceAdd]) | (refine arun_skip ?_ ?_; (focus (simp [awant, hlt', hlt, hl, hl', strsRow, strsE_len, e1]; done))) | (refine arun_c (1) (pick_AC 20 (by omega) (by omega)) ?_; (rintro _ ⟨v, rfl, -⟩)) | (refine AW.regionK [] (fun K hK => ?_)) | (refine AW.regionDK [] (pcs [] []) (by kernel_rfl) (by kernel_rfl) (fun K hK => ?_)) | (refine AW.condT ?_ ?_; (focus (simp [aev, hlt', hlt, hl, hl', strsRow, strsE_len, e1]; done))) | (refine AW.condF ?_ ?_; (focus (simp [aev, hlt', hlt, hl, hl', strsRow, strsE_len, e1]; done))) | with_reducible refine AW.block ?_ | ((first | ((first | refine arun_nil ?_ | refine arunD_nil ?_); refine hK _ ?_; clear hK K) | refine AW.skip ?_ | refine AW.exit ?_ | refine AW.ret ?_); simp only [thenA_exit, inBlockA_exit, if_true, if_false, Nat.reduceEqDiff, thenA_normal, inBlockA_normal, reduceIte, thenA_ret, inBlockA_ret, endQ_ret, endR_ret, endG_ret, endQ_normal, endR_normal, endG_normal])))
        by_cases hv : v = 0
        · subst hv
          (repeat (first | with_reducible refine AW.seq ?_ | ((first | refine arun_kn 4 rfl (fun C hC => ?_) | refine arunD_kn 4 rfl (fun C hC => ?_)); (repeat ((conv => whnf); simp [hl, hl', strsE_len, e1])); refine hC _ ?_; clear hC C; simp only [List.drop, Nat.reduceAdd]) | ((first | refine arun_kn 1 rfl (fun C hC => ?_) | refine arunD_kn 1 rfl (fun C hC => ?_)); (repeat ((conv => whnf); simp [hl, hl', strsE_len, e1])); refine hC _ ?_; clear hC C; simp only [List.drop, Nat.reduceAdd]) | (refine arun_skip ?_ ?_; (focus (simp [awant, hl, hl', strsE_len, e1]; done))) | (refine arun_cU (1) rfl (of_ACU _ _ (by rfl) (by simp) (by simp)) ?_; (rintro _ ⟨x, -, rfl⟩)) | (refine AW.regionK [] (fun K hK => ?_)) | (refine AW.regionDK [] (pcs [] []) (by kernel_rfl) (by kernel_rfl) (fun K hK => ?_)) | (refine AW.condT ?_ ?_; (focus (simp [aev, hl, hl', strsE_len, e1]; done))) | (refine AW.condF ?_ ?_; (focus (simp [aev, hl, hl', strsE_len, e1]; done))) | with_reducible refine AW.block ?_ | ((first | ((first | refine arun_nil ?_ | refine arunD_nil ?_); refine hK _ ?_; clear hK K) | refine AW.skip ?_ | refine AW.exit ?_ | refine AW.ret ?_); simp only [thenA_exit, inBlockA_exit, if_true, if_false, Nat.reduceEqDiff, thenA_normal, inBlockA_normal, reduceIte, thenA_ret, inBlockA_ret, endQ_ret, endR_ret, endG_ret, endQ_normal, endR_normal, endG_normal])))
          exact ⟨.own 3 (p.length + 1), by simp [ares, aresL], .inr ⟨fun id => .own id (p.length + 1), 3, strsRow (x :: p), rfl, by simp [upd, rowsOf_cons, strsRow, strsE], Res1.own _ _, strsE_pur _, x :: p, by simp; omega, rfl, rfl⟩⟩
        · have hv' : (v == 0) = false := by simpa using hv
          (repeat (first | with_reducible refine AW.seq ?_ | ((first | refine arun_kn 4 rfl (fun C hC => ?_) | refine arunD_kn 4 rfl (fun C hC => ?_)); (repeat ((conv => whnf); simp [hl, hl', hv', strsE_len, e1])); refine hC _ ?_; clear hC C; simp only [List.drop, Nat.reduceAdd]) | ((first | refine arun_kn 1 rfl (fun C hC => ?_) | refine arunD_kn 1 rfl (fun C hC => ?_)); (repeat ((conv => whnf); simp [hl, hl', hv', strsE_len, e1])); refine hC _ ?_; clear hC C; simp only [List.drop, Nat.reduceAdd]) | (refine arun_skip ?_ ?_; (focus (simp [awant, hl, hl', hv', strsE_len, e1]; done))) | (refine AW.regionK [] (fun K hK => ?_)) | (refine AW.regionDK [] (pcs [] []) (by kernel_rfl) (by kernel_rfl) (fun K hK => ?_)) | (refine AW.condT ?_ ?_; (focus (simp [aev, hl, hl', hv', strsE_len, e1]; done))) | (refine AW.condF ?_ ?_; (focus (simp [aev, hl, hl', hv', strsE_len, e1]; done))) | with_reducible refine AW.block ?_ | ((first | ((first | refine arun_nil ?_ | refine arunD_nil ?_); refine hK _ ?_; clear hK K) | refine AW.skip ?_ | refine AW.exit ?_ | refine AW.ret ?_); simp only [thenA_exit, inBlockA_exit, if_true, if_false, Nat.reduceEqDiff, thenA_normal, inBlockA_normal, reduceIte, thenA_ret, inBlockA_ret, endQ_ret, endR_ret, endG_ret, endQ_normal, endR_normal, endG_normal])))
          exact ⟨.own 3 (p.length + 1), by simp [ares, aresL], .inr ⟨fun id => .own id (p.length + 1), 3, strsRow (q :: p), rfl, by simp [upd, rowsOf_cons, strsRow, strsE], Res1.own _ _, strsE_pur _, q :: p, by simp; omega, rfl, rfl⟩⟩
theorem strs_sub (p : List ByteArray) : AV.sub 0 (strsRow p).es.length (.view .loose (strsRow p).sz (strsRow p).es) (.own 0 p.length) = .view .loose 1 (strsE p) := by
  simp [AV.sub, strsRow, strsE_len]
theorem anyPath_AC : AC Try.prog 120 [.rdr] 10 rPath := by
  refine (AC.ofR anyPath_ACR ?_).mono ?_
  · rintro r R ⟨p, _, rfl, rfl⟩
    rw [strs_sub]; exact strs_in _
  · rintro r (h | ⟨f, R, ⟨p, hp, rfl, rfl⟩, rfl⟩)
    · exact h.elim
    · exact ⟨p, by omega, strs_sub p⟩
end Go.Proofs.Ytiobnaielfeeaaa.Eng
