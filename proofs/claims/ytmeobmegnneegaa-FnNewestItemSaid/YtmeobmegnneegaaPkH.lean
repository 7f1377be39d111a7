/-
  Texts of this claim, joined.
-/
import Derived.Laws.CopyOwn
import Derived.Deep.RegionHeld3
import Derived.Laws.CopyRow
import Derived.Laws.IdiomCopy
import Derived.Laws.AppendOwn
import Derived.Lib.AppendZerosOnto
import Derived.Lib.Overlaps
import Derived.Deep.RegionLaw
import Derived.Shelf.RegionOpenPlain
import Derived.Test.YtmeobmegnneegaaPkG

set_option linter.unusedSimpArgs false
set_option linter.unusedVariables false
set_option maxRecDepth 100000
set_option maxHeartbeats 16000000
namespace Go.Proofs.Ytmeobmegnneegaa
open Go.RowKit
theorem set_ext (w : World) (b o : Nat) (v : Value) : Ext (fun k => k = b) w (w.setCell ⟨b, o, none⟩ v) := Ext.setIn (X := fun k => k = b) (Ext.refl _ w) (p := ⟨b, o, none⟩) rfl v
theorem below_ext {g : Nat} {w w' : World} (h : Below g w w') (hl : w.heap.size = g + 1) : Ext (fun k => k = g) w w' :=
  ⟨h.os, h.tape, h.output, h.size, fun k hk hx => h.block k (by omega)⟩
theorem heap_at {w : World} {o : Obj} {g : Nat} (h : g = w.heap.size) : (w.alloc o).heap[g]? = some o := by subst h; exact heap_alloc_new w o
theorem wpList_copy_strs {P : Program} {w : World} {ops : Array Oper} {rest : List Oper} {o : Oper} {a : Act} {Q : Exit → Act → World → Prop} (hgd : o.guard = none) (d s : Operand) (dT sT : TypeId)
    (ho : o.op = .call { callee := .builtin .copy, args := #[d, s], argTypes := #[dT, sT] }) (elem : TypeId) (hu : P.underlying dT = some (.slice elem)) (hsz : (P.info? elem).map (·.size) = some 1)
    (names : List ByteArray) (S : Nat → Prop) (na : Option Addr) (nc g cap : Nat) (hd : a.eval d = .slice (some ⟨g, 0, none⟩) names.length cap) (hs : a.eval s = .slice na names.length nc)
    (cur : Array Value) (t : TypeId) (hg : w.heap[g]? = some (.cells cur t (0, 0))) (hcs : cur.size = names.length) (hgl : w.heap.size = g + 1) (hsrc : StrsR w S na nc names) (hne : 0 < names.length)
    (h : ∀ w', (∀ i (hi : i < names.length), w'.cell? ⟨g, i, none⟩ = some (.string names[i])) → (∀ o, w'.frozen? ⟨g, o, none⟩ = false) → g < w'.heap.size → Ext (fun k => k = g) w w' →
      wpList P ops Q rest (a.put o.dst (goInt names.length)) w') : wpList P ops Q (o :: rest) a w := by
  obtain ⟨_, _, _, h4⟩ := hsrc
  rcases h4 with rfl | ⟨b, oo, rfl, _, hc⟩
  · simp at hne
  have hmin : (names.map Value.string).length = Nat.min names.length names.length := by simp
  refine wpList_copy_splice hgd d s dT sT ho elem hu hsz (some ⟨g, 0, none⟩) (some ⟨b, oo, none⟩) names.length cap names.length nc hd hs g 0 cur.toList t (by simpa using hg) (names.map Value.string) hmin
    (fun _ => ⟨rfl, _, rfl, fun j v hj => ?_⟩) (by simp [hcs]) (by intro v hv; simp at hv; obtain ⟨x, _, rfl⟩ := hv; simp [Value.oneCell']) g w (Below.refl _ _) (Nat.le_refl _) ?_
  · rw [addr_add]
    simp only [List.getElem?_map, Option.map_eq_some_iff] at hj
    obtain ⟨x, hx, rfl⟩ := hj
    obtain ⟨hj', rfl⟩ := List.getElem?_eq_some_iff.1 hx
    exact hc j hj'
  · intro w' hw' hb
    have hw := hw'.out
    have he := below_ext hb hgl
    have hsp : splice cur.toList 0 (names.map Value.string) = names.map Value.string := by
      unfold splice
      simp [hcs]
    rw [hsp] at hw
    have hlen : (names.map Value.string).length = names.length := by simp
    have := h w' (fun i hi => ?_) (fun o => ?_) (Array.getElem?_eq_some_iff.1 hw).1 he
    · rw [hlen]; exact this
    · unfold World.cell?
      simp only [hw]
      simp [hi]
    · unfold World.frozen?
      simp [hw]
theorem st5_far {w : World} {b o b' q : Nat} {v0 v1 v2 v3 v4 : Value} (h : b' ≠ b) :
    (((((w.setCell ⟨b, o, none⟩ v0).setCell ⟨b, o + 1, none⟩ v1).setCell ⟨b, o + 2, none⟩ v2).setCell ⟨b, o + 3, none⟩ v3).setCell ⟨b, o + 4, none⟩ v4).cell? ⟨b', q, none⟩ = w.cell? ⟨b', q, none⟩ := by
  rw [World.cell?_setCell_other _ _ _ _ (by intro e; cases e; exact h rfl), World.cell?_setCell_other _ _ _ _ (by intro e; cases e; exact h rfl), World.cell?_setCell_other _ _ _ _ (by intro e; cases e; exact h rfl),
    World.cell?_setCell_other _ _ _ _ (by intro e; cases e; exact h rfl), World.cell?_setCell_other _ _ _ _ (by intro e; cases e; exact h rfl)]
theorem strs_st5 {wr w2 : World} {a : Option Addr} {c B R o : Nat} {xs : List ByteArray} {f1 : List Nat} (v0 v1 v2 v3 v4 : Value) (hF : StrsF wr a c xs f1) (h1 : Free B wr f1) (hg : Grow wr w2) (hR : ∀ y ∈ f1, y < R) :
    StrsF (store5 w2 R o v0 v1 v2 v3 v4) a c xs f1 ∧ Free B (store5 w2 R o v0 v1 v2 v3 v4) f1 := by
  have h2 := h1.ext hg (fun _ _ h => h)
  have he5 := store5_ext w2 R o v0 v1 v2 v3 v4
  have hx : ∀ b ∈ f1, ¬ b = R := fun b hb e => by have := hR b hb; omega
  have hF1 := hF.keep (hg.keeps h1 (fun _ _ h => h))
  exact ⟨hF1.keep (he5.keeps h2 hx), h2.ext he5 hx⟩
theorem box_st5 {wr w2 : World} {b R o : Nat} {cs : List Value} (v0 v1 v2 v3 v4 : Value) (h : BoxN wr b cs) (hg : Grow wr w2) (hb : b ≠ R) : BoxN (store5 w2 R o v0 v1 v2 v3 v4) b cs :=
  (h.grow hg).ext (store5_ext w2 R o v0 v1 v2 v3 v4) hb
def CpRel (w : World) (n : Nd) (ns : Value) (R : Nat) (f1 : List Nat) (i : Value) (wr : World) : Prop :=
  ∃ (k : Nat) (fp : List Nat), k ≤ n.kids.length ∧ i = .int .i64 k ∧ Grow w wr ∧ BoxN wr (w.heap.size + 1) [.int .i64 0, .int .i64 0, .string ⟨#[]⟩, .slice none 0 0, .slice none 0 0] ∧
    BoxN wr (w.heap.size + 1 + 1) [.int .i64 n.kind, .int .i64 n.num, .string n.text, ns, .slice (some ⟨R, 0, none⟩) n.kids.length n.kids.length] ∧
    (∃ na2 nc2, ns = .slice na2 n.names.length nc2 ∧ StrsF wr na2 nc2 n.names f1) ∧ Free (w.heap.size + 3) wr f1 ∧ (∀ y ∈ f1, y < R) ∧ RowIn wr R (n.kids.length * 5) ∧ KidsF wr R 0 (n.kids.take k) fp ∧ Free (R + 1) wr fp
theorem cpRel_next {w wr w2 : World} {n : Nd} {ns : Value} {R k : Nat} {f1 fp f' : List Nat} {na2 : Option Addr} {nc2 : Nat} {ka2 : Option Addr} {kc2 : Nat} (hlt : k < n.kids.length) (hRw : w.heap.size + 1 + 1 < R)
    (hg0 : Grow w wr) (hbr : BoxN wr (w.heap.size + 1) [.int .i64 0, .int .i64 0, .string ⟨#[]⟩, .slice none 0 0, .slice none 0 0])
    (hbl : BoxN wr (w.heap.size + 1 + 1) [.int .i64 n.kind, .int .i64 n.num, .string n.text, ns, .slice (some ⟨R, 0, none⟩) n.kids.length n.kids.length])
    (hst : ∃ na2 nc2, ns = .slice na2 n.names.length nc2 ∧ StrsF wr na2 nc2 n.names f1) (hf1 : Free (w.heap.size + 3) wr f1) (hl1 : ∀ y ∈ f1, y < R) (hrow : RowIn wr R (n.kids.length * 5))
    (hkf : KidsF wr R 0 (n.kids.take k) fp) (hfr : Free (R + 1) wr fp) (hg2 : Grow wr w2) (hN : NodeF w2 n.kids[k] na2 nc2 ka2 kc2 f') (hf' : Free wr.heap.size w2 f') :
    CpRel w n ns R f1 (.int .i64 ((k : Int) + 1)) (store5 w2 R (k * 5) (.int .i64 n.kids[k].kind) (.int .i64 n.kids[k].num) (.string n.kids[k].text) (.slice na2 n.kids[k].names.length nc2) (.slice ka2 n.kids[k].kids.length kc2)) := by
  have zr := hrow.1
  have hrow2 := hrow.ext hg2 (fun h => h)
  have hl : (n.kids.take k).length = k := by simp; omega
  have hbf : R ∉ fp := fun h => by have := (hfr.2 _ h).1; omega
  have hbf' : R ∉ f' := fun h => by have := (hf'.2 _ h).1; omega
  have hkf2 := hkf.keep (hg2.keeps hfr (fun _ _ h => h)) (fun o' _ ho => hg2.cell (p := ⟨R, o', none⟩) hrow.1 (fun h => h))
  have hlay := KidsF.lay hrow2 hkf2 hN (by rw [hl]; omega) hbf hbf'
  rw [hl] at hlay
  have hfr3 := Free.append hfr hf' hg2 (Nat.le_refl _) (by omega)
  have he5 := store5_ext w2 R (k * 5) (.int .i64 n.kids[k].kind) (.int .i64 n.kids[k].num) (.string n.kids[k].text) (.slice na2 n.kids[k].names.length nc2) (.slice ka2 n.kids[k].kids.length kc2)
  obtain ⟨a, c, hs, hF⟩ := hst
  obtain ⟨hF2, hf2⟩ := strs_st5 (o := k * 5) (.int .i64 n.kids[k].kind) (.int .i64 n.kids[k].num) (.string n.kids[k].text) (.slice na2 n.kids[k].names.length nc2) (.slice ka2 n.kids[k].kids.length kc2) hF hf1 hg2 hl1
  have hgw : Grow w (store5 w2 R (k * 5) (.int .i64 n.kids[k].kind) (.int .i64 n.kids[k].num) (.string n.kids[k].text) (.slice na2 n.kids[k].names.length nc2) (.slice ka2 n.kids[k].kids.length kc2)) := Grow.inner (hg0.trans hg2) he5 (by intro i hi; have : i = R := hi; omega)
  refine ⟨k + 1, fp ++ f', by omega, by go_num, hgw, box_st5 _ _ _ _ _ hbr hg2 (by omega), box_st5 _ _ _ _ _ hbl hg2 (by omega), ⟨a, c, hs, hF2⟩, hf2, hl1, store5_row hrow2 _ _ _ _ _ _, ?_, store5_free hfr3 _ _ _ _ _ _ _⟩
  rw [take_snoc' _ _ hlt]; exact hlay
def CopyIOk (n : Nd) : Prop := ∀ (v : Value) (w : World), Good n → NodeR w any n v →
  Calls Try.prog 81 #[v] w fun e w' => ∃ v' fp, e = .returned v' ∧ Grow w w' ∧ NodeO w' n v' fp ∧ Free w.heap.size w' fp
theorem copyI_none (n : Nd) (ih : ∀ k ∈ n.kids, CopyIOk k) (hn0 : ¬ 0 < n.names.length) (hk0 : ¬ 0 < n.kids.length) : CopyIOk n := by
  intro v w hg hn
  obtain ⟨na, nc, ka, kc, rfl, hc⟩ := hn
  obtain ⟨htx, hns, hks⟩ := hc.parts
  have l6 := hg.kids6
  have n6 : n.names.length ≤ 6 := by have := hg.len; omega
  have Htx := Lib.hid htx
  have Hns := Lib.hid hns
  have Hks := Lib.hid hks
  have Ih := Lib.hid ih
  have Hg := Lib.hid hg
  clear hc hns hks ih hg htx
  unfold nodeV
  have hmk := run_mk (P := Try.prog) 25 9 _ 1 16 Try.underlying25 info_string .i64 .i64 n.names.length (by omega) (by omega)
  have hmk2 := run_mk (P := Try.prog) 37 39 _ 5 80 Try.underlying37 info_Node .i64 .i64 n.kids.length (by omega) (by omega)
  have Hn0 : Hid (n.names = []) := Lib.hid (List.length_eq_zero_iff.1 (by omega))
  have Hnl : Hid (n.names.length = 0) := Lib.hid (by omega)
  go_enter Try.func81, Try.ntmps81
  go_wp2_with fail
  refine bodyPost_ret (v := nodeV n none 0 none 0) ?_ rfl ⟨_, [], rfl, (by repeat (first | with_reducible exact Ext.refl _ _ | with_reducible refine Ext.trans ?_ (by assumption) | with_reducible refine Ext.drew ?_ | with_reducible refine Ext.drewN ?_ _ | with_reducible refine Ext.alloc ?_ _ | with_reducible refine Ext.setNew ?_ (by simp; done) _ | with_reducible refine Ext.setNew ?_ (by simp; omega) _)), ⟨none, 0, none, 0, rfl, ?_⟩, Free.nil _ _⟩
  · simp [results, Try.results81, go_sem, nodeV, Hnl.out]; omega
  · exact NodeF.mk (f1 := []) (f2 := []) Htx.out ⟨by omega, by unfold big; omega, by rw [Hn0.out]; simp, .inl ⟨Hn0.out, rfl⟩⟩ ⟨by omega, by unfold big; omega, .inl ⟨List.length_eq_zero_iff.1 (by omega), rfl⟩⟩
theorem copyI_kids (n : Nd) (ih : ∀ k ∈ n.kids, CopyIOk k) (hn0 : ¬ 0 < n.names.length) (hk0 : 0 < n.kids.length) : CopyIOk n := by
  intro v w hg hn
  obtain ⟨na, nc, ka, kc, rfl, hc⟩ := hn
  obtain ⟨htx, hns, hks⟩ := hc.parts
  have l6 := hg.kids6
  have n6 : n.names.length ≤ 6 := by have := hg.len; omega
  have Htx := Lib.hid htx
  have Hns := Lib.hid hns
  have Hks := Lib.hid hks
  have Ih := Lib.hid ih
  have Hg := Lib.hid hg
  clear hc hns hks ih hg htx
  unfold nodeV
  have hmk := run_mk (P := Try.prog) 25 9 _ 1 16 Try.underlying25 info_string .i64 .i64 n.names.length (by omega) (by omega)
  have hmk2 := run_mk (P := Try.prog) 37 39 _ 5 80 Try.underlying37 info_Node .i64 .i64 n.kids.length (by omega) (by omega)
  have Hn0 : Hid (n.names = []) := Lib.hid (List.length_eq_zero_iff.1 (by omega))
  have Hnl : Hid (n.names.length = 0) := Lib.hid (by omega)
  go_enter Try.func81, Try.ntmps81
  go_wp2_with fail
  clear hmk hmk2
  go_loopw [4, 5, 39] (fun _ _ i wr => CpRel w n (.slice none 0 0) (w.heap.size + 1 + 1 + 1) ([]) i wr) (fun _ _ i _ => n.kids.length - (intOf i).toNat)
  case round =>
    obtain ⟨k, fp, hk, rfl, hg0, hbr, hbl, hst, hf1, hlt1, hrow, hkf, hfr⟩ := hrel
    have Hbr := Lib.hid hbr
    have Hbl := Lib.hid hbl
    have Hst := Lib.hid hst
    have Hf1 := Lib.hid hf1
    have Hl1 := Lib.hid hlt1
    have Hrow := Lib.hid hrow
    have Hkf := Lib.hid hkf
    have Hfr := Lib.hid hfr
    have zr := hrow.1
    have zl := hbl.lt
    clear hbr hbl hst hf1 hlt1 hrow hkf hfr
    by_cases hlt : k < n.kids.length
    · obtain ⟨_, _, hks⟩ := (Hks.out).ext hg0 (fun _ _ h => h)
      rcases hks with hks | ⟨bk, ok, rfl, _, hkr⟩
      · simp [hks] at hlt
      obtain ⟨na', nc', ka', kc', c0, c1, c2, c3, c4, hkc⟩ := hkr.get k hlt
      have Hkc := Lib.hid hkc
      clear hkr hkc
      have zb : bk < wr.heap.size := lt_of_cell c0
      have ha : Grow wr (wr.alloc (.cells #[.int .i64 n.kids[k].kind, .int .i64 n.kids[k].num, .string n.kids[k].text, .slice na' n.kids[k].names.length nc', .slice ka' n.kids[k].kids.length kc'] 39)) := (Ext.refl nil wr).alloc _
      have hbk := BoxN.new wr [.int .i64 n.kids[k].kind, .int .i64 n.kids[k].num, .string n.kids[k].text, .slice na' n.kids[k].names.length nc', .slice ka' n.kids[k].kids.length kc'] 39
      have Hc : Hid (∀ w', Grow wr w' → Calls Try.prog 81 #[.agg #[.int .i64 n.kids[k].kind, .int .i64 n.kids[k].num, .string n.kids[k].text, .slice na' n.kids[k].names.length nc', .slice ka' n.kids[k].kids.length kc']] w' fun e w'' => ∃ v' fp, e = .returned v' ∧ Grow w' w'' ∧ NodeO w'' n.kids[k] v' fp ∧ Free w'.heap.size w'' fp) := Lib.hid (fun w' hg' => Ih.out _ (List.getElem_mem hlt) _ _ (Hg.out.kid (List.getElem_mem hlt)) ⟨_, _, _, _, rfl, Hkc.out.ext hg' (fun _ _ h => h)⟩)
      have Hbl1 := Lib.hid (Hbl.out.grow ha)
      have Hbk := Lib.hid hbk
      have hrk : (k : Int) < (n.kids.length : Int) := by omega
      have hrk0 : (0 : Int) ≤ (k : Int) := by omega
      go_wp2_with fail
      obtain ⟨wa, hwa, ga, ba, bk2, za⟩ : ∃ wa, wr.alloc (.cells #[.int .i64 n.kids[k].kind, .int .i64 n.kids[k].num, .string n.kids[k].text, .slice na' n.kids[k].names.length nc', .slice ka' n.kids[k].kids.length kc'] 39) = wa ∧ Grow wr wa ∧ BoxN wa (w.heap.size + 1 + 1) [.int .i64 n.kind, .int .i64 n.num, .string n.text, .slice none 0 0, .slice (some ⟨w.heap.size + 1 + 1 + 1, 0, none⟩) n.kids.length n.kids.length] ∧ BoxN wa wr.heap.size [.int .i64 n.kids[k].kind, .int .i64 n.kids[k].num, .string n.kids[k].text, .slice na' n.kids[k].names.length nc', .slice ka' n.kids[k].kids.length kc'] ∧ wa.heap.size = wr.heap.size + 1 := ⟨_, rfl, ha, Hbl1.out, Hbk.out, by simp⟩
      rw [hwa]
      clear hwa ha hbk c0 c1 c2 c3 c4
      have za' : wr.heap.size < wa.heap.size := by omega
      clear za
      have y4 := ba.cell 4 _ rfl
      have x0 := bk2.cell 0 _ rfl
      have x1 := bk2.cell 1 _ rfl
      have x2 := bk2.cell 2 _ rfl
      have x3 := bk2.cell 3 _ rfl
      have x4 := bk2.cell 4 _ rfl
      clear ba bk2
      go_region_held3 (fun w' => w'.cell? ⟨w.heap.size + 1 + 1, 4, none⟩ = some (.slice (some ⟨w.heap.size + 1 + 1 + 1, 0, none⟩) n.kids.length n.kids.length) ∧ w'.cell? ⟨wr.heap.size, 0, none⟩ = some (.int .i64 n.kids[k].kind) ∧ w'.cell? ⟨wr.heap.size, 1, none⟩ = some (.int .i64 n.kids[k].num) ∧ w'.cell? ⟨wr.heap.size, 2, none⟩ = some (.string n.kids[k].text) ∧ w'.cell? ⟨wr.heap.size, 3, none⟩ = some (.slice na' n.kids[k].names.length nc') ∧ w'.cell? ⟨wr.heap.size, 4, none⟩ = some (.slice ka' n.kids[k].kids.length kc'))
        (first | (go_keep; done) | (refine ⟨?_, ?_, ?_, ?_, ?_, ?_⟩ <;> (first | (first | with_reducible exact hg2.some (by simpa using y4) | with_reducible exact hg2.some (by simpa using x0) | with_reducible exact hg2.some (by simpa using x1) | with_reducible exact hg2.some (by simpa using x2) | with_reducible exact hg2.some (by simpa using x3) | with_reducible exact hg2.some (by simpa using x4)) | (with_reducible rw [st5_far]; (first | with_reducible exact hg2.some (by simpa using y4) | with_reducible exact hg2.some (by simpa using x0) | with_reducible exact hg2.some (by simpa using x1) | with_reducible exact hg2.some (by simpa using x2) | with_reducible exact hg2.some (by simpa using x3) | with_reducible exact hg2.some (by simpa using x4)); omega))))
        ((go_at_call 81; refine (Hc.out _ (ga.drewN _)).mono ?_; rintro e w2 ⟨v', f', rfl, hg2, hN, hf'⟩; obtain ⟨na2, nc2, ka2, kc2, rfl, hN⟩ := hN; have hg2' := (ga.drewN _).trans hg2; have hrow2 := Hrow.out.ext hg2' (fun h => h); have hfz := hrow2.2.2; obtain ⟨u0, d0⟩ := hrow2.2.1 (k * 5) (by omega); obtain ⟨u1, d1⟩ := hrow2.2.1 (k * 5 + 1) (by omega); obtain ⟨u2, d2⟩ := hrow2.2.1 (k * 5 + 2) (by omega); obtain ⟨u3, d3⟩ := hrow2.2.1 (k * 5 + 3) (by omega); obtain ⟨u4, d4⟩ := hrow2.2.1 (k * 5 + 4) (by omega); have Hrow2 := Lib.hid hrow2; clear hrow2; unfold nodeV))
      rename_i hHeld
      clear hHeld y4 x0 x1 x2 x3 x4 d0 d1 d2 d3 d4 hfz
      have hsz2 : (wa.drewN 1).heap.size = wa.heap.size := rfl
      have hrel := cpRel_next hlt (by omega) hg0 Hbr.out Hbl.out Hst.out Hf1.out Hl1.out Hrow.out Hkf.out Hfr.out hg2' hN (hf'.mono (B' := wr.heap.size) (by omega))
      have Hrel := Lib.hid hrel
      clear hrel
      go_wp2_with fail
      go_roundw
      case rel => exact Hrel.out
      case measure => simp [intOf]; omega
    · have hke : k = n.kids.length := by omega
      subst hke
      rw [List.take_length] at Hkf
      obtain ⟨na2, nc2, hns, hF⟩ := Hst.out
      have Hns2 := Lib.hid hns
      have HF := Lib.hid hF
      have hfl := Hbl.out.fr
      have hfb := Hbr.out.fr
      have q0 := Hbl.out.cell 0 _ rfl
      have q1 := Hbl.out.cell 1 _ rfl
      have q2 := Hbl.out.cell 2 _ rfl
      have q3 := Hbl.out.cell 3 _ rfl
      have q4 := Hbl.out.cell 4 _ rfl
      have r0 := Hbr.out.cell 0 _ rfl
      have r1 := Hbr.out.cell 1 _ rfl
      have r2 := Hbr.out.cell 2 _ rfl
      have r3 := Hbr.out.cell 3 _ rfl
      have r4 := Hbr.out.cell 4 _ rfl
      clear hns hF
      go_wp2_with fail
      clear q0 q1 q2 q3 q4 r0 r1 r2 r3 r4
      have BF := ((((Hbr.out.set 0 (by simp) (.int .i64 n.kind)).set 1 (by simp) (.int .i64 n.num)).set 2 (by simp) (.string n.text)).set 3 (by simp) (.slice none 0 0)).set 4 (by simp) (.slice (some ⟨w.heap.size + 1 + 1 + 1, 0, none⟩) n.kids.length n.kids.length)
      have s0 := BF.cell 0 _ rfl
      have s1 := BF.cell 1 _ rfl
      have s2 := BF.cell 2 _ rfl
      have s3 := BF.cell 3 _ rfl
      have s4 := BF.cell 4 _ rfl
      have he5 := store5_ext wr (w.heap.size + 1) 0 (.int .i64 n.kind) (.int .i64 n.num) (.string n.text) (.slice none 0 0) (.slice (some ⟨w.heap.size + 1 + 1 + 1, 0, none⟩) n.kids.length n.kids.length)
      have x1 : ∀ b ∈ ([] : List Nat), ¬ (b = w.heap.size + 1) := fun b hb e => by have := (Hf1.out.2 b hb).1; omega
      have x2 : ∀ b ∈ (w.heap.size + 1 + 1 + 1) :: fp, ¬ (b = w.heap.size + 1) := fun b hb e => by
        rcases List.mem_cons.1 hb with rfl | hb
        · omega
        · have := (Hfr.out.2 b hb).1; omega
      have hfrR : Free (w.heap.size + 1 + 1 + 1) wr ((w.heap.size + 1 + 1 + 1) :: fp) := Free.cons Hrow.out (by omega) Hfr.out
      refine bodyPost_ret (v := .agg #[.int .i64 n.kind, .int .i64 n.num, .string n.text, .slice none 0 0, .slice (some ⟨w.heap.size + 1 + 1 + 1, 0, none⟩) n.kids.length n.kids.length]) ?_ rfl ⟨_, ([]) ++ ((w.heap.size + 1 + 1 + 1) :: fp), rfl, hg0.inner he5 (by intro i hi; omega), ⟨na2, nc2, _, _, by rw [Hns2.out]; rfl, ?_⟩, ?_⟩
      · simp [results, Try.results81, go_sem, s0, s1, s2, s3, s4]
      · refine NodeF.mk Htx.out (HF.out.keep (he5.keeps Hf1.out x1)) ⟨Nat.le_refl _, Hks.out.2.1, .inr ⟨w.heap.size + 1 + 1 + 1, 0, fp, ?_, rfl, rfl, ?_⟩⟩
        · intro e; rw [e] at hk0; simp at hk0
        · exact Hkf.out.keep (he5.keeps Hfr.out (fun b hb e => x2 b (by simp [hb]) e)) (fun o' _ _ => he5.cell (p := ⟨w.heap.size + 1 + 1 + 1, o', none⟩) Hrow.out.1 (by intro e; have e' : w.heap.size + 1 + 1 + 1 = w.heap.size + 1 := e; omega))
      · refine Free.app2 ((Hf1.out.ext he5 x1).mono (by omega)) ((hfrR.ext he5 x2).mono (by omega)) (fun y h1 h2 => ?_)
        have := Hl1.out y h1
        rcases List.mem_cons.1 h2 with h3 | h3
        · omega
        · have := (Hfr.out.2 y h3).1; omega
  case atStart =>
    refine ⟨0, [], Nat.zero_le _, rfl, (by repeat (first | with_reducible exact Ext.refl _ _ | with_reducible refine Ext.trans ?_ (by assumption) | with_reducible refine Ext.drew ?_ | with_reducible refine Ext.drewN ?_ _ | with_reducible refine Ext.alloc ?_ _ | with_reducible refine Ext.setNew ?_ (by simp; done) _ | with_reducible refine Ext.setNew ?_ (by simp; omega) _)), (BoxN.new1 w _ [.int .i64 0, .int .i64 0, .string ⟨#[]⟩, .slice none 0 0, .slice none 0 0] _).grow (((Ext.refl nil _).alloc _).alloc _), (BoxN.new2 w _ _ [.int .i64 n.kind, .int .i64 n.num, .string n.text, .slice none 0 0, .slice (some ⟨w.heap.size + 1 + 1 + 1, 0, none⟩) n.kids.length n.kids.length] _).grow ((Ext.refl nil _).alloc _), ⟨none, 0, by rw [Hnl.out], ?_⟩, Free.nil _ _, by simp, ?_, by simp [KidsF], Free.nil _ _⟩
    · rw [Hn0.out]; exact ⟨Nat.le_refl _, Nat.zero_le _, by simp, .inl ⟨rfl, rfl⟩⟩
    · have := RowIn.made (((w.alloc (.cells #[.int .i64 n.kind, .int .i64 n.num, .string n.text, .slice na n.names.length nc, .slice ka n.kids.length kc] 39)).alloc (.cells #[.int .i64 0, .int .i64 0, .string ⟨#[]⟩, .slice none 0 0, .slice none 0 0] 39)).alloc (.cells #[.int .i64 n.kind, .int .i64 n.num, .string n.text, .slice none 0 0, .slice (some ⟨w.heap.size + 1 + 1 + 1, 0, none⟩) n.kids.length n.kids.length] 39)) #[.int .i64 0, .int .i64 0, .string ⟨#[]⟩, .slice none 0 0, .slice none 0 0] (n.kids.length * 5) 39
      simpa using this
theorem copyI_names (n : Nd) (ih : ∀ k ∈ n.kids, CopyIOk k) (hn0 : 0 < n.names.length) (hk0 : ¬ 0 < n.kids.length) : CopyIOk n := by
  intro v w hg hn
  obtain ⟨na, nc, ka, kc, rfl, hc⟩ := hn
  obtain ⟨htx, hns, hks⟩ := hc.parts
  have l6 := hg.kids6
  have n6 : n.names.length ≤ 6 := by have := hg.len; omega
  have Htx := Lib.hid htx
  have Hns := Lib.hid hns
  have Hks := Lib.hid hks
  have Ih := Lib.hid ih
  have Hg := Lib.hid hg
  clear hc hns hks ih hg htx
  unfold nodeV
  have hmk := run_mk (P := Try.prog) 25 9 _ 1 16 Try.underlying25 info_string .i64 .i64 n.names.length (by omega) (by omega)
  have hmk2 := run_mk (P := Try.prog) 37 39 _ 5 80 Try.underlying37 info_Node .i64 .i64 n.kids.length (by omega) (by omega)
  have hB0 := BoxN.new1 w (.cells #[.int .i64 n.kind, .int .i64 n.num, .string n.text, .slice na n.names.length nc, .slice ka n.kids.length kc] 39) [.int .i64 0, .int .i64 0, .string ⟨#[]⟩, .slice none 0 0, .slice none 0 0] 39
  have hB1 := BoxN.new2 w (.cells #[.int .i64 n.kind, .int .i64 n.num, .string n.text, .slice na n.names.length nc, .slice ka n.kids.length kc] 39) (.cells #[.int .i64 0, .int .i64 0, .string ⟨#[]⟩, .slice none 0 0, .slice none 0 0] 39) [.int .i64 n.kind, .int .i64 n.num, .string n.text, .slice (some ⟨w.heap.size + 1 + 1 + 1, 0, none⟩) n.names.length n.names.length, .slice none 0 0] 39
  have hBp := ((BoxN.new w [.int .i64 n.kind, .int .i64 n.num, .string n.text, .slice na n.names.length nc, .slice ka n.kids.length kc] 39).grow ((Ext.refl nil _).alloc (.cells #[.int .i64 0, .int .i64 0, .string ⟨#[]⟩, .slice none 0 0, .slice none 0 0] 39))).grow ((Ext.refl nil _).alloc (.cells #[.int .i64 n.kind, .int .i64 n.num, .string n.text, .slice (some ⟨w.heap.size + 1 + 1 + 1, 0, none⟩) n.names.length n.names.length, .slice none 0 0] 39))
  have HB0 := Lib.hid hB0
  have HB1 := Lib.hid hB1
  have HBp := Lib.hid hBp
  clear hB0 hB1 hBp
  go_enter Try.func81, Try.ntmps81
  go_wp2_with ((refine wpList_copy_strs rfl (.tmp 23) (.tmp 25) 25 25 rfl 9 Try.underlying25 ?c0 n.names any na nc (w.heap.size + 1 + 1 + 1) n.names.length rfl rfl _ 9 (heap_at (by simp)) ?c1 ?c2 ?c3 hn0 ?_))
  case c0 => kernel_rfl
  case c1 => rw [size_madeCells]
  case c2 => simp
  case c3 => exact Hns.out.grow (((((Ext.refl nil w).alloc _).alloc _).alloc _).alloc _)
  intro w3 hc3 hfz3 hlt3 he3
  have hs3 : StrsF w3 (some ⟨w.heap.size + 1 + 1 + 1, 0, none⟩) n.names.length n.names [w.heap.size + 1 + 1 + 1] := ⟨Nat.le_refl _, by unfold big; omega, Hns.out.2.2.1, .inr ⟨_, 0, by intro e; rw [e] at hn0; simp at hn0, rfl, rfl, fun i hi => by rw [Nat.zero_add]; exact hc3 i hi⟩⟩
  have hf3 : Free (w.heap.size + 3) w3 [w.heap.size + 1 + 1 + 1] := ⟨by simp, fun b hb => by simp at hb; subst hb; exact ⟨by omega, hlt3, hfz3⟩⟩
  have hg3 : Grow w w3 := Grow.inner (((((Ext.refl nil w).alloc _).alloc _).alloc _).alloc _) he3 (by intro i hi; omega)
  have HS3 := Lib.hid hs3
  have HF3 := Lib.hid hf3
  replace HB0 := Lib.hid ((HB0.out.grow (((Ext.refl nil _).alloc (.cells #[.int .i64 n.kind, .int .i64 n.num, .string n.text, .slice (some ⟨w.heap.size + 1 + 1 + 1, 0, none⟩) n.names.length n.names.length, .slice none 0 0] 39)).alloc _)).ext he3 (by omega))
  replace HB1 := Lib.hid ((HB1.out.grow ((Ext.refl nil _).alloc _)).ext he3 (by omega))
  replace HBp := Lib.hid ((HBp.out.grow ((Ext.refl nil _).alloc _)).ext he3 (by omega))
  clear hs3 hf3 hc3 hfz3 he3
  have q0 := HB1.out.cell 0 _ rfl
  have q1 := HB1.out.cell 1 _ rfl
  have q2 := HB1.out.cell 2 _ rfl
  have q3 := HB1.out.cell 3 _ rfl
  have q4 := HB1.out.cell 4 _ rfl
  have hfl := HB1.out.fr
  have zl := HB1.out.lt
  have p4 := HBp.out.cell 4 _ rfl
  have zp := HBp.out.lt
  have hfb := HB0.out.fr
  have r0 := HB0.out.cell 0 _ rfl
  have r1 := HB0.out.cell 1 _ rfl
  have r2 := HB0.out.cell 2 _ rfl
  have r3 := HB0.out.cell 3 _ rfl
  have r4 := HB0.out.cell 4 _ rfl
  go_wp2_with fail
  clear q0 q1 q2 q3 q4 r0 r1 r2 r3 r4 p4
  have BF := ((((HB0.out.set 0 (by simp) (.int .i64 n.kind)).set 1 (by simp) (.int .i64 n.num)).set 2 (by simp) (.string n.text)).set 3 (by simp) (.slice (some ⟨w.heap.size + 1 + 1 + 1, 0, none⟩) n.names.length n.names.length)).set 4 (by simp) (.slice none 0 0)
  have s0 := BF.cell 0 _ rfl
  have s1 := BF.cell 1 _ rfl
  have s2 := BF.cell 2 _ rfl
  have s3 := BF.cell 3 _ rfl
  have s4 := BF.cell 4 _ rfl
  have he5 := store5_ext w3 (w.heap.size + 1) 0 (.int .i64 n.kind) (.int .i64 n.num) (.string n.text) (.slice (some ⟨w.heap.size + 1 + 1 + 1, 0, none⟩) n.names.length n.names.length) (.slice none 0 0)
  have x1 : ∀ b ∈ [w.heap.size + 1 + 1 + 1], ¬ (b = w.heap.size + 1) := fun b hb e => by simp at hb; omega
  have hk : n.kids = [] := List.length_eq_zero_iff.1 (by omega)
  have hkl : n.kids.length = 0 := by omega
  refine bodyPost_ret (v := .agg #[.int .i64 n.kind, .int .i64 n.num, .string n.text, .slice (some ⟨w.heap.size + 1 + 1 + 1, 0, none⟩) n.names.length n.names.length, .slice none 0 0]) ?_ rfl ⟨_, [w.heap.size + 1 + 1 + 1] ++ [], rfl, hg3.inner he5 (by intro i hi; have : i = w.heap.size + 1 := hi; omega), ⟨_, _, none, 0, by rw [nodeV, hkl], ?_⟩, ?_⟩
  · simp [results, Try.results81, go_sem, s0, s1, s2, s3, s4]
  · exact NodeF.mk Htx.out (HS3.out.keep (he5.keeps HF3.out x1)) ⟨by omega, by unfold big; omega, .inl ⟨hk, rfl⟩⟩
  · have := (HF3.out.ext he5 x1).mono (B' := w.heap.size) (by omega)
    exact this
theorem copyI_both (n : Nd) (ih : ∀ k ∈ n.kids, CopyIOk k) (hn0 : 0 < n.names.length) (hk0 : 0 < n.kids.length) : CopyIOk n := by
  intro v w hg hn
  obtain ⟨na, nc, ka, kc, rfl, hc⟩ := hn
  obtain ⟨htx, hns, hks⟩ := hc.parts
  have l6 := hg.kids6
  have n6 : n.names.length ≤ 6 := by have := hg.len; omega
  have Htx := Lib.hid htx
  have Hns := Lib.hid hns
  have Hks := Lib.hid hks
  have Ih := Lib.hid ih
  have Hg := Lib.hid hg
  clear hc hns hks ih hg htx
  unfold nodeV
  have hmk := run_mk (P := Try.prog) 25 9 _ 1 16 Try.underlying25 info_string .i64 .i64 n.names.length (by omega) (by omega)
  have hmk2 := run_mk (P := Try.prog) 37 39 _ 5 80 Try.underlying37 info_Node .i64 .i64 n.kids.length (by omega) (by omega)
  have hB0 := BoxN.new1 w (.cells #[.int .i64 n.kind, .int .i64 n.num, .string n.text, .slice na n.names.length nc, .slice ka n.kids.length kc] 39) [.int .i64 0, .int .i64 0, .string ⟨#[]⟩, .slice none 0 0, .slice none 0 0] 39
  have hB1 := BoxN.new2 w (.cells #[.int .i64 n.kind, .int .i64 n.num, .string n.text, .slice na n.names.length nc, .slice ka n.kids.length kc] 39) (.cells #[.int .i64 0, .int .i64 0, .string ⟨#[]⟩, .slice none 0 0, .slice none 0 0] 39) [.int .i64 n.kind, .int .i64 n.num, .string n.text, .slice (some ⟨w.heap.size + 1 + 1 + 1, 0, none⟩) n.names.length n.names.length, .slice none 0 0] 39
  have hBp := ((BoxN.new w [.int .i64 n.kind, .int .i64 n.num, .string n.text, .slice na n.names.length nc, .slice ka n.kids.length kc] 39).grow ((Ext.refl nil _).alloc (.cells #[.int .i64 0, .int .i64 0, .string ⟨#[]⟩, .slice none 0 0, .slice none 0 0] 39))).grow ((Ext.refl nil _).alloc (.cells #[.int .i64 n.kind, .int .i64 n.num, .string n.text, .slice (some ⟨w.heap.size + 1 + 1 + 1, 0, none⟩) n.names.length n.names.length, .slice none 0 0] 39))
  have HB0 := Lib.hid hB0
  have HB1 := Lib.hid hB1
  have HBp := Lib.hid hBp
  clear hB0 hB1 hBp
  go_enter Try.func81, Try.ntmps81
  go_wp2_with ((refine wpList_copy_strs rfl (.tmp 23) (.tmp 25) 25 25 rfl 9 Try.underlying25 ?c0 n.names any na nc (w.heap.size + 1 + 1 + 1) n.names.length rfl rfl _ 9 (heap_at (by simp)) ?c1 ?c2 ?c3 hn0 ?_))
  case c0 => kernel_rfl
  case c1 => rw [size_madeCells]
  case c2 => simp
  case c3 => exact Hns.out.grow (((((Ext.refl nil w).alloc _).alloc _).alloc _).alloc _)
  intro w3 hc3 hfz3 hlt3 he3
  have hs3 : StrsF w3 (some ⟨w.heap.size + 1 + 1 + 1, 0, none⟩) n.names.length n.names [w.heap.size + 1 + 1 + 1] := ⟨Nat.le_refl _, by unfold big; omega, Hns.out.2.2.1, .inr ⟨_, 0, by intro e; rw [e] at hn0; simp at hn0, rfl, rfl, fun i hi => by rw [Nat.zero_add]; exact hc3 i hi⟩⟩
  have hf3 : Free (w.heap.size + 3) w3 [w.heap.size + 1 + 1 + 1] := ⟨by simp, fun b hb => by simp at hb; subst hb; exact ⟨by omega, hlt3, hfz3⟩⟩
  have hg3 : Grow w w3 := Grow.inner (((((Ext.refl nil w).alloc _).alloc _).alloc _).alloc _) he3 (by intro i hi; omega)
  have HS3 := Lib.hid hs3
  have HF3 := Lib.hid hf3
  replace HB0 := Lib.hid ((HB0.out.grow (((Ext.refl nil _).alloc (.cells #[.int .i64 n.kind, .int .i64 n.num, .string n.text, .slice (some ⟨w.heap.size + 1 + 1 + 1, 0, none⟩) n.names.length n.names.length, .slice none 0 0] 39)).alloc _)).ext he3 (by omega))
  replace HB1 := Lib.hid ((HB1.out.grow ((Ext.refl nil _).alloc _)).ext he3 (by omega))
  replace HBp := Lib.hid ((HBp.out.grow ((Ext.refl nil _).alloc _)).ext he3 (by omega))
  clear hs3 hf3 hc3 hfz3 he3
  have q0 := HB1.out.cell 0 _ rfl
  have q1 := HB1.out.cell 1 _ rfl
  have q2 := HB1.out.cell 2 _ rfl
  have q3 := HB1.out.cell 3 _ rfl
  have q4 := HB1.out.cell 4 _ rfl
  have hfl := HB1.out.fr
  have zl := HB1.out.lt
  have p4 := HBp.out.cell 4 _ rfl
  have zp := HBp.out.lt
  have hfb := HB0.out.fr
  have r0 := HB0.out.cell 0 _ rfl
  have r1 := HB0.out.cell 1 _ rfl
  have r2 := HB0.out.cell 2 _ rfl
  have r3 := HB0.out.cell 3 _ rfl
  have r4 := HB0.out.cell 4 _ rfl
  go_wp2_with fail
  clear q0 q1 q2 q3 q4 r0 r1 r2 r3 r4 p4 hfl hfb hmk hmk2
  have he3 : Ext (fun k => k = w.heap.size + 1 + 1) w3 (w3.setCell ⟨w.heap.size + 1 + 1, 4, none⟩ (.slice (some ⟨w3.heap.size, 0, none⟩) n.kids.length n.kids.length)) := set_ext _ _ _ _
  have x3 : ∀ b ∈ [w.heap.size + 1 + 1 + 1], ¬ (b = w.heap.size + 1 + 1) := fun b hb e => by simp at hb; omega
  have hrow0 := RowIn.made (w3.setCell ⟨w.heap.size + 1 + 1, 4, none⟩ (.slice (some ⟨w3.heap.size, 0, none⟩) n.kids.length n.kids.length)) #[.int .i64 0, .int .i64 0, .string ⟨#[]⟩, .slice none 0 0, .slice none 0 0] (n.kids.length * 5) 39
  rw [size_setCell] at hrow0
  have Hrow0 := Lib.hid hrow0
  have hst0 : ∃ na2 nc2, (.slice (some ⟨w.heap.size + 1 + 1 + 1, 0, none⟩) n.names.length n.names.length : Value) = .slice na2 n.names.length nc2 ∧ StrsF ((w3.setCell ⟨w.heap.size + 1 + 1, 4, none⟩ (.slice (some ⟨w3.heap.size, 0, none⟩) n.kids.length n.kids.length)).alloc (.cells (madeCells #[.int .i64 0, .int .i64 0, .string ⟨#[]⟩, .slice none 0 0, .slice none 0 0] (n.kids.length * 5)) 39)) na2 nc2 n.names [w.heap.size + 1 + 1 + 1] := by
    have h4 := HF3.out.ext he3 x3
    exact ⟨_, _, rfl, (HS3.out.keep (he3.keeps HF3.out x3)).keep (Ext.keeps ((Ext.refl nil _).alloc _) h4 (fun _ _ h => h))⟩
  have hf0 : Free (w.heap.size + 3) ((w3.setCell ⟨w.heap.size + 1 + 1, 4, none⟩ (.slice (some ⟨w3.heap.size, 0, none⟩) n.kids.length n.kids.length)).alloc (.cells (madeCells #[.int .i64 0, .int .i64 0, .string ⟨#[]⟩, .slice none 0 0, .slice none 0 0] (n.kids.length * 5)) 39)) [w.heap.size + 1 + 1 + 1] := (HF3.out.ext he3 x3).ext ((Ext.refl nil _).alloc _) (fun _ _ h => h)
  have Hst0 := Lib.hid hst0
  have Hf0 := Lib.hid hf0
  clear hst0 hf0 hrow0 he3 x3
  go_loopw [4, 5, 39] (fun _ _ i wr => CpRel w n (.slice (some ⟨w.heap.size + 1 + 1 + 1, 0, none⟩) n.names.length n.names.length) (w3.heap.size) ([w.heap.size + 1 + 1 + 1]) i wr) (fun _ _ i _ => n.kids.length - (intOf i).toNat)
  case round =>
    obtain ⟨k, fp, hk, rfl, hg0, hbr, hbl, hst, hf1, hlt1, hrow, hkf, hfr⟩ := hrel
    have Hbr := Lib.hid hbr
    have Hbl := Lib.hid hbl
    have Hst := Lib.hid hst
    have Hf1 := Lib.hid hf1
    have Hl1 := Lib.hid hlt1
    have Hrow := Lib.hid hrow
    have Hkf := Lib.hid hkf
    have Hfr := Lib.hid hfr
    have zr := hrow.1
    have zl := hbl.lt
    clear hbr hbl hst hf1 hlt1 hrow hkf hfr
    by_cases hlt : k < n.kids.length
    · obtain ⟨_, _, hks⟩ := (Hks.out).ext hg0 (fun _ _ h => h)
      rcases hks with hks | ⟨bk, ok, rfl, _, hkr⟩
      · simp [hks] at hlt
      obtain ⟨na', nc', ka', kc', c0, c1, c2, c3, c4, hkc⟩ := hkr.get k hlt
      have Hkc := Lib.hid hkc
      clear hkr hkc
      have zb : bk < wr.heap.size := lt_of_cell c0
      have ha : Grow wr (wr.alloc (.cells #[.int .i64 n.kids[k].kind, .int .i64 n.kids[k].num, .string n.kids[k].text, .slice na' n.kids[k].names.length nc', .slice ka' n.kids[k].kids.length kc'] 39)) := (Ext.refl nil wr).alloc _
      have hbk := BoxN.new wr [.int .i64 n.kids[k].kind, .int .i64 n.kids[k].num, .string n.kids[k].text, .slice na' n.kids[k].names.length nc', .slice ka' n.kids[k].kids.length kc'] 39
      have Hc : Hid (∀ w', Grow wr w' → Calls Try.prog 81 #[.agg #[.int .i64 n.kids[k].kind, .int .i64 n.kids[k].num, .string n.kids[k].text, .slice na' n.kids[k].names.length nc', .slice ka' n.kids[k].kids.length kc']] w' fun e w'' => ∃ v' fp, e = .returned v' ∧ Grow w' w'' ∧ NodeO w'' n.kids[k] v' fp ∧ Free w'.heap.size w'' fp) := Lib.hid (fun w' hg' => Ih.out _ (List.getElem_mem hlt) _ _ (Hg.out.kid (List.getElem_mem hlt)) ⟨_, _, _, _, rfl, Hkc.out.ext hg' (fun _ _ h => h)⟩)
      have Hbl1 := Lib.hid (Hbl.out.grow ha)
      have Hbk := Lib.hid hbk
      have hrk : (k : Int) < (n.kids.length : Int) := by omega
      have hrk0 : (0 : Int) ≤ (k : Int) := by omega
      go_wp2_with fail
      obtain ⟨wa, hwa, ga, ba, bk2, za⟩ : ∃ wa, wr.alloc (.cells #[.int .i64 n.kids[k].kind, .int .i64 n.kids[k].num, .string n.kids[k].text, .slice na' n.kids[k].names.length nc', .slice ka' n.kids[k].kids.length kc'] 39) = wa ∧ Grow wr wa ∧ BoxN wa (w.heap.size + 1 + 1) [.int .i64 n.kind, .int .i64 n.num, .string n.text, .slice (some ⟨w.heap.size + 1 + 1 + 1, 0, none⟩) n.names.length n.names.length, .slice (some ⟨w3.heap.size, 0, none⟩) n.kids.length n.kids.length] ∧ BoxN wa wr.heap.size [.int .i64 n.kids[k].kind, .int .i64 n.kids[k].num, .string n.kids[k].text, .slice na' n.kids[k].names.length nc', .slice ka' n.kids[k].kids.length kc'] ∧ wa.heap.size = wr.heap.size + 1 := ⟨_, rfl, ha, Hbl1.out, Hbk.out, by simp⟩
      rw [hwa]
      clear hwa ha hbk c0 c1 c2 c3 c4
      have za' : wr.heap.size < wa.heap.size := by omega
      clear za
      have y4 := ba.cell 4 _ rfl
      have x0 := bk2.cell 0 _ rfl
      have x1 := bk2.cell 1 _ rfl
      have x2 := bk2.cell 2 _ rfl
      have x3 := bk2.cell 3 _ rfl
      have x4 := bk2.cell 4 _ rfl
      clear ba bk2
      go_region_held3 (fun w' => w'.cell? ⟨w.heap.size + 1 + 1, 4, none⟩ = some (.slice (some ⟨w3.heap.size, 0, none⟩) n.kids.length n.kids.length) ∧ w'.cell? ⟨wr.heap.size, 0, none⟩ = some (.int .i64 n.kids[k].kind) ∧ w'.cell? ⟨wr.heap.size, 1, none⟩ = some (.int .i64 n.kids[k].num) ∧ w'.cell? ⟨wr.heap.size, 2, none⟩ = some (.string n.kids[k].text) ∧ w'.cell? ⟨wr.heap.size, 3, none⟩ = some (.slice na' n.kids[k].names.length nc') ∧ w'.cell? ⟨wr.heap.size, 4, none⟩ = some (.slice ka' n.kids[k].kids.length kc'))
        (first | (go_keep; done) | (refine ⟨?_, ?_, ?_, ?_, ?_, ?_⟩ <;> (first | (first | with_reducible exact hg2.some (by simpa using y4) | with_reducible exact hg2.some (by simpa using x0) | with_reducible exact hg2.some (by simpa using x1) | with_reducible exact hg2.some (by simpa using x2) | with_reducible exact hg2.some (by simpa using x3) | with_reducible exact hg2.some (by simpa using x4)) | (with_reducible rw [st5_far]; (first | with_reducible exact hg2.some (by simpa using y4) | with_reducible exact hg2.some (by simpa using x0) | with_reducible exact hg2.some (by simpa using x1) | with_reducible exact hg2.some (by simpa using x2) | with_reducible exact hg2.some (by simpa using x3) | with_reducible exact hg2.some (by simpa using x4)); omega))))
        ((go_at_call 81; refine (Hc.out _ (ga.drewN _)).mono ?_; rintro e w2 ⟨v', f', rfl, hg2, hN, hf'⟩; obtain ⟨na2, nc2, ka2, kc2, rfl, hN⟩ := hN; have hg2' := (ga.drewN _).trans hg2; have hrow2 := Hrow.out.ext hg2' (fun h => h); have hfz := hrow2.2.2; obtain ⟨u0, d0⟩ := hrow2.2.1 (k * 5) (by omega); obtain ⟨u1, d1⟩ := hrow2.2.1 (k * 5 + 1) (by omega); obtain ⟨u2, d2⟩ := hrow2.2.1 (k * 5 + 2) (by omega); obtain ⟨u3, d3⟩ := hrow2.2.1 (k * 5 + 3) (by omega); obtain ⟨u4, d4⟩ := hrow2.2.1 (k * 5 + 4) (by omega); have Hrow2 := Lib.hid hrow2; clear hrow2; unfold nodeV))
      rename_i hHeld
      clear hHeld y4 x0 x1 x2 x3 x4 d0 d1 d2 d3 d4 hfz
      have hsz2 : (wa.drewN 1).heap.size = wa.heap.size := rfl
      have hrel := cpRel_next hlt (by omega) hg0 Hbr.out Hbl.out Hst.out Hf1.out Hl1.out Hrow.out Hkf.out Hfr.out hg2' hN (hf'.mono (B' := wr.heap.size) (by omega))
      have Hrel := Lib.hid hrel
      clear hrel
      go_wp2_with fail
      go_roundw
      case rel => exact Hrel.out
      case measure => simp [intOf]; omega
    · have hke : k = n.kids.length := by omega
      subst hke
      rw [List.take_length] at Hkf
      obtain ⟨na2, nc2, hns, hF⟩ := Hst.out
      have Hns2 := Lib.hid hns
      have HF := Lib.hid hF
      have hfl := Hbl.out.fr
      have hfb := Hbr.out.fr
      have q0 := Hbl.out.cell 0 _ rfl
      have q1 := Hbl.out.cell 1 _ rfl
      have q2 := Hbl.out.cell 2 _ rfl
      have q3 := Hbl.out.cell 3 _ rfl
      have q4 := Hbl.out.cell 4 _ rfl
      have r0 := Hbr.out.cell 0 _ rfl
      have r1 := Hbr.out.cell 1 _ rfl
      have r2 := Hbr.out.cell 2 _ rfl
      have r3 := Hbr.out.cell 3 _ rfl
      have r4 := Hbr.out.cell 4 _ rfl
      clear hns hF
      go_wp2_with fail
      clear q0 q1 q2 q3 q4 r0 r1 r2 r3 r4
      have BF := ((((Hbr.out.set 0 (by simp) (.int .i64 n.kind)).set 1 (by simp) (.int .i64 n.num)).set 2 (by simp) (.string n.text)).set 3 (by simp) (.slice (some ⟨w.heap.size + 1 + 1 + 1, 0, none⟩) n.names.length n.names.length)).set 4 (by simp) (.slice (some ⟨w3.heap.size, 0, none⟩) n.kids.length n.kids.length)
      have s0 := BF.cell 0 _ rfl
      have s1 := BF.cell 1 _ rfl
      have s2 := BF.cell 2 _ rfl
      have s3 := BF.cell 3 _ rfl
      have s4 := BF.cell 4 _ rfl
      have he5 := store5_ext wr (w.heap.size + 1) 0 (.int .i64 n.kind) (.int .i64 n.num) (.string n.text) (.slice (some ⟨w.heap.size + 1 + 1 + 1, 0, none⟩) n.names.length n.names.length) (.slice (some ⟨w3.heap.size, 0, none⟩) n.kids.length n.kids.length)
      have x1 : ∀ b ∈ ([w.heap.size + 1 + 1 + 1] : List Nat), ¬ (b = w.heap.size + 1) := fun b hb e => by have := (Hf1.out.2 b hb).1; omega
      have x2 : ∀ b ∈ (w3.heap.size) :: fp, ¬ (b = w.heap.size + 1) := fun b hb e => by
        rcases List.mem_cons.1 hb with rfl | hb
        · omega
        · have := (Hfr.out.2 b hb).1; omega
      have hfrR : Free (w.heap.size + 1 + 1 + 1) wr ((w3.heap.size) :: fp) := Free.cons Hrow.out (by omega) Hfr.out
      refine bodyPost_ret (v := .agg #[.int .i64 n.kind, .int .i64 n.num, .string n.text, .slice (some ⟨w.heap.size + 1 + 1 + 1, 0, none⟩) n.names.length n.names.length, .slice (some ⟨w3.heap.size, 0, none⟩) n.kids.length n.kids.length]) ?_ rfl ⟨_, ([w.heap.size + 1 + 1 + 1]) ++ ((w3.heap.size) :: fp), rfl, hg0.inner he5 (by intro i hi; omega), ⟨na2, nc2, _, _, by rw [Hns2.out]; rfl, ?_⟩, ?_⟩
      · simp [results, Try.results81, go_sem, s0, s1, s2, s3, s4]
      · refine NodeF.mk Htx.out (HF.out.keep (he5.keeps Hf1.out x1)) ⟨Nat.le_refl _, Hks.out.2.1, .inr ⟨w3.heap.size, 0, fp, ?_, rfl, rfl, ?_⟩⟩
        · intro e; rw [e] at hk0; simp at hk0
        · exact Hkf.out.keep (he5.keeps Hfr.out (fun b hb e => x2 b (by simp [hb]) e)) (fun o' _ _ => he5.cell (p := ⟨w3.heap.size, o', none⟩) Hrow.out.1 (by intro e; have e' : w3.heap.size = w.heap.size + 1 := e; omega))
      · refine Free.app2 ((Hf1.out.ext he5 x1).mono (by omega)) ((hfrR.ext he5 x2).mono (by omega)) (fun y h1 h2 => ?_)
        have := Hl1.out y h1
        rcases List.mem_cons.1 h2 with h3 | h3
        · omega
        · have := (Hfr.out.2 y h3).1; omega
  case atStart =>
    exact ⟨0, [], Nat.zero_le _, rfl, (hg3.setNew (p := ⟨w.heap.size + 1 + 1, 4, none⟩) (by show w.heap.size ≤ w.heap.size + 1 + 1; omega) _).alloc _, (HB0.out.other (by simp) _).grow ((Ext.refl nil _).alloc _), (HB1.out.set 4 (by simp) _).grow ((Ext.refl nil _).alloc _), Hst0.out, Hf0.out, fun y hy => by simp at hy; omega, Hrow0.out, by simp [KidsF], Free.nil _ _⟩
theorem copyNodeI_ok : ∀ n, CopyIOk n := Nd.ind' CopyIOk fun n ih => by
  by_cases hn0 : 0 < n.names.length
  · by_cases hk0 : 0 < n.kids.length
    · exact copyI_both n ih hn0 hk0
    · exact copyI_names n ih hn0 hk0
  · by_cases hk0 : 0 < n.kids.length
    · exact copyI_kids n ih hn0 hk0
    · exact copyI_none n ih hn0 hk0
end Go.Proofs.Ytmeobmegnneegaa
namespace Go.Proofs.Ytmeobmegnneegaa
open Go.RowKit
def nmL (l : List Itm) : List ByteArray := l.map (·.1)
theorem nmL_len (l : List Itm) : (nmL l).length = l.length := by simp [nmL]
theorem nmL_get (l : List Itm) (i : Nat) (h : i < (nmL l).length) : (nmL l)[i] = (l[i]'(by rw [nmL_len] at h; exact h)).1 := by simp [nmL]
theorem sgnT_lt {a b : ByteArray} (h : lt a b = true) : sgnT a b = -1 := by unfold sgnT; rw [if_pos h]
theorem sgnT_ge {a b : ByteArray} (h : lt a b = false) : 0 ≤ sgnT a b ∧ sgnT a b ≤ 1 := by unfold sgnT; rw [if_neg (by simp [h])]; split <;> omega
theorem findCl_ok (x : Itm) (cs : List Value) (s : ByteArray) (w : World) (hx : itmRep.R w any x cs) :
    Calls Try.prog 124 #[.agg cs.toArray, .string s] w fun e w' => e = .returned (.int .i64 (sgnT x.1 s)) ∧ Grow w w' := by
  obtain ⟨na2, nc2, ka2, kc2, rfl, h0, h2⟩ := itmRep_open hx
  clear hx h2
  unfold itmL
  go_enter Try.func124, Try.ntmps124
  go_wp2_with fail
  refine (stringsCompare_ok _ _ _).mono ?_
  rintro e w' ⟨rfl, rfl⟩
  go_wp2_with fail
  go_ret
  exact ⟨by simp, (by repeat (first | with_reducible exact Ext.refl _ _ | with_reducible refine Ext.trans ?_ (by assumption) | with_reducible refine Ext.drew ?_ | with_reducible refine Ext.drewN ?_ _ | with_reducible refine Ext.alloc ?_ _ | with_reducible refine Ext.setNew ?_ (by simp; done) _ | with_reducible refine Ext.setNew ?_ (by simp; omega) _))⟩
theorem bsF_ok (l : List Itm) (a : Option Addr) (c : Nat) (s : ByteArray) (w : World) (ha : SlR itmRep w any a c l) (hsort : Asc (nmL l)) (hbig : l.length ≤ 1000000) :
    Calls Try.prog 123 #[.slice a l.length c, .string s, .func (.func 124) #[] #[]] w
      fun e w' => e = .returned (.tuple #[.int .i64 (lbound (nmL l) s : Nat), .bool (mem (nmL l) s)]) ∧ Grow w w' := by
  have Ha := Lib.hid ha
  have S := Lib.hid hsort
  have hln := nmL_len l
  have Hln := Lib.hid hln
  clear ha hsort hln
  go_enter Try.func123, Try.ntmps123
  go_wp2
  go_loopg [9, 10] l.length (fun g s7 s8 wr => ∃ lo hi : Nat, s7 = .int .i64 lo ∧ s8 = .int .i64 hi ∧ lo ≤ hi ∧ hi ≤ l.length ∧ hi - lo ≤ g ∧ Grow w wr ∧ (∀ t (h : t < (nmL l).length), t < lo → lt (nmL l)[t] s = true) ∧ (∀ t (h : t < (nmL l).length), hi ≤ t → lt (nmL l)[t] s = false))
  case atStart => exact ⟨0, l.length, rfl, rfl, Nat.zero_le _, Nat.le_refl _, by omega, Ext.refl _ _, fun t _ ht => absurd ht (Nat.not_lt_zero _), fun t h1 h2 => by rw [Hln.out] at h1; omega⟩
  case round =>
    obtain ⟨lo, hi, rfl, rfl, hlh, hin, hg, hgr, h1, h2⟩ := hrel
    have I1 := Lib.hid h1
    have I2 := Lib.hid h2
    clear h1 h2
    by_cases hlt : lo < hi
    · obtain ⟨_, _, hks⟩ := (Ha.out).grow hgr
      rcases hks with rfl | ⟨bk, ok, rfl, _, hkr⟩
      · exfalso; simp at hin; omega
      have hm : (lo + hi) / 2 < l.length := by omega
      obtain ⟨m, hmm⟩ : ∃ m, m = (lo + hi) / 2 := ⟨_, rfl⟩
      have hmI : ((lo : Int) + (hi : Int)) / 2 = (m : Int) := by omega
      have hml : m < l.length := by rw [hmm]; exact hm
      obtain ⟨cs, hcs, hx⟩ := hkr m hml
      obtain ⟨na0, nc0, ka0, kc0, rfl, hsz, h0⟩ := itmRep_open hx
      rw [itmRep_n] at hcs
      have x0 : wr.cell? ⟨bk, ok + m * 7, none⟩ = _ := hcs 0 _ rfl
      have x1 := hcs 1 _ rfl
      have x2 := hcs 2 _ rfl
      have x3 := hcs 3 _ rfl
      have x4 := hcs 4 _ rfl
      have x5 := hcs 5 _ rfl
      have x6 := hcs 6 _ rfl
      have Hx := Lib.hid hx
      have hgm : (nmL l)[m]'(by rw [Hln.out]; exact hml) = l[m].1 := nmL_get l m _
      have Hgm := Lib.hid hgm
      have k1 : (m : Int) < (l.length : Int) := by omega
      have k0 : (0 : Int) ≤ (m : Int) := by omega
      have Hmm := Lib.hid hmm
      have mlo : lo ≤ m := by omega
      have mhi : m < hi := by omega
      clear hkr hcs hx h0 hgm Ha hsz hm hmm
      cases hyx : lt l[m].1 s
      · have Y := Lib.hid hyx
        obtain ⟨y1, y2⟩ := sgnT_ge hyx
        clear hyx
        go_wp2_with fail
        refine (findCl_ok l[m] (itmL l[m] na0 nc0 ka0 kc0) s wr Hx.out).mono ?_
        rintro e w2 ⟨rfl, hg2⟩
        go_wp2_with fail
        go_roundg (m - lo)
        case measure => omega
        case rel =>
          refine ⟨lo, m, rfl, rfl, by omega, by omega, Nat.le_refl _, hgr.trans hg2, I1.out, fun t h ht => ?_⟩
          rcases Nat.eq_or_lt_of_le ht with rfl | h'
          · rw [Hgm.out]; exact Y.out
          · have := S.out _ t (by rw [Hln.out]; exact hml) h h'
            rw [Hgm.out] at this
            cases hx : lt (nmL l)[t] s
            · rfl
            · have := bl_trans _ _ _ this hx
              have := Y.out
              simp_all
      · have Y := Lib.hid hyx
        have y1 := sgnT_lt hyx
        clear hyx
        go_wp2_with fail
        refine (findCl_ok l[m] (itmL l[m] na0 nc0 ka0 kc0) s wr Hx.out).mono ?_
        rintro e w2 ⟨rfl, hg2⟩
        simp only [y1]
        go_wp2_with fail
        go_roundg (hi - (m + 1))
        case measure => omega
        case rel =>
          refine ⟨m + 1, hi, by go_num, rfl, by omega, hin, Nat.le_refl _, hgr.trans hg2, fun t h ht => ?_, I2.out⟩
          rcases Nat.eq_or_lt_of_le (show t ≤ m by omega) with rfl | h'
          · rw [Hgm.out]; exact Y.out
          · have := S.out t _ h (by rw [Hln.out]; exact hml) h'
            rw [Hgm.out] at this
            exact bl_trans _ _ _ this Y.out
    · have : hi = lo := by omega
      subst this
      obtain ⟨e1, e2, e3⟩ := lb_end S.out (by rw [Hln.out]; exact hin) I1.out I2.out
      have E1 := Lib.hid e1
      have E2 := Lib.hid e2
      have E3 := Lib.hid e3
      clear e1 e2 e3
      by_cases hn : hi < l.length
      · obtain ⟨_, _, hks⟩ := (Ha.out).grow hgr
        rcases hks with rfl | ⟨bk, ok, rfl, _, hkr⟩
        · exfalso; simp at hn
        obtain ⟨cs, hcs, hx⟩ := hkr hi hn
        obtain ⟨na0, nc0, ka0, kc0, rfl, hsz, h0⟩ := itmRep_open hx
        rw [itmRep_n] at hcs
        have x0 : wr.cell? ⟨bk, ok + hi * 7, none⟩ = _ := hcs 0 _ rfl
        have x1 := hcs 1 _ rfl
        have x2 := hcs 2 _ rfl
        have x3 := hcs 3 _ rfl
        have x4 := hcs 4 _ rfl
        have x5 := hcs 5 _ rfl
        have x6 := hcs 6 _ rfl
        have Hx := Lib.hid hx
        have E2' : Hid (mem (nmL l) s = decide (l[hi].1 = s)) := Lib.hid (by rw [E2.out (by rw [Hln.out]; exact hn), nmL_get])
        clear hkr hcs hx h0 Ha hsz
        by_cases hd : l[hi].1 = s
        · have y1 : sgnT l[hi].1 s = 0 := sgnT_zero.2 hd
          have Hd := Lib.hid hd
          clear hd
          go_wp2_with fail
          refine (findCl_ok l[hi] (itmL l[hi] na0 nc0 ka0 kc0) s wr Hx.out).mono ?_
          rintro e w2 ⟨rfl, hg2⟩
          simp only [y1]
          go_wp2_with fail
          go_ret2
          exact ⟨by rw [E1.out, E2'.out]; simp [Hd.out], hgr.trans hg2⟩
        · have y1 : (sgnT l[hi].1 s == 0) = false := by simpa using fun h => hd (sgnT_zero.1 h)
          have Hd := Lib.hid hd
          clear hd
          go_wp2_with fail
          refine (findCl_ok l[hi] (itmL l[hi] na0 nc0 ka0 kc0) s wr Hx.out).mono ?_
          rintro e w2 ⟨rfl, hg2⟩
          go_wp2_with fail
          go_ret2
          exact ⟨by rw [E1.out, E2'.out]; simp [Hd.out], hgr.trans hg2⟩
      · have E3' := Lib.hid (E3.out (by rw [Hln.out]; exact hn))
        go_wp2_with fail
        go_ret2
        exact ⟨by rw [E1.out, E3'.out]; first | rfl | simp, hgr⟩
theorem findItem_ok (l : List Itm) (a : Option Addr) (c : Nat) (s : ByteArray) (w : World) (ha : SlR itmRep w any a c l) (hsort : Asc (nmL l)) (hbig : l.length ≤ 1000000) :
    Calls Try.prog 97 #[.slice a l.length c, .string s] w fun e w' => e = .returned (.tuple #[.int .i64 (lbound (nmL l) s : Nat), .bool (mem (nmL l) s)]) ∧ Grow w w' := by
  go_enter Try.func97, Try.ntmps97
  go_wp2_with fail
  refine (bsF_ok l a c s w ha hsort hbig).mono ?_
  rintro e w2 ⟨rfl, hg2⟩
  go_wp2_with fail
  go_ret2
  exact ⟨by simp, hg2⟩
end Go.Proofs.Ytmeobmegnneegaa
namespace Go.Proofs.Ytmeobmegnneegaa
open Go.RowKit
end Go.Proofs.Ytmeobmegnneegaa
namespace Go.Proofs.Ytmeobmegnneegaa
open Go.RowKit
end Go.Proofs.Ytmeobmegnneegaa
namespace Go.Proofs.Ytmeobmegnneegaa
open Go.RowKit
def Itm.zero : Itm := (⟨#[]⟩, 0, Nd.zero)
theorem itmRep_shutF {w : World} {x : Itm} {na : Option Addr} {nc : Nat} {ka : Option Addr} {kc : Nat} {fp : List Nat} (h1 : x.1.size ≤ big) (h2 : NodeF w x.2.2 na nc ka kc fp) : itmRep.F w x (itmL x na nc ka kc) fp :=
  ⟨[.string x.1], _, [], fp, rfl, rfl, ⟨rfl, h1, rfl⟩, [.int .i64 x.2.1], _, [], fp, rfl, rfl, ⟨rfl, rfl⟩, na, nc, ka, kc, rfl, h2⟩
theorem itm_zeroF (w : World) : itmRep.F w Itm.zero [.string ⟨#[]⟩, .int .i64 0, .int .i64 0, .int .i64 0, .string ⟨#[]⟩, .slice none 0 0, .slice none 0 0] [] := by
  have h : NodeF w Nd.zero none 0 none 0 ([] ++ []) := NodeF.mk (by unfold big Nd.zero; decide) ⟨Nat.le_refl _, Nat.zero_le _, by simp [Nd.zero], .inl ⟨rfl, rfl⟩⟩ ⟨Nat.le_refl _, Nat.zero_le _, .inl ⟨rfl, rfl⟩⟩
  exact itmRep_shutF (x := Itm.zero) (by unfold big Itm.zero; decide) h
theorem storeB_asc {s : Sto} (h : storeB s = true) : Asc (nmL s.1) := by
  have h5 := (storeB_parts h).2.2.2.2
  intro i j hi hj hij
  exact List.pairwise_iff_getElem.1 h5 i j hi hj hij
theorem storeB_good {s : Sto} (h : storeB s = true) : ∀ x ∈ s.1, Good x.2.2 := by
  intro x hx
  have := (storeB_parts h).2.2.2.1 x hx
  unfold itmB at this
  simp only [Bool.and_eq_true] at this
  exact validB_good this.2
def st7 (w : World) (b : Nat) (v0 v1 v2 v3 v4 v5 v6 : Value) : World :=
  ((((((w.setCell ⟨b, 0, none⟩ v0).setCell ⟨b, 1, none⟩ v1).setCell ⟨b, 2, none⟩ v2).setCell ⟨b, 3, none⟩ v3).setCell ⟨b, 4, none⟩ v4).setCell ⟨b, 5, none⟩ v5).setCell ⟨b, 6, none⟩ v6
theorem st7_ext (w : World) (b : Nat) (v0 v1 v2 v3 v4 v5 v6 : Value) : Ext (fun k => k = b) w (st7 w b v0 v1 v2 v3 v4 v5 v6) :=
  ((((((set_ext _ _ _ _).trans (set_ext _ _ _ _)).trans (set_ext _ _ _ _)).trans (set_ext _ _ _ _)).trans (set_ext _ _ _ _)).trans (set_ext _ _ _ _)).trans (set_ext _ _ _ _)
theorem st7_far {w : World} {b b' q : Nat} {v0 v1 v2 v3 v4 v5 v6 : Value} {u : Value} (hu : w.cell? ⟨b', q, none⟩ = some u) (h : b' ≠ b) :
    (((((((w.setCell ⟨b, 0, none⟩ v0).setCell ⟨b, 1, none⟩ v1).setCell ⟨b, 2, none⟩ v2).setCell ⟨b, 3, none⟩ v3).setCell ⟨b, 4, none⟩ v4).setCell ⟨b, 5, none⟩ v5).setCell ⟨b, 6, none⟩ v6).cell? ⟨b', q, none⟩ = some u :=
  (st7_ext w b v0 v1 v2 v3 v4 v5 v6).some hu h
theorem copyItem_ok (x : Itm) (cs : List Value) (w : World) (hgd : Good x.2.2) (hx : itmRep.R w any x cs) :
    Calls Try.prog 98 #[.agg cs.toArray] w fun e w' => ∃ cs' fp, e = .returned (.agg (cs' : List Value).toArray) ∧ Grow w w' ∧ itmRep.F w' x cs' fp ∧ Free w.heap.size w' fp := by
  obtain ⟨na, nc, ka, kc, rfl, h0, h2⟩ := itmRep_open hx
  have H0 := Lib.hid h0
  have Hgd := Lib.hid hgd
  have Hc : Hid (∀ w', Grow w w' → Calls Try.prog 81 #[.agg #[.int .i64 x.2.2.kind, .int .i64 x.2.2.num, .string x.2.2.text, .slice na x.2.2.names.length nc, .slice ka x.2.2.kids.length kc]] w' fun e w'' => ∃ v' fp, e = .returned v' ∧ Grow w' w'' ∧ NodeO w'' x.2.2 v' fp ∧ Free w'.heap.size w'' fp) := Lib.hid (fun w' hg' => copyNodeI_ok x.2.2 _ _ hgd ⟨_, _, _, _, rfl, h2.ext hg' (fun _ _ h => h)⟩)
  clear hx h0 h2 hgd
  unfold itmL
  have hb0 := (BoxN.new w [.string x.1, .int .i64 x.2.1, .int .i64 x.2.2.kind, .int .i64 x.2.2.num, .string x.2.2.text, .slice na x.2.2.names.length nc, .slice ka x.2.2.kids.length kc] 62).grow ((Ext.refl nil _).alloc (.cells #[.string ⟨#[]⟩, .int .i64 0, .int .i64 0, .int .i64 0, .string ⟨#[]⟩, .slice none 0 0, .slice none 0 0] 62))
  have hb1 := BoxN.new1 w (.cells #[.string x.1, .int .i64 x.2.1, .int .i64 x.2.2.kind, .int .i64 x.2.2.num, .string x.2.2.text, .slice na x.2.2.names.length nc, .slice ka x.2.2.kids.length kc] 62) [.string ⟨#[]⟩, .int .i64 0, .int .i64 0, .int .i64 0, .string ⟨#[]⟩, .slice none 0 0, .slice none 0 0] 62
  have HB0 := Lib.hid hb0
  have HB1 := Lib.hid hb1
  clear hb0 hb1
  go_enter Try.func98, Try.ntmps98
  go_wp2_with fail
  obtain ⟨wa, hwa, ga, hb0, hb1⟩ : ∃ wa, (w.alloc (.cells #[.string x.1, .int .i64 x.2.1, .int .i64 x.2.2.kind, .int .i64 x.2.2.num, .string x.2.2.text, .slice na x.2.2.names.length nc, .slice ka x.2.2.kids.length kc] 62)).alloc (.cells #[.string ⟨#[]⟩, .int .i64 0, .int .i64 0, .int .i64 0, .string ⟨#[]⟩, .slice none 0 0, .slice none 0 0] 62) = wa ∧ Grow w wa ∧ BoxN wa w.heap.size [.string x.1, .int .i64 x.2.1, .int .i64 x.2.2.kind, .int .i64 x.2.2.num, .string x.2.2.text, .slice na x.2.2.names.length nc, .slice ka x.2.2.kids.length kc] ∧ BoxN wa (w.heap.size + 1) [.string ⟨#[]⟩, .int .i64 0, .int .i64 0, .int .i64 0, .string ⟨#[]⟩, .slice none 0 0, .slice none 0 0] := ⟨_, rfl, (by repeat (first | with_reducible exact Ext.refl _ _ | with_reducible refine Ext.trans ?_ (by assumption) | with_reducible refine Ext.drew ?_ | with_reducible refine Ext.drewN ?_ _ | with_reducible refine Ext.alloc ?_ _ | with_reducible refine Ext.setNew ?_ (by simp; done) _ | with_reducible refine Ext.setNew ?_ (by simp; omega) _)), HB0.out, HB1.out⟩
  rw [hwa]
  clear hwa
  have x0 := hb0.cell 0 _ rfl
  have x1 := hb0.cell 1 _ rfl
  have x2 := hb0.cell 2 _ rfl
  have x3 := hb0.cell 3 _ rfl
  have x4 := hb0.cell 4 _ rfl
  have x5 := hb0.cell 5 _ rfl
  have x6 := hb0.cell 6 _ rfl
  have zb := hb0.lt
  have zb1 := hb1.lt
  have Hb1 := Lib.hid hb1
  clear hb0 hb1
  go_region_held3 (fun w' => w'.cell? ⟨w.heap.size, 0, none⟩ = some (.string x.1) ∧ w'.cell? ⟨w.heap.size, 1, none⟩ = some (.int .i64 x.2.1) ∧ w'.cell? ⟨w.heap.size, 2, none⟩ = some (.int .i64 x.2.2.kind) ∧ w'.cell? ⟨w.heap.size, 3, none⟩ = some (.int .i64 x.2.2.num) ∧ w'.cell? ⟨w.heap.size, 4, none⟩ = some (.string x.2.2.text) ∧ w'.cell? ⟨w.heap.size, 5, none⟩ = some (.slice na x.2.2.names.length nc) ∧ w'.cell? ⟨w.heap.size, 6, none⟩ = some (.slice ka x.2.2.kids.length kc))
    (first | (go_keep; done) | (with_reducible exact ⟨hg2.some (by simpa using x0), hg2.some (by simpa using x1), hg2.some (by simpa using x2), hg2.some (by simpa using x3), hg2.some (by simpa using x4), hg2.some (by simpa using x5), hg2.some (by simpa using x6)⟩) | (with_reducible exact ⟨st7_far (hg2.some (by simpa using x0)) (by omega), st7_far (hg2.some (by simpa using x1)) (by omega), st7_far (hg2.some (by simpa using x2)) (by omega), st7_far (hg2.some (by simpa using x3)) (by omega), st7_far (hg2.some (by simpa using x4)) (by omega), st7_far (hg2.some (by simpa using x5)) (by omega), st7_far (hg2.some (by simpa using x6)) (by omega)⟩))
    ((go_at_call 81; refine (Hc.out _ (ga.drewN _)).mono ?_; rintro e w2 ⟨v', f', rfl, hg2, hN, hf'⟩; obtain ⟨na2, nc2, ka2, kc2, rfl, hN⟩ := hN; have hg2' := (Ext.drewN (Ext.refl nil wa) _).trans hg2; have hb2 := Hb1.out.grow hg2'; have hfz := hb2.fr; have d0 := hb2.cell 0 _ rfl; have d1 := hb2.cell 1 _ rfl; have d2 := hb2.cell 2 _ rfl; have d3 := hb2.cell 3 _ rfl; have d4 := hb2.cell 4 _ rfl; have d5 := hb2.cell 5 _ rfl; have d6 := hb2.cell 6 _ rfl; have Hb2 := Lib.hid hb2; clear hb2; unfold nodeV))
  rename_i hHeld
  clear hHeld x0 x1 x2 x3 x4 x5 x6 d0 d1 d2 d3 d4 d5 d6 hfz
  have hsz2 : (wa.drewN 1).heap.size = wa.heap.size := rfl
  have BF := ((((((Hb2.out.set 0 (by simp) (.string x.1)).set 1 (by simp) (.int .i64 x.2.1)).set 2 (by simp) (.int .i64 x.2.2.kind)).set 3 (by simp) (.int .i64 x.2.2.num)).set 4 (by simp) (.string x.2.2.text)).set 5 (by simp) (.slice na2 x.2.2.names.length nc2)).set 6 (by simp) (.slice ka2 x.2.2.kids.length kc2)
  have s0 := BF.cell 0 _ rfl
  have s1 := BF.cell 1 _ rfl
  have s2 := BF.cell 2 _ rfl
  have s3 := BF.cell 3 _ rfl
  have s4 := BF.cell 4 _ rfl
  have s5 := BF.cell 5 _ rfl
  have s6 := BF.cell 6 _ rfl
  have he := st7_ext w2 (w.heap.size + 1) (.string x.1) (.int .i64 x.2.1) (.int .i64 x.2.2.kind) (.int .i64 x.2.2.num) (.string x.2.2.text) (.slice na2 x.2.2.names.length nc2) (.slice ka2 x.2.2.kids.length kc2)
  have hx2 : ∀ b ∈ f', ¬ b = w.heap.size + 1 := fun b hb e => by have := (hf'.2 b hb).1; omega
  go_wp2_with fail
  refine bodyPost_ret (v := .agg (itmL x na2 nc2 ka2 kc2).toArray) ?_ rfl ⟨_, f', rfl, Grow.inner (ga.trans hg2') he (by intro i hi; have : i = w.heap.size + 1 := hi; omega), itmRep_shutF H0.out (hN.keep (he.keeps hf' hx2)), (hf'.ext he hx2).mono (by omega)⟩
  unfold itmL
  simp [results, Try.results98, go_sem, s0, s1, s2, s3, s4, s5, s6]
def gtB (s : Sto) (nm : ByteArray) : Bool := storeB s && mem (nmL s.1) nm
def gtI (s : Sto) (nm : ByteArray) : Itm := if gtB s nm then s.1[lbound (nmL s.1) nm]?.getD Itm.zero else Itm.zero
theorem gt_no {s : Sto} {nm : ByteArray} (h : storeB s = false ∨ mem (nmL s.1) nm = false) : gtB s nm = false ∧ gtI s nm = Itm.zero := by
  have : gtB s nm = false := by unfold gtB; rcases h with h | h <;> rw [h] <;> simp
  exact ⟨this, by unfold gtI; rw [this]; rfl⟩
theorem gt_yes {s : Sto} {nm : ByteArray} (h : storeB s = true) (h' : mem (nmL s.1) nm = true) : gtB s nm = true ∧ ∃ h : lbound (nmL s.1) nm < s.1.length, gtI s nm = s.1[lbound (nmL s.1) nm] ∧ s.1[lbound (nmL s.1) nm].1 = nm := by
  have hb : gtB s nm = true := by unfold gtB; rw [h, h']; rfl
  obtain ⟨hl, he⟩ := lb_lt (storeB_asc h) h'
  have hl' : lbound (nmL s.1) nm < s.1.length := by rw [nmL_len] at hl; exact hl
  refine ⟨hb, hl', ?_, by rw [nmL_get] at he; exact he⟩
  unfold gtI
  rw [hb, List.getElem?_eq_getElem hl']
  rfl
theorem implGetItem_ok (s : Sto) (nm : ByteArray) (v : Value) (w : World) (hsz : nm.size ≤ big) (h : RV stoRep packA w any s v) :
    Calls Try.prog 47 #[v, .string nm] w fun e w' => ∃ r fp, e = .returned (.tuple #[r, .bool (gtB s nm)]) ∧ Grow w w' ∧ FV itmRep packA w' (gtI s nm) r fp ∧ Free w.heap.size w' fp := by
  obtain ⟨a, c, rfl, hs⟩ := sto_open h
  have HS := Lib.hid h
  have Hs := Lib.hid hs
  clear h hs
  unfold stoV at *
  have hb0 := (BoxN.new w [.slice a s.1.length c, .int .i64 s.2] 33).grow ((Ext.refl nil _).alloc (.cells #[.string ⟨#[]⟩, .int .i64 0, .int .i64 0, .int .i64 0, .string ⟨#[]⟩, .slice none 0 0, .slice none 0 0] 62))
  have hb1 := BoxN.new1 w (.cells #[.slice a s.1.length c, .int .i64 s.2] 33) [.string ⟨#[]⟩, .int .i64 0, .int .i64 0, .int .i64 0, .string ⟨#[]⟩, .slice none 0 0, .slice none 0 0] 62
  have HB0 := Lib.hid hb0
  have HB1 := Lib.hid hb1
  clear hb0 hb1
  cases hv : storeB s
  · have Hv := Lib.hid hv
    have Hf := Lib.hid (gt_no (nm := nm) (.inl hv))
    clear hv
    go_enter Try.func47, Try.ntmps47
    go_wp2_with fail
    refine (ValidStore_ok s _ _ (HS.out.grow (by repeat (first | with_reducible exact Ext.refl _ _ | with_reducible refine Ext.trans ?_ (by assumption) | with_reducible refine Ext.drew ?_ | with_reducible refine Ext.drewN ?_ _ | with_reducible refine Ext.alloc ?_ _ | with_reducible refine Ext.setNew ?_ (by simp; done) _ | with_reducible refine Ext.setNew ?_ (by simp; omega) _)))).mono ?_
    rintro e w2 ⟨rfl, hg2⟩
    simp only [Hv.out]
    have hgw : Grow w w2 := (by repeat (first | with_reducible exact Ext.refl _ _ | with_reducible refine Ext.trans ?_ (by assumption) | with_reducible refine Ext.drew ?_ | with_reducible refine Ext.drewN ?_ _ | with_reducible refine Ext.alloc ?_ _ | with_reducible refine Ext.setNew ?_ (by simp; done) _ | with_reducible refine Ext.setNew ?_ (by simp; omega) _))
    replace HB1 := Lib.hid (HB1.out.grow hg2)
    have r0 := HB1.out.cell 0 _ rfl
    have r1 := HB1.out.cell 1 _ rfl
    have r2 := HB1.out.cell 2 _ rfl
    have r3 := HB1.out.cell 3 _ rfl
    have r4 := HB1.out.cell 4 _ rfl
    have r5 := HB1.out.cell 5 _ rfl
    have r6 := HB1.out.cell 6 _ rfl
    have rf := HB1.out.fr
    have zr := HB1.out.lt
    go_wp2_with fail
    clear r0 r1 r2 r3 r4 r5 r6 rf
    have BF := ((((((HB1.out.set 0 (by simp) (.string ⟨#[]⟩)).set 1 (by simp) (.int .i64 0)).set 2 (by simp) (.int .i64 0)).set 3 (by simp) (.int .i64 0)).set 4 (by simp) (.string ⟨#[]⟩)).set 5 (by simp) (.slice none 0 0)).set 6 (by simp) (.slice none 0 0)
    have s0 := BF.cell 0 _ rfl
    have s1 := BF.cell 1 _ rfl
    have s2 := BF.cell 2 _ rfl
    have s3 := BF.cell 3 _ rfl
    have s4 := BF.cell 4 _ rfl
    have s5 := BF.cell 5 _ rfl
    have s6 := BF.cell 6 _ rfl
    have he := st7_ext w2 (w.heap.size + 1) (.string ⟨#[]⟩) (.int .i64 0) (.int .i64 0) (.int .i64 0) (.string ⟨#[]⟩) (.slice none 0 0) (.slice none 0 0)
    refine bodyPost_ret (v := .tuple #[.agg #[.string ⟨#[]⟩, .int .i64 0, .int .i64 0, .int .i64 0, .string ⟨#[]⟩, .slice none 0 0, .slice none 0 0], .bool false]) ?_ rfl ⟨_, [], by rw [Hf.out.1], Grow.inner hgw he (by intro i hi; have : i = w.heap.size + 1 := hi; omega), by rw [Hf.out.2]; exact ⟨_, rfl, itm_zeroF _⟩, Free.nil _ _⟩
    simp [results, Try.results47, go_sem, s0, s1, s2, s3, s4, s5, s6]
  have Hv := Lib.hid hv
  have Hasc := Lib.hid (storeB_asc hv)
  have hl10 : s.1.length ≤ 10 := (storeB_parts hv).1
  cases hm : mem (nmL s.1) nm
  · have Hm := Lib.hid hm
    have Hf := Lib.hid (gt_no (s := s) (nm := nm) (.inr hm))
    clear hv hm
    go_enter Try.func47, Try.ntmps47
    go_wp2_with fail
    refine (ValidStore_ok s _ _ (HS.out.grow (by repeat (first | with_reducible exact Ext.refl _ _ | with_reducible refine Ext.trans ?_ (by assumption) | with_reducible refine Ext.drew ?_ | with_reducible refine Ext.drewN ?_ _ | with_reducible refine Ext.alloc ?_ _ | with_reducible refine Ext.setNew ?_ (by simp; done) _ | with_reducible refine Ext.setNew ?_ (by simp; omega) _)))).mono ?_
    rintro e w2 ⟨rfl, hg2⟩
    simp only [Hv.out]
    replace HB0 := Lib.hid (HB0.out.grow hg2)
    have q0 := HB0.out.cell 0 _ rfl
    have q1 := HB0.out.cell 1 _ rfl
    go_wp2_with fail
    refine (findItem_ok s.1 _ _ nm _ (Hs.out.grow (by repeat (first | with_reducible exact Ext.refl _ _ | with_reducible refine Ext.trans ?_ (by assumption) | with_reducible refine Ext.drew ?_ | with_reducible refine Ext.drewN ?_ _ | with_reducible refine Ext.alloc ?_ _ | with_reducible refine Ext.setNew ?_ (by simp; done) _ | with_reducible refine Ext.setNew ?_ (by simp; omega) _))) Hasc.out (by omega)).mono ?_
    rintro e w3 ⟨rfl, hg3⟩
    simp only [Hm.out]
    have hgw : Grow w w3 := (by repeat (first | with_reducible exact Ext.refl _ _ | with_reducible refine Ext.trans ?_ (by assumption) | with_reducible refine Ext.drew ?_ | with_reducible refine Ext.drewN ?_ _ | with_reducible refine Ext.alloc ?_ _ | with_reducible refine Ext.setNew ?_ (by simp; done) _ | with_reducible refine Ext.setNew ?_ (by simp; omega) _))
    clear q0 q1
    replace HB1 := Lib.hid ((HB1.out.grow hg2).grow hg3)
    have r0 := HB1.out.cell 0 _ rfl
    have r1 := HB1.out.cell 1 _ rfl
    have r2 := HB1.out.cell 2 _ rfl
    have r3 := HB1.out.cell 3 _ rfl
    have r4 := HB1.out.cell 4 _ rfl
    have r5 := HB1.out.cell 5 _ rfl
    have r6 := HB1.out.cell 6 _ rfl
    have rf := HB1.out.fr
    have zr := HB1.out.lt
    go_wp2_with fail
    clear r0 r1 r2 r3 r4 r5 r6 rf
    have BF := ((((((HB1.out.set 0 (by simp) (.string ⟨#[]⟩)).set 1 (by simp) (.int .i64 0)).set 2 (by simp) (.int .i64 0)).set 3 (by simp) (.int .i64 0)).set 4 (by simp) (.string ⟨#[]⟩)).set 5 (by simp) (.slice none 0 0)).set 6 (by simp) (.slice none 0 0)
    have s0 := BF.cell 0 _ rfl
    have s1 := BF.cell 1 _ rfl
    have s2 := BF.cell 2 _ rfl
    have s3 := BF.cell 3 _ rfl
    have s4 := BF.cell 4 _ rfl
    have s5 := BF.cell 5 _ rfl
    have s6 := BF.cell 6 _ rfl
    have he := st7_ext w3 (w.heap.size + 1) (.string ⟨#[]⟩) (.int .i64 0) (.int .i64 0) (.int .i64 0) (.string ⟨#[]⟩) (.slice none 0 0) (.slice none 0 0)
    refine bodyPost_ret (v := .tuple #[.agg #[.string ⟨#[]⟩, .int .i64 0, .int .i64 0, .int .i64 0, .string ⟨#[]⟩, .slice none 0 0, .slice none 0 0], .bool false]) ?_ rfl ⟨_, [], by rw [Hf.out.1], Grow.inner hgw he (by intro i hi; have : i = w.heap.size + 1 := hi; omega), by rw [Hf.out.2]; exact ⟨_, rfl, itm_zeroF _⟩, Free.nil _ _⟩
    simp [results, Try.results47, go_sem, s0, s1, s2, s3, s4, s5, s6]
  have Hm := Lib.hid hm
  obtain ⟨hgb, hlb, hgi, hnm⟩ := gt_yes hv hm
  have Hgb := Lib.hid hgb
  have Hgi := Lib.hid hgi
  have Hgood := Lib.hid (storeB_good hv)
  have k1 : ((lbound (nmL s.1) nm : Nat) : Int) < (s.1.length : Int) := by omega
  have k0 : (0 : Int) ≤ ((lbound (nmL s.1) nm : Nat) : Int) := by omega
  clear hv hm hgb hgi hnm
  go_enter Try.func47, Try.ntmps47
  go_wp2_with fail
  refine (ValidStore_ok s _ _ (HS.out.grow (by repeat (first | with_reducible exact Ext.refl _ _ | with_reducible refine Ext.trans ?_ (by assumption) | with_reducible refine Ext.drew ?_ | with_reducible refine Ext.drewN ?_ _ | with_reducible refine Ext.alloc ?_ _ | with_reducible refine Ext.setNew ?_ (by simp; done) _ | with_reducible refine Ext.setNew ?_ (by simp; omega) _)))).mono ?_
  rintro e w2 ⟨rfl, hg2⟩
  simp only [Hv.out]
  replace HB0 := Lib.hid (HB0.out.grow hg2)
  have q0 := HB0.out.cell 0 _ rfl
  have q1 := HB0.out.cell 1 _ rfl
  go_wp2_with fail
  refine (findItem_ok s.1 _ _ nm _ (Hs.out.grow (by repeat (first | with_reducible exact Ext.refl _ _ | with_reducible refine Ext.trans ?_ (by assumption) | with_reducible refine Ext.drew ?_ | with_reducible refine Ext.drewN ?_ _ | with_reducible refine Ext.alloc ?_ _ | with_reducible refine Ext.setNew ?_ (by simp; done) _ | with_reducible refine Ext.setNew ?_ (by simp; omega) _))) Hasc.out (by omega)).mono ?_
  rintro e w3 ⟨rfl, hg3⟩
  simp only [Hm.out]
  have hgw : Grow w w3 := (by repeat (first | with_reducible exact Ext.refl _ _ | with_reducible refine Ext.trans ?_ (by assumption) | with_reducible refine Ext.drew ?_ | with_reducible refine Ext.drewN ?_ _ | with_reducible refine Ext.alloc ?_ _ | with_reducible refine Ext.setNew ?_ (by simp; done) _ | with_reducible refine Ext.setNew ?_ (by simp; omega) _))
  clear q0 q1
  replace HB0 := Lib.hid (HB0.out.grow hg3)
  replace HB1 := Lib.hid ((HB1.out.grow hg2).grow hg3)
  have q0 := HB0.out.cell 0 _ rfl
  have q1 := HB0.out.cell 1 _ rfl
  obtain ⟨_, _, hks⟩ := (Hs.out).grow hgw
  rcases hks with hks | ⟨bk, ok, rfl, _, hkr⟩
  · exfalso; rw [hks] at hlb; simp at hlb
  obtain ⟨k, hk⟩ : ∃ k, k = lbound (nmL s.1) nm := ⟨_, rfl⟩
  rw [← hk] at k1 k0 ⊢
  have hkl : k < s.1.length := by rw [hk]; exact hlb
  obtain ⟨cs, hcs, hx⟩ := hkr k hkl
  obtain ⟨na0, nc0, ka0, kc0, rfl, hsz0, h0⟩ := itmRep_open hx
  rw [itmRep_n] at hcs
  have x0 : w3.cell? ⟨bk, ok + k * 7, none⟩ = _ := hcs 0 _ rfl
  have x1 := hcs 1 _ rfl
  have x2 := hcs 2 _ rfl
  have x3 := hcs 3 _ rfl
  have x4 := hcs 4 _ rfl
  have x5 := hcs 5 _ rfl
  have x6 := hcs 6 _ rfl
  have Hx := Lib.hid hx
  have Hgi2 : Hid (gtI s nm = s.1[k]) := Lib.hid (by rw [Hgi.out]; simp only [hk])
  have HB3 := Lib.hid HB1.out
  clear hkr hcs hx h0 hsz0 hk
  go_wp2_with fail
  refine (copyItem_ok s.1[k] _ _ (Hgood.out _ (List.getElem_mem hkl)) Hx.out).mono ?_
  rintro e w4 ⟨cs', fp, rfl, hg4, hF, hfr⟩
  obtain ⟨na2, nc2, ka2, kc2, rfl, _, _⟩ := itmRep_openF hF
  have HF := Lib.hid hF
  have Hfr := Lib.hid hfr
  have HB1 := Lib.hid (HB3.out.grow hg4)
  have z4 := hg4.size
  have z3 := HB3.out.lt
  clear hF hfr x0 x1 x2 x3 x4 x5 x6 q0 q1
  unfold itmL at *
  have r0 := HB1.out.cell 0 _ rfl
  have r1 := HB1.out.cell 1 _ rfl
  have r2 := HB1.out.cell 2 _ rfl
  have r3 := HB1.out.cell 3 _ rfl
  have r4 := HB1.out.cell 4 _ rfl
  have r5 := HB1.out.cell 5 _ rfl
  have r6 := HB1.out.cell 6 _ rfl
  have rf := HB1.out.fr
  have zr := HB1.out.lt
  go_wp2_with fail
  clear r0 r1 r2 r3 r4 r5 r6 rf
  have BF := ((((((HB1.out.set 0 (by simp) (.string s.1[k].1)).set 1 (by simp) (.int .i64 s.1[k].2.1)).set 2 (by simp) (.int .i64 s.1[k].2.2.kind)).set 3 (by simp) (.int .i64 s.1[k].2.2.num)).set 4 (by simp) (.string s.1[k].2.2.text)).set 5 (by simp) (.slice na2 s.1[k].2.2.names.length nc2)).set 6 (by simp) (.slice ka2 s.1[k].2.2.kids.length kc2)
  have s0 := BF.cell 0 _ rfl
  have s1 := BF.cell 1 _ rfl
  have s2 := BF.cell 2 _ rfl
  have s3 := BF.cell 3 _ rfl
  have s4 := BF.cell 4 _ rfl
  have s5 := BF.cell 5 _ rfl
  have s6 := BF.cell 6 _ rfl
  have he := st7_ext w4 (w.heap.size + 1) (.string s.1[k].1) (.int .i64 s.1[k].2.1) (.int .i64 s.1[k].2.2.kind) (.int .i64 s.1[k].2.2.num) (.string s.1[k].2.2.text) (.slice na2 s.1[k].2.2.names.length nc2) (.slice ka2 s.1[k].2.2.kids.length kc2)
  have hx2 : ∀ b ∈ fp, ¬ b = w.heap.size + 1 := fun b hb e => by have := (Hfr.out.2 b hb).1; omega
  have hfin : FV itmRep packA (st7 w4 (w.heap.size + 1) (.string s.1[k].1) (.int .i64 s.1[k].2.1) (.int .i64 s.1[k].2.2.kind) (.int .i64 s.1[k].2.2.num) (.string s.1[k].2.2.text) (.slice na2 s.1[k].2.2.names.length nc2) (.slice ka2 s.1[k].2.2.kids.length kc2)) (gtI s nm) (.agg #[.string s.1[k].1, .int .i64 s.1[k].2.1, .int .i64 s.1[k].2.2.kind, .int .i64 s.1[k].2.2.num, .string s.1[k].2.2.text, .slice na2 s.1[k].2.2.names.length nc2, .slice ka2 s.1[k].2.2.kids.length kc2]) fp := by
    rw [Hgi2.out]; exact ⟨_, rfl, itmRep.keep HF.out (he.keeps Hfr.out hx2)⟩
  refine bodyPost_ret (v := .tuple #[.agg #[.string s.1[k].1, .int .i64 s.1[k].2.1, .int .i64 s.1[k].2.2.kind, .int .i64 s.1[k].2.2.num, .string s.1[k].2.2.text, .slice na2 s.1[k].2.2.names.length nc2, .slice ka2 s.1[k].2.2.kids.length kc2], .bool true]) ?_ rfl ⟨_, fp, by rw [Hgb.out], Grow.inner (hgw.trans hg4) he (by intro i hi; have : i = w.heap.size + 1 := hi; omega), hfin, (Hfr.out.ext he hx2).mono (by have := hgw.size; omega)⟩
  simp [results, Try.results47, go_sem, s0, s1, s2, s3, s4, s5, s6]
end Go.Proofs.Ytmeobmegnneegaa
namespace Go.Proofs.Ytmeobmegnneegaa
open Go.RowKit
def itmV (x : Itm) (na : Option Addr) (nc : Nat) (ka : Option Addr) (kc : Nat) : Value := .agg #[.string x.1, .int .i64 x.2.1, .int .i64 x.2.2.kind, .int .i64 x.2.2.num, .string x.2.2.text, .slice na x.2.2.names.length nc, .slice ka x.2.2.kids.length kc]
theorem itm_openF {w : World} {x : Itm} {v : Value} {fp : List Nat} (h : FV itmRep packA w x v fp) : ∃ na nc ka kc, v = itmV x na nc ka kc ∧ x.1.size ≤ big ∧ NodeF w x.2.2 na nc ka kc fp := by
  obtain ⟨cs, rfl, _, _, f0, g0, rfl, rfl, ⟨rfl, h1, rfl⟩, _, _, f1, g1, rfl, rfl, ⟨rfl, rfl⟩, na, nc, ka, kc, rfl, h2⟩ := h
  exact ⟨na, nc, ka, kc, rfl, h1, by simpa using h2⟩
end Go.Proofs.Ytmeobmegnneegaa
-- EV: store
namespace Go.Proofs.Ytmeobmegnneegaa.Eng
open Go Go.RowKit
theorem item_to_rep {w : World} {S : Nat → Prop} {x : Itm} {v : Value} {fp : List Nat} (h : FV itmRep packA w x v fp) (hS : ∀ b ∈ fp, S b) : Rep w (pureC nil S none) (itemA x) v := by
  obtain ⟨na, nc, ka, kc, rfl, h1, h2⟩ := itm_openF h
  obtain ⟨r1, r2, r3⟩ := nodeC_to_rep x.2.2 na nc ka kc (h2.toC hS)
  unfold itemA itmV
  rw [itemL_eq]
  refine rep_agg.2 ⟨[_, _, _, _, _, _, _], rfl, ?_, repL7 (rep_str.2 ⟨rfl, h1⟩) (rep_int.2 rfl) (rep_int.2 rfl) (rep_int.2 rfl) r1 r2 r3⟩
  intro u hu
  simp only [List.mem_cons, List.not_mem_nil, or_false] at hu
  rcases hu with rfl | rfl | rfl | rfl | rfl | rfl | rfl <;> rfl
theorem GetItem_AC (s : Sto) (t : VC) (nm : ByteArray) : AC Try.prog 47 [storeT t s, .str nm] 0 (fun r => r = .tup [itemA (gtI s nm), .bool (gtB s nm)]) := by
  refine AC.ofNew (enters_of Try.func47 (by kernel_rfl) (by kernel_rfl)) (fun w L S rb vs h => ?_)
  obtain ⟨v, u, rfl, h1, h2⟩ := repL2_inv h
  obtain ⟨rfl, hs⟩ := rep_str.1 h2
  refine (implGetItem_ok s nm v w hs (store_of_rep h1)).mono ?_
  rintro e w' ⟨r, fp, rfl, hg, hF, hfr⟩
  exact ⟨_, _, rfl, hg, tup2_rep (item_to_rep hF (free_fresh hfr)) (rep_bool.2 rfl), rfl⟩
end Go.Proofs.Ytmeobmegnneegaa.Eng
namespace Go.Proofs.Ytmeobmegnneegaa.Eng
open Go Go.RowKit
attribute [local simp] big size_mk ASt.pay Option.map_map Function.comp_def awant aop acall ado aev ofVal ofVal0 ASt.put ASt.add ASt.turn ASt.kill abox aalloc astore aload ASt.at cellsTo afieldAddr afield aindexAddr aindex alen abin aint acmp astr aun apick aextract anil aslice abound abuild afill abuildSlice asCells aps avCells over upd aappend asrc amax amin aconv mkSt slots rowsOf_cons rowsOf_nil usedOf_cons usedOf_nil ZK.av List.replicate ASt.back ASt.addL ASt.killL nodeA nodeT nodeTL_eq nodeL_eq strsE_get strsE_len intsE_get intsE_len strsE_at intsE_at tab2 tab3 tab4 tab5 tab6 tab7 tab8 tab9 tab10 tab11 tab12 tab13 tab14 tab15 tab16 tab17 tab18 tab19 tab21 tab22 tab23 tab24 tab25 tab26 tab27 tab28 tab31 tab32 tab33 tab37 tab38 tab39 tab46 tab53 tab61 tab62 tab69 tab70 tab98 tab116 tab117 tab125 tab126 tab128 tab136 tab145 tab146 tab151 tab152 tab153 tab155 tab156 tab157
def nodeRR (n : Nd) (a b : Nat) : AV := .agg [.int .i64 n.kind, .int .i64 n.num, .str n.text, .own a n.names.length, .own b n.kids.length]
def namesR (xs : List ByteArray) : Row := ⟨false, 9, 1, strsE xs⟩
def nodesR (ks : List Nd) : Row := ⟨false, 39, 5, ks.map nodeL⟩
def zeroN : List AV := [.int .i64 0, .int .i64 0, .str ⟨#[]⟩, .view .tight 0 [], .view .tight 0 []]
def part (ks : List Nd) (i : Nat) : List (List AV) := (ks.take i).map nodeL ++ List.replicate (ks.length - i) zeroN
theorem part_len (ks : List Nd) (i : Nat) (h : i ≤ ks.length) : (part ks i).length = ks.length := by unfold part; simp; omega
theorem part_zero (ks : List Nd) : part ks 0 = List.replicate ks.length zeroN := by unfold part; simp
theorem part_all (ks : List Nd) : part ks ks.length = ks.map nodeL := by unfold part; simp
theorem part_get (ks : List Nd) (i : Nat) (h : i < ks.length) : (part ks i)[i]? = some [.int .i64 0, .int .i64 0, .str ⟨#[]⟩, .view .tight 0 [], .view .tight 0 []] := by
  unfold part
  have : ((ks.take i).map nodeL).length = i := by simp; omega
  rw [List.getElem?_append_right (by omega), this, Nat.sub_self, List.getElem?_replicate, if_pos (by omega)]
  rfl
theorem part_set (ks : List Nd) (i : Nat) (h : i < ks.length) : (part ks i).set i (nodeL ks[i]) = part ks (i + 1) := by
  unfold part
  have hl : ((ks.take i).map nodeL).length = i := by simp; omega
  rw [List.set_append_right _ _ (by omega), hl, Nat.sub_self, List.take_add_one, List.getElem?_eq_getElem h]
  have : ks.length - i = (ks.length - (i + 1)) + 1 := by omega
  rw [this, List.replicate_succ, List.set_cons_zero, List.map_append, List.append_assoc]
  rfl
theorem part_in {U : Nat → Bool} (ks : List Nd) (i : Nat) : ∀ e ∈ part ks i, ∀ c ∈ e, AV.In U c := by
  intro e he c hc
  unfold part at he
  rcases List.mem_append.1 he with he | he
  · exact nodesE_in (ks.take i) e he c hc
  · rw [List.eq_of_mem_replicate he] at hc
    simp only [zeroN, List.mem_cons, List.not_mem_nil, or_false] at hc
    rcases hc with rfl | rfl | rfl | rfl | rfl
    · exact in_int
    · exact in_int
    · exact in_str
    · exact in_vnil
    · exact in_vnil
theorem implCopy_step (n : Nd) (hs : Sml n) (ih : ∀ k ∈ n.kids, AC Try.prog 81 [nodeA k] 0 (fun r => r = nodeA k)) : ACG Try.prog 81 [nodeA n] [] 0 (fun r l => r = nodeRR n 20 34 ∧ l = [(20, namesR n.names), (34, nodesR n.kids)]) := by
  have hs1 := hs.names
  have hs2 := hs.kids
  unfold nodeA
  rw [nodeL_eq]
  refine ACG.of tab_ok mixed_ok Try.func81 (by rfl) (by kernel_rfl) (by simp) ?_; rintro ⟨P, T, hT, hm, w0, S0, rd0, k0⟩ hP hTT; dsimp only at hP hTT; subst hP hTT; unfold initStG; rw [Try.ntmps81]
  refine AW.seq ?_
  (refine AW.regionK [] (fun K hK => ?_); (repeat (refine arun_ks 4 rfl (fun C hC => ?_); (repeat ((conv => whnf); simp)); refine hC _ ?_; clear hC C; simp only [List.drop_succ_cons, List.drop_zero, List.drop_nil])); refine arun_nil ?_; refine hK _ ?_; clear hK K; simp only [thenA_normal, inBlockA_normal, endQ_normal, endR_normal])
  refine AW.seq ?_
  (refine AW.regionK [] (fun K hK => ?_); (repeat (refine arun_ks 4 rfl (fun C hC => ?_); (repeat ((conv => whnf); simp)); refine hC _ ?_; clear hC C; simp only [List.drop_succ_cons, List.drop_zero, List.drop_nil])); refine arun_nil ?_; refine hK _ ?_; clear hK K; simp only [thenA_normal, inBlockA_normal, endQ_normal, endR_normal])
  refine AW.seq ?_
  refine AW.cutN (fun (_ : Unit) => mkSt (slots 0 52 [(1, .ptr true 5 1 1 0 0), (2, .ptr true 5 1 2 0 0), (3, .ptr true 5 1 3 0 0)]) [(1, ⟨true, 39, 5, [[.int .i64 n.kind, .int .i64 n.num, .str n.text, .view .loose 1 (strsE n.names), .view .loose 5 (n.kids.map nodeL)]]⟩), (2, ⟨true, 39, 5, [zeroN]⟩), (3, ⟨true, 39, 5, [[.int .i64 n.kind, .int .i64 n.num, .str n.text, .own 20 n.names.length, .view .tight 0 []]]⟩), (20, namesR n.names)] [1, 2, 3, 20] (rd0.map fun _ => 0)) (fun _ => True) ?_ ?_
  · by_cases hn0 : 0 < n.names.length
    · (repeat (first | with_reducible refine AW.seq ?_ | ((first | refine arun_kn 4 rfl (fun C hC => ?_) | refine arunD_kn 4 rfl (fun C hC => ?_)); (repeat ((conv => whnf); simp [hn0])); refine hC _ ?_; clear hC C; simp only [List.drop, Nat.reduceAdd]) | ((first | refine arun_kn 1 rfl (fun C hC => ?_) | refine arunD_kn 1 rfl (fun C hC => ?_)); (repeat ((conv => whnf); simp [hn0])); refine hC _ ?_; clear hC C; simp only [List.drop, Nat.reduceAdd]) | (refine arun_skip ?_ ?_; (focus (simp [awant, hn0]; done))) | (refine AW.regionK [] (fun K hK => ?_)) | (refine AW.regionDK [] (pcs [] []) (by kernel_rfl) (by kernel_rfl) (fun K hK => ?_)) | (refine AW.condT ?_ ?_; (focus (simp [aev, hn0]; done))) | (refine AW.condF ?_ ?_; (focus (simp [aev, hn0]; done))) | with_reducible refine AW.block ?_ | ((first | ((first | refine arun_nil ?_ | refine arunD_nil ?_); refine hK _ ?_; clear hK K) | refine AW.skip ?_ | refine AW.exit ?_ | refine AW.ret ?_); simp only [thenA_exit, inBlockA_exit, if_true, if_false, Nat.reduceEqDiff, thenA_normal, inBlockA_normal, reduceIte, thenA_ret, inBlockA_ret, endQ_ret, endR_ret, endG_ret, endQ_normal, endR_normal, endG_normal])))
      refine arun_make 20 rfl (by simp [awant]) rfl tab25 tab9 (by decide) rfl (by dsimp only; omega) (by unfold maxLen; omega) (by simp [upd]) ?_
      (repeat (first | with_reducible refine AW.seq ?_ | ((first | refine arun_kn 4 rfl (fun C hC => ?_) | refine arunD_kn 4 rfl (fun C hC => ?_)); (repeat ((conv => whnf); simp [hn0])); refine hC _ ?_; clear hC C; simp only [List.drop, Nat.reduceAdd]) | ((first | refine arun_kn 1 rfl (fun C hC => ?_) | refine arunD_kn 1 rfl (fun C hC => ?_)); (repeat ((conv => whnf); simp [hn0])); refine hC _ ?_; clear hC C; simp only [List.drop, Nat.reduceAdd]) | (refine arun_skip ?_ ?_; (focus (simp [awant, hn0]; done))) | (refine AW.regionK [] (fun K hK => ?_)) | (refine AW.regionDK [] (pcs [] []) (by kernel_rfl) (by kernel_rfl) (fun K hK => ?_)) | (refine AW.condT ?_ ?_; (focus (simp [aev, hn0]; done))) | (refine AW.condF ?_ ?_; (focus (simp [aev, hn0]; done))) | with_reducible refine AW.block ?_ | ((first | ((first | refine arun_nil ?_ | refine arunD_nil ?_); refine hK _ ?_; clear hK K) | refine AW.skip ?_ | refine AW.exit ?_ | refine AW.ret ?_); simp only [thenA_exit, inBlockA_exit, if_true, if_false, Nat.reduceEqDiff, thenA_normal, inBlockA_normal, reduceIte, thenA_ret, inBlockA_ret, endQ_ret, endR_ret, endG_ret, endQ_normal, endR_normal, endG_normal])))
      refine arun_copyAll (r := ⟨false, 9, 1, List.replicate n.names.length [AV.str ⟨#[]⟩]⟩) rfl (by simp [awant]) rfl (by simp [upd]) rfl rfl List.length_replicate rfl (strsE_len _) tab25 tab9 rfl ?_
      (repeat (first | with_reducible refine AW.seq ?_ | ((first | refine arun_kn 4 rfl (fun C hC => ?_) | refine arunD_kn 4 rfl (fun C hC => ?_)); (repeat ((conv => whnf); simp [hn0])); refine hC _ ?_; clear hC C; simp only [List.drop, Nat.reduceAdd]) | ((first | refine arun_kn 1 rfl (fun C hC => ?_) | refine arunD_kn 1 rfl (fun C hC => ?_)); (repeat ((conv => whnf); simp [hn0])); refine hC _ ?_; clear hC C; simp only [List.drop, Nat.reduceAdd]) | (refine arun_skip ?_ ?_; (focus (simp [awant, hn0]; done))) | (refine AW.regionK [] (fun K hK => ?_)) | (refine AW.regionDK [] (pcs [] []) (by kernel_rfl) (by kernel_rfl) (fun K hK => ?_)) | (refine AW.condT ?_ ?_; (focus (simp [aev, hn0]; done))) | (refine AW.condF ?_ ?_; (focus (simp [aev, hn0]; done))) | with_reducible refine AW.block ?_ | ((first | ((first | refine arun_nil ?_ | refine arunD_nil ?_); refine hK _ ?_; clear hK K) | refine AW.skip ?_ | refine AW.exit ?_ | refine AW.ret ?_); simp only [thenA_exit, inBlockA_exit, if_true, if_false, Nat.reduceEqDiff, thenA_normal, inBlockA_normal, reduceIte, thenA_ret, inBlockA_ret, endQ_ret, endR_ret, endG_ret, endQ_normal, endR_normal, endG_normal])))
      exact ⟨(), trivial, (less_of (by simp [lessL, mkSt, slots, namesR, zeroN]) (by simp [upd, mkSt, rowsOf_cons, namesR, zeroN]) (by simp [upd, mkSt, usedOf_cons, namesR, zeroN]) (by first | exact rd_less (by omega) | simp [mkSt, namesR, zeroN]) (by simp [slots, in_any, in_int, in_bool, in_str, in_ptr, in_own, in_agg, in_vnil, in_rdr, usedOf_cons, usedOf_nil, strs_in, ints_in, nodes_in, in_tup, namesR, zeroN]) (by simp only [List.forall_mem_cons, List.not_mem_nil, false_implies, implies_true, and_true, true_and, namesR, zeroN]; (repeat (first | with_reducible exact trivial | with_reducible refine And.intro ?_ ?_ | with_reducible exact in_int | with_reducible exact in_str | with_reducible exact in_bool | with_reducible exact strs_in _ | with_reducible exact nodes_in _ | with_reducible exact items_in _ | with_reducible exact in_vnil | with_reducible exact in_any | exact hin _ | with_reducible refine take_in ?_ | with_reducible exact strsE_in _ | with_reducible exact nodesE_in _ | with_reducible exact nodeL_in _ | with_reducible exact itemsE_in _ | with_reducible exact itemL_in _ | with_reducible refine app_in ?_ ?_ | with_reducible refine sing_in ?_ | (focus (simp [in_any, in_int, in_bool, in_str, in_ptr, in_own, in_agg, in_vnil, in_rdr, usedOf_cons, usedOf_nil, strs_in, ints_in, nodes_in, namesR, zeroN]; done)))); done))⟩
    · have hl0 : n.names.length = 0 := by omega
      have he0 : n.names = [] := List.length_eq_zero_iff.1 hl0
      refine AW.adoptB 3 3 20 9 1 ⟨_, tab9, rfl⟩ (by simp [upd]; rfl) rfl rfl (by simp [upd]) ?_
      simp only [ASt.adoptB]
      (repeat (first | with_reducible refine AW.seq ?_ | ((first | refine arun_kn 4 rfl (fun C hC => ?_) | refine arunD_kn 4 rfl (fun C hC => ?_)); (repeat ((conv => whnf); simp [hl0])); refine hC _ ?_; clear hC C; simp only [List.drop, Nat.reduceAdd]) | ((first | refine arun_kn 1 rfl (fun C hC => ?_) | refine arunD_kn 1 rfl (fun C hC => ?_)); (repeat ((conv => whnf); simp [hl0])); refine hC _ ?_; clear hC C; simp only [List.drop, Nat.reduceAdd]) | (refine arun_skip ?_ ?_; (focus (simp [awant, hl0]; done))) | (refine AW.regionK [] (fun K hK => ?_)) | (refine AW.regionDK [] (pcs [] []) (by kernel_rfl) (by kernel_rfl) (fun K hK => ?_)) | (refine AW.condT ?_ ?_; (focus (simp [aev, hl0]; done))) | (refine AW.condF ?_ ?_; (focus (simp [aev, hl0]; done))) | with_reducible refine AW.block ?_ | ((first | ((first | refine arun_nil ?_ | refine arunD_nil ?_); refine hK _ ?_; clear hK K) | refine AW.skip ?_ | refine AW.exit ?_ | refine AW.ret ?_); simp only [thenA_exit, inBlockA_exit, if_true, if_false, Nat.reduceEqDiff, thenA_normal, inBlockA_normal, reduceIte, thenA_ret, inBlockA_ret, endQ_ret, endR_ret, endG_ret, endQ_normal, endR_normal, endG_normal])))
      exact ⟨(), trivial, (less_of (by simp [lessL, mkSt, slots, namesR, zeroN, he0, strsE]) (by simp [upd, mkSt, rowsOf_cons, namesR, zeroN, he0, strsE]) (by simp [upd, mkSt, usedOf_cons, namesR, zeroN, he0, strsE]) (by first | exact rd_less (by omega) | simp [mkSt, namesR, zeroN, he0, strsE]) (by simp [slots, in_any, in_int, in_bool, in_str, in_ptr, in_own, in_agg, in_vnil, in_rdr, usedOf_cons, usedOf_nil, strs_in, ints_in, nodes_in, in_tup, namesR, zeroN, he0, strsE]) (by simp only [List.forall_mem_cons, List.not_mem_nil, false_implies, implies_true, and_true, true_and, namesR, zeroN, he0, strsE]; (repeat (first | with_reducible exact trivial | with_reducible refine And.intro ?_ ?_ | with_reducible exact in_int | with_reducible exact in_str | with_reducible exact in_bool | with_reducible exact strs_in _ | with_reducible exact nodes_in _ | with_reducible exact items_in _ | with_reducible exact in_vnil | with_reducible exact in_any | exact hin _ | with_reducible refine take_in ?_ | with_reducible exact strsE_in _ | with_reducible exact nodesE_in _ | with_reducible exact nodeL_in _ | with_reducible exact itemsE_in _ | with_reducible exact itemL_in _ | with_reducible refine app_in ?_ ?_ | with_reducible refine sing_in ?_ | (focus (simp [in_any, in_int, in_bool, in_str, in_ptr, in_own, in_agg, in_vnil, in_rdr, usedOf_cons, usedOf_nil, strs_in, ints_in, nodes_in, namesR, zeroN, he0, strsE]; done)))); done))⟩
  rintro ⟨⟩ s' - hls
  refine AW.less _ hls ?_
  clear hls s'
  refine AW.seq ?_
  refine AW.cutN (fun (_ : Unit) => mkSt (slots 0 52 [(2, .ptr true 5 1 2 0 0), (3, .ptr true 5 1 3 0 0)]) [(2, ⟨true, 39, 5, [zeroN]⟩), (3, ⟨true, 39, 5, [[.int .i64 n.kind, .int .i64 n.num, .str n.text, .own 20 n.names.length, .own 34 n.kids.length]]⟩), (20, namesR n.names), (34, nodesR n.kids)] [2, 3, 20, 34] (rd0.map fun _ => 0)) (fun _ => True) ?_ ?_
  · by_cases hn0 : 0 < n.kids.length
    · (repeat (first | with_reducible refine AW.seq ?_ | ((first | refine arun_kn 4 rfl (fun C hC => ?_) | refine arunD_kn 4 rfl (fun C hC => ?_)); (repeat ((conv => whnf); simp [hn0])); refine hC _ ?_; clear hC C; simp only [List.drop, Nat.reduceAdd]) | ((first | refine arun_kn 1 rfl (fun C hC => ?_) | refine arunD_kn 1 rfl (fun C hC => ?_)); (repeat ((conv => whnf); simp [hn0])); refine hC _ ?_; clear hC C; simp only [List.drop, Nat.reduceAdd]) | (refine arun_skip ?_ ?_; (focus (simp [awant, hn0]; done))) | (refine AW.regionK [] (fun K hK => ?_)) | (refine AW.regionDK [] (pcs [] []) (by kernel_rfl) (by kernel_rfl) (fun K hK => ?_)) | (refine AW.condT ?_ ?_; (focus (simp [aev, hn0]; done))) | (refine AW.condF ?_ ?_; (focus (simp [aev, hn0]; done))) | with_reducible refine AW.block ?_ | ((first | ((first | refine arun_nil ?_ | refine arunD_nil ?_); refine hK _ ?_; clear hK K) | refine AW.skip ?_ | refine AW.exit ?_ | refine AW.ret ?_); simp only [thenA_exit, inBlockA_exit, if_true, if_false, Nat.reduceEqDiff, thenA_normal, inBlockA_normal, reduceIte, thenA_ret, inBlockA_ret, endQ_ret, endR_ret, endG_ret, endQ_normal, endR_normal, endG_normal])))
      refine arun_make 34 rfl (by simp [awant]) rfl tab37 tab39 (by decide) rfl (by dsimp only; omega) (by unfold maxLen; omega) (by simp [upd]) ?_
      (repeat (first | with_reducible refine AW.seq ?_ | ((first | refine arun_kn 4 rfl (fun C hC => ?_) | refine arunD_kn 4 rfl (fun C hC => ?_)); (repeat ((conv => whnf); simp [hn0])); refine hC _ ?_; clear hC C; simp only [List.drop, Nat.reduceAdd]) | ((first | refine arun_kn 1 rfl (fun C hC => ?_) | refine arunD_kn 1 rfl (fun C hC => ?_)); (repeat ((conv => whnf); simp [hn0])); refine hC _ ?_; clear hC C; simp only [List.drop, Nat.reduceAdd]) | (refine arun_skip ?_ ?_; (focus (simp [awant, hn0]; done))) | (refine AW.regionK [] (fun K hK => ?_)) | (refine AW.regionDK [] (pcs [] []) (by kernel_rfl) (by kernel_rfl) (fun K hK => ?_)) | (refine AW.condT ?_ ?_; (focus (simp [aev, hn0]; done))) | (refine AW.condF ?_ ?_; (focus (simp [aev, hn0]; done))) | with_reducible refine AW.block ?_ | ((first | ((first | refine arun_nil ?_ | refine arunD_nil ?_); refine hK _ ?_; clear hK K) | refine AW.skip ?_ | refine AW.exit ?_ | refine AW.ret ?_); simp only [thenA_exit, inBlockA_exit, if_true, if_false, Nat.reduceEqDiff, thenA_normal, inBlockA_normal, reduceIte, thenA_ret, inBlockA_ret, endQ_ret, endR_ret, endG_ret, endQ_normal, endR_normal, endG_normal])))
      refine AW.loopS (fun (i : Nat) => mkSt (slots 0 52 [(1, .ptr true 5 1 1 0 0), (2, .ptr true 5 1 2 0 0), (3, .ptr true 5 1 3 0 0), (37, .view .loose 5 (n.kids.map nodeL)), (38, .int .i64 n.kids.length), (39, .int .i64 i)]) [(1, ⟨true, 39, 5, [[.int .i64 n.kind, .int .i64 n.num, .str n.text, .view .loose 1 (strsE n.names), .view .loose 5 (n.kids.map nodeL)]]⟩), (2, ⟨true, 39, 5, [zeroN]⟩), (3, ⟨true, 39, 5, [[.int .i64 n.kind, .int .i64 n.num, .str n.text, .own 20 n.names.length, .own 34 n.kids.length]]⟩), (20, namesR n.names), (34, ⟨false, 39, 5, part n.kids i⟩)] [1, 2, 3, 20, 34] (rd0.map fun _ => 0)) (fun i => n.kids.length - i) (fun i => i ≤ n.kids.length) 0 ?_ (Nat.zero_le _) ?_
      · have hin : ∀ U : Nat → Bool, ∀ e ∈ part n.kids 0, ∀ c ∈ e, AV.In U c := fun U => part_in _ _
        rw [part_zero] at hin ⊢
        exact (less_of (by simp [lessL, mkSt, slots, namesR, zeroN]) (by simp [upd, mkSt, rowsOf_cons, namesR, zeroN]) (by simp [upd, mkSt, usedOf_cons, namesR, zeroN]) (by first | exact rd_less (by omega) | simp [mkSt, namesR, zeroN]) (by simp [slots, in_any, in_int, in_bool, in_str, in_ptr, in_own, in_agg, in_vnil, in_rdr, usedOf_cons, usedOf_nil, strs_in, ints_in, nodes_in, in_tup, namesR, zeroN]) (by simp only [List.forall_mem_cons, List.not_mem_nil, false_implies, implies_true, and_true, true_and, namesR, zeroN]; (repeat (first | with_reducible exact trivial | with_reducible refine And.intro ?_ ?_ | with_reducible exact in_int | with_reducible exact in_str | with_reducible exact in_bool | with_reducible exact strs_in _ | with_reducible exact nodes_in _ | with_reducible exact items_in _ | with_reducible exact in_vnil | with_reducible exact in_any | exact hin _ | with_reducible refine take_in ?_ | with_reducible exact strsE_in _ | with_reducible exact nodesE_in _ | with_reducible exact nodeL_in _ | with_reducible exact itemsE_in _ | with_reducible exact itemL_in _ | with_reducible refine app_in ?_ ?_ | with_reducible refine sing_in ?_ | (focus (simp [in_any, in_int, in_bool, in_str, in_ptr, in_own, in_agg, in_vnil, in_rdr, usedOf_cons, usedOf_nil, strs_in, ints_in, nodes_in, namesR, zeroN]; done)))); done))
      · intro i hi
        have hpl := part_len n.kids i hi
        by_cases hlt : i < n.kids.length
        · have hw : IntKind.i64.wrap ((i : Int) + 1) = (i : Int) + 1 := i64_nat (by omega) (by omega)
          have hg := part_get n.kids i hlt
          have hgd : ∀ h, (part n.kids i)[i]'h = [.int .i64 0, .int .i64 0, .str ⟨#[]⟩, .view .tight 0 [], .view .tight 0 []] := fun h => by
            rw [List.getElem?_eq_getElem h] at hg; exact Option.some.inj hg
          have hset := part_set n.kids i hlt
          rw [nodeL_eq] at hset
          have hin : ∀ U : Nat → Bool, ∀ e ∈ part n.kids (i + 1), ∀ c ∈ e, AV.In U c := fun U => part_in _ _
          (repeat (first | with_reducible refine AW.seq ?_ | ((first | refine arun_kn 4 rfl (fun C hC => ?_) | refine arunD_kn 4 rfl (fun C hC => ?_)); (repeat ((conv => whnf); simp [hlt, hw, hpl, hg, hgd])); refine hC _ ?_; clear hC C; simp only [List.drop, Nat.reduceAdd]) | ((first | refine arun_kn 1 rfl (fun C hC => ?_) | refine arunD_kn 1 rfl (fun C hC => ?_)); (repeat ((conv => whnf); simp [hlt, hw, hpl, hg, hgd])); refine hC _ ?_; clear hC C; simp only [List.drop, Nat.reduceAdd]) | (refine arun_skip ?_ ?_; (focus (simp [awant, hlt, hw, hpl, hg, hgd]; done))) | (refine arun_c0 (ih n.kids[i] (List.getElem_mem hlt)) ?_; rintro _ rfl) | (refine arunD_c (0) (ih n.kids[i] (List.getElem_mem hlt)) ?_; rintro _ rfl; intro _) | (refine AW.regionK [] (fun K hK => ?_)) | (refine AW.regionDK [] (pcs [(4, 0, fun r => r = nodeA n.kids[i])] []) (by kernel_rfl) (by kernel_rfl) (fun K hK => ?_)) | (refine AW.condT ?_ ?_; (focus (simp [aev, hlt, hw, hpl, hg, hgd]; done))) | (refine AW.condF ?_ ?_; (focus (simp [aev, hlt, hw, hpl, hg, hgd]; done))) | with_reducible refine AW.block ?_ | ((first | ((first | refine arun_nil ?_ | refine arunD_nil ?_); refine hK _ ?_; clear hK K) | refine AW.skip ?_ | refine AW.exit ?_ | refine AW.ret ?_); simp only [thenA_exit, inBlockA_exit, if_true, if_false, Nat.reduceEqDiff, thenA_normal, inBlockA_normal, reduceIte, thenA_ret, inBlockA_ret, endQ_ret, endR_ret, endG_ret, endQ_normal, endR_normal, endG_normal])))
          refine ⟨i + 1, by omega, by omega, ?_⟩
          exact (less_of (by simp [lessL, mkSt, slots, namesR, zeroN, hset]) (by simp [upd, mkSt, rowsOf_cons, namesR, zeroN, hset]) (by simp [upd, mkSt, usedOf_cons, namesR, zeroN, hset]) (by first | exact rd_less (by omega) | simp [mkSt, namesR, zeroN, hset]) (by simp [slots, in_any, in_int, in_bool, in_str, in_ptr, in_own, in_agg, in_vnil, in_rdr, usedOf_cons, usedOf_nil, strs_in, ints_in, nodes_in, in_tup, namesR, zeroN, hset]) (by simp only [List.forall_mem_cons, List.not_mem_nil, false_implies, implies_true, and_true, true_and, namesR, zeroN, hset]; (repeat (first | with_reducible exact trivial | with_reducible refine And.intro ?_ ?_ | with_reducible exact in_int | with_reducible exact in_str | with_reducible exact in_bool | with_reducible exact strs_in _ | with_reducible exact nodes_in _ | with_reducible exact items_in _ | with_reducible exact in_vnil | with_reducible exact in_any | exact hin _ | with_reducible refine take_in ?_ | with_reducible exact strsE_in _ | with_reducible exact nodesE_in _ | with_reducible exact nodeL_in _ | with_reducible exact itemsE_in _ | with_reducible exact itemL_in _ | with_reducible refine app_in ?_ ?_ | with_reducible refine sing_in ?_ | (focus (simp [in_any, in_int, in_bool, in_str, in_ptr, in_own, in_agg, in_vnil, in_rdr, usedOf_cons, usedOf_nil, strs_in, ints_in, nodes_in, namesR, zeroN, hset]; done)))); done))
        · obtain rfl : i = n.kids.length := by omega
          (repeat (first | with_reducible refine AW.seq ?_ | ((first | refine arun_kn 4 rfl (fun C hC => ?_) | refine arunD_kn 4 rfl (fun C hC => ?_)); (repeat ((conv => whnf); simp)); refine hC _ ?_; clear hC C; simp only [List.drop, Nat.reduceAdd]) | ((first | refine arun_kn 1 rfl (fun C hC => ?_) | refine arunD_kn 1 rfl (fun C hC => ?_)); (repeat ((conv => whnf); simp)); refine hC _ ?_; clear hC C; simp only [List.drop, Nat.reduceAdd]) | (refine arun_skip ?_ ?_; (focus (simp [awant]; done))) | (refine AW.regionK [] (fun K hK => ?_)) | (refine AW.regionDK [] (pcs [] []) (by kernel_rfl) (by kernel_rfl) (fun K hK => ?_)) | (refine AW.condT ?_ ?_; (focus (simp [aev]; done))) | (refine AW.condF ?_ ?_; (focus (simp [aev]; done))) | with_reducible refine AW.block ?_ | ((first | ((first | refine arun_nil ?_ | refine arunD_nil ?_); refine hK _ ?_; clear hK K) | refine AW.skip ?_ | refine AW.exit ?_ | refine AW.ret ?_); simp only [thenA_exit, inBlockA_exit, if_true, if_false, Nat.reduceEqDiff, thenA_normal, inBlockA_normal, reduceIte, thenA_ret, inBlockA_ret, endQ_ret, endR_ret, endG_ret, endQ_normal, endR_normal, endG_normal])))
          refine ⟨(), trivial, ?_⟩
          rw [part_all]
          exact (less_of (by simp [lessL, mkSt, slots, namesR, nodesR, zeroN]) (by simp [upd, mkSt, rowsOf_cons, namesR, nodesR, zeroN]) (by simp [upd, mkSt, usedOf_cons, namesR, nodesR, zeroN]) (by first | exact rd_less (by omega) | simp [mkSt, namesR, nodesR, zeroN]) (by simp [slots, in_any, in_int, in_bool, in_str, in_ptr, in_own, in_agg, in_vnil, in_rdr, usedOf_cons, usedOf_nil, strs_in, ints_in, nodes_in, in_tup, namesR, nodesR, zeroN]) (by simp only [List.forall_mem_cons, List.not_mem_nil, false_implies, implies_true, and_true, true_and, namesR, nodesR, zeroN]; (repeat (first | with_reducible exact trivial | with_reducible refine And.intro ?_ ?_ | with_reducible exact in_int | with_reducible exact in_str | with_reducible exact in_bool | with_reducible exact strs_in _ | with_reducible exact nodes_in _ | with_reducible exact items_in _ | with_reducible exact in_vnil | with_reducible exact in_any | exact hin _ | with_reducible refine take_in ?_ | with_reducible exact strsE_in _ | with_reducible exact nodesE_in _ | with_reducible exact nodeL_in _ | with_reducible exact itemsE_in _ | with_reducible exact itemL_in _ | with_reducible refine app_in ?_ ?_ | with_reducible refine sing_in ?_ | (focus (simp [in_any, in_int, in_bool, in_str, in_ptr, in_own, in_agg, in_vnil, in_rdr, usedOf_cons, usedOf_nil, strs_in, ints_in, nodes_in, namesR, nodesR, zeroN]; done)))); done))
    · have hl0 : n.kids.length = 0 := by omega
      have he0 : n.kids = [] := List.length_eq_zero_iff.1 hl0
      refine AW.adoptB 3 4 34 39 5 ⟨_, tab39, rfl⟩ (by simp [mkSt, rowsOf_cons]; rfl) rfl rfl (by simp [mkSt, usedOf_cons, usedOf_nil]) ?_
      simp only [ASt.adoptB]
      (repeat (first | with_reducible refine AW.seq ?_ | ((first | refine arun_kn 4 rfl (fun C hC => ?_) | refine arunD_kn 4 rfl (fun C hC => ?_)); (repeat ((conv => whnf); simp [hl0])); refine hC _ ?_; clear hC C; simp only [List.drop, Nat.reduceAdd]) | ((first | refine arun_kn 1 rfl (fun C hC => ?_) | refine arunD_kn 1 rfl (fun C hC => ?_)); (repeat ((conv => whnf); simp [hl0])); refine hC _ ?_; clear hC C; simp only [List.drop, Nat.reduceAdd]) | (refine arun_skip ?_ ?_; (focus (simp [awant, hl0]; done))) | (refine AW.regionK [] (fun K hK => ?_)) | (refine AW.regionDK [] (pcs [] []) (by kernel_rfl) (by kernel_rfl) (fun K hK => ?_)) | (refine AW.condT ?_ ?_; (focus (simp [aev, hl0]; done))) | (refine AW.condF ?_ ?_; (focus (simp [aev, hl0]; done))) | with_reducible refine AW.block ?_ | ((first | ((first | refine arun_nil ?_ | refine arunD_nil ?_); refine hK _ ?_; clear hK K) | refine AW.skip ?_ | refine AW.exit ?_ | refine AW.ret ?_); simp only [thenA_exit, inBlockA_exit, if_true, if_false, Nat.reduceEqDiff, thenA_normal, inBlockA_normal, reduceIte, thenA_ret, inBlockA_ret, endQ_ret, endR_ret, endG_ret, endQ_normal, endR_normal, endG_normal])))
      exact ⟨(), trivial, (less_of (by simp [lessL, mkSt, slots, namesR, nodesR, zeroN, he0]) (by simp [upd, mkSt, rowsOf_cons, namesR, nodesR, zeroN, he0]) (by simp [upd, mkSt, usedOf_cons, namesR, nodesR, zeroN, he0]) (by first | exact rd_less (by omega) | simp [mkSt, namesR, nodesR, zeroN, he0]) (by simp [slots, in_any, in_int, in_bool, in_str, in_ptr, in_own, in_agg, in_vnil, in_rdr, usedOf_cons, usedOf_nil, strs_in, ints_in, nodes_in, in_tup, namesR, nodesR, zeroN, he0]) (by simp only [List.forall_mem_cons, List.not_mem_nil, false_implies, implies_true, and_true, true_and, namesR, nodesR, zeroN, he0]; (repeat (first | with_reducible exact trivial | with_reducible refine And.intro ?_ ?_ | with_reducible exact in_int | with_reducible exact in_str | with_reducible exact in_bool | with_reducible exact strs_in _ | with_reducible exact nodes_in _ | with_reducible exact items_in _ | with_reducible exact in_vnil | with_reducible exact in_any | exact hin _ | with_reducible refine take_in ?_ | with_reducible exact strsE_in _ | with_reducible exact nodesE_in _ | with_reducible exact nodeL_in _ | with_reducible exact itemsE_in _ | with_reducible exact itemL_in _ | with_reducible refine app_in ?_ ?_ | with_reducible refine sing_in ?_ | (focus (simp [in_any, in_int, in_bool, in_str, in_ptr, in_own, in_agg, in_vnil, in_rdr, usedOf_cons, usedOf_nil, strs_in, ints_in, nodes_in, namesR, nodesR, zeroN, he0]; done)))); done))⟩
  rintro ⟨⟩ s' - hls
  refine AW.less _ hls ?_
  clear hls s'
  (repeat (first | with_reducible refine AW.seq ?_ | ((first | refine arun_kn 4 rfl (fun C hC => ?_) | refine arunD_kn 4 rfl (fun C hC => ?_)); (repeat ((conv => whnf); simp [zeroN])); refine hC _ ?_; clear hC C; simp only [List.drop, Nat.reduceAdd]) | ((first | refine arun_kn 1 rfl (fun C hC => ?_) | refine arunD_kn 1 rfl (fun C hC => ?_)); (repeat ((conv => whnf); simp [zeroN])); refine hC _ ?_; clear hC C; simp only [List.drop, Nat.reduceAdd]) | (refine arun_skip ?_ ?_; (focus (simp [awant, zeroN]; done))) | (refine AW.regionK [] (fun K hK => ?_)) | (refine AW.regionDK [] (pcs [] []) (by kernel_rfl) (by kernel_rfl) (fun K hK => ?_)) | (refine AW.condT ?_ ?_; (focus (simp [aev, zeroN]; done))) | (refine AW.condF ?_ ?_; (focus (simp [aev, zeroN]; done))) | with_reducible refine AW.block ?_ | ((first | ((first | refine arun_nil ?_ | refine arunD_nil ?_); refine hK _ ?_; clear hK K) | refine AW.skip ?_ | refine AW.exit ?_ | refine AW.ret ?_); simp only [thenA_exit, inBlockA_exit, if_true, if_false, Nat.reduceEqDiff, thenA_normal, inBlockA_normal, reduceIte, thenA_ret, inBlockA_ret, endQ_ret, endR_ret, endG_ret, endQ_normal, endR_normal, endG_normal])))
  refine ⟨nodeRR n 20 34, [(20, namesR n.names), (34, nodesR n.kids)], by simp [ares, aresL, upd, rowsOf_cons, nodeRR], by simp [mkSt, rowsOf_cons], ?_, ?_, ?_, rfl, rfl⟩
  · refine purR_agg ?_
    simp only [List.forall_mem_cons, List.not_mem_nil, false_implies, implies_true, and_true]
    exact ⟨pur_int.purR, pur_int.purR, pur_str.purR, purR_own, purR_own⟩
  · simp only [List.forall_mem_cons, List.not_mem_nil, false_implies, implies_true, and_true]
    exact ⟨fun e he c hc => (strsE_pur _ e he c hc).purR, fun e he c hc => (nodesE_pur _ e he c hc).purR⟩
  · refine ⟨by simp [nodeRR, in_agg, in_int, in_str, in_own, rowsOf_cons], ?_⟩
    simp only [List.forall_mem_cons, List.not_mem_nil, false_implies, implies_true, and_true]
    exact ⟨fun e he c hc => strsE_in _ e he c hc, fun e he c hc => nodesE_in _ e he c hc⟩
theorem sml_ind {p : Nd → Prop} (h : ∀ n, Sml n → (∀ k ∈ n.kids, p k) → p n) : ∀ n, Sml n → p n := Nd.ind' _ (fun n ih hs => h n hs (fun k hk => ih k hk (hs.kid hk)))
theorem implCopy_hd {l : List (Nat × Row)} {n : Nd} (h : l = [(20, namesR n.names), (34, nodesR n.kids)]) : Hd l (nodeRR n 20 34) (nodeA n) := by
  subst h
  refine .base ?_
  unfold nodeRR nodeA
  rw [nodeL_eq]
  refine .agg (.cons (.pur pur_int) (.cons (.pur pur_int) (.cons (.pur pur_str) (.cons ?_ (.cons ?_ .nil)))))
  · exact .own (R := namesR n.names) (t := .loose) rfl rfl (by simp [namesR, strsE]) (strsE_pur _)
  · exact .own (R := nodesR n.kids) (t := .loose) rfl (by simp [rowsOf_cons]) (by simp [nodesR]) (nodesE_pur _)
theorem implCopy_AC : ∀ n, Sml n → AC Try.prog 81 [nodeA n] 0 (fun r => r = nodeA n) :=
  sml_ind fun n hs ih => AC.ofG (implCopy_step n hs ih) (fun r l ⟨h1, h2⟩ => ⟨nodeA n, by rw [h1]; exact implCopy_hd h2, rfl⟩)
end Go.Proofs.Ytmeobmegnneegaa.Eng
namespace Go.Proofs.Ytmeobmegnneegaa
open Go Go.RowKit
def Row0 (w : World) (g : Nat) (L : List Value) (e : TypeId) : Prop := Hid (w.heap[g]? = some (.cells L.toArray e (0, 0)))
theorem Row0.out {w : World} {g : Nat} {L : List Value} {e : TypeId} (h : Row0 w g L e) : w.heap[g]? = some (.cells L.toArray e (0, 0)) := h
theorem Row0.lt {w : World} {g : Nat} {L : List Value} {e : TypeId} (h : Row0 w g L e) : g < w.heap.size := (Array.getElem?_eq_some_iff.1 h.out).1
theorem Row0.ext {X : Nat → Prop} {w w' : World} {g : Nat} {L : List Value} {e : TypeId} (h : Row0 w g L e) (hx : Ext X w w') (hg : ¬ X g) : Row0 w' g L e := by
  show w'.heap[g]? = _
  rw [hx.block g h.lt hg]; exact h
theorem Row0.cell {w : World} {g : Nat} {L : List Value} {e : TypeId} (h : Row0 w g L e) {j : Nat} {v : Value} (hj : L[j]? = some v) : w.cell? ⟨g, j, none⟩ = some v := by
  unfold World.cell?
  rw [h.out]
  simpa using hj
theorem addr_plus (b o j : Nat) : (⟨b, o, Option.none⟩ : Addr).add j = ⟨b, o + j, Option.none⟩ := by unfold Addr.add; split <;> simp_all
theorem splice_two {α : Type} (A Z xs X : List α) (o1 o2 : Nat) (h1 : A.length = o1) (h2 : o2 = o1 + xs.length) (h3 : xs.length + X.length ≤ Z.length) : splice (splice (A ++ Z) o1 xs) o2 X = A ++ (xs ++ (X ++ Z.drop (xs.length + X.length))) := by
  subst h1 h2
  have e1 : splice (A ++ Z) A.length xs = A ++ (xs ++ Z.drop xs.length) := by
    unfold splice
    rw [List.take_left, List.drop_append, Nat.add_sub_cancel_left, List.drop_of_length_le (by omega), List.nil_append]
  rw [e1, ← List.append_assoc]
  unfold splice
  rw [← List.length_append, List.take_left, List.drop_append, Nat.add_sub_cancel_left, List.drop_of_length_le (by omega), List.nil_append, List.drop_drop]
  simp
theorem splice_shift {α : Type} (L xs X : List α) (o m : Nat) (h1 : xs.length = m) (h2 : o + m + X.length ≤ L.length) : splice (splice L (o + m) X) o xs = L.take o ++ (xs ++ (X ++ L.drop (o + m + X.length))) := by
  subst h1
  unfold splice
  have e1 : List.take o (List.take (o + xs.length) L ++ (X ++ List.drop (o + xs.length + X.length) L)) = List.take o L := by
    rw [List.take_append_of_le_length (by rw [List.length_take]; omega), List.take_take]
    congr 1; omega
  have e2 : List.drop (o + xs.length) (List.take (o + xs.length) L ++ (X ++ List.drop (o + xs.length + X.length) L)) = X ++ List.drop (o + xs.length + X.length) L := by
    have : (List.take (o + xs.length) L).length = o + xs.length := by rw [List.length_take]; omega
    rw [List.drop_append, this, Nat.sub_self, List.drop_of_length_le (by omega), List.nil_append, List.drop_zero]
  rw [e1, e2]
variable {P : Program}
theorem run_copyN (w : World) (dT sT ty elem : TypeId) (sz g o dLen dCap b off sLen sCap : Nat) (L M : List Value) (e e' : TypeId) (cs : List Value)
    (hu : P.underlying dT = some (.slice elem)) (hs : (P.info? elem).map (·.size) = some sz) (hg : Row0 w g L e) (hb : Row0 w b M e') (hn : cs.length = Nat.min sLen dLen * sz)
    (hsrc : cs = (M.drop off).take cs.length) (hfit : o + cs.length ≤ L.length) (h1 : ∀ v ∈ cs, v.oneCell' = true) :
    (Builtin.copy_ #[dT, sT] ty #[.slice (some ⟨g, o, none⟩) dLen dCap, .slice (some ⟨b, off, none⟩) sLen sCap]).run P w = .ok (goInt (Nat.min sLen dLen : Nat)) (w.setRow g (splice L o cs).toArray) := by
  have hcell : ∀ j v, cs[j]? = some v → w.cell? ((⟨b, off, none⟩ : Addr).add j) = some v := fun j v hj => by
    rw [addr_plus]
    refine hb.cell ?_
    rw [hsrc] at hj
    have hjl : j < cs.length := by
      have := (List.getElem?_eq_some_iff.1 hj).1
      rw [List.length_take] at this; omega
    rw [List.getElem?_take_of_lt hjl, List.getElem?_drop] at hj
    exact hj
  have hl := run_loadCells_list (P := P) w ⟨b, off, none⟩ cs hcell
  have hst := run_storeCells_at P g o e cs 0 L.toArray w hg.out (by simpa using hfit) h1
  cases hq : P.info? elem with
  | none => simp [hq] at hs
  | some i =>
    have hi : i.size = sz := by simpa [hq] using hs
    simp only [Nat.add_zero] at hst
    simp [Builtin.copy_, run_underlying hu, Builtin.lenOf, Builtin.firstCells, sizeOf, typeInfo, hq, hi, ← hn, hl, hst, splice]
theorem Row0.set {w : World} {g : Nat} {L L' : List Value} {e : TypeId} (h : Row0 w g L e) : Row0 (w.setRow g L'.toArray) g L' e := setRow_heap w g _ _ e _ h.out
theorem setRow_ext (w : World) (g : Nat) (cs : Array Value) : Ext (fun k => k = g) w (w.setRow g cs) := ⟨rfl, rfl, rfl, by simp [World.setRow], fun k _ hk => setRow_other w g k cs hk⟩
theorem wpList_copyN {w : World} {ops : Array Oper} {rest : List Oper} {o : Oper} {a : Act} {Q : Exit → Act → World → Prop} (hgd : o.guard = none) (d s : Operand) (dT sT : TypeId)
    (ho : o.op = .call { callee := .builtin .copy, args := #[d, s], argTypes := #[dT, sT] }) (elem : TypeId) (sz : Nat) (hu : P.underlying dT = some (.slice elem)) (hs : (P.info? elem).map (·.size) = some sz)
    (g oo dLen dCap b off sLen sCap : Nat) (hd : a.eval d = .slice (some ⟨g, oo, none⟩) dLen dCap) (hv : a.eval s = .slice (some ⟨b, off, none⟩) sLen sCap) (L M : List Value) (e e' : TypeId) (hg : Row0 w g L e) (hb : Row0 w b M e') (cs : List Value)
    (hn : cs.length = Nat.min sLen dLen * sz) (hsrc : cs = (M.drop off).take cs.length) (hfit : oo + cs.length ≤ L.length) (h1 : ∀ v ∈ cs, v.oneCell' = true)
    (h : ∀ x w', Row0 w' g (splice L oo cs) e → Ext (fun k => k = g) w w' → wpList P ops Q rest (a.put o.dst x) w') : wpList P ops Q (o :: rest) a w := by
  refine wpList_plain hgd fun K hK => ?_
  have hrun := run_copyN (P := P) w dT sT o.type elem sz g oo dLen dCap b off sLen sCap L M e e' cs hu hs hg hb hn hsrc hfit h1
  unfold Oper.wp
  simp only [execOp, ho, resolve, invoke, builtin, Sem.run_bind, Sem.run_pure, Result.andThen_ok, List.map_toArray, List.map_cons, List.map_nil, hd, hv, hrun]
  exact hK _ _ (h _ _ hg.set (setRow_ext w g _))
theorem step_copyN {ops : Array Oper} {o : Oper} {a : Act} {w : World} {K : Act → World → Prop} {Q : Exit → Act → World → Prop} {E : Prop} (hgd : o.guard = none) (d s : Operand) (dT sT : TypeId)
    (ho : o.op = .call { callee := .builtin .copy, args := #[d, s], argTypes := #[dT, sT] }) (elem : TypeId) (sz : Nat) (hu : P.underlying dT = some (.slice elem)) (hs : (P.info? elem).map (·.size) = some sz)
    (g oo dLen dCap b off sLen sCap : Nat) (hd : a.eval d = .slice (some ⟨g, oo, none⟩) dLen dCap) (hv : a.eval s = .slice (some ⟨b, off, none⟩) sLen sCap) (L M : List Value) (e e' : TypeId) (hg : Row0 w g L e) (hb : Row0 w b M e') (cs : List Value)
    (hn : cs.length = Nat.min sLen dLen * sz) (hsrc : cs = (M.drop off).take cs.length) (hfit : oo + cs.length ≤ L.length) (h1 : ∀ v ∈ cs, v.oneCell' = true)
    (h : ∀ x w', Row0 w' g (splice L oo cs) e → Ext (fun k => k = g) w w' → K (a.put o.dst x) w') :
    if Region.wanted o (yielded ops a.tmps) = true then Oper.wp P o a w K Q else E := by
  have hw : Region.wanted o (yielded ops a.tmps) = true := by simp [Region.wanted, hgd]
  rw [if_pos hw]
  have hrun := run_copyN (P := P) w dT sT o.type elem sz g oo dLen dCap b off sLen sCap L M e e' cs hu hs hg hb hn hsrc hfit h1
  unfold Oper.wp
  simp only [execOp, ho, resolve, invoke, builtin, Sem.run_bind, Sem.run_pure, Result.andThen_ok, List.map_toArray, List.map_cons, List.map_nil, hd, hv, hrun]
  exact h _ _ hg.set (setRow_ext w g _)
theorem run_firstCells_row (w : World) (size n : Nat) (g c : Nat) (L : List Value) (e : TypeId) (h : Row0 w g L e) (hl : n * size ≤ L.length) :
    (Builtin.firstCells size n (.slice (some ⟨g, 0, none⟩) n c)).run P w = .ok (L.take (n * size)).toArray w := by
  have hcell : ∀ j v, (L.take (n * size))[j]? = some v → w.cell? ((⟨g, 0, none⟩ : Addr).add j) = some v := fun j v hj => by
    rw [addr_plus, Nat.zero_add]
    refine h.cell ?_
    have hjl := (List.getElem?_eq_some_iff.1 hj).1
    rw [List.length_take] at hjl
    rwa [List.getElem?_take_of_lt (by omega)] at hj
  have hl2 := run_loadCells_list (P := P) w ⟨g, 0, none⟩ _ hcell
  have : (L.take (n * size)).length = n * size := by rw [List.length_take]; omega
  rw [this] at hl2
  simp [Builtin.firstCells, hl2]
theorem wpList_appendZ {w : World} {ops : Array Oper} {rest : List Oper} {o : Oper} {a : Act} {Q : Exit → Act → World → Prop} (hgd : o.guard = none) (x y : Operand) (t tn : TypeId)
    (ho : o.op = .call { callee := .builtin .append, args := #[x, y], argTypes := #[t, tn] }) (e : TypeId) (i : TypeInfo) (z : Value) (kq kn : IntKind) (ht : P.underlying t = some (.slice e)) (htn : P.underlying tn = some (.int kn)) (hi : P.info? e = some i) (hz : i.zero = some z) (hzs : z.cells.size = i.size)
    (g n c k : Nat) (hx : a.eval x = .slice (some ⟨g, 0, none⟩) n c) (hy : a.eval y = .int kq k) (L : List Value) (hL : Row0 w g L e) (hl : n * i.size ≤ L.length) (h0 : 0 < k) (hs : 0 < i.size) (hc : c < n + k) (h63 : n + k ≤ maxLen) (hby : (n + k) * i.bytes ≤ 140737488355328)
    (h : ∀ G w' Z, Row0 w' w.heap.size (L.take (n * i.size) ++ Z) e → Z.length = (G - n) * i.size → n + k ≤ G → G ≤ maxLen → Grow w w' → wpList P ops Q rest (a.put o.dst (.slice (some ⟨w.heap.size, 0, none⟩) (n + k) G)) w') : wpList P ops Q (o :: rest) a w := by
  refine wpList_plain hgd fun K hK => ?_
  have hold : (Builtin.firstCells i.size n (.slice (some ⟨g, 0, none⟩) n c)).run P w.drew = .ok (L.take (n * i.size)).toArray w.drew := run_firstCells_row w.drew i.size n g c L e hL hl
  have h63' : ((n + k : Nat) : Int) ≤ 9223372036854775807 := by unfold maxLen at h63; omega
  have hkb : k * i.bytes ≤ 281474976710656 := Nat.le_trans (Nat.mul_le_mul_right _ (Nat.le_add_left k n)) (by omega)
  have hrun := Lib.run_append_grow_zeros w t tn o.type e i z kq kn ht htn hi hz (some ⟨g, 0, none⟩) n c _ hold k h0 hs hc h63' hkb (growslice_fits hc hby)
  unfold Oper.wp
  simp only [execOp, ho, resolve, invoke, builtin, Sem.run_bind, Sem.run_pure, Result.andThen_ok, List.map_toArray, List.map_cons, List.map_nil, hx, hy, hrun]
  have hge := grownCap_ge w (n + k) c e
  refine hK _ _ (h (grownCap w (n + k) c e) _ ((Builtin.zeroCells z.cells k).toList ++ (Builtin.zeroCells z.cells (grownCap w (n + k) c e - (n + k))).toList) ?_ ?_ hge (grownCap_le_maxLen w _ _ _ h63) (((Ext.refl nil w).drew).alloc _))
  · show _ = _
    have := heap_alloc_new w.drew (.cells ((L.take (n * i.size)).toArray ++ Builtin.zeroCells z.cells k ++ Builtin.zeroCells z.cells (grownCap w (n + k) c e - (n + k))) e)
    rw [show w.heap.size = w.drew.heap.size from rfl, this]
    congr 2
    apply Array.ext'
    simp [List.append_assoc]
  · simp only [List.length_append, Array.length_toList, size_zeroCells, hzs]
    rw [← Nat.add_mul]
    congr 1; omega
theorem run_overlaps_rows (w : World) (tS tR e : TypeId) (ht : P.underlying tS = some (.slice e)) (size : Nat) (hz : ∀ w, (Go.sizeOf e).run P w = .ok size w) (g o g' o' la ca lb cb : Nat) (L L' : List Value) (e1 e2 : TypeId) (hg : Row0 w g L e1) (hg' : Row0 w g' L' e2) (hne : g ≠ g') (hL : 0 < L'.length) :
    (Extern.SlicesOverlaps.overlaps #[tS, tS] #[tR] #[.slice (some ⟨g, o, none⟩) la ca, .slice (some ⟨g', o', none⟩) lb cb]).run P w = .ok (.bool false) w := by
  have hsh : ∀ (g : Nat) (L : List Value) (e : TypeId), Row0 w g L e → w.shape? g = some (e, L.length) := fun g L e h => by
    have := h.out
    unfold World.shape?
    simp [this]
  have hfr : ∀ (g : Nat) (L : List Value) (e : TypeId) (o : Nat), Row0 w g L e → w.frozen? ⟨g, o, none⟩ = false := fun g L e o h => by
    have := h.out
    simp [World.frozen?, this]
  exact Lib.run_overlaps_apart w tS tR e ht size hz ⟨g, o, none⟩ ⟨g', o', none⟩ la ca lb cb hne e1 e2 L.length L'.length (hsh _ _ _ hg) (hsh _ _ _ hg') (by omega) (hfr _ _ _ _ hg) (hfr _ _ _ _ hg)
theorem step_appendN {ops : Array Oper} {o : Oper} {a : Act} {w : World} {K : Act → World → Prop} {Q : Exit → Act → World → Prop} {E : Prop} (hgd : o.guard = none) (d s : Operand) (t e : TypeId)
    (ho : o.op = .call { callee := .builtin .append, args := #[d, s], argTypes := #[t, t] }) (i : TypeInfo) (ht : P.underlying t = some (.slice e)) (hi : P.info? e = some i)
    (g n cap b off m c : Nat) (hd : a.eval d = .slice (some ⟨g, 0, none⟩) n cap) (hv : a.eval s = .slice (some ⟨b, off, none⟩) m c) (L M : List Value) (e' : TypeId) (hg : Row0 w g L e) (hb : Row0 w b M e') (news : List Value)
    (hn : news.length = m * i.size) (hsrc : news = (M.drop off).take news.length) (hroom : n + m ≤ cap) (hfit : n * i.size + news.length ≤ L.length) (h1 : ∀ v ∈ news, v.oneCell' = true)
    (h : ∀ w', Row0 w' g (splice L (n * i.size) news) e → Ext (fun k => k = g) w w' → K (a.put o.dst (.slice (some ⟨g, 0, none⟩) (n + m) cap)) w') :
    if Region.wanted o (yielded ops a.tmps) = true then Oper.wp P o a w K Q else E := by
  have hw : Region.wanted o (yielded ops a.tmps) = true := by simp [Region.wanted, hgd]
  rw [if_pos hw]
  have hcell : ∀ j v, news[j]? = some v → w.cell? ((⟨b, off, none⟩ : Addr).add j) = some v := fun j v hj => by
    rw [addr_plus]
    refine hb.cell ?_
    rw [hsrc] at hj
    have hjl : j < news.length := by
      have := (List.getElem?_eq_some_iff.1 hj).1
      rw [List.length_take] at this; omega
    rw [List.getElem?_take_of_lt hjl, List.getElem?_drop] at hj
    exact hj
  have hrun := run_append_room (P := P) w t o.type e i ht hi g n cap L.toArray hg.out ⟨b, off, none⟩ m c news hn hcell h1 hroom (by simpa using hfit)
  unfold Oper.wp
  simp only [execOp, ho, resolve, invoke, builtin, Sem.run_bind, Sem.run_pure, Result.andThen_ok, List.map_toArray, List.map_cons, List.map_nil, hd, hv, hrun]
  refine h _ ?_ (setRow_ext w g _)
  have := hg.set (L' := splice L (n * i.size) news)
  simpa [splice] using this
theorem wpList_clearN {w : World} {ops : Array Oper} {rest : List Oper} {o : Oper} {a : Act} {Q : Exit → Act → World → Prop} (hgd : o.guard = none) (x : Operand) (t e : TypeId)
    (ho : o.op = .call { callee := .builtin .clear, args := #[x], argTypes := #[t] }) (i : TypeInfo) (z : Value) (ht : P.underlying t = some (.slice e)) (hi : P.info? e = some i) (hz : i.zero = some z) (hzs : z.cells.size = i.size) (hz1 : ∀ u ∈ z.cells.toList, u.oneCell' = true)
    (g off n c : Nat) (hx : a.eval x = .slice (some ⟨g, off, none⟩) n c) (hn : 0 < n) (L : List Value) (hg : Row0 w g L e) (hfit : off + n * i.size ≤ L.length)
    (h : ∀ v w' Z, Row0 w' g (splice L off Z) e → Z.length = n * i.size → (∀ u ∈ Z, u.oneCell' = true) → Ext (fun k => k = g) w w' → wpList P ops Q rest (a.put o.dst v) w') : wpList P ops Q (o :: rest) a w := by
  refine wpList_plain hgd fun K hK => ?_
  have hZl : (Builtin.zeroCells z.cells n).toList.length = n * i.size := by simp [size_zeroCells, hzs]
  have hZ1 : ∀ u ∈ (Builtin.zeroCells z.cells n).toList, u.oneCell' = true := fun u hu => by
    unfold Builtin.zeroCells at hu
    simp only [Array.toList_map, List.mem_map] at hu
    obtain ⟨k, hk, rfl⟩ := hu
    have hk' : k < n * z.cells.size := by simpa using hk
    have hp : 0 < z.cells.size := by rcases Nat.eq_zero_or_pos z.cells.size with h0 | h0; rw [h0] at hk'; simp at hk'; exact h0
    have hm := Nat.mod_lt k hp
    rw [getElem!_pos z.cells _ hm]
    exact hz1 _ (by simp)
  have hst := run_storeCells_at P g off e (Builtin.zeroCells z.cells n).toList 0 L.toArray w hg.out (by rw [hZl]; simpa using hfit) hZ1
  simp only [Nat.add_zero] at hst
  obtain ⟨m, rfl⟩ : ∃ m, n = m + 1 := ⟨n - 1, by omega⟩
  have hrun : (Builtin.clear_ #[t] o.type #[.slice (some ⟨g, off, none⟩) (m + 1) c]).run P w = .ok (.tuple #[]) (w.setRow g (splice L off (Builtin.zeroCells z.cells (m + 1)).toList).toArray) := by
    simp [Builtin.clear_, run_underlying ht, zeroValue, typeInfo, hi, hz, hst, splice]
  unfold Oper.wp
  simp only [execOp, ho, resolve, invoke, builtin, Sem.run_bind, Sem.run_pure, Result.andThen_ok, List.map_toArray, List.map_cons, List.map_nil, hx, hrun]
  exact hK _ _ (h _ _ _ hg.set hZl hZ1 (setRow_ext w g _))
end Go.Proofs.Ytmeobmegnneegaa
namespace Go.Proofs.Ytmeobmegnneegaa
open Go Go.RowKit Go.Proofs.Ytmeobmegnneegaa.Eng
theorem insI_grow (w : World) (b n i vb vc : Nat) (L M : List Value) (e1 : TypeId) (xs : List Value) (hb : Row0 w b L 62) (hv : Row0 w vb M e1) (hL : n * 7 ≤ L.length) (hM : M.take 7 = xs) (hxl : xs.length = 7) (hi : i < n) (hn : n ≤ 1000000) (h1 : ∀ u ∈ L, u.oneCell' = true) (h2 : ∀ u ∈ xs, u.oneCell' = true) :
    Calls Try.prog 116 #[.slice (some ⟨b, 0, none⟩) n n, .int .i64 i, .slice (some ⟨vb, 0, none⟩) 1 vc] w fun e w' =>
      ∃ g G Z, e = .returned (.slice (some ⟨g, 0, none⟩) (n + 1 : Nat) G) ∧ Grow w w' ∧ w.heap.size ≤ g ∧ Row0 w' g (L.take (i * 7) ++ (xs ++ ((L.take (n * 7)).drop (i * 7) ++ Z))) 62 ∧ Z.length = (G - (n + 1)) * 7 ∧ n + 1 ≤ G ∧ G ≤ maxLen := by
  obtain ⟨d, j, hs⟩ := TI.says (tab_ok _ _ tab62)
  obtain ⟨j', zv, zs, k1, k2, k3, k3', k3'', k4, k5, k6⟩ := zero_ok (w := w) (ρ := pureC nil nil none) (tab_ok _ _ tab62) (by decide)
  rw [hs.inf] at k1; cases k1
  have hjs := hs.sz
  have hjb := hs.by'
  have hinf := hs.inf
  dsimp only at hjs hjb k6
  have hzs : zv.cells.size = j.size := by rw [k3, hjs]; simpa using k6
  have hsz : (Try.prog.info? 62).map (·.size) = some 7 := by rw [hinf]; simp [hjs]
  have mixed := mixed_ok
  have hz1 : ¬ ((1 : Int) = 0) := by omega
  have hz2 : ¬ ((i : Int) = (n : Int)) := by omega
  have hz3 : (n : Int) < (n : Int) + 1 := by omega
  have hw1 : IntKind.i64.wrap ((n : Int) + 1) = (n : Int) + 1 := by rw [IntKind.wrap_i64]; omega
  have hw2 : IntKind.i64.wrap ((n : Int) + 1 - (i : Int)) = ((n + 1 - i : Nat) : Int) := by rw [IntKind.wrap_i64]; omega
  have hw3 : IntKind.i64.wrap ((i : Int) + 1) = (i : Int) + 1 := by rw [IntKind.wrap_i64]; omega
  have hb1 : (0 : Int) ≤ (i : Int) + 1 := by omega
  have hb2 : (0 : Int) ≤ (i : Int) := by omega
  have hin : i ≤ n := by omega
  have hni : ¬ (n = i) := by omega
  have htn : ((i : Int) + 1).toNat = i + 1 := by omega
  have hb3 : (i : Int) ≤ (n : Int) := by omega
  have hbn : b ≠ w.heap.size := by have := hb.lt; omega
  obtain ⟨X, hX⟩ : ∃ X, X = (L.take (n * 7)).drop (i * 7) := ⟨_, rfl⟩
  have hXl : X.length = (n - i) * 7 := by rw [hX, List.length_drop, List.length_take, Nat.sub_mul]; omega
  have hXs : X = (L.drop (i * 7)).take X.length := by rw [hXl, hX, List.drop_take, Nat.sub_mul]
  have hX1 : ∀ v ∈ X, v.oneCell' = true := fun v hv => h1 v (by rw [hX] at hv; exact List.mem_of_mem_take (List.mem_of_mem_drop hv))
  have HB := Lib.hid hb
  have HV := Lib.hid hv
  clear hb hv
  go_enter Try.func116, Try.ntmps116
  go_wp2_with (first
    | (at_builtin; refine wpList_appendZ rfl _ _ 31 3 rfl 62 j zv .i64 .i64 Try.underlying31 Try.underlying3 hinf k2 hzs b i n (n + 1 - i) rfl rfl L HB.out (by rw [hjs]; omega) (by omega) (by rw [hjs]; omega) (by omega) (by unfold maxLen; omega) (by rw [hjb]; omega) ?_; intro G w1 Z R1 Z1 G1 G2 E1; have B1 := HB.out.ext E1 (fun h => h); have V1 := HV.out.ext E1 (fun h => h); have G3 : ¬ (G = i) := (by omega); have G4 : ¬ (G = i + 1) := (by omega); have G5 : i + (n + 1 - i) = n + 1 := (by omega))
    | (refine wpList_copyN rfl (.tmp 43) (.tmp 44) 31 31 rfl 62 7 Try.underlying31 hsz w.heap.size _ _ _ vb 0 1 vc rfl rfl (L.take (i * j.size) ++ Z) M 62 e1 R1 V1 xs (by rw [hxl]; simp only [Nat.min_def]; split <;> omega) (by rw [hxl, List.drop_zero, hM]) (by simp only [List.length_append, List.length_take, Z1, hxl, hjs]; omega) h2 ?_; intro x2 w2 R2 E2; have B2 := B1.ext E2 (fun h => hbn h)))
  go_region_law_o (refine step_copyN rfl (.tmp 50) (.tmp 53) 31 31 rfl 62 7 Try.underlying31 hsz w.heap.size ((i + 1) * 7) (n + 1 - (i + 1)) (G - (i + 1)) b (i * 7) (n - i) (n - i) (by simp [Act.eval, Act.put]) (by simp [Act.eval, Act.put]) _ L 62 62 R2 B2 X (by rw [hXl, show Nat.min (n - i) (n + 1 - (i + 1)) = n - i from by rw [show n + 1 - (i + 1) = n - i by omega]; exact Nat.min_self _]) hXs (by rw [length_splice _ _ _ (by simp only [List.length_append, List.length_take, Z1, hxl, hjs]; omega)]; simp only [List.length_append, List.length_take, Z1, hXl, hjs]; omega) hX1 ?_; intro x3 w3 R3 E3)
  go_wp2
  go_ret
  have hZ : xs.length + X.length ≤ Z.length := by rw [hxl, hXl, Z1, hjs]; omega
  rw [hjs] at R3
  rw [splice_two _ _ _ _ _ _ (by rw [List.length_take]; omega) (by rw [hxl]; omega) hZ] at R3
  refine ⟨w.heap.size, G, Z.drop (xs.length + X.length), by simp, ?_, Nat.le_refl _, by rw [← hX]; exact R3, by rw [List.length_drop, hxl, hXl, Z1, hjs]; omega, by omega, G2⟩
  exact Grow.inner (Ext.drew (E1.inner E2 (fun k hk => Nat.le_of_eq (Eq.symm hk)))) E3 (fun k hk => Nat.le_of_eq (Eq.symm hk))
theorem insI_room (w : World) (b n c i vb vc : Nat) (L M : List Value) (e1 : TypeId) (xs : List Value) (hb : Row0 w b L 62) (hv : Row0 w vb M e1) (hbv : vb ≠ b) (hL : L.length = c * 7) (hM : M.take 7 = xs) (hxl : xs.length = 7) (hi : i < n) (hroom : n + 1 ≤ c) (hc : c ≤ maxLen) (h1 : ∀ u ∈ L.take (n * 7), u.oneCell' = true) (h2 : ∀ u ∈ xs, u.oneCell' = true) :
    Calls Try.prog 116 #[.slice (some ⟨b, 0, none⟩) n c, .int .i64 i, .slice (some ⟨vb, 0, none⟩) 1 vc] w fun e w' =>
      e = .returned (.slice (some ⟨b, 0, none⟩) (n + 1 : Nat) c) ∧ Ext (fun k => k = b) w w' ∧ Row0 w' b (L.take (i * 7) ++ (xs ++ ((L.take (n * 7)).drop (i * 7) ++ L.drop ((n + 1) * 7)))) 62 := by
  obtain ⟨d, j, hs⟩ := TI.says (tab_ok _ _ tab62)
  have hjs := hs.sz
  have hinf := hs.inf
  dsimp only at hjs
  have hsz : (Try.prog.info? 62).map (·.size) = some 7 := by rw [hinf]; simp [hjs]
  have hc63 : c ≤ 9223372036854775807 := by unfold maxLen at hc; exact hc
  have mixed := mixed_ok
  have hz1 : ¬ ((1 : Int) = 0) := by omega
  have hz2 : ¬ ((i : Int) = (n : Int)) := by omega
  have hz3 : ¬ ((c : Int) < (n : Int) + 1) := by omega
  have hw1 : IntKind.i64.wrap ((n : Int) + 1) = (n : Int) + 1 := by rw [IntKind.wrap_i64]; omega
  have hw3 : IntKind.i64.wrap ((i : Int) + 1) = (i : Int) + 1 := by rw [IntKind.wrap_i64]; omega
  have hb1 : (0 : Int) ≤ (i : Int) + 1 := by omega
  have hb2 : (0 : Int) ≤ (i : Int) := by omega
  have hb4 : (0 : Int) ≤ (n : Int) + 1 := by omega
  have hin : i ≤ n := by omega
  have hni : ¬ (c = i) := by omega
  have hni2 : ¬ (c = i + 1) := by omega
  have htn : ((i : Int) + 1).toNat = i + 1 := by omega
  have htn2 : ((n : Int) + 1).toNat = n + 1 := by omega
  have hb3 : (i : Int) ≤ (n : Int) := by omega
  have hb5 : (i : Int) + 1 ≤ (n : Int) + 1 := by omega
  have hb6 : (n : Int) + 1 ≤ (c : Int) := by omega
  have hb7 : (i : Int) ≤ (n : Int) + 1 := by omega
  obtain ⟨X, hX⟩ : ∃ X, X = (L.take (n * 7)).drop (i * 7) := ⟨_, rfl⟩
  have hXl : X.length = (n - i) * 7 := by rw [hX, List.length_drop, List.length_take, Nat.sub_mul, hL]; omega
  have hXs : X = (L.drop (i * 7)).take X.length := by rw [hXl, hX, List.drop_take, Nat.sub_mul]
  have hX1 : ∀ v ∈ X, v.oneCell' = true := fun v hv => h1 v (by rw [hX] at hv; exact List.mem_of_mem_drop hv)
  have hov : ∀ lb cb, (callFunc 131 #[.slice (some ⟨vb, 0, none⟩) 1 vc, .slice (some ⟨b, (i + 1) * 7, none⟩) lb cb]).run Try.prog w = .ok (.value (.bool false)) w := fun lb cb => by
    rw [run_callFunc_extern (P := Try.prog) (f := 131) (fn := Try.f131) (e := Extern.SlicesOverlaps.overlaps #[31, 31] #[4]) (by kernel_rfl) (by kernel_rfl) (by kernel_rfl) (by kernel_rfl) (by kernel_rfl)]
    rw [run_overlaps_rows (P := Try.prog) w 31 4 62 Try.underlying31 7 (fun w => hs.sizeOf w) vb 0 b ((i + 1) * 7) 1 vc lb cb M L e1 62 hv hb hbv (by rw [hL]; omega)]
    rfl
  have HB := Lib.hid hb
  have HV := Lib.hid hv
  clear hb hv
  go_enter Try.func116, Try.ntmps116
  go_wp2_with (simp only [hov])
  go_region_law_o (refine step_copyN rfl (.tmp 73) (.tmp 76) 31 31 rfl 62 7 Try.underlying31 hsz b ((i + 1) * 7) (n + 1 - (i + 1)) (c - (i + 1)) b (i * 7) (n + 1 - i) (c - i) (by simp [Act.eval, Act.put]) (by simp [Act.eval, Act.put]) L L 62 62 HB.out HB.out X (by rw [hXl, show Nat.min (n + 1 - i) (n + 1 - (i + 1)) = n - i from by rw [show n + 1 - (i + 1) = n - i by omega]; exact Nat.min_eq_right (by omega)]) hXs (by rw [hXl, hL]; omega) hX1 ?_; intro x2 w2 R2 E2)
  have V2 := HV.out.ext (Ext.trans (Ext.drew (Ext.refl _ w)) E2) (fun h => hbv h)
  go_wp2_with (refine wpList_copyN rfl (.tmp 80) (.tmp 81) 31 31 rfl 62 7 Try.underlying31 hsz b _ _ _ vb 0 1 vc rfl rfl (splice L ((i + 1) * 7) X) M 62 e1 R2 V2 xs (by rw [hxl]; simp only [Nat.min_def]; split <;> omega) (by rw [hxl, List.drop_zero, hM]) (by rw [length_splice _ _ _ (by rw [hXl, hL]; omega), hxl, hL]; omega) h2 ?_; intro x3 w3 R3 E3)
  go_ret
  rw [show (i + 1) * 7 = i * 7 + 7 by omega, splice_shift _ _ _ _ _ hxl (by rw [hXl, hL]; omega)] at R3
  refine ⟨by simp, Ext.trans (Ext.trans (Ext.drew (Ext.refl _ w)) E2) E3, ?_⟩
  rw [← hX, show (n + 1) * 7 = i * 7 + 7 + X.length by rw [hXl]; omega]
  exact R3
theorem delI_last (w : World) (b i : Nat) (L : List Value) (hb : Row0 w b L 62) (hL : L.length = (i + 1) * 7) (hc : i + 1 ≤ maxLen) :
    Calls Try.prog 106 #[.slice (some ⟨b, 0, none⟩) (i + 1) (i + 1), .int .i64 i, .int .i64 ((i : Int) + 1)] w fun e w' =>
      ∃ L', e = .returned (.slice (some ⟨b, 0, none⟩) i (i + 1)) ∧ Ext (fun k => k = b) w w' ∧ Row0 w' b L' 62 ∧ L'.length = (i + 1) * 7 ∧ L'.take (i * 7) = L.take (i * 7) := by
  obtain ⟨d, j, hs⟩ := TI.says (tab_ok _ _ tab62)
  obtain ⟨j', zv, zs, k1, k2, k3, k3', k3'', k4, k5, k6⟩ := zero_ok (w := w) (ρ := pureC nil nil none) (tab_ok _ _ tab62) (by decide)
  rw [hs.inf] at k1; cases k1
  have hjs := hs.sz
  have hinf := hs.inf
  dsimp only at hjs k6
  have hzs : zv.cells.size = j.size := by rw [k3, hjs]; simpa using k6
  have hz1c : ∀ u ∈ zv.cells.toList, u.oneCell' = true := by rw [k3]; simpa using k5
  have hc63 : i + 1 ≤ 9223372036854775807 := by unfold maxLen at hc; exact hc
  have mixed := mixed_ok
  have hz1 : ¬ ((i : Int) = (i : Int) + 1) := by omega
  have hb1 : (0 : Int) ≤ (i : Int) + 1 := by omega
  have hb2 : (0 : Int) ≤ (i : Int) := by omega
  have hb3 : (i : Int) ≤ (i : Int) + 1 := by omega
  have htn : ((i : Int) + 1).toNat = i + 1 := by omega
  have hni : ¬ (i + 1 = i) := by omega
  have hll : i + 1 - i = 1 := by omega
  have hX1 : ∀ v ∈ ([] : List Value), v.oneCell' = true := fun v hv => by cases hv
  have HB := Lib.hid hb
  clear hb
  go_enter Try.func106, Try.ntmps106
  go_wp2_with fail
  go_region_law_o (refine step_appendN rfl (.tmp 22) (.tmp 25) 31 62 rfl j Try.underlying31 hinf b i (i + 1) b 0 0 0 (by simp [Act.eval, Act.put]) (by simp [Act.eval, Act.put]) L L 62 HB.out HB.out [] (by simp) (by simp) (by omega) (by rw [hjs, hL]; simp only [List.length_nil]; omega) hX1 ?_; intro w2 R2 E2)
  have hsp : splice L (i * j.size) [] = L := by unfold splice; simp
  rw [hsp] at R2
  go_wp2_with (refine wpList_clearN rfl (.tmp 31) 31 62 rfl j zv Try.underlying31 hinf k2 hzs hz1c b _ _ _ rfl (by omega) _ R2 (by rw [hjs, hL]; omega) ?_; intro v3 w3 Z R3 Zl Z1 E3)
  go_ret
  refine ⟨_, by simp, Ext.trans (Ext.trans (Ext.drew (Ext.refl _ w)) E2) E3, R3, by rw [length_splice _ _ _ (by rw [hL, Zl, hjs]; omega), hL], ?_⟩
  unfold splice
  rw [List.take_append_of_le_length (by rw [List.length_take, hL]; omega), List.take_take]
  simp
theorem delI_mid (w : World) (b n c i : Nat) (L : List Value) (hb : Row0 w b L 62) (hL : L.length = c * 7) (hi : i < n) (hnc : n ≤ c) (hc : c ≤ maxLen) (hci : ¬ c = i + 1) (h1 : ∀ u ∈ L.take (n * 7), u.oneCell' = true) :
    Calls Try.prog 106 #[.slice (some ⟨b, 0, none⟩) n c, .int .i64 i, .int .i64 ((i : Int) + 1)] w fun e w' =>
      ∃ L', e = .returned (.slice (some ⟨b, 0, none⟩) (n - 1 : Nat) c) ∧ Ext (fun k => k = b) w w' ∧ Row0 w' b L' 62 ∧ L'.length = c * 7 ∧ L'.take ((n - 1) * 7) = L.take (i * 7) ++ (L.take (n * 7)).drop ((i + 1) * 7) := by
  obtain ⟨d, j, hs⟩ := TI.says (tab_ok _ _ tab62)
  obtain ⟨j', zv, zs, k1, k2, k3, k3', k3'', k4, k5, k6⟩ := zero_ok (w := w) (ρ := pureC nil nil none) (tab_ok _ _ tab62) (by decide)
  rw [hs.inf] at k1; cases k1
  have hjs := hs.sz
  have hinf := hs.inf
  dsimp only at hjs k6
  have hzs : zv.cells.size = j.size := by rw [k3, hjs]; simpa using k6
  have hz1c : ∀ u ∈ zv.cells.toList, u.oneCell' = true := by rw [k3]; simpa using k5
  have hc63 : c ≤ 9223372036854775807 := by unfold maxLen at hc; exact hc
  have mixed := mixed_ok
  have hz1 : ¬ ((i : Int) = (i : Int) + 1) := by omega
  have hb1 : (0 : Int) ≤ (i : Int) + 1 := by omega
  have hb2 : (0 : Int) ≤ (i : Int) := by omega
  have hb3 : (i : Int) ≤ (i : Int) + 1 := by omega
  have hb4 : (i : Int) + 1 ≤ (n : Int) := by omega
  have hb5 : (n : Int) ≤ (c : Int) := by omega
  have hb6 : (i : Int) ≤ (n : Int) := by omega
  have hb7 : (i : Int) ≤ (c : Int) := by omega
  have htn : ((i : Int) + 1).toNat = i + 1 := by omega
  have hni : ¬ (c = i) := by omega
  have hni3 : ¬ (n = i) := by omega
  obtain ⟨X, hX⟩ : ∃ X, X = (L.take (n * 7)).drop ((i + 1) * 7) := ⟨_, rfl⟩
  have hXl : X.length = (n - (i + 1)) * 7 := by rw [hX, List.length_drop, List.length_take, Nat.sub_mul, hL]; omega
  have hX1 : ∀ v ∈ X, v.oneCell' = true := fun v hv => h1 v (by rw [hX] at hv; exact List.mem_of_mem_drop hv)
  have hm : i + (n - (i + 1)) = n - 1 := by omega
  have hlast : n - (i + (n - (i + 1))) = 1 := by omega
  have hlc : (((n - 1 : Nat) : Int)) ≤ (n : Int) := by omega
  have hl0 : (0 : Int) ≤ ((n - 1 : Nat) : Int) := by omega
  have hnl : ¬ (c = n - 1) := by omega
  have hln : (splice L (i * j.size) X).length = c * 7 := by rw [length_splice _ _ _ (by rw [hXl, hjs, hL]; omega), hL]
  have HB := Lib.hid hb
  clear hb
  go_enter Try.func106, Try.ntmps106
  go_wp2_with fail
  go_region_law_o (refine step_appendN rfl (.tmp 22) (.tmp 25) 31 62 rfl j Try.underlying31 hinf b i c b ((i + 1) * 7) (n - (i + 1)) (c - (i + 1)) (by simp [Act.eval, Act.put]) (by simp [Act.eval, Act.put]) L L 62 HB.out HB.out X (by rw [hXl, hjs]) (by rw [hXl, hX]; rw [List.drop_take, Nat.sub_mul]) (by omega) (by rw [hjs, hXl, hL]; omega) hX1 ?_; intro w2 R2 E2)
  go_wp2_with (refine wpList_clearN rfl (.tmp 31) 31 62 rfl j zv Try.underlying31 hinf k2 hzs hz1c b _ _ _ rfl (by omega) _ R2 (by rw [hln, hjs]; omega) ?_; intro v3 w3 Z R3 Zl Z1 E3)
  go_ret
  refine ⟨_, by simp, Ext.trans (Ext.trans (Ext.drew (Ext.refl _ w)) E2) E3, R3, by rw [length_splice _ _ _ (by rw [hln, Zl, hjs]; omega), hln], ?_⟩
  rw [← hX]
  have e1 : splice L (i * j.size) X = L.take (i * 7) ++ X ++ L.drop ((n - 1) * 7) := by
    unfold splice
    rw [hXl, hjs, show i * 7 + (n - (i + 1)) * 7 = (n - 1) * 7 by omega, List.append_assoc]
  have e2 : (L.take (i * 7) ++ X).length = (n - 1) * 7 := by rw [List.length_append, List.length_take, hXl, hL]; omega
  unfold splice at e1 hln ⊢
  rw [List.take_append_of_le_length (by rw [List.length_take, hln]; omega), List.take_take, Nat.min_eq_left (by omega), e1, List.take_append_of_le_length (by omega), List.take_of_length_le (by omega)]
theorem wp_appRI {w : World} {ops : Array Oper} {rest : List Oper} {o : Oper} {a : Act} {Q : Exit → Act → World → Prop} (hgd : o.guard = none) (ho : o.op = .call { callee := .builtin .append, args := #[.tmp 23, .tmp 24], argTypes := #[31, 31] })
    (u : Value) (hx : a.eval (.tmp 23) = u) (n : Nat) (olds : List Value) (hat : Hid (Eng.RowAt w 0 62 7 u n olds)) (vb vc : Nat) (hy : a.eval (.tmp 24) = .slice (some ⟨vb, 0, none⟩) 1 vc) (M : List Value) (e1 : TypeId) (hv : Row0 w vb M e1) (xs : List Value) (hM : M.take 7 = xs) (hxl : xs.length = 7) (h2 : ∀ u ∈ xs, u.oneCell' = true) (hn : n ≤ 1000000)
    (h : ∀ v' w', Eng.RowAt w' 0 62 7 v' (n + 1) (olds ++ xs) → Ext (fun k => blk u = some k) w w' → (∀ g, blk v' = some g → blk u = some g ∨ w.heap.size ≤ g) → wpList Try.prog ops Q rest (a.put o.dst v') w') : wpList Try.prog ops Q (o :: rest) a w := by
  obtain ⟨d, j, hs⟩ := TI.says (tab_ok _ _ tab62)
  obtain ⟨j', zv, zs, k1, k2, k3, k3', k3'', k4, k5, k6⟩ := zero_ok (w := w) (ρ := pureC nil nil none) (tab_ok _ _ tab62) (by decide)
  rw [hs.inf] at k1; cases k1
  have hjs := hs.sz
  have hjb := hs.by'
  dsimp only at hjs hjb k6
  have hsrc : Eng.Src w (some ⟨vb, 0, none⟩) 1 xs := .inr ⟨_, rfl, fun q v hq => by
    rw [addr_plus, Nat.zero_add]
    refine hv.cell ?_
    rw [← hM] at hq
    have hl := (List.getElem?_eq_some_iff.1 hq).1
    rw [List.length_take] at hl
    rwa [List.getElem?_take_of_lt (by omega)] at hq⟩
  obtain ⟨v', w', m1, m2, m3, m4, _⟩ := run_append_row (P := Try.prog) (B := 0) 31 o.type 62 j zv Try.underlying31 hs.inf k2 (by rw [k3, hjs]; simpa using k6) (by rw [hjs]; exact hat.out) (Nat.zero_le _) (some ⟨vb, 0, none⟩) 1 vc xs (by rw [hxl, hjs]) hsrc h2 (by rw [hjb]; omega) (by unfold maxLen; omega)
  refine wpList_plain hgd fun K hK => ?_
  unfold Oper.wp
  simp only [execOp, ho, resolve, invoke, builtin, Sem.run_bind, Sem.run_pure, Result.andThen_ok, List.map_toArray, List.map_cons, List.map_nil, hx, hy, m1]
  exact hK _ _ (h v' w' (by rw [hjs] at m2; exact m2) m3 m4)
theorem insI_end (w : World) (b n c vb vc : Nat) (M : List Value) (e1 : TypeId) (xs olds : List Value) (hat : Eng.RowAt w 0 62 7 (.slice (some ⟨b, 0, none⟩) n c) n olds) (hv : Row0 w vb M e1) (hM : M.take 7 = xs) (hxl : xs.length = 7) (h2 : ∀ u ∈ xs, u.oneCell' = true) (hn : n ≤ 1000000) (hnc : n ≤ c) (hc : c ≤ maxLen) :
    Calls Try.prog 116 #[.slice (some ⟨b, 0, none⟩) n c, .int .i64 n, .slice (some ⟨vb, 0, none⟩) 1 vc] w fun e w' =>
      ∃ v', e = .returned v' ∧ Eng.RowAt w' 0 62 7 v' (n + 1) (olds ++ xs) ∧ Ext (fun k => blk (.slice (some ⟨b, 0, none⟩) n c) = some k) w w' ∧ ∀ g, blk v' = some g → blk (.slice (some ⟨b, 0, none⟩) n c) = some g ∨ w.heap.size ≤ g := by
  have hc63 : c ≤ 9223372036854775807 := by unfold maxLen at hc; exact hc
  have hz1 : ¬ ((1 : Int) = 0) := by omega
  have hb2 : (0 : Int) ≤ (n : Int) := by omega
  have hb3 : (n : Int) ≤ (c : Int) := by omega
  have HA := Lib.hid hat
  have HV := Lib.hid hv
  clear hat hv
  by_cases hcn : c = n
  · go_enter Try.func116, Try.ntmps116
    go_wp2_with (at_builtin; refine wp_appRI rfl rfl (.slice (some ⟨b, 0, none⟩) n c) (by simp [Act.eval, Act.put, hcn]) n olds HA vb vc rfl M e1 HV.out xs hM hxl h2 hn ?_; intro v4 w4 R4 E4 B4)
    go_ret
    exact ⟨_, by simp, R4, E4, B4⟩
  · go_enter Try.func116, Try.ntmps116
    go_wp2_with (at_builtin; refine wp_appRI rfl rfl (.slice (some ⟨b, 0, none⟩) n c) (by simp [Act.eval, Act.put]) n olds HA vb vc rfl M e1 HV.out xs hM hxl h2 hn ?_; intro v4 w4 R4 E4 B4)
    go_ret
    exact ⟨_, by simp, R4, E4, B4⟩
theorem insI_nil (w : World) (ad : Option Addr) (vb vc : Nat) (M : List Value) (e1 : TypeId) (xs : List Value) (hv : Row0 w vb M e1) (hM : M.take 7 = xs) (hxl : xs.length = 7) (h2 : ∀ u ∈ xs, u.oneCell' = true) :
    Calls Try.prog 116 #[.slice ad 0 0, .int .i64 0, .slice (some ⟨vb, 0, none⟩) 1 vc] w fun e w' =>
      ∃ v', e = .returned v' ∧ Eng.RowAt w' 0 62 7 v' 1 xs ∧ Grow w w' ∧ ∀ g, blk v' = some g → w.heap.size ≤ g := by
  have hat : Eng.RowAt w 0 62 7 (.slice ad 0 0) 0 [] := .inl ⟨rfl, rfl, ad, rfl⟩
  have hnb : ∀ k, ¬ blk (.slice ad 0 0) = some k := fun k hk => by cases ad <;> simp [blk] at hk
  have hz1 : ¬ ((1 : Int) = 0) := by omega
  have HA := Lib.hid hat
  have HV := Lib.hid hv
  clear hat hv
  cases ad with
  | none =>
    go_enter Try.func116, Try.ntmps116
    go_wp2_with (at_builtin; refine wp_appRI rfl rfl (.slice none 0 0) (by simp [Act.eval, Act.put]) 0 [] HA vb vc rfl M e1 HV.out xs hM hxl h2 (by omega) ?_; intro v4 w4 R4 E4 B4)
    go_ret
    exact ⟨v4, by simp, by simpa using R4, E4.mono (fun k hk => hnb k hk), fun g hg => (B4 g (by simpa using hg)).resolve_left (hnb g)⟩
  | some ad =>
    go_enter Try.func116, Try.ntmps116
    go_wp2_with (at_builtin; refine wp_appRI rfl rfl (.slice (some ad) 0 0) (by simp [Act.eval, Act.put]) 0 [] HA vb vc rfl M e1 HV.out xs hM hxl h2 (by omega) ?_; intro v4 w4 R4 E4 B4)
    go_ret
    exact ⟨v4, by simp, by simpa using R4, E4.mono (fun k hk => hnb k hk), fun g hg => (B4 g (by simpa using hg)).resolve_left (hnb g)⟩
theorem insI_at (w : World) (u : Value) (n i : Nat) (olds : List Value) (vb vc : Nat) (M : List Value) (e1 : TypeId) (xs : List Value) (hat : Eng.RowAt w 0 62 7 u n olds) (hone : ∀ u ∈ olds, u.oneCell' = true) (hv : Row0 w vb M e1) (hne : blk u ≠ some vb) (hM : M.take 7 = xs) (hxl : xs.length = 7) (h2 : ∀ u ∈ xs, u.oneCell' = true) (hi : i ≤ n) (hn : n ≤ 1000000) :
    Calls Try.prog 116 #[u, .int .i64 i, .slice (some ⟨vb, 0, none⟩) 1 vc] w fun e w' =>
      ∃ v', e = .returned v' ∧ Eng.RowAt w' 0 62 7 v' (n + 1) (olds.take (i * 7) ++ (xs ++ olds.drop (i * 7))) ∧ Ext (fun k => blk u = some k) w w' ∧ ∀ g, blk v' = some g → blk u = some g ∨ w.heap.size ≤ g := by
  have hat0 := hat
  rcases hat with ⟨rfl, rfl, ad, rfl⟩ | ⟨g, cap, cur, rfl, hp, _, hg, hnc, hcm, hcs, htk, hol⟩
  · have : i = 0 := by omega
    subst this
    refine (insI_nil w ad vb vc M e1 xs hv hM hxl h2).mono ?_
    rintro e w' ⟨v', rfl, q1, q2, q3⟩
    exact ⟨v', rfl, by simpa using q1, q2.mono (fun _ h => h.elim), fun g hg => .inr (q3 g hg)⟩
  · have hbl : blk (.slice (some ⟨g, 0, none⟩) n cap) = some g := blk_slice _ _ _ hp
    have hG : Row0 w g cur.toList 62 := by show _ = _; rw [hg]
    rcases Nat.lt_or_ge i n with hlt | hge
    · have hcl : cur.toList.length = cap * 7 := by rw [Array.length_toList, hcs]
      have hcut : (cur.toList.take (n * 7)).take (i * 7) = cur.toList.take (i * 7) := by rw [List.take_take, Nat.min_eq_left (by omega)]
      rcases Nat.lt_or_ge n cap with hroom | hfull
      · refine (insI_room w g n cap i vb vc cur.toList M e1 xs hG hv (fun e => hne (by rw [hbl, e])) hcl hM hxl hlt hroom hcm (by rw [htk]; exact hone) h2).mono ?_
        rintro e w' ⟨rfl, q1, q2⟩
        refine ⟨_, rfl, .inr ⟨g, cap, _, rfl, hp, Nat.zero_le _, q2.out, hroom, hcm, ?_, ?_, ?_⟩, q1.mono (fun k hk => by rw [hk]; exact hbl), fun g' hg' => by rw [blk_slice _ _ _ hp] at hg'; exact .inl (by rw [hbl]; exact hg')⟩
        · simp only [List.size_toArray, List.length_append, List.length_take, List.length_drop, hcl, hxl, Nat.add_mul]; omega
        · simp only [List.append_assoc]
          rw [htk, ← hcut, htk, ← List.append_assoc xs, ← List.append_assoc, ← List.append_assoc]
          exact List.take_left' (by simp only [List.length_append, List.length_take, List.length_drop, hol, hxl, Nat.add_mul]; omega)
        · simp only [List.length_append, List.length_take, List.length_drop, hol, hxl, Nat.add_mul]; omega
      · have hce : cap = n := by omega
        subst hce
        refine (insI_grow w g cap i vb vc cur.toList M e1 xs hG hv (by omega) hM hxl hlt hn ?_ h2).mono ?_
        · rw [← List.take_of_length_le (l := cur.toList) (i := cap * 7) (by omega), htk]; exact hone
        · rintro e w' ⟨g', G, Z, rfl, q1, q2, q3, q4, q5, q6⟩
          refine ⟨_, rfl, .inr ⟨g', G, _, rfl, by omega, Nat.zero_le _, q3.out, q5, q6, ?_, ?_, ?_⟩, q1.mono (fun _ h => h.elim), fun g'' hg' => by rw [blk_slice _ _ _ (by omega)] at hg'; cases hg'; exact .inr q2⟩
          · simp only [List.size_toArray, List.length_append, List.length_take, List.length_drop, hcl, hxl, q4, Nat.add_mul, Nat.sub_mul]; omega
          · rw [htk, ← hcut, htk, ← List.append_assoc xs, ← List.append_assoc]
            exact List.take_left' (by simp only [List.length_append, List.length_take, List.length_drop, hol, hxl, Nat.add_mul]; omega)
          · simp only [List.length_append, List.length_take, List.length_drop, hol, hxl, Nat.add_mul]; omega
    · have : i = n := by omega
      subst this
      refine (insI_end w g i cap vb vc M e1 xs olds hat0 hv hM hxl h2 hn hnc hcm).mono ?_
      rintro e w' ⟨v', rfl, q1, q2, q3⟩
      refine ⟨v', rfl, ?_, q2, q3⟩
      rw [List.take_of_length_le (by omega), List.drop_of_length_le (by omega), List.append_nil]
      exact q1
theorem insI_inv3 {w : World} {ρ : Cx} {a b c : AV} {vs : List Value} (h : RepL w ρ [a, b, c] vs) : ∃ x y z, vs = [x, y, z] ∧ Eng.Rep w ρ a x ∧ Eng.Rep w ρ b y ∧ Eng.Rep w ρ c z := by
  unfold RepL at h
  obtain ⟨x, _, rfl, h1, h⟩ := h
  unfold RepL at h
  obtain ⟨y, _, rfl, h2, h⟩ := h
  unfold RepL at h
  obtain ⟨z, _, rfl, h3, h⟩ := h
  unfold RepL at h
  subst h
  exact ⟨x, y, z, rfl, h1, h2, h3⟩
theorem insI_ACG (es : List (List AV)) (x : List AV) (i : Nat) (hi : i ≤ es.length) (hn : es.length ≤ 1000000) (hes : ∀ e ∈ es, ∀ c ∈ e, Pur c) (hx : ∀ c ∈ x, Pur c) :
    ACG Try.prog 116 [.own 1000 es.length, .int .i64 i, .own 1001 1] [(1000, ⟨false, 62, 7, es⟩), (1001, ⟨false, 62, 7, [x]⟩)] 0 (fun r l => r = .own 1 (es.length + 1) ∧ l = [(1, ⟨false, 62, 7, es.take i ++ (x :: es.drop i)⟩)]) := by
  refine ⟨Go.Proofs.Ytmeobmegnneegaa.Eng.enters_of Try.func116 (by kernel_rfl) (by kernel_rfl), by simp, fun w ρ k vs hL hS hrd hU hR hargs => ?_⟩
  obtain ⟨v0, v1, v2, rfl, a0, a1, a2⟩ := insI_inv3 hargs
  obtain ⟨u0, p1, p2, ⟨p3, _⟩, p4, p5, xs0, p6, p7, p8⟩ := hR.rw 1000 _ rfl
  obtain ⟨u1, q1, q2, _, q4, q5, xs1, q6, q7, q8⟩ := hR.rw 1001 _ rfl
  dsimp only at p2 p4 p6 p7 q2 q4 q6 q7
  obtain ⟨_, _, _, hv0⟩ := rep_own.1 a0
  obtain ⟨_, _, _, hv2⟩ := rep_own.1 a2
  have := hv0 u0 p1 p2.symm
  subst this
  have := hv2 u1 q1 q2.symm
  subst this
  rw [rep_int] at a1
  subst a1
  rcases q6 with ⟨h0, _⟩ | ⟨g, cap, cur, rfl, hp, _, hg, hnc, hcm, hcs, htk, hol⟩
  · simp at h0
  have hG : Row0 w g cur.toList 62 := by show _ = _; rw [hg]
  have hbl : blk (.slice (some ⟨g, 0, none⟩) [x].length cap) = some g := blk_slice _ _ _ hp
  have htk' : cur.toList.take 7 = xs1 := by rw [← htk]; simp
  refine (insI_at w v0 es.length i xs0 g cap cur.toList 62 xs1 p6 p8 hG (fun e => ?_) htk' (by simpa using hol) q8 hi hn).mono ?_
  · have := hR.dj 1000 1001 _ _ g p1 q1 e hbl
    omega
  · rintro e w' ⟨v', rfl, m1, m2, m3⟩
    have hfl : (es.take i ++ (x :: es.drop i)).flatten = (es.take i).flatten ++ (x ++ (es.drop i).flatten) := by simp
    have hlt : (es.take i).flatten.length = i * 7 := by rw [flat_len (fun e he => p4 e (List.mem_of_mem_take he)), List.length_take, Nat.min_eq_left hi]
    have hsp : es.flatten = (es.take i).flatten ++ (es.drop i).flatten := by rw [← List.flatten_append, List.take_append_drop]
    have hl2 : (es.take i ++ (x :: es.drop i)).length = es.length + 1 := by simp; omega
    obtain ⟨ρ', r1, r2, r3, r4, r5, r6, r7, r8, r9⟩ := acg_one (k := k) (c := 0) hL hS hrd hR (m2.mono (fun b hb => ⟨1000, v0, p1, hb⟩)) ⟨false, 62, 7, es.take i ++ (x :: es.drop i)⟩ v' _ rfl p3 (fun y hy => by
      rcases List.mem_append.1 hy with hy | hy
      · exact p4 y (List.mem_of_mem_take hy)
      · rcases List.mem_cons.1 hy with rfl | hy
        · exact q4 _ (by simp)
        · exact p4 y (List.mem_of_mem_drop hy)) (by dsimp only; rw [hl2]; exact m1) (fun g hg => (m3 g hg).imp (fun h => ⟨1000, v0, p1, h⟩) (fun h => h)) (by
        dsimp only
        rw [hfl]
        rw [hsp] at p7
        have t1 := p7.take (i * 7)
        have t2 := p7.drop (i * 7)
        rw [← hlt, List.take_left] at t1
        rw [← hlt, List.drop_left] at t2
        rw [hlt] at t1 t2
        exact t1.append ((by simpa using q7 : RepL w ρ x xs1).append t2)) (fun e he c hc => by
        rcases List.mem_append.1 he with he | he
        · exact hes e (List.mem_of_mem_take he) c hc
        · rcases List.mem_cons.1 he with rfl | he
          · exact hx c hc
          · exact hes e (List.mem_of_mem_drop he) c hc) (fun u hu => by
        rcases List.mem_append.1 hu with hu | hu
        · exact p8 u (List.mem_of_mem_take hu)
        · rcases List.mem_append.1 hu with hu | hu
          · exact q8 u hu
          · exact p8 u (List.mem_of_mem_drop hu))
    exact ⟨v', _, _, ρ', rfl, r1, r2, r3, r4, r5, r6, r7, (fun id r h1 h2 u h3 => by rw [r8 id (by have := rowsOf_key h1; simp at this; omega)] at h3; cases h3), by rw [hl2] at r9; exact r9, rfl, rfl⟩
theorem delI_ACG (es : List (List AV)) (i : Nat) (hi : i < es.length) (hes : ∀ e ∈ es, ∀ c ∈ e, Pur c) :
    ACG Try.prog 106 [.own 1000 es.length, .int .i64 i, .int .i64 ((i : Int) + 1)] [(1000, ⟨false, 62, 7, es⟩)] 0 (fun r l => r = .own 1 (es.length - 1) ∧ l = [(1, ⟨false, 62, 7, es.take i ++ es.drop (i + 1)⟩)]) := by
  refine ⟨Go.Proofs.Ytmeobmegnneegaa.Eng.enters_of Try.func106 (by kernel_rfl) (by kernel_rfl), by simp, fun w ρ k vs hL hS hrd hU hR hargs => ?_⟩
  obtain ⟨v0, v1, v2, rfl, a0, a1, a2⟩ := insI_inv3 hargs
  obtain ⟨u0, p1, p2, ⟨p3, _⟩, p4, p5, xs0, p6, p7, p8⟩ := hR.rw 1000 _ rfl
  dsimp only at p2 p4 p6 p7
  obtain ⟨_, _, _, hv0⟩ := rep_own.1 a0
  have := hv0 u0 p1 p2.symm
  subst this
  rw [rep_int] at a1 a2
  subst a1 a2
  rcases p6 with ⟨h0, _⟩ | ⟨g, cap, cur, rfl, hp, _, hg, hnc, hcm, hcs, htk, hol⟩
  · omega
  have hG : Row0 w g cur.toList 62 := by show _ = _; rw [hg]
  have hbl : blk (.slice (some ⟨g, 0, none⟩) es.length cap) = some g := blk_slice _ _ _ hp
  have hcl : cur.toList.length = cap * 7 := by rw [Array.length_toList, hcs]
  have hl2 : (es.take i ++ es.drop (i + 1)).length = es.length - 1 := by simp; omega
  have hsp : es.flatten = (es.take i).flatten ++ (es.drop i).flatten := by rw [← List.flatten_append, List.take_append_drop]
  have hlt : (es.take i).flatten.length = i * 7 := by rw [flat_len (fun e he => p4 e (List.mem_of_mem_take he)), List.length_take, Nat.min_eq_left (by omega)]
  have hlt2 : (es.take (i + 1)).flatten.length = (i + 1) * 7 := by rw [flat_len (fun e he => p4 e (List.mem_of_mem_take he)), List.length_take, Nat.min_eq_left (by omega)]
  have hsp2 : es.flatten = (es.take (i + 1)).flatten ++ (es.drop (i + 1)).flatten := by rw [← List.flatten_append, List.take_append_drop]
  have key : Calls Try.prog 106 #[.slice (some ⟨g, 0, none⟩) es.length cap, .int .i64 i, .int .i64 ((i : Int) + 1)] w fun e w' =>
      ∃ L', e = .returned (.slice (some ⟨g, 0, none⟩) (es.length - 1 : Nat) cap) ∧ Ext (fun k => k = g) w w' ∧ Row0 w' g L' 62 ∧ L'.length = cap * 7 ∧ L'.take ((es.length - 1) * 7) = xs0.take (i * 7) ++ xs0.drop ((i + 1) * 7) := by
    have hcut : cur.toList.take (i * 7) = xs0.take (i * 7) := by rw [← htk, List.take_take, Nat.min_eq_left (by omega)]
    by_cases hci : cap = i + 1
    · subst hci
      have : es.length = i + 1 := by omega
      rw [this]
      refine (delI_last w g i cur.toList hG hcl hcm).mono ?_
      rintro e w' ⟨L', rfl, m1, m2, m3, m4⟩
      refine ⟨L', by simp, m1, m2, m3, ?_⟩
      rw [Nat.add_sub_cancel, m4, hcut, List.drop_of_length_le (by rw [hol, this]; exact Nat.le_refl _), List.append_nil]
    · refine (delI_mid w g es.length cap i cur.toList hG hcl hi hnc hcm hci (by rw [htk]; exact p8)).mono ?_
      rintro e w' ⟨L', rfl, m1, m2, m3, m4⟩
      exact ⟨L', rfl, m1, m2, m3, by rw [m4, hcut, htk]⟩
  refine key.mono ?_
  rintro e w' ⟨L', rfl, m1, m2, m3, m4⟩
  have hat : Eng.RowAt w' 0 62 7 (.slice (some ⟨g, 0, none⟩) (es.length - 1) cap) (es.length - 1) (xs0.take (i * 7) ++ xs0.drop ((i + 1) * 7)) :=
    .inr ⟨g, cap, _, rfl, hp, Nat.zero_le _, m2.out, by omega, hcm, by rw [List.size_toArray, m3], by rw [← m4], by simp only [List.length_append, List.length_take, List.length_drop, hol, Nat.sub_mul, Nat.add_mul]; omega⟩
  obtain ⟨ρ', r1, r2, r3, r4, r5, r6, r7, r8, r9⟩ := acg_one (k := k) (c := 0) hL hS hrd hR (m1.mono (fun b hb => ⟨1000, _, p1, by rw [hbl, hb]⟩)) ⟨false, 62, 7, es.take i ++ es.drop (i + 1)⟩ _ _ rfl p3 (fun y hy => by
    rcases List.mem_append.1 hy with hy | hy
    · exact p4 y (List.mem_of_mem_take hy)
    · exact p4 y (List.mem_of_mem_drop hy)) (by dsimp only; rw [hl2]; exact hat) (fun g' hg' => .inl ⟨1000, _, p1, by rw [hbl]; rw [blk_slice _ _ _ hp] at hg'; exact hg'⟩) (by
      dsimp only
      rw [List.flatten_append]
      have t1 := p7
      have t2 := p7
      rw [hsp] at t1
      rw [hsp2] at t2
      have t1 := t1.take (i * 7)
      have t2 := t2.drop ((i + 1) * 7)
      rw [← hlt, List.take_left] at t1
      rw [← hlt2, List.drop_left] at t2
      rw [hlt] at t1
      rw [hlt2] at t2
      exact t1.append t2) (fun e he c hc => by
      rcases List.mem_append.1 he with he | he
      · exact hes e (List.mem_of_mem_take he) c hc
      · exact hes e (List.mem_of_mem_drop he) c hc) (fun u hu => by
      rcases List.mem_append.1 hu with hu | hu
      · exact p8 u (List.mem_of_mem_take hu)
      · exact p8 u (List.mem_of_mem_drop hu))
  exact ⟨_, _, _, ρ', rfl, r1, r2, r3, r4, r5, r6, r7, (fun id r h1 h2 u h3 => by rw [r8 id (by have := rowsOf_key h1; simp at this; omega)] at h3; cases h3), by rw [hl2] at r9; exact r9, rfl, rfl⟩
end Go.Proofs.Ytmeobmegnneegaa
-- EV: store
namespace Go.Proofs.Ytmeobmegnneegaa.Eng
open Go Go.RowKit
attribute [local simp] big size_mk ASt.pay Option.map_map Function.comp_def awant aop acall ado aev ofVal ofVal0 ASt.put ASt.add ASt.turn ASt.kill abox aalloc astore aload ASt.at cellsTo afieldAddr afield aindexAddr aindex alen abin aint acmp astr aun apick aextract anil aslice abound abuild afill abuildSlice asCells aps avCells over upd aappend asrc amax amin aconv mkSt slots rowsOf_cons rowsOf_nil usedOf_cons usedOf_nil ZK.av List.replicate ASt.back ASt.addL ASt.killL nodeA nodeT nodeTL_eq nodeL_eq strsE_get strsE_len intsE_get intsE_len strsE_at intsE_at itemA itemL_eq storeA storeT storeO itemsRow tab2 tab3 tab4 tab5 tab6 tab7 tab8 tab9 tab10 tab11 tab12 tab13 tab14 tab15 tab16 tab17 tab18 tab19 tab21 tab22 tab23 tab24 tab25 tab26 tab27 tab28 tab31 tab32 tab33 tab37 tab38 tab39 tab46 tab53 tab61 tab62 tab69 tab70 tab98 tab116 tab117 tab125 tab126 tab128 tab136 tab145 tab146 tab151 tab152 tab153 tab155 tab156 tab157
theorem copyItem_AC (x : Itm) (hx : Sml x.2.2) : AC Try.prog 98 [itemA x] 0 (fun r => r = itemA x) := by
  unfold itemA
  rw [itemL_eq]
  refine AC.of tab_ok mixed_ok Try.func98 (by rfl) (by kernel_rfl) ?_; rintro ⟨P, T, hT, hm, w0, S0, rd0, k0⟩ hP hTT; dsimp only at hP hTT; subst hP hTT; unfold initSt; rw [Try.ntmps98]
  (repeat (first | with_reducible refine AW.seq ?_ | ((first | refine arun_kn 4 rfl (fun C hC => ?_) | refine arunD_kn 4 rfl (fun C hC => ?_)); (repeat ((conv => whnf); simp)); refine hC _ ?_; clear hC C; simp only [List.drop, Nat.reduceAdd]) | ((first | refine arun_kn 1 rfl (fun C hC => ?_) | refine arunD_kn 1 rfl (fun C hC => ?_)); (repeat ((conv => whnf); simp)); refine hC _ ?_; clear hC C; simp only [List.drop, Nat.reduceAdd]) | (refine arun_skip ?_ ?_; (focus (simp [awant]; done))) | (refine arun_c0 (implCopy_AC x.2.2 hx) ?_; rintro _ rfl) | (refine arunD_c (0) (implCopy_AC x.2.2 hx) ?_; rintro _ rfl; intro _) | (refine AW.regionK [] (fun K hK => ?_)) | (refine AW.regionDK [] (pcs [(6, 0, fun r => r = nodeA x.2.2)] []) (by kernel_rfl) (by kernel_rfl) (fun K hK => ?_)) | (refine AW.condT ?_ ?_; (focus (simp [aev]; done))) | (refine AW.condF ?_ ?_; (focus (simp [aev]; done))) | with_reducible refine AW.block ?_ | ((first | ((first | refine arun_nil ?_ | refine arunD_nil ?_); refine hK _ ?_; clear hK K) | refine AW.skip ?_ | refine AW.exit ?_ | refine AW.ret ?_); simp only [thenA_exit, inBlockA_exit, if_true, if_false, Nat.reduceEqDiff, thenA_normal, inBlockA_normal, reduceIte, thenA_ret, inBlockA_ret, endQ_ret, endR_ret, endG_ret, endQ_normal, endR_normal, endG_normal])))
  exact ⟨itemA x, by simp [ares, aresL, upd, rowsOf_cons], item_pur x, by rw [itemA, itemL_eq]⟩
def zeroI : List AV := [.str ⟨#[]⟩, .int .i64 0, .int .i64 0, .int .i64 0, .str ⟨#[]⟩, .view .tight 0 [], .view .tight 0 []]
def partI (ks : List Itm) (i : Nat) : List (List AV) := (ks.take i).map itemL ++ List.replicate (ks.length - i) zeroI
theorem partI_len (ks : List Itm) (i : Nat) (h : i ≤ ks.length) : (partI ks i).length = ks.length := by unfold partI; simp only [List.length_append, List.length_map, List.length_take, List.length_replicate]; omega
theorem partI_zero (ks : List Itm) : partI ks 0 = List.replicate ks.length zeroI := by unfold partI; rfl
theorem partI_all (ks : List Itm) : partI ks ks.length = ks.map itemL := by unfold partI; rw [List.take_length, Nat.sub_self, List.replicate_zero, List.append_nil]
theorem partI_get (ks : List Itm) (i : Nat) (h : i < ks.length) : ∀ h, (partI ks i)[i]'h = zeroI := by
  intro h'
  have hl : ((ks.take i).map itemL).length = i := by rw [List.length_map, List.length_take]; omega
  unfold partI at h' ⊢
  rw [List.getElem_append_right (by omega)]
  exact List.getElem_replicate _
theorem partI_set (ks : List Itm) (i : Nat) (h : i < ks.length) : (partI ks i).set i (itemL ks[i]) = partI ks (i + 1) := by
  unfold partI
  have hl : ((ks.take i).map itemL).length = i := by rw [List.length_map, List.length_take]; omega
  rw [List.set_append_right _ _ (by omega), hl, Nat.sub_self, List.take_add_one, List.getElem?_eq_getElem h]
  have : ks.length - i = (ks.length - (i + 1)) + 1 := by omega
  rw [this, List.replicate_succ, List.set_cons_zero, List.map_append, List.append_assoc]
  rfl
theorem partI_in {U : Nat → Bool} (ks : List Itm) (i : Nat) : ∀ e ∈ partI ks i, ∀ c ∈ e, AV.In U c := by
  intro e he c hc
  unfold partI at he
  rcases List.mem_append.1 he with he | he
  · exact itemsE_in (ks.take i) e he c hc
  · rw [List.eq_of_mem_replicate he] at hc
    simp only [zeroI, List.mem_cons, List.not_mem_nil, or_false] at hc
    rcases hc with rfl | rfl | rfl | rfl | rfl | rfl | rfl
    · exact in_str
    · exact in_int
    · exact in_int
    · exact in_int
    · exact in_str
    · exact in_vnil
    · exact in_vnil
theorem implCopyStore_ACG (s : Sto) (hs : SmlS s) : ACG Try.prog 79 [storeA s] [] 0 (Post1 (storeO s) (itemsRow s)) := by
  obtain ⟨hs1, hs2⟩ := hs
  unfold storeA storeT
  refine ACG.of tab_ok mixed_ok Try.func79 (by rfl) (by kernel_rfl) (by simp) ?_; rintro ⟨P, T, hT, hm, w0, S0, rd0, k0⟩ hP hTT; dsimp only at hP hTT; subst hP hTT; unfold initStG; rw [Try.ntmps79]
  refine AW.seq ?_
  (refine AW.regionK [] (fun K hK => ?_); (repeat (refine arun_ks 4 rfl (fun C hC => ?_); (repeat ((conv => whnf); simp)); refine hC _ ?_; clear hC C; simp only [List.drop_succ_cons, List.drop_zero, List.drop_nil])); refine arun_nil ?_; refine hK _ ?_; clear hK K; simp only [thenA_normal, inBlockA_normal, endQ_normal, endR_normal])
  refine AW.seq ?_
  (refine AW.regionK [] (fun K hK => ?_); (repeat (refine arun_ks 4 rfl (fun C hC => ?_); (repeat ((conv => whnf); simp)); refine hC _ ?_; clear hC C; simp only [List.drop_succ_cons, List.drop_zero, List.drop_nil])); refine arun_nil ?_; refine hK _ ?_; clear hK K; simp only [thenA_normal, inBlockA_normal, endQ_normal, endR_normal])
  refine AW.seq ?_
  refine AW.cutN (fun (_ : Unit) => mkSt (slots 0 34 [(2, .ptr true 2 1 2 0 0), (3, .ptr true 2 1 3 0 0)]) [(2, ⟨true, 33, 2, [[.view .tight 0 [], .int .i64 0]]⟩), (3, ⟨true, 33, 2, [[.own 16 s.1.length, .int .i64 s.2]]⟩), (16, itemsRow s)] [2, 3, 16] (rd0.map fun _ => 0)) (fun _ => True) ?_ ?_
  · by_cases hn0 : 0 < s.1.length
    · (repeat (first | with_reducible refine AW.seq ?_ | ((first | refine arun_kn 4 rfl (fun C hC => ?_) | refine arunD_kn 4 rfl (fun C hC => ?_)); (repeat ((conv => whnf); simp [hn0])); refine hC _ ?_; clear hC C; simp only [List.drop, Nat.reduceAdd]) | ((first | refine arun_kn 1 rfl (fun C hC => ?_) | refine arunD_kn 1 rfl (fun C hC => ?_)); (repeat ((conv => whnf); simp [hn0])); refine hC _ ?_; clear hC C; simp only [List.drop, Nat.reduceAdd]) | (refine arun_skip ?_ ?_; (focus (simp [awant, hn0]; done))) | (refine AW.regionK [] (fun K hK => ?_)) | (refine AW.regionDK [] (pcs [] []) (by kernel_rfl) (by kernel_rfl) (fun K hK => ?_)) | (refine AW.condT ?_ ?_; (focus (simp [aev, hn0]; done))) | (refine AW.condF ?_ ?_; (focus (simp [aev, hn0]; done))) | with_reducible refine AW.block ?_ | ((first | ((first | refine arun_nil ?_ | refine arunD_nil ?_); refine hK _ ?_; clear hK K) | refine AW.skip ?_ | refine AW.exit ?_ | refine AW.ret ?_); simp only [thenA_exit, inBlockA_exit, if_true, if_false, Nat.reduceEqDiff, thenA_normal, inBlockA_normal, reduceIte, thenA_ret, inBlockA_ret, endQ_ret, endR_ret, endG_ret, endQ_normal, endR_normal, endG_normal])))
      refine arun_make 16 rfl (by simp [awant]) rfl tab31 tab62 (by decide) rfl (by dsimp only; omega) (by unfold maxLen; omega) (by simp [upd]) ?_
      (repeat (first | with_reducible refine AW.seq ?_ | ((first | refine arun_kn 4 rfl (fun C hC => ?_) | refine arunD_kn 4 rfl (fun C hC => ?_)); (repeat ((conv => whnf); simp [hn0])); refine hC _ ?_; clear hC C; simp only [List.drop, Nat.reduceAdd]) | ((first | refine arun_kn 1 rfl (fun C hC => ?_) | refine arunD_kn 1 rfl (fun C hC => ?_)); (repeat ((conv => whnf); simp [hn0])); refine hC _ ?_; clear hC C; simp only [List.drop, Nat.reduceAdd]) | (refine arun_skip ?_ ?_; (focus (simp [awant, hn0]; done))) | (refine AW.regionK [] (fun K hK => ?_)) | (refine AW.regionDK [] (pcs [] []) (by kernel_rfl) (by kernel_rfl) (fun K hK => ?_)) | (refine AW.condT ?_ ?_; (focus (simp [aev, hn0]; done))) | (refine AW.condF ?_ ?_; (focus (simp [aev, hn0]; done))) | with_reducible refine AW.block ?_ | ((first | ((first | refine arun_nil ?_ | refine arunD_nil ?_); refine hK _ ?_; clear hK K) | refine AW.skip ?_ | refine AW.exit ?_ | refine AW.ret ?_); simp only [thenA_exit, inBlockA_exit, if_true, if_false, Nat.reduceEqDiff, thenA_normal, inBlockA_normal, reduceIte, thenA_ret, inBlockA_ret, endQ_ret, endR_ret, endG_ret, endQ_normal, endR_normal, endG_normal])))
      refine AW.loopS (fun (i : Nat) => mkSt (slots 0 34 [(1, .ptr true 2 1 1 0 0), (2, .ptr true 2 1 2 0 0), (3, .ptr true 2 1 3 0 0), (19, .view .loose 7 (s.1.map itemL)), (20, .int .i64 s.1.length), (21, .int .i64 i)]) [(1, ⟨true, 33, 2, [[.view .loose 7 (s.1.map itemL), .int .i64 s.2]]⟩), (2, ⟨true, 33, 2, [[.view .tight 0 [], .int .i64 0]]⟩), (3, ⟨true, 33, 2, [[.own 16 s.1.length, .int .i64 s.2]]⟩), (16, ⟨false, 62, 7, partI s.1 i⟩)] [1, 2, 3, 16] (rd0.map fun _ => 0)) (fun i => s.1.length - i) (fun i => i ≤ s.1.length) 0 ?_ (Nat.zero_le _) ?_
      · have hin : ∀ U : Nat → Bool, ∀ e ∈ partI s.1 0, ∀ c ∈ e, AV.In U c := fun U => partI_in _ _
        rw [partI_zero] at hin ⊢
        exact (less_of (by simp [lessL, mkSt, slots, zeroI, itemA, itemL_eq, storeA, storeT, storeO, itemsRow]) (by simp [upd, mkSt, rowsOf_cons, zeroI, itemA, itemL_eq, storeA, storeT, storeO, itemsRow]) (by simp [upd, mkSt, usedOf_cons, zeroI, itemA, itemL_eq, storeA, storeT, storeO, itemsRow]) (by first | exact rd_less (by omega) | simp [mkSt, zeroI, itemA, itemL_eq, storeA, storeT, storeO, itemsRow]) (by simp [slots, in_any, in_int, in_bool, in_str, in_ptr, in_own, in_agg, in_vnil, in_rdr, usedOf_cons, usedOf_nil, strs_in, ints_in, nodes_in, items_in, in_tup, zeroI, itemA, itemL_eq, storeA, storeT, storeO, itemsRow]) (by simp only [List.forall_mem_cons, List.not_mem_nil, false_implies, implies_true, and_true, true_and, zeroI, itemA, itemL_eq, storeA, storeT, storeO, itemsRow]; (repeat (first | with_reducible exact trivial | with_reducible refine And.intro ?_ ?_ | with_reducible exact in_int | with_reducible exact in_str | with_reducible exact in_bool | with_reducible exact strs_in _ | with_reducible exact nodes_in _ | with_reducible exact items_in _ | with_reducible exact in_vnil | with_reducible exact in_any | exact hin _ | with_reducible refine take_in ?_ | with_reducible exact strsE_in _ | with_reducible exact nodesE_in _ | with_reducible exact nodeL_in _ | with_reducible exact itemsE_in _ | with_reducible exact itemL_in _ | with_reducible refine app_in ?_ ?_ | with_reducible refine sing_in ?_ | (focus (simp [in_any, in_int, in_bool, in_str, in_ptr, in_own, in_agg, in_vnil, in_rdr, usedOf_cons, usedOf_nil, strs_in, ints_in, nodes_in, items_in, zeroI, itemA, itemL_eq, storeA, storeT, storeO, itemsRow]; done)))); done))
      · intro i hi
        have hpl := partI_len s.1 i hi
        by_cases hlt : i < s.1.length
        · have hw : IntKind.i64.wrap ((i : Int) + 1) = (i : Int) + 1 := i64_nat (by omega) (by omega)
          have hgd := partI_get s.1 i hlt
          unfold zeroI at hgd
          have hset := partI_set s.1 i hlt
          rw [itemL_eq] at hset
          have hin : ∀ U : Nat → Bool, ∀ e ∈ partI s.1 (i + 1), ∀ c ∈ e, AV.In U c := fun U => partI_in _ _
          (repeat (first | with_reducible refine AW.seq ?_ | ((first | refine arun_kn 4 rfl (fun C hC => ?_) | refine arunD_kn 4 rfl (fun C hC => ?_)); (repeat ((conv => whnf); simp [hlt, hw, hpl, hgd])); refine hC _ ?_; clear hC C; simp only [List.drop, Nat.reduceAdd]) | ((first | refine arun_kn 1 rfl (fun C hC => ?_) | refine arunD_kn 1 rfl (fun C hC => ?_)); (repeat ((conv => whnf); simp [hlt, hw, hpl, hgd])); refine hC _ ?_; clear hC C; simp only [List.drop, Nat.reduceAdd]) | (refine arun_skip ?_ ?_; (focus (simp [awant, hlt, hw, hpl, hgd]; done))) | (refine arun_c0 (copyItem_AC s.1[i] (hs2 _ (List.getElem_mem hlt))) ?_; rintro _ rfl) | (refine arunD_c (0) (copyItem_AC s.1[i] (hs2 _ (List.getElem_mem hlt))) ?_; rintro _ rfl; intro _) | (refine AW.regionK [] (fun K hK => ?_)) | (refine AW.regionDK [] (pcs [(4, 0, fun r => r = itemA s.1[i])] []) (by kernel_rfl) (by kernel_rfl) (fun K hK => ?_)) | (refine AW.condT ?_ ?_; (focus (simp [aev, hlt, hw, hpl, hgd]; done))) | (refine AW.condF ?_ ?_; (focus (simp [aev, hlt, hw, hpl, hgd]; done))) | with_reducible refine AW.block ?_ | ((first | ((first | refine arun_nil ?_ | refine arunD_nil ?_); refine hK _ ?_; clear hK K) | refine AW.skip ?_ | refine AW.exit ?_ | refine AW.ret ?_); simp only [thenA_exit, inBlockA_exit, if_true, if_false, Nat.reduceEqDiff, thenA_normal, inBlockA_normal, reduceIte, thenA_ret, inBlockA_ret, endQ_ret, endR_ret, endG_ret, endQ_normal, endR_normal, endG_normal])))
          refine ⟨i + 1, by omega, by omega, ?_⟩
          exact (less_of (by simp [lessL, mkSt, slots, hset, itemA, itemL_eq, storeA, storeT, storeO, itemsRow]) (by simp [upd, mkSt, rowsOf_cons, hset, itemA, itemL_eq, storeA, storeT, storeO, itemsRow]) (by simp [upd, mkSt, usedOf_cons, hset, itemA, itemL_eq, storeA, storeT, storeO, itemsRow]) (by first | exact rd_less (by omega) | simp [mkSt, hset, itemA, itemL_eq, storeA, storeT, storeO, itemsRow]) (by simp [slots, in_any, in_int, in_bool, in_str, in_ptr, in_own, in_agg, in_vnil, in_rdr, usedOf_cons, usedOf_nil, strs_in, ints_in, nodes_in, items_in, in_tup, hset, itemA, itemL_eq, storeA, storeT, storeO, itemsRow]) (by simp only [List.forall_mem_cons, List.not_mem_nil, false_implies, implies_true, and_true, true_and, hset, itemA, itemL_eq, storeA, storeT, storeO, itemsRow]; (repeat (first | with_reducible exact trivial | with_reducible refine And.intro ?_ ?_ | with_reducible exact in_int | with_reducible exact in_str | with_reducible exact in_bool | with_reducible exact strs_in _ | with_reducible exact nodes_in _ | with_reducible exact items_in _ | with_reducible exact in_vnil | with_reducible exact in_any | exact hin _ | with_reducible refine take_in ?_ | with_reducible exact strsE_in _ | with_reducible exact nodesE_in _ | with_reducible exact nodeL_in _ | with_reducible exact itemsE_in _ | with_reducible exact itemL_in _ | with_reducible refine app_in ?_ ?_ | with_reducible refine sing_in ?_ | (focus (simp [in_any, in_int, in_bool, in_str, in_ptr, in_own, in_agg, in_vnil, in_rdr, usedOf_cons, usedOf_nil, strs_in, ints_in, nodes_in, items_in, hset, itemA, itemL_eq, storeA, storeT, storeO, itemsRow]; done)))); done))
        · obtain rfl : i = s.1.length := by omega
          (repeat (first | with_reducible refine AW.seq ?_ | ((first | refine arun_kn 4 rfl (fun C hC => ?_) | refine arunD_kn 4 rfl (fun C hC => ?_)); (repeat ((conv => whnf); simp)); refine hC _ ?_; clear hC C; simp only [List.drop, Nat.reduceAdd]) | ((first | refine arun_kn 1 rfl (fun C hC => ?_) | refine arunD_kn 1 rfl (fun C hC => ?_)); (repeat ((conv => whnf); simp)); refine hC _ ?_; clear hC C; simp only [List.drop, Nat.reduceAdd]) | (refine arun_skip ?_ ?_; (focus (simp [awant]; done))) | (refine AW.regionK [] (fun K hK => ?_)) | (refine AW.regionDK [] (pcs [] []) (by kernel_rfl) (by kernel_rfl) (fun K hK => ?_)) | (refine AW.condT ?_ ?_; (focus (simp [aev]; done))) | (refine AW.condF ?_ ?_; (focus (simp [aev]; done))) | with_reducible refine AW.block ?_ | ((first | ((first | refine arun_nil ?_ | refine arunD_nil ?_); refine hK _ ?_; clear hK K) | refine AW.skip ?_ | refine AW.exit ?_ | refine AW.ret ?_); simp only [thenA_exit, inBlockA_exit, if_true, if_false, Nat.reduceEqDiff, thenA_normal, inBlockA_normal, reduceIte, thenA_ret, inBlockA_ret, endQ_ret, endR_ret, endG_ret, endQ_normal, endR_normal, endG_normal])))
          refine ⟨(), trivial, ?_⟩
          rw [partI_all]
          exact less_s
    · have hl0 : s.1.length = 0 := by omega
      have he0 : s.1 = [] := List.length_eq_zero_iff.1 hl0
      refine AW.adoptB 3 0 16 62 7 ⟨_, tab62, rfl⟩ (by simp [upd]; rfl) rfl rfl (by simp [upd]) ?_
      simp only [ASt.adoptB]
      (repeat (first | with_reducible refine AW.seq ?_ | ((first | refine arun_kn 4 rfl (fun C hC => ?_) | refine arunD_kn 4 rfl (fun C hC => ?_)); (repeat ((conv => whnf); simp [hl0])); refine hC _ ?_; clear hC C; simp only [List.drop, Nat.reduceAdd]) | ((first | refine arun_kn 1 rfl (fun C hC => ?_) | refine arunD_kn 1 rfl (fun C hC => ?_)); (repeat ((conv => whnf); simp [hl0])); refine hC _ ?_; clear hC C; simp only [List.drop, Nat.reduceAdd]) | (refine arun_skip ?_ ?_; (focus (simp [awant, hl0]; done))) | (refine AW.regionK [] (fun K hK => ?_)) | (refine AW.regionDK [] (pcs [] []) (by kernel_rfl) (by kernel_rfl) (fun K hK => ?_)) | (refine AW.condT ?_ ?_; (focus (simp [aev, hl0]; done))) | (refine AW.condF ?_ ?_; (focus (simp [aev, hl0]; done))) | with_reducible refine AW.block ?_ | ((first | ((first | refine arun_nil ?_ | refine arunD_nil ?_); refine hK _ ?_; clear hK K) | refine AW.skip ?_ | refine AW.exit ?_ | refine AW.ret ?_); simp only [thenA_exit, inBlockA_exit, if_true, if_false, Nat.reduceEqDiff, thenA_normal, inBlockA_normal, reduceIte, thenA_ret, inBlockA_ret, endQ_ret, endR_ret, endG_ret, endQ_normal, endR_normal, endG_normal])))
      exact ⟨(), trivial, (less_of (by simp [lessL, mkSt, slots, he0, itemA, itemL_eq, storeA, storeT, storeO, itemsRow]) (by simp [upd, mkSt, rowsOf_cons, he0, itemA, itemL_eq, storeA, storeT, storeO, itemsRow]) (by simp [upd, mkSt, usedOf_cons, he0, itemA, itemL_eq, storeA, storeT, storeO, itemsRow]) (by first | exact rd_less (by omega) | simp [mkSt, he0, itemA, itemL_eq, storeA, storeT, storeO, itemsRow]) (by simp [slots, in_any, in_int, in_bool, in_str, in_ptr, in_own, in_agg, in_vnil, in_rdr, usedOf_cons, usedOf_nil, strs_in, ints_in, nodes_in, items_in, in_tup, he0, itemA, itemL_eq, storeA, storeT, storeO, itemsRow]) (by simp only [List.forall_mem_cons, List.not_mem_nil, false_implies, implies_true, and_true, true_and, he0, itemA, itemL_eq, storeA, storeT, storeO, itemsRow]; (repeat (first | with_reducible exact trivial | with_reducible refine And.intro ?_ ?_ | with_reducible exact in_int | with_reducible exact in_str | with_reducible exact in_bool | with_reducible exact strs_in _ | with_reducible exact nodes_in _ | with_reducible exact items_in _ | with_reducible exact in_vnil | with_reducible exact in_any | exact hin _ | with_reducible refine take_in ?_ | with_reducible exact strsE_in _ | with_reducible exact nodesE_in _ | with_reducible exact nodeL_in _ | with_reducible exact itemsE_in _ | with_reducible exact itemL_in _ | with_reducible refine app_in ?_ ?_ | with_reducible refine sing_in ?_ | (focus (simp [in_any, in_int, in_bool, in_str, in_ptr, in_own, in_agg, in_vnil, in_rdr, usedOf_cons, usedOf_nil, strs_in, ints_in, nodes_in, items_in, he0, itemA, itemL_eq, storeA, storeT, storeO, itemsRow]; done)))); done))⟩
  rintro ⟨⟩ s' - hls
  refine AW.less _ hls ?_
  clear hls s'
  (repeat (first | with_reducible refine AW.seq ?_ | ((first | refine arun_kn 4 rfl (fun C hC => ?_) | refine arunD_kn 4 rfl (fun C hC => ?_)); (repeat ((conv => whnf); simp)); refine hC _ ?_; clear hC C; simp only [List.drop, Nat.reduceAdd]) | ((first | refine arun_kn 1 rfl (fun C hC => ?_) | refine arunD_kn 1 rfl (fun C hC => ?_)); (repeat ((conv => whnf); simp)); refine hC _ ?_; clear hC C; simp only [List.drop, Nat.reduceAdd]) | (refine arun_skip ?_ ?_; (focus (simp [awant]; done))) | (refine AW.regionK [] (fun K hK => ?_)) | (refine AW.regionDK [] (pcs [] []) (by kernel_rfl) (by kernel_rfl) (fun K hK => ?_)) | (refine AW.condT ?_ ?_; (focus (simp [aev]; done))) | (refine AW.condF ?_ ?_; (focus (simp [aev]; done))) | with_reducible refine AW.block ?_ | ((first | ((first | refine arun_nil ?_ | refine arunD_nil ?_); refine hK _ ?_; clear hK K) | refine AW.skip ?_ | refine AW.exit ?_ | refine AW.ret ?_); simp only [thenA_exit, inBlockA_exit, if_true, if_false, Nat.reduceEqDiff, thenA_normal, inBlockA_normal, reduceIte, thenA_ret, inBlockA_ret, endQ_ret, endR_ret, endG_ret, endQ_normal, endR_normal, endG_normal])))
  refine ⟨storeO s 16, [(16, itemsRow s)], by simp [ares, aresL, upd, rowsOf_cons], by simp [mkSt, upd, rowsOf_cons], ?_, ?_, ?_, 16, rfl, rfl⟩
  · refine purR_agg ?_
    simp only [List.forall_mem_cons, List.not_mem_nil, false_implies, implies_true, and_true]
    exact ⟨purR_own, pur_int.purR⟩
  · simp only [List.forall_mem_cons, List.not_mem_nil, false_implies, implies_true, and_true]
    exact fun e he c hc => (itemsE_pur _ e he c hc).purR
  · refine ⟨by simp [storeO, in_agg, in_int, in_own, rowsOf_cons], ?_⟩
    simp only [List.forall_mem_cons, List.not_mem_nil, false_implies, implies_true, and_true]
    exact fun e he c hc => itemsE_in _ e he c hc
theorem findItem_AC (l : List Itm) (t : VC) (nm : ByteArray) (hasc : Asc (nmL l)) (hb : l.length ≤ 1000000) : AC Try.prog 97 [.view t 7 (l.map itemL), .str nm] 0 (fun r => r = .tup [.int .i64 (lbound (nmL l) nm : Nat), .bool (mem (nmL l) nm)]) := by
  refine AC.ofNew (enters_of Try.func97 (by kernel_rfl) (by kernel_rfl)) (fun w L S rb vs hargs => ?_)
  obtain ⟨v0, v1, rfl, a0, a1⟩ := repL2_inv hargs
  obtain ⟨a, c, rfl, hs⟩ := items_of_rep a0
  obtain ⟨rfl, _⟩ := rep_str.1 a1
  refine (findItem_ok l a c nm w hs hasc hb).mono ?_
  rintro e w' ⟨rfl, hg⟩
  exact ⟨_, _, rfl, hg, rep_tup.2 ⟨[_, _], rfl, repL2 (rep_int.2 rfl) (rep_bool.2 rfl)⟩, rfl⟩
def putI (l : List Itm) (it : Itm) : List Itm := if mem (nmL l) it.1 then l.set (lbound (nmL l) it.1) it else l.take (lbound (nmL l) it.1) ++ (it :: l.drop (lbound (nmL l) it.1))
end Go.Proofs.Ytmeobmegnneegaa.Eng
-- EV: store
namespace Go.Proofs.Ytmeobmegnneegaa.Eng
open Go Go.RowKit
theorem asc_head {x : ByteArray} {xs : List ByteArray} (h : Asc (x :: xs)) : (∀ y ∈ xs, lt x y = true) ∧ Asc xs := by
  refine ⟨fun y hy => ?_, fun i j hi hj hij => ?_⟩
  · obtain ⟨i, hi, rfl⟩ := List.getElem_of_mem hy
    have := h 0 (i + 1) (by simp) (by simpa using hi) (by omega)
    simpa using this
  · have := h (i + 1) (j + 1) (by simpa using hi) (by simpa using hj) (by omega)
    simpa using this
theorem putL_true {nm : ByteArray} {nx : Itm} : ∀ {l : List Itm}, (∀ y ∈ l, eqs y.1 nm = false) → putL nm nx true l = l
  | [], _ => rfl
  | x :: l, h => by
    unfold putL
    rw [h x (by simp)]
    simp only [Bool.not_true, Bool.false_and, Bool.false_eq_true, if_false, List.nil_append, List.singleton_append, Bool.true_or]
    rw [putL_true (fun y hy => h y (by simp [hy]))]
theorem dropL_none {nm : ByteArray} : ∀ {l : List Itm}, (∀ y ∈ l, eqs y.1 nm = false) → dropL nm l = l
  | [], _ => rfl
  | x :: l, h => by
    unfold dropL
    rw [h x (by simp), dropL_none (fun y hy => h y (by simp [hy]))]
    rfl
theorem nmL_cons (x : Itm) (l : List Itm) : nmL (x :: l) = x.1 :: nmL l := rfl
theorem lb_zero {nm x : ByteArray} {xs : List ByteArray} (h : lt x nm = false) (ha : ∀ y ∈ xs, lt x y = true) : lbound xs nm = 0 := by
  unfold lbound
  rw [List.countP_eq_zero]
  intro y hy hl
  have := ha y hy
  have h3 : lt x nm = true := bl_trans _ _ _ this hl
  rw [h] at h3; cases h3
theorem lts_false_of {x nm y : ByteArray} (h : lt x nm = false) (hy : lt x y = true) : eqs y nm = false := by
  rw [eqs_false]
  rintro rfl
  rw [h] at hy; cases hy
theorem putI_eq : ∀ {l : List Itm} (_ : Asc (nmL l)) (it : Itm), putI l it = putL it.1 it false l
  | [], _, it => by simp [putI, putL, nmL, mem, lbound]
  | x :: l, ha, it => by
    rw [nmL_cons] at ha
    obtain ⟨h1, h2⟩ := asc_head ha
    have h1' : ∀ y ∈ l, lt x.1 y.1 = true := fun y hy => h1 y.1 (List.mem_map.2 ⟨y, hy, rfl⟩)
    have ih := putI_eq h2 it
    unfold putL
    unfold putI at ih ⊢
    rw [nmL_cons]
    have hlb : lbound (x.1 :: nmL l) it.1 = lbound (nmL l) it.1 + if lt x.1 it.1 then 1 else 0 := by unfold lbound; rw [List.countP_cons]
    have hme : mem (x.1 :: nmL l) it.1 = (decide (x.1 = it.1) || mem (nmL l) it.1) := by unfold mem; rw [List.any_cons]
    rw [hlb, hme, lts_lt]
    cases hl : lt x.1 it.1 with
    | true =>
      have hne : eqs x.1 it.1 = false := by
        rw [eqs_false]
        intro e
        rw [e, lt_irr] at hl; cases hl
      have hd : decide (x.1 = it.1) = false := by rw [eqs_false] at hne; simpa using hne
      rw [hne, hd]
      simp only [Bool.false_or, if_true, Bool.not_true, Bool.and_false, Bool.false_eq_true, if_false, List.nil_append, List.singleton_append, Bool.or_false]
      rw [← ih]
      split
      · rfl
      · rfl
    | false =>
      have hz := lb_zero hl h1
      rw [hz]
      have hrest : putL it.1 it true l = l := putL_true (fun y hy => lts_false_of hl (h1' y hy))
      simp only [Bool.false_eq_true, if_false, Nat.add_zero, Bool.not_false, Bool.and_self, if_true, Bool.or_true, hrest]
      cases he : eqs x.1 it.1 with
      | true =>
        have hx : x.1 = it.1 := eqs_iff.1 he
        simp [hx]
      | false =>
        have hd : decide (x.1 = it.1) = false := by rw [eqs_false] at he; simpa using he
        have hm : mem (nmL l) it.1 = false := mem_no (fun hm => by
          have h3 := h1 _ hm
          rw [hl] at h3; cases h3)
        rw [hd, hm]
        simp
def dropI (l : List Itm) (nm : ByteArray) : List Itm := l.take (lbound (nmL l) nm) ++ l.drop (lbound (nmL l) nm + 1)
theorem dropI_eq : ∀ {l : List Itm} (_ : Asc (nmL l)) (nm : ByteArray), mem (nmL l) nm = true → dropI l nm = dropL nm l
  | [], _, nm, h => by simp [nmL, mem] at h
  | x :: l, ha, nm, h => by
    rw [nmL_cons] at ha h
    obtain ⟨h1, h2⟩ := asc_head ha
    have h1' : ∀ y ∈ l, lt x.1 y.1 = true := fun y hy => h1 y.1 (List.mem_map.2 ⟨y, hy, rfl⟩)
    unfold dropL
    unfold dropI
    rw [nmL_cons]
    have hlb : lbound (x.1 :: nmL l) nm = lbound (nmL l) nm + if lt x.1 nm then 1 else 0 := by unfold lbound; rw [List.countP_cons]
    have hme : mem (x.1 :: nmL l) nm = (decide (x.1 = nm) || mem (nmL l) nm) := by unfold mem; rw [List.any_cons]
    rw [hme] at h
    rw [hlb]
    cases hl : lt x.1 nm with
    | true =>
      have hne : eqs x.1 nm = false := by
        rw [eqs_false]
        intro e
        rw [e, lt_irr] at hl; cases hl
      have hd : decide (x.1 = nm) = false := by rw [eqs_false] at hne; simpa using hne
      rw [hd, Bool.false_or] at h
      have ih := dropI_eq h2 nm h
      unfold dropI at ih
      rw [hne]
      simp only [if_true, Bool.false_eq_true, if_false, List.singleton_append]
      rw [← ih]
      rfl
    | false =>
      have hz := lb_zero hl h1
      rw [hz]
      cases he : eqs x.1 nm with
      | true =>
        rw [dropL_none (fun y hy => lts_false_of hl (h1' y hy))]
        simp
      | false =>
        exfalso
        have hd : decide (x.1 = nm) = false := by rw [eqs_false] at he; simpa using he
        rw [hd, Bool.false_or, mem_iff] at h
        have h3 := h1 _ h
        rw [hl] at h3; cases h3
theorem lb_lt : ∀ {xs : List ByteArray} {nm : ByteArray}, mem xs nm = true → lbound xs nm < xs.length := fun {xs nm} h => by
  unfold lbound
  rw [Nat.lt_iff_le_and_ne]
  refine ⟨List.countP_le_length, fun e => ?_⟩
  rw [List.countP_eq_length] at e
  have := e nm (mem_iff.1 h)
  rw [lt_irr] at this; cases this
theorem lb_le (xs : List ByteArray) (nm : ByteArray) : lbound xs nm ≤ xs.length := List.countP_le_length
end Go.Proofs.Ytmeobmegnneegaa.Eng
-- EV: store
namespace Go.Proofs.Ytmeobmegnneegaa.Eng
open Go Go.RowKit
attribute [local simp] big size_mk ASt.pay Option.map_map Function.comp_def awant aop acall ado aev ofVal ofVal0 ASt.put ASt.add ASt.turn ASt.kill abox aalloc astore aload ASt.at cellsTo afieldAddr afield aindexAddr aindex alen abin aint acmp astr aun apick aextract anil aslice abound abuild afill abuildSlice asCells aps avCells over upd aappend asrc amax amin aconv mkSt slots rowsOf_cons rowsOf_nil usedOf_cons usedOf_nil ZK.av List.replicate ASt.back ASt.addL ASt.killL nodeA nodeT nodeTL_eq nodeL_eq strsE_get strsE_len intsE_get intsE_len strsE_at intsE_at itemA itemL_eq storeA storeT storeO itemsRow tab2 tab3 tab4 tab5 tab6 tab7 tab8 tab9 tab10 tab11 tab12 tab13 tab14 tab15 tab16 tab17 tab18 tab19 tab21 tab22 tab23 tab24 tab25 tab26 tab27 tab28 tab31 tab32 tab33 tab37 tab38 tab39 tab46 tab53 tab61 tab62 tab69 tab70 tab98 tab116 tab117 tab125 tab126 tab128 tab136 tab145 tab146 tab151 tab152 tab153 tab155 tab156 tab157
end Go.Proofs.Ytmeobmegnneegaa.Eng
