/-
  What an argument that is read as data tells of memory: operations, requests.
-/
import Derived.Test.YtchiakeceiefdaaOpen
import Derived.Test.YtchiakeceiefdaaReqs
namespace Go.Proofs.Ytchiakeceiefdaa
open Go.RowKit Go.ChangeShapes Go.WideShapes Go.Deep

section
variable {H : Type} {enc : TypeId × Value → H} {W : World} {base : Nat} {sp : Nat → Bool} {held : Bool}

set_option maxRecDepth 100000 in
theorem open_op {fuel : Nat} {cs : List Value} {x : DataW H × List MemPlace} (h : DataW.trod enc Try.prog W base sp held fuel 88 cs = some x) :
    ∃ o pa pc fa fc na nc ka kc, cs = [.int .i64 o.kind, .slice pa o.path.length pc, .slice fa o.frm.length fc, .int .i64 o.val.kind, .int .i64 o.val.num, .string o.val.text, .slice na o.val.names.length nc, .slice ka o.val.kids.length kc] ∧ OpC W any o pa pc fa fc na nc ka kc := by
  obtain ⟨xs, n, rfl, _, hlen, hxs, hf⟩ := DataW.trod_struct Try.underlying88 h
  have hc : Try.prog.cellsOf 88 = 8 := by kernel_rfl
  have c3 : Try.prog.cellsOf 3 = 1 := by kernel_rfl
  have c23 : Try.prog.cellsOf 23 = 1 := by kernel_rfl
  have cN : Try.prog.cellsOf 59 = 5 := by kernel_rfl
  rw [hc] at hlen
  match cs, hlen with
  | [v0, v1, v2, v3, v4, v5, v6, v7], _ =>
    obtain ⟨y0, g0⟩ : ∃ y, DataW.trod enc Try.prog W base sp held n 3 [v0] = some y := ⟨xs[0]'(by simp at hxs; omega), by
      have h := hf 0 _ rfl
      rw [List.getElem?_eq_getElem (by simp at hxs; omega)] at h
      simpa [c3, c23, cN] using h⟩
    obtain ⟨y1, g1⟩ : ∃ y, DataW.trod enc Try.prog W base sp held n 23 [v1] = some y := ⟨xs[1]'(by simp at hxs; omega), by
      have h := hf 1 _ rfl
      rw [List.getElem?_eq_getElem (by simp at hxs; omega)] at h
      simpa [c3, c23, cN] using h⟩
    obtain ⟨y2, g2⟩ : ∃ y, DataW.trod enc Try.prog W base sp held n 23 [v2] = some y := ⟨xs[2]'(by simp at hxs; omega), by
      have h := hf 2 _ rfl
      rw [List.getElem?_eq_getElem (by simp at hxs; omega)] at h
      simpa [c3, c23, cN] using h⟩
    obtain ⟨y3, g3⟩ : ∃ y, DataW.trod enc Try.prog W base sp held n 59 [v3, v4, v5, v6, v7] = some y := ⟨xs[3]'(by simp at hxs; omega), by
      have h := hf 3 _ rfl
      rw [List.getElem?_eq_getElem (by simp at hxs; omega)] at h
      simpa [c3, c23, cN] using h⟩
    clear hf
    obtain ⟨kind, e0, _, _⟩ := DataW.trod_int Try.underlying3 g0
    obtain ⟨pa, pc, path, e1, hp⟩ := open_strs' g1
    obtain ⟨fa, fc, frm, e2, hfr⟩ := open_strs' g2
    obtain ⟨nd, na, nc, ka, kc, e3, hn⟩ := open_node _ _ _ g3
    simp only [List.cons.injEq, and_true] at e0 e1 e2 e3
    obtain ⟨rfl, rfl, rfl, rfl, rfl⟩ := e3
    subst e0 e1 e2
    exact ⟨⟨kind, path, frm, nd⟩, pa, pc, fa, fc, na, nc, ka, kc, rfl, hp, hfr, hn⟩

theorem open_ops {fuel : Nat} {cs : List Value} {x : DataW H × List MemPlace} (h : DataW.trod enc Try.prog W base sp held fuel 67 cs = some x) :
    ∃ a c l, cs = [.slice a (l : List Opn).length c] ∧ OpsR W any a c l := by
  rcases open_slice Try.underlying67 h with ⟨rfl, _⟩ | ⟨a, len, cap, m, n, D, Pl, rfl, _, hl, hm, hmm, _, hi⟩
  · exact ⟨none, 0, [], rfl, by simp, by simp, .inl rfl⟩
  · have hlm : len ≤ m := by rw [hmm]; split <;> omega
    have hc : Try.prog.cellsOf 88 = 8 := by kernel_rfl
    rw [hc] at hi
    have key : ∀ i, i < len → ∃ k : Opn × (Option Addr × Nat × Option Addr × Nat) × (Option Addr × Nat × Option Addr × Nat),
        W.cell? (a.add (i * 8)) = some (.int .i64 k.1.kind) ∧ W.cell? (a.add (i * 8 + 1)) = some (.slice k.2.1.1 k.1.path.length k.2.1.2.1) ∧ W.cell? (a.add (i * 8 + 2)) = some (.slice k.2.1.2.2.1 k.1.frm.length k.2.1.2.2.2) ∧
        W.cell? (a.add (i * 8 + 3)) = some (.int .i64 k.1.val.kind) ∧ W.cell? (a.add (i * 8 + 4)) = some (.int .i64 k.1.val.num) ∧ W.cell? (a.add (i * 8 + 5)) = some (.string k.1.val.text) ∧
        W.cell? (a.add (i * 8 + 6)) = some (.slice k.2.2.1 k.1.val.names.length k.2.2.2.1) ∧ W.cell? (a.add (i * 8 + 7)) = some (.slice k.2.2.2.2.1 k.1.val.kids.length k.2.2.2.2.2) ∧
        OpC W any k.1 k.2.1.1 k.2.1.2.1 k.2.1.2.2.1 k.2.1.2.2.2 k.2.2.1 k.2.2.2.1 k.2.2.2.2.1 k.2.2.2.2.2 := fun i hi' => by
      obtain ⟨cs', h1, h2⟩ := hi i (by omega)
      obtain ⟨_, hlen, hat⟩ := World.cells?_some h1
      obtain ⟨o, pa, pc, fa, fc, na, nc, ka, kc, rfl, ho⟩ := open_op h2
      refine ⟨⟨o, ⟨pa, pc, fa, fc⟩, ⟨na, nc, ka, kc⟩⟩, ?_, ?_, ?_, ?_, ?_, ?_, ?_, ?_, ho⟩
      · simpa [Go.Deep.add_add] using hat 0 (by omega)
      · simpa [Go.Deep.add_add] using hat 1 (by omega)
      · simpa [Go.Deep.add_add] using hat 2 (by omega)
      · simpa [Go.Deep.add_add] using hat 3 (by omega)
      · simpa [Go.Deep.add_add] using hat 4 (by omega)
      · simpa [Go.Deep.add_add] using hat 5 (by omega)
      · simpa [Go.Deep.add_add] using hat 6 (by omega)
      · simpa [Go.Deep.add_add] using hat 7 (by omega)
    have : Inhabited (Opn × (Option Addr × Nat × Option Addr × Nat) × (Option Addr × Nat × Option Addr × Nat)) := ⟨⟨⟨0, [], [], ⟨0, 0, ByteArray.empty, [], []⟩⟩, ⟨none, 0, none, 0⟩, ⟨none, 0, none, 0⟩⟩⟩
    obtain ⟨f, hf⟩ := choose_lt key
    have hkl : ((List.range len).map fun i => (f i).1).length = len := by simp
    have hbig : len ≤ big := by unfold maxLen at hm; unfold big; omega
    refine ⟨some a, cap, (List.range len).map fun i => (f i).1, by simp, by rw [hkl]; exact hl, by rw [hkl]; exact hbig, ?_⟩
    by_cases h0 : len = 0
    · subst h0; exact .inl rfl
    · obtain ⟨b, o, ha⟩ := addr_spot (hf 0 (by omega)).1
      have ha' : a = ⟨b, o, none⟩ := by simpa [Addr.add] using ha
      subst ha'
      refine .inr ⟨b, o, rfl, trivial, fun i hi' => ?_⟩
      rw [hkl] at hi'
      obtain ⟨k0, k1, k2, k3, k4, k5, k6, k7, kn⟩ := hf i hi'
      rw [add_mk] at k0 k1 k2 k3 k4 k5 k6 k7
      simp only [List.getElem_map, List.getElem_range]
      exact ⟨_, _, _, _, _, _, _, _, k0, by rw [Nat.add_assoc]; exact k1, by rw [Nat.add_assoc]; exact k2, by rw [Nat.add_assoc]; exact k3, by rw [Nat.add_assoc]; exact k4, by rw [Nat.add_assoc]; exact k5, by rw [Nat.add_assoc]; exact k6, by rw [Nat.add_assoc]; exact k7, kn⟩

set_option maxRecDepth 100000 in
theorem open_req {fuel : Nat} {cs : List Value} {x : DataW H × List MemPlace} (h : DataW.trod enc Try.prog W base sp held fuel 69 cs = some x) :
    ∃ q wa wc va vc na nc ka kc oa oc, cs = (reqCells q wa wc va vc na nc ka kc oa oc).toList ∧ ReqC W any q wa wc va vc na nc ka kc oa oc := by
  obtain ⟨xs, n, rfl, _, hlen, hxs, hf⟩ := DataW.trod_struct Try.underlying69 h
  have hc : Try.prog.cellsOf 69 = 10 := by kernel_rfl
  have c3 : Try.prog.cellsOf 3 = 1 := by kernel_rfl
  have c9 : Try.prog.cellsOf 9 = 1 := by kernel_rfl
  have c23 : Try.prog.cellsOf 23 = 1 := by kernel_rfl
  have cN : Try.prog.cellsOf 59 = 5 := by kernel_rfl
  have cO : Try.prog.cellsOf 67 = 1 := by kernel_rfl
  rw [hc] at hlen
  match cs, hlen with
  | [v0, v1, v2, v3, v4, v5, v6, v7, v8, v9], _ =>
    obtain ⟨y0, g0⟩ : ∃ y, DataW.trod enc Try.prog W base sp held n 3 [v0] = some y := ⟨xs[0]'(by simp at hxs; omega), by
      have h := hf 0 _ rfl
      rw [List.getElem?_eq_getElem (by simp at hxs; omega)] at h
      simpa [c3, c9, c23, cN, cO] using h⟩
    obtain ⟨y1, g1⟩ : ∃ y, DataW.trod enc Try.prog W base sp held n 9 [v1] = some y := ⟨xs[1]'(by simp at hxs; omega), by
      have h := hf 1 _ rfl
      rw [List.getElem?_eq_getElem (by simp at hxs; omega)] at h
      simpa [c3, c9, c23, cN, cO] using h⟩
    obtain ⟨y2, g2⟩ : ∃ y, DataW.trod enc Try.prog W base sp held n 23 [v2] = some y := ⟨xs[2]'(by simp at hxs; omega), by
      have h := hf 2 _ rfl
      rw [List.getElem?_eq_getElem (by simp at hxs; omega)] at h
      simpa [c3, c9, c23, cN, cO] using h⟩
    obtain ⟨y3, g3⟩ : ∃ y, DataW.trod enc Try.prog W base sp held n 23 [v3] = some y := ⟨xs[3]'(by simp at hxs; omega), by
      have h := hf 3 _ rfl
      rw [List.getElem?_eq_getElem (by simp at hxs; omega)] at h
      simpa [c3, c9, c23, cN, cO] using h⟩
    obtain ⟨y4, g4⟩ : ∃ y, DataW.trod enc Try.prog W base sp held n 59 [v4, v5, v6, v7, v8] = some y := ⟨xs[4]'(by simp at hxs; omega), by
      have h := hf 4 _ rfl
      rw [List.getElem?_eq_getElem (by simp at hxs; omega)] at h
      simpa [c3, c9, c23, cN, cO] using h⟩
    obtain ⟨y5, g5⟩ : ∃ y, DataW.trod enc Try.prog W base sp held n 67 [v9] = some y := ⟨xs[5]'(by simp at hxs; omega), by
      have h := hf 5 _ rfl
      rw [List.getElem?_eq_getElem (by simp at hxs; omega)] at h
      simpa [c3, c9, c23, cN, cO] using h⟩
    clear hf
    obtain ⟨method, e0, _, _⟩ := DataW.trod_int Try.underlying3 g0
    obtain ⟨name, e1, _, hz⟩ := DataW.trod_string Try.underlying9 g1
    obtain ⟨wa, wc, want, e2, hw⟩ := open_strs' g2
    obtain ⟨va, vc, avoid, e3, hv⟩ := open_strs' g3
    obtain ⟨nd, na, nc, ka, kc, e4, hn⟩ := open_node _ _ _ g4
    obtain ⟨oa, oc, ops, e5, ho⟩ := open_ops g5
    simp only [List.cons.injEq, and_true] at e0 e1 e2 e3 e4 e5
    obtain ⟨rfl, rfl, rfl, rfl, rfl⟩ := e4
    subst e0 e1 e2 e3 e5
    exact ⟨⟨method, name, want, avoid, nd, ops⟩, wa, wc, va, vc, na, nc, ka, kc, oa, oc, rfl, by unfold maxLen at hz; unfold big; omega, hw, hv, hn, ho⟩

end
end Go.Proofs.Ytchiakeceiefdaa
