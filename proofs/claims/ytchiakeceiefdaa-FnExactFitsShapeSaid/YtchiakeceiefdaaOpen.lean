/-
  What an argument that is read as data tells of memory: texts, nodes.
-/
import Derived.Test.YtchiakeceiefdaaLawEq
import Derived.ProofKit
import Derived.Deep.Slices
import Derived.Deep.Fields
namespace Go.Proofs.Ytchiakeceiefdaa
open Go.RowKit Go.ChangeShapes Go.WideShapes Go.Deep

section
variable {H : Type} {enc : TypeId × Value → H} {W : World} {base : Nat} {sp : Nat → Bool} {held : Bool}

theorem addr_spot {w : World} {a : Addr} {v : Value} (h : w.cell? a = some v) : ∃ b o, a = ⟨b, o, none⟩ := by
  have := World.cell?_spot h
  exact ⟨a.block, a.off, by cases a; simp_all⟩

theorem add_mk (b o i : Nat) : (⟨b, o, none⟩ : Addr).add i = ⟨b, o + i, none⟩ := by
  unfold Addr.add; split
  · rename_i h; subst h; rfl
  · rfl

theorem open_strs' {fuel : Nat} {cs : List Value} {x : DataW H × List MemPlace} (h : DataW.trod enc Try.prog W base sp held fuel 23 cs = some x) :
    ∃ a c xs, cs = [.slice a xs.length c] ∧ StrsR W any a c xs := by
  rcases open_slice Try.underlying23 h with ⟨rfl, _⟩ | ⟨a, len, cap, m, n, D, Pl, rfl, _, hl, hm, hmm, _, hi⟩
  · exact ⟨none, 0, [], rfl, by simp, by simp, by simp, .inl rfl⟩
  · have hlm : len ≤ m := by rw [hmm]; split <;> omega
    have hel : ∀ i, i < len → ∃ s : ByteArray, W.cell? (a.add i) = some (.string s) ∧ s.size ≤ maxLen := fun i hi' => by
      obtain ⟨cs', h1, h2⟩ := hi i (by omega)
      have hc : Try.prog.cellsOf 9 = 1 := by kernel_rfl
      rw [hc] at h1
      obtain ⟨_, hlen, hat⟩ := World.cells?_some h1
      obtain ⟨s, rfl, _, hs⟩ := DataW.trod_string Try.underlying9 h2
      have := hat 0 (by omega)
      exact ⟨s, by simpa [Go.Deep.add_add] using this, hs⟩
    have : Inhabited ByteArray := ⟨ByteArray.empty⟩
    obtain ⟨f, hf⟩ := choose_lt hel
    refine ⟨some a, cap, (List.range len).map f, by simp, by simpa using hl, by simp; unfold maxLen at hm; unfold big; omega, ?_, ?_⟩
    · intro x hx
      obtain ⟨i, hi', rfl⟩ := List.mem_map.1 hx
      have := (hf i (List.mem_range.1 hi')).2
      unfold maxLen at this; unfold big; omega
    · by_cases h0 : len = 0
      · subst h0; exact .inl rfl
      · obtain ⟨b, o, ha⟩ := addr_spot (hf 0 (by omega)).1
        have ha' : a = ⟨b, o, none⟩ := by simpa [Addr.add] using ha
        subst ha'
        refine .inr ⟨b, o, rfl, trivial, fun i hi' => ?_⟩
        simp at hi'
        have := (hf i hi').1
        rw [add_mk] at this
        simpa using this

set_option maxRecDepth 100000 in
theorem open_node : ∀ (fuel : Nat) (cs : List Value) (x : DataW H × List MemPlace), DataW.trod enc Try.prog W base sp held fuel 59 cs = some x →
    ∃ n na nc ka kc, cs = [.int .i64 n.kind, .int .i64 n.num, .string n.text, .slice na n.names.length nc, .slice ka n.kids.length kc] ∧ NodeC W any n na nc ka kc := by
  intro fuel
  induction fuel using Nat.strongRecOn with
  | ind fuel ih =>
    intro cs x h
    obtain ⟨xs, n, rfl, _, hlen, hxs, hf⟩ := DataW.trod_struct Try.underlying59 h
    have hc : Try.prog.cellsOf 59 = 5 := by kernel_rfl
    have c3 : Try.prog.cellsOf 3 = 1 := by kernel_rfl
    have c9 : Try.prog.cellsOf 9 = 1 := by kernel_rfl
    have c23 : Try.prog.cellsOf 23 = 1 := by kernel_rfl
    have c57 : Try.prog.cellsOf 57 = 1 := by kernel_rfl
    rw [hc] at hlen
    match cs, hlen with
    | [v0, v1, v2, v3, v4], _ =>
      obtain ⟨y0, g0⟩ : ∃ y, DataW.trod enc Try.prog W base sp held n 3 [v0] = some y := ⟨xs[0]'(by simp at hxs; omega), by
        have h := hf 0 _ rfl
        rw [List.getElem?_eq_getElem (by simp at hxs; omega)] at h
        simpa [c3, c9, c23, c57] using h⟩
      obtain ⟨y1, g1⟩ : ∃ y, DataW.trod enc Try.prog W base sp held n 3 [v1] = some y := ⟨xs[1]'(by simp at hxs; omega), by
        have h := hf 1 _ rfl
        rw [List.getElem?_eq_getElem (by simp at hxs; omega)] at h
        simpa [c3, c9, c23, c57] using h⟩
      obtain ⟨y2, g2⟩ : ∃ y, DataW.trod enc Try.prog W base sp held n 9 [v2] = some y := ⟨xs[2]'(by simp at hxs; omega), by
        have h := hf 2 _ rfl
        rw [List.getElem?_eq_getElem (by simp at hxs; omega)] at h
        simpa [c3, c9, c23, c57] using h⟩
      obtain ⟨y3, g3⟩ : ∃ y, DataW.trod enc Try.prog W base sp held n 23 [v3] = some y := ⟨xs[3]'(by simp at hxs; omega), by
        have h := hf 3 _ rfl
        rw [List.getElem?_eq_getElem (by simp at hxs; omega)] at h
        simpa [c3, c9, c23, c57] using h⟩
      obtain ⟨y4, g4⟩ : ∃ y, DataW.trod enc Try.prog W base sp held n 57 [v4] = some y := ⟨xs[4]'(by simp at hxs; omega), by
        have h := hf 4 _ rfl
        rw [List.getElem?_eq_getElem (by simp at hxs; omega)] at h
        simpa [c3, c9, c23, c57] using h⟩
      clear hf
      obtain ⟨kind, e0, _, _⟩ := DataW.trod_int Try.underlying3 g0
      obtain ⟨num, e1, _, _⟩ := DataW.trod_int Try.underlying3 g1
      obtain ⟨text, e2, _, hts⟩ := DataW.trod_string Try.underlying9 g2
      obtain ⟨na, nc, names, e3, hns⟩ := open_strs' g3
      simp only [List.cons.injEq, and_true] at e0 e1 e2 e3
      subst e0 e1 e2 e3
      have htx : text.size ≤ big := by unfold maxLen at hts; unfold big; omega
      rcases DataW.trod_slice Try.underlying57 g4 with ⟨e4, _⟩ | ⟨a, len, cap, elems, rest, n', rfl, e4, _, _, hl, hm, hel, hi, _, _⟩
      · simp only [List.cons.injEq, and_true] at e4
        subst e4
        exact ⟨⟨kind, num, text, names, []⟩, na, nc, none, 0, rfl, NodeC.mk htx hns ⟨by simp, by simp, .inl rfl⟩⟩
      · simp only [List.cons.injEq, and_true] at e4
        subst e4
        rw [hc] at hi
        have key : ∀ i, i < len → ∃ (k : Nd × (Option Addr × Nat × Option Addr × Nat)), W.cell? (a.add (i * 5)) = some (.int .i64 k.1.kind) ∧ W.cell? (a.add (i * 5 + 1)) = some (.int .i64 k.1.num) ∧ W.cell? (a.add (i * 5 + 2)) = some (.string k.1.text) ∧
            W.cell? (a.add (i * 5 + 3)) = some (.slice k.2.1 k.1.names.length k.2.2.1) ∧ W.cell? (a.add (i * 5 + 4)) = some (.slice k.2.2.2.1 k.1.kids.length k.2.2.2.2) ∧ NodeC W any k.1 k.2.1 k.2.2.1 k.2.2.2.1 k.2.2.2.2 := fun i hi' => by
          have h := hi i hi'
          rw [List.getElem?_eq_getElem (by omega)] at h
          obtain ⟨cs', h1, h2⟩ := Option.bind_eq_some_iff.1 h
          obtain ⟨_, hl5, hat⟩ := World.cells?_some h1
          obtain ⟨m, na', nc', ka', kc', rfl, hn'⟩ := ih n' (by omega) cs' _ h2
          refine ⟨⟨m, na', nc', ka', kc'⟩, ?_, ?_, ?_, ?_, ?_, hn'⟩
          · simpa [Go.Deep.add_add] using hat 0 (by omega)
          · simpa [Go.Deep.add_add] using hat 1 (by omega)
          · simpa [Go.Deep.add_add] using hat 2 (by omega)
          · simpa [Go.Deep.add_add] using hat 3 (by omega)
          · simpa [Go.Deep.add_add] using hat 4 (by omega)
        have : Inhabited (Nd × (Option Addr × Nat × Option Addr × Nat)) := ⟨⟨⟨0, 0, ByteArray.empty, [], []⟩, none, 0, none, 0⟩⟩
        obtain ⟨f, hf⟩ := choose_lt key
        have hkl : ((List.range len).map fun i => (f i).1).length = len := by simp
        have hbig : len ≤ big := by unfold maxLen at hm; unfold big; omega
        refine ⟨⟨kind, num, text, names, (List.range len).map fun i => (f i).1⟩, na, nc, some a, cap, by simp, NodeC.mk htx hns ⟨by rw [hkl]; exact hl, by rw [hkl]; exact hbig, ?_⟩⟩
        by_cases h0 : len = 0
        · subst h0; exact .inl rfl
        · obtain ⟨b, o, ha⟩ := addr_spot (hf 0 (by omega)).1
          have ha' : a = ⟨b, o, none⟩ := by simpa [Addr.add] using ha
          subst ha'
          refine .inr ⟨b, o, rfl, trivial, KidsR.of_get (fun i hi' => ?_)⟩
          rw [hkl] at hi'
          obtain ⟨k0, k1, k2, k3, k4, kn⟩ := hf i hi'
          rw [add_mk] at k0 k1 k2 k3 k4
          simp only [List.getElem_map, List.getElem_range]
          exact ⟨_, _, _, _, k0, by rw [Nat.add_assoc]; exact k1, by rw [Nat.add_assoc]; exact k2, by rw [Nat.add_assoc]; exact k3, by rw [Nat.add_assoc]; exact k4, kn⟩

end
end Go.Proofs.Ytchiakeceiefdaa
