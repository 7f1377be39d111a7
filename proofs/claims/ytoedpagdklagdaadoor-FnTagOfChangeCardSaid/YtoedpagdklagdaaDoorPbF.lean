/-
  Texts of this claim, joined.
-/
import Derived.ProofKit
import Derived.Deep.Slices
import Derived.Deep.Fields
import Derived.Laws.MakeOwn
import Derived.Shelf.Strings.BuilderK
import Derived.Lib.ItoaNum
import Derived.Deep.LoopGhost
import Derived.Shelf.Strings.Builder1
import Derived.Shelf.Strings.BuilderF
import Derived.Shelf.Strconv.Itoa0
import Derived.Shelf.Strconv.Itoa1
import Derived.Shelf.LaysM
import Derived.Shelf.Strconv.Itoa2
import Derived.Shelf.Strconv.Itoa3
import Derived.Test.YtoedpagdklagdaaDoorProg
import Derived.BigQuiet
import Derived.Laws.AppendOwn
import Derived.Laws.AppendOwnNone
import Derived.Laws.OwnMore
import Derived.Test.YtoedpagdklagdaaDoorPbE

set_option linter.unusedSimpArgs false
set_option linter.unusedVariables false
set_option linter.unnecessarySimpa false
set_option maxRecDepth 100000
set_option maxHeartbeats 16000000
namespace Go.Proofs.YtoedpagdklagdaaDoor
open Go.RowKit Go.ChangeShapes Go.WideShapes Go.Deep
section
variable {H : Type} {enc : TypeId × Value → H} {W : World} {base : Nat} {sp : Nat → Bool} {held : Bool}
theorem addr_spot {w : World} {a : Addr} {v : Value} (h : w.cell? a = some v) : ∃ b o, a = ⟨b, o, none⟩ := by
  have := World.cell?_spot h
  exact ⟨a.block, a.off, by cases a; simp_all⟩
theorem add_mk (b o i : Nat) : (⟨b, o, none⟩ : Addr).add i = ⟨b, o + i, none⟩ := by
  unfold Addr.add; split
  · rename_i h; subst h; rfl
  · rfl
theorem open_strs' {fuel : Nat} {cs : List Value} {x : DataW H × List MemPlace} (h : DataW.trod enc Tryd.prog W base sp held fuel 22 cs = some x) :
    ∃ a c xs, cs = [.slice a xs.length c] ∧ StrsR W any a c xs := by
  rcases open_slice Tryd.underlying22 h with ⟨rfl, _⟩ | ⟨a, len, cap, m, n, D, Pl, rfl, _, hl, hm, hmm, _, hi⟩
  · exact ⟨none, 0, [], rfl, by simp, by simp, by simp, .inl rfl⟩
  · have hlm : len ≤ m := by rw [hmm]; split <;> omega
    have hel : ∀ i, i < len → ∃ s : ByteArray, W.cell? (a.add i) = some (.string s) ∧ s.size ≤ maxLen := fun i hi' => by
      obtain ⟨cs', h1, h2⟩ := hi i (by omega)
      have hc : Tryd.prog.cellsOf 9 = 1 := by kernel_rfl
      rw [hc] at h1
      obtain ⟨_, hlen, hat⟩ := World.cells?_some h1
      obtain ⟨s, rfl, _, hs⟩ := DataW.trod_string Tryd.underlying9 h2
      have := hat 0 (by omega)
      exact ⟨s, by simpa [Go.Deep.add_add] using this, hs⟩
    have : Inhabited ByteArray := ⟨ByteArray.empty⟩
    obtain ⟨f, hf⟩ := choose_lt hel
    refine ⟨some a, cap, (List.range len).map f, by simp, by simpa using hl, by simp; unfold maxLen at hm; unfold big; omega, ?_, ?_⟩
    · intro x hx
      obtain ⟨i, hi', rfl⟩ := List.mem_map.1 hx
      have := (hf i (List.mem_range.1 hi')).2
      unfold maxLen at this; unfold big; omega
    · by_cases h0 : len = 0
      · subst h0; exact .inl rfl
      · obtain ⟨b, o, ha⟩ := addr_spot (hf 0 (by omega)).1
        have ha' : a = ⟨b, o, none⟩ := by simpa [Addr.add] using ha
        subst ha'
        refine .inr ⟨b, o, rfl, trivial, fun i hi' => ?_⟩
        simp at hi'
        have := (hf i hi').1
        rw [add_mk] at this
        simpa using this
theorem open_node : ∀ (fuel : Nat) (cs : List Value) (x : DataW H × List MemPlace), DataW.trod enc Tryd.prog W base sp held fuel 25 cs = some x →
    ∃ n na nc ka kc, cs = [.int .i64 n.kind, .int .i64 n.num, .string n.text, .slice na n.names.length nc, .slice ka n.kids.length kc] ∧ NodeC W any n na nc ka kc := by
  intro fuel
  induction fuel using Nat.strongRecOn with
  | ind fuel ih =>
    intro cs x h
    obtain ⟨xs, n, rfl, _, hlen, hxs, hf⟩ := DataW.trod_struct Tryd.underlying25 h
    have hc : Tryd.prog.cellsOf 25 = 5 := by kernel_rfl
    have c3 : Tryd.prog.cellsOf 3 = 1 := by kernel_rfl
    have c9 : Tryd.prog.cellsOf 9 = 1 := by kernel_rfl
    have c23 : Tryd.prog.cellsOf 22 = 1 := by kernel_rfl
    have c57 : Tryd.prog.cellsOf 23 = 1 := by kernel_rfl
    rw [hc] at hlen
    match cs, hlen with
    | [v0, v1, v2, v3, v4], _ =>
      obtain ⟨y0, g0⟩ : ∃ y, DataW.trod enc Tryd.prog W base sp held n 3 [v0] = some y := ⟨xs[0]'(by simp at hxs; omega), by
        have h := hf 0 _ rfl
        rw [List.getElem?_eq_getElem (by simp at hxs; omega)] at h
        simpa [c3, c9, c23, c57] using h⟩
      obtain ⟨y1, g1⟩ : ∃ y, DataW.trod enc Tryd.prog W base sp held n 3 [v1] = some y := ⟨xs[1]'(by simp at hxs; omega), by
        have h := hf 1 _ rfl
        rw [List.getElem?_eq_getElem (by simp at hxs; omega)] at h
        simpa [c3, c9, c23, c57] using h⟩
      obtain ⟨y2, g2⟩ : ∃ y, DataW.trod enc Tryd.prog W base sp held n 9 [v2] = some y := ⟨xs[2]'(by simp at hxs; omega), by
        have h := hf 2 _ rfl
        rw [List.getElem?_eq_getElem (by simp at hxs; omega)] at h
        simpa [c3, c9, c23, c57] using h⟩
      obtain ⟨y3, g3⟩ : ∃ y, DataW.trod enc Tryd.prog W base sp held n 22 [v3] = some y := ⟨xs[3]'(by simp at hxs; omega), by
        have h := hf 3 _ rfl
        rw [List.getElem?_eq_getElem (by simp at hxs; omega)] at h
        simpa [c3, c9, c23, c57] using h⟩
      obtain ⟨y4, g4⟩ : ∃ y, DataW.trod enc Tryd.prog W base sp held n 23 [v4] = some y := ⟨xs[4]'(by simp at hxs; omega), by
        have h := hf 4 _ rfl
        rw [List.getElem?_eq_getElem (by simp at hxs; omega)] at h
        simpa [c3, c9, c23, c57] using h⟩
      clear hf
      obtain ⟨kind, e0, _, _⟩ := DataW.trod_int Tryd.underlying3 g0
      obtain ⟨num, e1, _, _⟩ := DataW.trod_int Tryd.underlying3 g1
      obtain ⟨text, e2, _, hts⟩ := DataW.trod_string Tryd.underlying9 g2
      obtain ⟨na, nc, names, e3, hns⟩ := open_strs' g3
      simp only [List.cons.injEq, and_true] at e0 e1 e2 e3
      subst e0 e1 e2 e3
      have htx : text.size ≤ big := by unfold maxLen at hts; unfold big; omega
      rcases DataW.trod_slice Tryd.underlying23 g4 with ⟨e4, _⟩ | ⟨a, len, cap, elems, rest, n', rfl, e4, _, _, hl, hm, hel, hi, _, _⟩
      · simp only [List.cons.injEq, and_true] at e4
        subst e4
        exact ⟨⟨kind, num, text, names, []⟩, na, nc, none, 0, rfl, NodeC.mk htx hns ⟨by simp, by simp, .inl rfl⟩⟩
      · simp only [List.cons.injEq, and_true] at e4
        subst e4
        rw [hc] at hi
        have key : ∀ i, i < len → ∃ (k : Nd × (Option Addr × Nat × Option Addr × Nat)), W.cell? (a.add (i * 5)) = some (.int .i64 k.1.kind) ∧ W.cell? (a.add (i * 5 + 1)) = some (.int .i64 k.1.num) ∧ W.cell? (a.add (i * 5 + 2)) = some (.string k.1.text) ∧
            W.cell? (a.add (i * 5 + 3)) = some (.slice k.2.1 k.1.names.length k.2.2.1) ∧ W.cell? (a.add (i * 5 + 4)) = some (.slice k.2.2.2.1 k.1.kids.length k.2.2.2.2) ∧ NodeC W any k.1 k.2.1 k.2.2.1 k.2.2.2.1 k.2.2.2.2 := fun i hi' => by
          have h := hi i hi'
          rw [List.getElem?_eq_getElem (by omega)] at h
          obtain ⟨cs', h1, h2⟩ := Option.bind_eq_some_iff.1 h
          obtain ⟨_, hl5, hat⟩ := World.cells?_some h1
          obtain ⟨m, na', nc', ka', kc', rfl, hn'⟩ := ih n' (by omega) cs' _ h2
          refine ⟨⟨m, na', nc', ka', kc'⟩, ?_, ?_, ?_, ?_, ?_, hn'⟩
          · simpa [Go.Deep.add_add] using hat 0 (by omega)
          · simpa [Go.Deep.add_add] using hat 1 (by omega)
          · simpa [Go.Deep.add_add] using hat 2 (by omega)
          · simpa [Go.Deep.add_add] using hat 3 (by omega)
          · simpa [Go.Deep.add_add] using hat 4 (by omega)
        have : Inhabited (Nd × (Option Addr × Nat × Option Addr × Nat)) := ⟨⟨⟨0, 0, ByteArray.empty, [], []⟩, none, 0, none, 0⟩⟩
        obtain ⟨f, hf⟩ := choose_lt key
        have hkl : ((List.range len).map fun i => (f i).1).length = len := by simp
        have hbig : len ≤ big := by unfold maxLen at hm; unfold big; omega
        refine ⟨⟨kind, num, text, names, (List.range len).map fun i => (f i).1⟩, na, nc, some a, cap, by simp, NodeC.mk htx hns ⟨by rw [hkl]; exact hl, by rw [hkl]; exact hbig, ?_⟩⟩
        by_cases h0 : len = 0
        · subst h0; exact .inl rfl
        · obtain ⟨b, o, ha⟩ := addr_spot (hf 0 (by omega)).1
          have ha' : a = ⟨b, o, none⟩ := by simpa [Addr.add] using ha
          subst ha'
          refine .inr ⟨b, o, rfl, trivial, KidsR.of_get (fun i hi' => ?_)⟩
          rw [hkl] at hi'
          obtain ⟨k0, k1, k2, k3, k4, kn⟩ := hf i hi'
          rw [add_mk] at k0 k1 k2 k3 k4
          simp only [List.getElem_map, List.getElem_range]
          exact ⟨_, _, _, _, k0, by rw [Nat.add_assoc]; exact k1, by rw [Nat.add_assoc]; exact k2, by rw [Nat.add_assoc]; exact k3, by rw [Nat.add_assoc]; exact k4, kn⟩
end
end Go.Proofs.YtoedpagdklagdaaDoor
namespace Go.Proofs.YtoedpagdklagdaaDoor
open Go.RowKit Go.ChangeShapes Go.WideShapes Go.Deep
def BytesR (W : World) (zs : List Int) (v : Value) : Prop := ∃ a c, v = .slice a zs.length c ∧ zs.length ≤ c ∧ zs.length ≤ big ∧ (zs = [] ∨ ∃ b o, a = some ⟨b, o, none⟩ ∧ ∀ i (h : i < zs.length), W.cell? ⟨b, o + i, none⟩ = some (.int .u8 zs[i])) ∧ Eng.ByteL zs
section
variable {H : Type} {enc : TypeId × Value → H} {W : World} {base : Nat} {sp : Nat → Bool} {held : Bool}
theorem rv_bytes {fuel : Nat} {v : Value} {x : DataW H × List MemPlace} (h : DataW.trod enc Tryd.prog W base sp held fuel 35 [v] = some x) : ∃ zs, BytesR W zs v := by
  rcases open_slice Tryd.underlying35 h with ⟨e, _⟩ | ⟨a, len, cap, m, n, D, Pl, e, _, hl, hm, hmm, _, hi⟩
  · cases e
    exact ⟨[], none, 0, rfl, by simp, by simp, .inl rfl, fun z hz => by cases hz⟩
  · cases e
    have hlm : len ≤ m := by rw [hmm]; split <;> omega
    have hel : ∀ i, i < len → ∃ z : Int, W.cell? (a.add i) = some (.int .u8 z) ∧ (0 ≤ z ∧ z ≤ 255) := fun i hi' => by
      obtain ⟨cs', h1, h2⟩ := hi i (by omega)
      have hc : Tryd.prog.cellsOf 5 = 1 := by kernel_rfl
      rw [hc] at h1
      obtain ⟨_, hlen, hat⟩ := World.cells?_some h1
      obtain ⟨z, rfl, _, hz⟩ := DataW.trod_int Tryd.underlying5 h2
      have := hat 0 (by omega)
      refine ⟨z, by simpa [Go.Deep.add_add] using this, ?_⟩
      simp only [Lit.wf, Bool.and_eq_true, decide_eq_true_eq] at hz
      simpa [IntKind.min, IntKind.max, IntKind.signed, IntKind.bits] using hz
    have : Inhabited Int := ⟨0⟩
    obtain ⟨f, hf⟩ := choose_lt hel
    have hkl : ((List.range len).map f).length = len := by simp
    refine ⟨(List.range len).map f, some a, cap, by rw [hkl], by rw [hkl]; exact hl, by rw [hkl]; unfold maxLen at hm; unfold big; omega, ?_, ?_⟩
    · by_cases h0 : len = 0
      · subst h0; exact .inl rfl
      · obtain ⟨b, o, ha⟩ := addr_spot (hf 0 (by omega)).1
        have ha' : a = ⟨b, o, none⟩ := by simpa [Addr.add] using ha
        subst ha'
        refine .inr ⟨b, o, rfl, fun i hi' => ?_⟩
        simp at hi'
        have := (hf i hi').1
        rw [add_mk] at this
        simpa using this
    · intro z hz
      obtain ⟨i, hi', rfl⟩ := List.mem_map.1 hz
      exact (hf i (List.mem_range.1 hi')).2
end
end Go.Proofs.YtoedpagdklagdaaDoor
namespace Go.Proofs.YtoedpagdklagdaaDoor.Eng
open Go Go.RowKit
attribute [local simp] big size_mk ASt.pay Option.map_map Function.comp_def awant aop acall ado aev ofVal ofVal0 ASt.put ASt.add ASt.turn ASt.kill abox aalloc astore aload ASt.at cellsTo afieldAddr afield aindexAddr aindex alen abin aint acmp astr aun apick aextract anil aslice abound abuild afill abuildSlice asCells aps avCells over upd aappend asrc amax amin aconv mkSt slots rowsOf_cons rowsOf_nil usedOf_cons usedOf_nil ZK.av List.replicate ASt.back ASt.addL ASt.killL nodeA nodeT nodeTL_eq nodeL_eq strsE_get strsE_len intsE_get intsE_len strsE_at intsE_at tab2 tab3 tab4 tab5 tab6 tab7 tab8 tab9 tab10 tab11 tab12 tab13 tab14 tab15 tab16 tab17 tab18 tab19 tab21 tab22 tab23 tab24 tab25 tab28 tab29 tab30 tab35 tab40 tab41 tab42 tab45 tab46 tab47 tab55 tab56 tab57 tab63 tab73 tab74 tab84 tab87 tab89 tab90 tab93 tab94 tab109 tab120 tab123 tab128 tab129 tab134 tab135 tab137 tab138
end Go.Proofs.YtoedpagdklagdaaDoor.Eng
namespace Go.Proofs.YtoedpagdklagdaaDoor.Eng
open Go Go.RowKit
inductive Way : Nd → Prop where
  | mk (n : Nd) (h1 : n.kind = 4 → n.kids.length ≤ n.names.length) (h2 : n.kids.length ≤ 6) (h3 : ∀ k ∈ n.kids, Way k) : Way n
theorem Way.names {n : Nd} : Way n → n.kind = 4 → n.kids.length ≤ n.names.length | .mk _ h _ _ => h
theorem Way.kids {n : Nd} : Way n → n.kids.length ≤ 6 | .mk _ _ h _ => h
theorem Way.kid {n : Nd} : Way n → ∀ k ∈ n.kids, Way k | .mk _ _ _ h => h
end Go.Proofs.YtoedpagdklagdaaDoor.Eng
namespace Go.Proofs.YtoedpagdklagdaaDoor.Eng
open Go Go.RowKit
attribute [local simp] big size_mk ASt.pay Option.map_map Function.comp_def awant aop acall ado aev ofVal ofVal0 ASt.put ASt.add ASt.turn ASt.kill abox aalloc astore aload ASt.at cellsTo afieldAddr afield aindexAddr aindex alen abin aint acmp astr aun apick aextract anil aslice abound abuild afill abuildSlice asCells aps avCells over upd aappend asrc amax amin aconv mkSt slots rowsOf_cons rowsOf_nil usedOf_cons usedOf_nil ZK.av List.replicate ASt.back ASt.addL ASt.killL nodeA nodeT nodeTL_eq nodeL_eq strsE_get strsE_len intsE_get intsE_len strsE_at intsE_at tab2 tab3 tab4 tab5 tab6 tab7 tab8 tab9 tab10 tab11 tab12 tab13 tab14 tab15 tab16 tab17 tab18 tab19 tab21 tab22 tab23 tab24 tab25 tab28 tab29 tab30 tab35 tab40 tab41 tab42 tab45 tab46 tab47 tab55 tab56 tab57 tab63 tab73 tab74 tab84 tab87 tab89 tab90 tab93 tab94 tab109 tab120 tab123 tab128 tab129 tab134 tab135 tab137 tab138
def zeroN : List AV := [.int .i64 0, .int .i64 0, .str ⟨#[]⟩, .view .tight 0 [], .view .tight 0 []]
def part (ks : List Nd) (i : Nat) : List (List AV) := (ks.take i).map nodeL ++ List.replicate (ks.length - i) zeroN
end Go.Proofs.YtoedpagdklagdaaDoor.Eng
namespace Go.Proofs.YtoedpagdklagdaaDoor.Eng
open Go Go.RowKit
section
variable {P : Program} {T : Tab} {w0 : W0} {S0 : Nat → Prop} {rd0 : Option Nat} {k0 : Nat} {w : World} {a : Act} {s : ASt} {ρ : Cx}
end
section
variable {P : Program} {T : Tab} {k0 : Nat} {md : List Nat} {ops : Array Oper} {K : ASt → Prop} {o : Oper} {l : List Oper} {s : ASt}
end
end Go.Proofs.YtoedpagdklagdaaDoor.Eng
namespace Go.Proofs.YtoedpagdklagdaaDoor.Eng
open Go Go.RowKit
attribute [local simp] big size_mk ASt.pay Option.map_map Function.comp_def awant aop acall ado aev ofVal ofVal0 ASt.put ASt.add ASt.turn ASt.kill abox aalloc astore aload ASt.at cellsTo afieldAddr afield aindexAddr aindex alen abin aint acmp astr aun apick aextract anil aslice abound abuild afill abuildSlice asCells aps avCells over upd aappend asrc amax amin aconv mkSt slots rowsOf_cons rowsOf_nil usedOf_cons usedOf_nil ZK.av List.replicate ASt.back ASt.addL ASt.killL nodeA nodeT nodeTL_eq nodeL_eq strsE_get strsE_len intsE_get intsE_len strsE_at intsE_at tab2 tab3 tab4 tab5 tab6 tab7 tab8 tab9 tab10 tab11 tab12 tab13 tab14 tab15 tab16 tab17 tab18 tab19 tab21 tab22 tab23 tab24 tab25 tab28 tab29 tab30 tab35 tab40 tab41 tab42 tab45 tab46 tab47 tab55 tab56 tab57 tab63 tab73 tab74 tab84 tab87 tab89 tab90 tab93 tab94 tab109 tab120 tab123 tab128 tab129 tab134 tab135 tab137 tab138
theorem AC.args {P : Program} {f : FuncId} {args args' : List AV} {c : Nat} {Post : AV → Prop} (h : AC P f args c Post) (hw : ∀ w ρ vs, RepL w ρ args' vs → RepL w ρ args vs) : AC P f args' c Post :=
  ⟨h.1, fun w L S rb k vs h0 h1 h2 h3 => h.2 w L S rb k vs h0 h1 h2 (hw w _ vs h3)⟩
theorem ACR.args {P : Program} {f : FuncId} {args args' : List AV} {c : Nat} {Post0 : AV → Prop} {Post : (Nat → AV) → Row → Prop} (h : ACR P f args c Post0 Post) (hw : ∀ w ρ vs, RepL w ρ args' vs → RepL w ρ args vs) : ACR P f args' c Post0 Post :=
  ⟨h.1, fun w L S rb k vs h0 h1 h2 h3 => h.2 w L S rb k vs h0 h1 h2 (hw w _ vs h3)⟩
theorem Less.hold {s : ASt} (id : Nat) : Less s (s.hold id) := fun _ _ _ _ _ _ _ _ hs => by
  obtain ⟨ρ', h, _⟩ := SR.held hs id
  exact ⟨ρ', h⟩
theorem cN_le : cN ≤ 1000000 := by decide +kernel
end Go.Proofs.YtoedpagdklagdaaDoor.Eng
namespace Go.Proofs.YtoedpagdklagdaaDoor
open Go.RowKit
abbrev TB : TypeId := 57
abbrev TU : TypeId := 5
abbrev Bl := Lib.BuilderAtF TB TU
structure Kp (B b : Nat) (w w' : World) : Prop where
  below : Below B w w'
  others : Lib.OthersKept TU (some b) w w'
theorem Kp.refl (B b : Nat) (w : World) : Kp B b w w := ⟨Below.refl _ _, Lib.OthersKept.refl _ _ _⟩
theorem Kp.trans {B b : Nat} {u v w : World} (h : Kp B b u v) (k : Kp B b v w) : Kp B b u w := ⟨h.below.trans k.below, h.others.trans k.others⟩
theorem copyCheck_ok (B b : Nat) (bs : List Value) (w : World) (h : Lib.IsBuilderF TB TU B b bs w) :
    Calls Tryd.prog 79 #[.pointer (some ⟨b, 0, none⟩)] w fun e w' => e = .returned (.tuple #[]) ∧ Bl B b (.pointer (some ⟨b, 0, none⟩)) bs w' ∧ Kp B b w w' := by
  obtain ⟨j, hj, hjs⟩ : ∃ j, Tryd.prog.info? TB = some j ∧ j.size = 2 := Option.map_eq_some_iff.1 (show (Tryd.prog.info? TB).map (·.size) = some 2 by kernel_rfl)
  have hlie : liesAt Tryd.prog Tryd.prog.depth TB (2 / Tryd.prog.cellsOf TB) 0 TB 1 = true := by kernel_rfl
  rcases h with h | h
  · have h0 := h.cell0
    have hsh := h.shape
    have hfz := h.frozen0
    go_enter Tryd.func79, Tryd.ntmps79
    go_wp2
    rw [Lib.run_to_unsafe w ⟨b, 0, none⟩ Tryd.underlying55 Tryd.underlying101 hj (by rw [hjs]; decide) hsh (Nat.zero_lt_succ 1)]
    simp only [Result.andThen]
    rw [Oper.upon_value]
    go_wp2
    rw [run_callFunc_extern Tryd.func85 (by kernel_rfl) (by kernel_rfl) (by kernel_rfl) (e := Extern.AbiNoEscape.same) (by kernel_rfl)]
    rw [Lib.run_noEscape]
    simp only [Result.andThen]
    rw [Oper.upon_value]
    go_wp2
    rw [Lib.run_from_unsafe w ⟨b, 0, none⟩ Tryd.underlying101 Tryd.underlying55 hj hsh hlie]
    simp only [Result.andThen]
    rw [Oper.upon_value]
    go_wp2
    go_end0
    exact ⟨rfl, h.used _, (Below.refl B w).setCell (p := ⟨b, 0, none⟩) h.1 _, (Lib.OthersKept.refl _ _ w).setCell ⟨b, 0, none⟩ rfl _⟩
  · have h0 := h.cell0
    go_enter Tryd.func79, Tryd.ntmps79
    go_wp2
    rw [Lib.run_neq_ptr_same w ⟨b, 0, none⟩ Tryd.underlying55 hj]
    simp only [Result.andThen]
    rw [Oper.upon_value]
    go_wp2
    go_end0
    exact ⟨rfl, h, Kp.refl _ _ _⟩
theorem writeByte_ok (B b : Nat) (bs : List Value) (c : Int) (w : World) (h : Lib.IsBuilderF TB TU B b bs w) (hlen : bs.length + 1 ≤ 1000000) (hBw : B ≤ w.heap.size) :
    Calls Tryd.prog 64 #[.pointer (some ⟨b, 0, none⟩), .int .u8 c] w fun e w' => e = .returned .nilIface ∧ Bl B b (.pointer (some ⟨b, 0, none⟩)) (bs ++ [.int .u8 c]) w' ∧ Kp B b w w' := by
  obtain ⟨i0, hi, hz0, hz1, hz2⟩ : ∃ i, Tryd.prog.info? TU = some i ∧ i.zero = some (.int .u8 0) ∧ i.size = 1 ∧ i.bytes = 1 := info_parts (show (Tryd.prog.info? TU).map (fun i => (i.zero, i.size, i.bytes)) = some (some (.int .u8 0), 1, 1) by kernel_rfl)
  go_enter Tryd.func64, Tryd.ntmps64
  go_wp2_with (go_at_call 79; refine (copyCheck_ok B b bs _ h).mono ?_)
  rintro e w1 ⟨rfl, h1, hb1, hk1⟩
  obtain ⟨hB, v, hbk, hown, hne⟩ := h1
  have c0 : w1.cell? ⟨b, 0, none⟩ = some (.pointer (some ⟨b, 0, none⟩)) := by rw [Lib.cell_of_heap hbk]; rfl
  have c1 : w1.cell? ⟨b, 1, none⟩ = some v := by rw [Lib.cell_of_heap hbk]; rfl
  go_wp2_with (at_builtin; refine wpList_append_ownF _ rfl _ _ 35 rfl B TU i0 (.int .u8 0) 1 1 Tryd.underlying35 hi hz0 hz1 hz2 rfl (by decide) _ _ _ rfl (hown.alloc _) ⟨w1.heap.size, 0, none⟩ 1 1 [.int .u8 c] rfl rfl ?c1 ?c2 ?c3 ?c4 ?c5 ?_)
  case c1 =>
    intro j u hj
    match j, hj with
    | 0, hj => simp at hj; subst hj; simp [Addr.add]
  case c2 => intro u hu; simp at hu; subst hu; rfl
  case c3 => unfold maxLen; omega
  case c4 => omega
  case c5 => have := hb1.size; simp; omega
  intro v' w2 hown' hgrow _
  have hlt : b < w1.heap.size := Lib.BuilderAtF.lt ⟨hB, v, hbk, hown, hne⟩
  have hb2 : w2.heap[b]? = some (.cells #[.pointer (some ⟨b, 0, none⟩), v] TB (0, 0)) := by
    rw [hgrow.block b (by simp; omega) (fun e => hne e.symm), Lib.alloc_old w1 _ b hlt]
    exact hbk
  have d0 : w2.cell? ⟨b, 0, none⟩ = some (.pointer (some ⟨b, 0, none⟩)) := by rw [Lib.cell_of_heap hb2]; rfl
  have d1 : w2.cell? ⟨b, 1, none⟩ = some v := by rw [Lib.cell_of_heap hb2]; rfl
  have f1 : w2.frozen? ⟨b, 1, none⟩ = false := Lib.frozen_of_heap hb2 1
  obtain ⟨g, cap, rfl⟩ : ∃ g cap, v' = .slice (some ⟨g, 0, none⟩) (bs.length + 1) cap := by
    rcases hown'.2 with ⟨_, h0⟩ | ⟨g, cap, cur, fz, hv, _⟩
    · omega
    · exact ⟨g, cap, hv⟩
  go_wp2
  go_ret
  refine ⟨rfl, ?_, ?_, ((hk1.alloc _).grown hgrow (Lib.ownsRowF_kind (hown.alloc _))).setCell ⟨b, 1, none⟩ rfl _⟩
  · exact Lib.BuilderAtF.put (T := TB) (e := TU) hB hb2 (bs' := bs ++ [.int .u8 c]) (by simpa using hown') (by decide)
  · exact ((hb1.alloc (by have := hb1.size; omega) _).grown hgrow (by have := hb1.size; simp; omega) (fun k hk => (hown.lt k hk).1)).setCell (p := ⟨b, 1, none⟩) hB _
theorem writeString_ok (B b : Nat) (bs : List Value) (s : ByteArray) (w : World) (h : Lib.IsBuilderF TB TU B b bs w) (hlen : bs.length + s.size ≤ 1000000) (hBw : B ≤ w.heap.size) :
    Calls Tryd.prog 61 #[.pointer (some ⟨b, 0, none⟩), .string s] w fun e w' => e = .returned (.tuple #[.int .i64 s.size, .nilIface]) ∧ Bl B b (.pointer (some ⟨b, 0, none⟩)) (bs ++ Lib.strCells s) w' ∧ Kp B b w w' := by
  obtain ⟨i0, hi, hz0, hz1, hz2⟩ : ∃ i, Tryd.prog.info? TU = some i ∧ i.zero = some (.int .u8 0) ∧ i.size = 1 ∧ i.bytes = 1 := info_parts (show (Tryd.prog.info? TU).map (fun i => (i.zero, i.size, i.bytes)) = some (some (.int .u8 0), 1, 1) by kernel_rfl)
  go_enter Tryd.func61, Tryd.ntmps61
  go_wp2_with (go_at_call 79; refine (copyCheck_ok B b bs _ h).mono ?_)
  rintro e w1 ⟨rfl, h1, hb1, hk1⟩
  obtain ⟨hB, v, hbk, hown, hne⟩ := h1
  have c0 : w1.cell? ⟨b, 0, none⟩ = some (.pointer (some ⟨b, 0, none⟩)) := by rw [Lib.cell_of_heap hbk]; rfl
  have c1 : w1.cell? ⟨b, 1, none⟩ = some v := by rw [Lib.cell_of_heap hbk]; rfl
  go_wp2_with (at_builtin; refine Lib.wpList_append_own_stringF _ rfl _ _ 35 9 rfl B TU i0 Tryd.underlying35 Tryd.underlying9 hi hz0 hz1 hz2 _ _ _ rfl hown s rfl ?c3 ?c4 ?c5 ?_)
  case c3 => unfold maxLen; omega
  case c4 => omega
  case c5 => have := hb1.size; omega
  intro v' w2 hown' hgrow _
  have hlt : b < w1.heap.size := Lib.BuilderAtF.lt ⟨hB, v, hbk, hown, hne⟩
  have hb2 : w2.heap[b]? = some (.cells #[.pointer (some ⟨b, 0, none⟩), v] TB (0, 0)) := by
    rw [hgrow.block b hlt (fun e => hne e.symm)]
    exact hbk
  have d0 : w2.cell? ⟨b, 0, none⟩ = some (.pointer (some ⟨b, 0, none⟩)) := by rw [Lib.cell_of_heap hb2]; rfl
  have d1 : w2.cell? ⟨b, 1, none⟩ = some v := by rw [Lib.cell_of_heap hb2]; rfl
  have f1 : w2.frozen? ⟨b, 1, none⟩ = false := Lib.frozen_of_heap hb2 1
  obtain ⟨ao, n', cap, rfl⟩ : ∃ ao n' cap, v' = .slice ao n' cap := by
    rcases hown'.2 with ⟨hv, _⟩ | ⟨g, cap, cur, fz, hv, _⟩
    · exact ⟨_, _, _, hv⟩
    · exact ⟨_, _, _, hv⟩
  go_wp2
  go_ret2
  refine ⟨rfl, ?_, ?_, (hk1.grown hgrow (Lib.ownsRowF_kind hown)).setCell ⟨b, 1, none⟩ rfl _⟩
  · exact Lib.BuilderAtF.put (T := TB) (e := TU) hB hb2 (bs' := bs ++ Lib.strCells s) (by simpa [Lib.strCells_length] using hown') (by decide)
  · exact (hb1.grown hgrow (by have := hb1.size; omega) (fun k hk => (hown.lt k hk).1)).setCell (p := ⟨b, 1, none⟩) hB _
end Go.Proofs.YtoedpagdklagdaaDoor
namespace Go.Proofs.YtoedpagdklagdaaDoor
open Go.RowKit
def escT (c : UInt8) : List UInt8 := if c = 34 ∨ c = 92 then [92, c] else [c]
def quoT (l : List UInt8) : List UInt8 := 34 :: l.flatMap escT ++ [34]
mutual
def fmtT : Nd → List UInt8
  | ⟨k, m, t, ns, ks⟩ => if k = 0 then [110, 117, 108, 108] else if k = 1 then Lib.itoa m else if k = 2 then quoT t.data.toList else if k = 3 then 91 :: fmtL false ns ks 0 ++ [93] else 123 :: fmtL true ns ks 0 ++ [125]
def fmtL (map : Bool) (ns : List ByteArray) : List Nd → Nat → List UInt8
  | [], _ => []
  | x :: xs, i => (if 0 < i then [44] else []) ++ (if map then quoT ((ns[i]?).getD ⟨#[]⟩).data.toList ++ [58] else []) ++ fmtT x ++ fmtL map ns xs (i + 1)
end
theorem fmtT_eq (n : Nd) : fmtT n = if n.kind = 0 then [110, 117, 108, 108] else if n.kind = 1 then Lib.itoa n.num else if n.kind = 2 then quoT n.text.data.toList else if n.kind = 3 then 91 :: fmtL false n.names n.kids 0 ++ [93] else 123 :: fmtL true n.names n.kids 0 ++ [125] := by
  cases n; rw [fmtT]
theorem esc_len (l : List UInt8) : (l.flatMap escT).length ≤ 2 * l.length := by
  induction l with
  | nil => simp
  | cons a l ih =>
    rw [List.flatMap_cons, List.length_append, List.length_cons]
    have : (escT a).length ≤ 2 := by unfold escT; split <;> simp
    omega
theorem quo_len (l : List UInt8) : (quoT l).length ≤ 2 * l.length + 2 := by
  unfold quoT
  have := esc_len l
  simp only [List.cons_append, List.length_cons, List.length_append, List.length_nil]
  omega
inductive Wr : Nd → Prop where
  | mk (n : Nd) (h0 : 0 ≤ n.kind ∧ n.kind ≤ 4) (h1 : -999999 ≤ n.num ∧ n.num ≤ 999999) (h2 : n.text.size ≤ 12) (h3 : ∀ x ∈ n.names, x.size ≤ 12) (h4 : n.kids.length ≤ 6) (h5 : n.kind = 4 → n.kids.length = n.names.length) (h6 : ∀ k ∈ n.kids, Wr k) : Wr n
theorem Wr.kind {n : Nd} : Wr n → 0 ≤ n.kind ∧ n.kind ≤ 4 | .mk _ h _ _ _ _ _ _ => h
theorem Wr.num {n : Nd} : Wr n → -999999 ≤ n.num ∧ n.num ≤ 999999 | .mk _ _ h _ _ _ _ _ => h
theorem Wr.text {n : Nd} : Wr n → n.text.size ≤ 12 | .mk _ _ _ h _ _ _ _ => h
theorem Wr.names {n : Nd} : Wr n → ∀ x ∈ n.names, x.size ≤ 12 | .mk _ _ _ _ h _ _ _ => h
theorem Wr.kids {n : Nd} : Wr n → n.kids.length ≤ 6 | .mk _ _ _ _ _ h _ _ => h
theorem Wr.map {n : Nd} : Wr n → n.kind = 4 → n.kids.length = n.names.length | .mk _ _ _ _ _ _ h _ => h
theorem Wr.kid {n : Nd} : Wr n → ∀ k ∈ n.kids, Wr k | .mk _ _ _ _ _ _ _ h => h
theorem digs_len : ∀ k u, u < 10 ^ (k + 1) → (Lib.decDigits u).length ≤ k + 1 := by
  intro k
  induction k with
  | zero => intro u h; rw [Lib.decDigits]; rw [dif_pos (by omega)]; simp
  | succ k ih =>
    intro u h
    rw [Lib.decDigits]
    split
    · simp
    · have := ih (u / 10) (by rw [Nat.pow_succ] at h; omega)
      simp only [List.length_append, List.length_cons, List.length_nil]
      omega
theorem itoa_len {m : Int} (h : -999999 ≤ m ∧ m ≤ 999999) : (Lib.itoa m).length ≤ 7 := by
  unfold Lib.itoa
  split
  · have := digs_len 5 m.natAbs (by omega)
    simp only [List.length_cons]; omega
  · have := digs_len 5 m.toNat (by omega)
    omega
theorem fmt_len28 : ∀ n, Wr n → (fmtT n).length + 28 ≤ 70 * n.count := Nd.ind' _ (fun n ih h => by
  have key : ∀ (map : Bool) (ks : List Nd) (i : Nat), (∀ x ∈ ks, (fmtT x).length + 28 ≤ 70 * x.count) → (map = true → i + ks.length ≤ n.names.length) → (fmtL map n.names ks i).length ≤ 70 * countL ks := by
    intro map ks
    induction ks with
    | nil => intro i _ _; rw [fmtL, countL]; simp
    | cons x xs ihx =>
      intro i hx hm
      rw [fmtL, countL]
      have h1 := ihx (i + 1) (fun y hy => hx y (by simp [hy])) (fun hh => by have := hm hh; simp only [List.length_cons] at this; omega)
      have h2 := hx x (by simp)
      have h3 : (if 0 < i then [(44 : UInt8)] else []).length ≤ 1 := by split <;> simp
      have h4 : (if map = true then quoT ((n.names[i]?).getD ⟨#[]⟩).data.toList ++ [58] else []).length ≤ 27 := by
        split
        · rename_i hmm
          have hb := hm hmm
          simp only [List.length_cons] at hb
          have hi : i < n.names.length := by omega
          rw [List.getElem?_eq_getElem hi]
          have h5 := quo_len n.names[i].data.toList
          have h6 := h.names _ (List.getElem_mem hi)
          have h7 : n.names[i].data.toList.length = n.names[i].size := by simp
          simp only [Option.getD_some, List.length_append, List.length_cons, List.length_nil]
          omega
        · simp
      simp only [List.length_append]
      omega
  have hc : countL n.kids + 1 = n.count := by have := n.count_eq; omega
  have hih := fun x hx => ih x hx (h.kid x hx)
  rw [fmtT_eq]
  by_cases h0 : n.kind = 0
  · rw [if_pos h0]; simp only [List.length_cons, List.length_nil]; omega
  rw [if_neg h0]
  by_cases h1 : n.kind = 1
  · rw [if_pos h1]; have := itoa_len h.num; omega
  rw [if_neg h1]
  by_cases h2 : n.kind = 2
  · rw [if_pos h2]
    have h5 := quo_len n.text.data.toList
    have h6 := h.text
    have h7 : n.text.data.toList.length = n.text.size := by simp
    omega
  rw [if_neg h2]
  by_cases h3 : n.kind = 3
  · rw [if_pos h3]
    have := key false n.kids 0 hih (fun hh => by cases hh)
    simp only [List.cons_append, List.length_cons, List.length_append, List.length_nil]
    omega
  · rw [if_neg h3]
    have hk := h.kind
    have := key true n.kids 0 hih (fun _ => by have := h.map (by omega); omega)
    simp only [List.cons_append, List.length_cons, List.length_append, List.length_nil]
    omega)
theorem fmt_len {n : Nd} (h : Wr n) : (fmtT n).length ≤ 70 * n.count := by have := fmt_len28 n h; omega
theorem fmtL_split (map : Bool) (ns : List ByteArray) : ∀ (ks : List Nd) (i j : Nat), fmtL map ns ks j = fmtL map ns (ks.take i) j ++ fmtL map ns (ks.drop i) (j + min i ks.length)
  | [], i, j => by simp [fmtL]
  | x :: xs, 0, j => by simp [fmtL]
  | x :: xs, i + 1, j => by
    rw [fmtL, List.take_succ_cons, List.drop_succ_cons, fmtL, fmtL_split map ns xs i (j + 1), List.length_cons, Nat.add_min_add_right, show j + 1 + min i xs.length = j + (min i xs.length + 1) by omega]
    simp [List.append_assoc]
theorem fmtL_succ (map : Bool) (ns : List ByteArray) {ks : List Nd} {j : Nat} (h : j < ks.length) : fmtL map ns (ks.take (j + 1)) 0 = fmtL map ns (ks.take j) 0 ++ ((if 0 < j then [44] else []) ++ (if map then quoT ((ns[j]?).getD ⟨#[]⟩).data.toList ++ [58] else []) ++ fmtT ks[j]) := by
  rw [fmtL_split map ns (ks.take (j + 1)) j 0, List.take_take, Nat.min_eq_left (Nat.le_succ j), List.length_take, Nat.min_eq_left (show j + 1 ≤ ks.length by omega), Nat.min_eq_left (Nat.le_succ j), Nat.zero_add]
  congr 1
  have : (ks.take (j + 1)).drop j = [ks[j]] := by
    rw [take_snoc' _ _ h, List.drop_append_of_le_length (by rw [List.length_take]; omega), List.drop_eq_nil_of_le (by rw [List.length_take]; omega)]
    rfl
  rw [this, fmtL, fmtL, List.append_nil]
theorem fmtL_le (map : Bool) (ns : List ByteArray) (ks : List Nd) (j : Nat) : (fmtL map ns (ks.take j) 0).length ≤ (fmtL map ns ks 0).length := by
  rw [fmtL_split map ns ks j 0, List.length_append]; omega
theorem shape_wr : ∀ n : Nd, ∀ d, shapeB n d = true → Wr n := Nd.ind' _ (fun n ih d h => by
  rw [shapeB_eq] at h
  simp only [Bool.and_eq_true] at h
  have hp := h.1.2
  have hk6 := partsB_kids hp
  have hkids : ∀ k ∈ n.kids, Wr k := fun k hk => ih k hk (d - 1) (by
    have h2 := h.2
    rw [shapeL_all, List.all_eq_true] at h2
    exact h2 k hk)
  unfold partsB at hp
  simp only [Bool.and_eq_true] at hp
  obtain ⟨⟨⟨q1, q2⟩, q3⟩, q4⟩ := hp
  simp only [Bool.or_eq_true, decide_eq_true_eq, List.isEmpty_iff] at q1 q2 q3
  have hnum : -999999 ≤ n.num ∧ n.num ≤ 999999 := by
    rcases q1 with q1 | q1
    · rw [q1] at q4; simp at q4; omega
    · omega
  have htext : n.text.size ≤ 12 := by
    rcases q2 with q2 | q2
    · rw [q2] at q4; simp [plainT] at q4; omega
    · have : n.text.data.toList.length = n.text.size := by simp
      rw [ByteArray.toList_eq] at q2
      rw [q2] at this
      simp only [List.length_nil] at this; omega
  have hkind : 0 ≤ n.kind ∧ n.kind ≤ 4 := by
    by_cases e0 : n.kind = 0; · omega
    by_cases e1 : n.kind = 1; · omega
    by_cases e2 : n.kind = 2; · omega
    by_cases e3 : n.kind = 3; · omega
    by_cases e4 : n.kind = 4; · omega
    simp [e0, e1, e2, e3, e4] at q4
  have hnames : (∀ x ∈ n.names, x.size ≤ 12) ∧ (n.kind = 4 → n.kids.length = n.names.length) := by
    rcases q3 with q3 | q3
    · rw [q3] at q4
      simp [areNamesB] at q4
      refine ⟨?_, fun _ => q4.2⟩
      have : ∀ (q : Option ByteArray) (xs : List ByteArray), namesFrom q xs = true → ∀ x ∈ xs, x.size ≤ 12 := by
        intro q xs
        induction xs generalizing q with
        | nil => intro _ x hx; cases hx
        | cons y ys ihy =>
          intro hh x hx
          simp only [namesFrom, Bool.and_eq_true] at hh
          rcases List.mem_cons.1 hx with rfl | hx
          · have := hh.1.1
            simp [plainT] at this
            exact this.1
          · exact ihy _ hh.2 x hx
      exact this none n.names q4.1.2
    · refine ⟨fun x hx => ?_, fun e4 => ?_⟩
      · have := List.length_pos_of_mem hx; omega
      · rw [e4] at q4; simp at q4; omega
  exact .mk n hkind hnum htext hnames.1 hk6 hnames.2 hkids)
theorem valid_wr {n : Nd} (h : shapeB n 5 = true) : Wr n := shape_wr n 5 h
end Go.Proofs.YtoedpagdklagdaaDoor
namespace Go.Proofs.YtoedpagdklagdaaDoor
open Go.RowKit
abbrev Bd (B b : Nat) (l : List UInt8) (w : World) : Prop := Lib.IsBuilderF TB TU B b (Lib.byteCells l) w
theorem Bd.of {B b : Nat} {l : List UInt8} {bs : List Value} {w : World} (h : Bl B b (.pointer (some ⟨b, 0, none⟩)) bs w) (he : bs = Lib.byteCells l) : Bd B b l w := by subst he; exact .inr h
theorem wByte (B b : Nat) (l : List UInt8) (c : UInt8) (v : Int) (hv : v = (c.toNat : Int)) (w : World) (h : Bd B b l w) (hlen : l.length + 1 ≤ 1000000) (hBw : B ≤ w.heap.size) :
    Calls Tryd.prog 64 #[.pointer (some ⟨b, 0, none⟩), .int .u8 v] w fun e w' => e = .returned .nilIface ∧ Bd B b (l ++ [c]) w' ∧ Kp B b w w' := by
  subst hv
  refine (writeByte_ok B b _ _ w h (by rw [Lib.byteCells_length]; exact hlen) hBw).mono ?_
  rintro e w' ⟨rfl, h1, h2⟩
  exact ⟨rfl, .inr (by rw [Lib.byteCells_append]; exact h1), h2⟩
theorem wString (B b : Nat) (l : List UInt8) (s : ByteArray) (w : World) (h : Bd B b l w) (hlen : l.length + s.size ≤ 1000000) (hBw : B ≤ w.heap.size) :
    Calls Tryd.prog 61 #[.pointer (some ⟨b, 0, none⟩), .string s] w fun e w' => e = .returned (.tuple #[.int .i64 s.size, .nilIface]) ∧ Bd B b (l ++ s.data.toList) w' ∧ Kp B b w w' := by
  refine (writeString_ok B b _ s w h (by rw [Lib.byteCells_length]; exact hlen) hBw).mono ?_
  rintro e w' ⟨rfl, h1, h2⟩
  exact ⟨rfl, .inr (by rw [Lib.byteCells_append]; exact h1), h2⟩
theorem esc_yes {c : UInt8} (h : ((c.toNat : Int) == 34) = true ∨ ((c.toNat : Int) == 92) = true) : escT c = [92, c] := by
  unfold escT
  rw [if_pos]
  rcases h with h | h
  · left
    have : c.toNat = 34 := by have := eq_of_beq h; omega
    exact UInt8.toNat_inj.1 this
  · right
    have : c.toNat = 92 := by have := eq_of_beq h; omega
    exact UInt8.toNat_inj.1 this
theorem esc_no {c : UInt8} (h : ((c.toNat : Int) == 34) = false) (h2 : ((c.toNat : Int) == 92) = false) : escT c = [c] := by
  unfold escT
  rw [if_neg]
  rintro (rfl | rfl)
  · cases h
  · cases h2
theorem writeText_ok (B b : Nat) (l : List UInt8) (s : ByteArray) (w : World) (h : Bd B b l w) (hs : s.size ≤ 12) (hlen : l.length ≤ 900000) (hBw : B ≤ w.heap.size) :
    Calls Tryd.prog 63 #[.pointer (some ⟨b, 0, none⟩), .string s] w fun e w' => e = .returned (.tuple #[]) ∧ Bd B b (l ++ quoT s.data.toList) w' ∧ Kp B b w w' := by
  have hsl : s.data.toList.length = s.size := by simp
  have H := Lib.hid h
  clear h
  go_enter Tryd.func63, Tryd.ntmps63
  go_wp2_with (go_at_call 64; refine (wByte B b l 34 _ rfl _ H.out (by omega) hBw).mono ?_)
  rintro e w1 ⟨rfl, h1, k1⟩
  have K1 := Lib.hid k1
  have H1 := Lib.hid h1
  have hB1 : B ≤ w1.heap.size := by have := k1.below.size; omega
  clear k1 h1
  go_wp2
  go_loopw [4] (fun i wr => ∃ k : Nat, k ≤ s.size ∧ i = .int .i64 k ∧ Hid (Bd B b ((l ++ [34]) ++ (s.data.toList.take k).flatMap escT) wr) ∧ Hid (Kp B b w wr) ∧ B ≤ wr.heap.size) (fun i _ => s.size - (intOf i).toNat)
  case atStart => exact ⟨0, Nat.zero_le _, rfl, by simpa using H1, K1, hB1⟩
  case round =>
    obtain ⟨k, hk, rfl, Hr, Kr, hBr⟩ := hrel
    clear H H1 K1
    have hel := esc_len (s.data.toList.take k)
    have htl : (s.data.toList.take k).length ≤ 12 := by rw [List.length_take]; omega
    by_cases hlt : k < s.size
    · have hst : (s.data.toList.take (k + 1)).flatMap escT = (s.data.toList.take k).flatMap escT ++ escT s[k] := by
        rw [take_snoc' _ k (by omega), List.flatMap_append]; simp; rfl
      have hgo : ∀ (w2 : World), Bd B b ((l ++ [34]) ++ (s.data.toList.take (k + 1)).flatMap escT) w2 → Kp B b wr w2 → Bd B b ((l ++ [34]) ++ (s.data.toList.take (k + 1)).flatMap escT) w2 ∧ Kp B b w w2 ∧ B ≤ w2.heap.size :=
        fun w2 h2 k2 => ⟨h2, Kr.out.trans k2, by have := k2.below.size; omega⟩
      have Hgo := Lib.hid hgo
      have Hst := Lib.hid hst
      clear hgo hst
      cases a1 : ((s[k].toNat : Int) == 34) <;> cases a2 : ((s[k].toNat : Int) == 92)
      · have He := Lib.hid (esc_no a1 a2)
        go_wp2_with (go_at_call 64; refine (wByte B b _ s[k] _ rfl _ Hr.out (by simp only [List.length_append, List.length_cons, List.length_nil]; omega) hBr).mono ?_)
        rintro e w2 ⟨rfl, h2, k2⟩
        have h3 := Hgo.out w2 (by rw [Hst.out, He.out, ← List.append_assoc]; exact h2) k2
        have H3 := Lib.hid h3.1
        have K3 := Lib.hid h3.2.1
        have B3 := h3.2.2
        clear h2 k2 h3
        go_wp2
        go_round
        case rel => exact ⟨k + 1, by omega, by go_num, H3, K3, B3⟩
        case measure => simp [intOf]; omega
      all_goals
        have He := Lib.hid (esc_yes (c := s[k]) (by simp [a1, a2]))
        go_wp2_with (go_at_call 64; refine (wByte B b _ 92 _ rfl _ Hr.out (by simp only [List.length_append, List.length_cons, List.length_nil]; omega) hBr).mono ?_)
        rintro e w2 ⟨rfl, h2, k2⟩
        have H2 := Lib.hid h2
        have K2 := Lib.hid k2
        have B2 : B ≤ w2.heap.size := by have := k2.below.size; omega
        clear h2 k2
        go_wp2_with (go_at_call 64; refine (wByte B b _ s[k] _ rfl _ H2.out (by simp only [List.length_append, List.length_cons, List.length_nil]; omega) B2).mono ?_)
        rintro e w3 ⟨rfl, h3, k3⟩
        have h4 := Hgo.out w3 (by rw [Hst.out, He.out]; simpa [List.append_assoc] using h3) (K2.out.trans k3)
        have H3 := Lib.hid h4.1
        have K3 := Lib.hid h4.2.1
        have B3 := h4.2.2
        clear h3 k3 h4
        go_wp2
        go_round
        case rel => exact ⟨k + 1, by omega, by go_num, H3, K3, B3⟩
        case measure => simp [intOf]; omega
    · have hall : s.data.toList.take k = s.data.toList := List.take_of_length_le (by omega)
      rw [hall] at Hr hel
      go_wp2_with (go_at_call 64; refine (wByte B b _ 34 _ rfl _ Hr.out (by simp only [List.length_append, List.length_cons, List.length_nil]; rw [hall] at htl; omega) hBr).mono ?_)
      rintro e w2 ⟨rfl, h2, k2⟩
      have H2 := Lib.hid h2
      have K2 := Lib.hid k2
      clear h2 k2
      go_wp2
      go_end0
      refine ⟨rfl, ?_, Kr.out.trans K2.out⟩
      have := H2.out
      unfold quoT
      simpa [List.append_assoc] using this
end Go.Proofs.YtoedpagdklagdaaDoor
namespace Go.Proofs
open Go.Shelf
def Tryd.lays169_ren : Go.Shelf.Ren := ⟨fun | 169 => 41 | n => n, fun | 70 => 55 | 9 => 9 | 0 => 0 | 72 => 57 | 37 => 35 | 127 => 84 | 3 => 3 | 5 => 5 | n => n, fun | n => n⟩
theorem Tryd.lays169 : Go.Proofs.Lays.n169 Tryd.prog Tryd.lays169_ren := {
  mixed := by kernel_rfl
  f169 := Tryd.func41.trans (congrArg some (by kernel_rfl))
  t0 := Tryd.underlying0
  a0 := Tryd.isAgg0
  z0 := Tryd.sizeOf0
  v0 := Tryd.zeroValue0
  t3 := Tryd.underlying3
  a3 := Tryd.isAgg3
  z3 := Tryd.sizeOf3
  v3 := Tryd.zeroValue3
  t9 := Tryd.underlying9
  a9 := Tryd.isAgg9
  z9 := Tryd.sizeOf9
  v9 := Tryd.zeroValue9
  t37 := Tryd.underlying35
  a37 := Tryd.isAgg35
  z37 := Tryd.sizeOf35
  v37 := Tryd.zeroValue35
  t70 := Tryd.underlying55
  a70 := Tryd.isAgg55
  z70 := Tryd.sizeOf55
  v70 := Tryd.zeroValue55
  t72 := Tryd.underlying57
  a72 := Tryd.isAgg57
  z72 := Tryd.sizeOf57
  v72 := Tryd.zeroValue57
  t127 := Tryd.underlying84
  a127 := Tryd.isAgg84
  z127 := Tryd.sizeOf84
  v127 := Tryd.zeroValue84 }
theorem Tryd.Builder_Extra_169 : Builder.Extra Tryd.prog Tryd.lays169_ren := {
  sizeBuilder := by kernel_rfl
  liesBuilder := by kernel_rfl
  t5 := Tryd.underlying5
  a5 := Tryd.isAgg5
  z5 := Tryd.sizeOf5
  v5 := Tryd.zeroValue5
  infoByte := by kernel_rfl
  cellsByte := by kernel_rfl
  sizeByte := by kernel_rfl
  neB5 := by decide }
open Go.RowKit in
theorem Tryd.Builder_String_any_k (B b : Nat) (l : List UInt8) (w : World) (h : Lib.IsBuilderF 57 5 B b (Lib.byteCells l) w) (hBw : B ≤ w.heap.size) :
    Calls Tryd.prog 41 #[.pointer (some ⟨b, 0, none⟩)] w fun e w' => e = .returned (.string ⟨l.toArray⟩) ∧ (Lib.IsBuilderF 57 5 B b (Lib.byteCells l) w' ∧ Below B w w' ∧ Lib.OthersKept 5 (some b) w w') := Any.Builder_String_any_k Tryd.lays169 Tryd.Builder_Extra_169 B b l w h hBw
def Tryd.laysM171_ren : Go.Shelf.Ren := ⟨fun | 171 => 62 | 243 => 80 | 246 => 86 | 283 => 91 | 284 => 92 | 285 => 93 | 286 => 94 | 129 => 99 | 317 => 98 | 318 => 100 | 319 => 101 | 320 => 102 | 337 => 103 | 338 => 104 | n => n, fun | 3 => 3 | 9 => 9 | 2 => 2 | 4 => 4 | 171 => 108 | 0 => 0 | 53 => 109 | 37 => 35 | 5 => 5 | 173 => 112 | 212 => 119 | 51 => 120 | 20 => 20 | 213 => 121 | 46 => 123 | 232 => 126 | 233 => 127 | n => n, fun | 17 => 0 | 18 => 1 | 19 => 2 | n => n⟩
theorem Tryd.laysM171 : Go.Proofs.LaysM.n171 Tryd.prog Tryd.laysM171_ren := {
  mixed := by kernel_rfl
  f129 := Tryd.func99.trans (congrArg some (by kernel_rfl))
  f171 := Tryd.func62.trans (congrArg some (by kernel_rfl))
  f243 := Tryd.func80.trans (congrArg some (by kernel_rfl))
  f246 := Tryd.func86.trans (congrArg some (by kernel_rfl))
  f283 := Tryd.func91.trans (congrArg some (by kernel_rfl))
  f284 := Tryd.func92.trans (congrArg some (by kernel_rfl))
  f285 := Tryd.func93.trans (congrArg some (by kernel_rfl))
  f286 := Tryd.func94.trans (congrArg some (by kernel_rfl))
  f317 := Tryd.func98.trans (congrArg some (by kernel_rfl))
  f318 := Tryd.func100.trans (congrArg some (by kernel_rfl))
  f319 := Tryd.func101.trans (congrArg some (by kernel_rfl))
  f320 := Tryd.func102.trans (congrArg some (by kernel_rfl))
  f337 := Tryd.func103.trans (congrArg some (by kernel_rfl))
  f338 := Tryd.func104.trans (congrArg some (by kernel_rfl))
  t0 := Tryd.underlying0
  a0 := Tryd.isAgg0
  z0 := Tryd.sizeOf0
  v0 := Tryd.zeroValue0
  t2 := Tryd.underlying2
  a2 := Tryd.isAgg2
  z2 := Tryd.sizeOf2
  v2 := Tryd.zeroValue2
  t3 := Tryd.underlying3
  a3 := Tryd.isAgg3
  z3 := Tryd.sizeOf3
  v3 := Tryd.zeroValue3
  t4 := Tryd.underlying4
  a4 := Tryd.isAgg4
  z4 := Tryd.sizeOf4
  v4 := Tryd.zeroValue4
  t5 := Tryd.underlying5
  a5 := Tryd.isAgg5
  z5 := Tryd.sizeOf5
  v5 := Tryd.zeroValue5
  t9 := Tryd.underlying9
  a9 := Tryd.isAgg9
  z9 := Tryd.sizeOf9
  v9 := Tryd.zeroValue9
  t20 := Tryd.underlying20
  a20 := Tryd.isAgg20
  z20 := Tryd.sizeOf20
  v20 := Tryd.zeroValue20
  t37 := Tryd.underlying35
  a37 := Tryd.isAgg35
  z37 := Tryd.sizeOf35
  v37 := Tryd.zeroValue35
  t46 := Tryd.underlying123
  a46 := Tryd.isAgg123
  z46 := Tryd.sizeOf123
  v46 := Tryd.zeroValue123
  t51 := Tryd.underlying120
  a51 := Tryd.isAgg120
  z51 := Tryd.sizeOf120
  v51 := Tryd.zeroValue120
  t53 := Tryd.underlying109
  a53 := Tryd.isAgg109
  z53 := Tryd.sizeOf109
  v53 := Tryd.zeroValue109
  t171 := Tryd.underlying108
  a171 := Tryd.isAgg108
  z171 := Tryd.sizeOf108
  v171 := Tryd.zeroValue108
  t173 := Tryd.underlying112
  a173 := Tryd.isAgg112
  z173 := Tryd.sizeOf112
  v173 := Tryd.zeroValue112
  t212 := Tryd.underlying119
  a212 := Tryd.isAgg119
  z212 := Tryd.sizeOf119
  v212 := Tryd.zeroValue119
  t213 := Tryd.underlying121
  a213 := Tryd.isAgg121
  z213 := Tryd.sizeOf121
  t232 := Tryd.underlying126
  a232 := Tryd.isAgg126
  z232 := Tryd.sizeOf126
  v232 := Tryd.zeroValue126
  t233 := Tryd.underlying127
  a233 := Tryd.isAgg127
  z233 := Tryd.sizeOf127
  v233 := Tryd.zeroValue127
  g17 := by kernel_rfl
  g18 := by kernel_rfl
  g19 := by kernel_rfl
  i0 := by kernel_rfl
  i2 := by kernel_rfl
  i3 := by kernel_rfl
  i4 := by kernel_rfl
  i5 := by kernel_rfl
  i9 := by kernel_rfl
  i20 := by kernel_rfl
  i37 := by kernel_rfl
  i46 := by kernel_rfl
  i51 := by kernel_rfl
  i53 := by kernel_rfl
  i171 := by kernel_rfl
  i173 := by kernel_rfl
  i212 := by kernel_rfl
  i232 := by kernel_rfl
  i233 := by kernel_rfl
  m17 := by kernel_rfl
  m18 := by kernel_rfl
  m19 := by kernel_rfl }
open Go.RowKit Go.Sort Go.Lib in
theorem Tryd.strconv_Itoa (n : Int) (h0 : -9223372036854775808 ≤ n) (h1 : n ≤ 9223372036854775807) (w : World) (htab : Lib.TabIs Tryd.prog w "internal/strconv.uint64pow10" .u64 Lib.pow10Tab) :
    Calls Tryd.prog 62 #[.int .i64 n] w fun e w' => e = .returned (.string ⟨(Lib.itoa n).toArray⟩) ∧ ∃ k os, w' = grow (w.drewN k) os := Any.strconv_Itoa Tryd.laysM171 n h0 h1 w htab
end Go.Proofs
namespace Go.Proofs.YtoedpagdklagdaaDoor
open Go.RowKit
def Tb (B : Nat) (w : World) : Prop := ∃ g, Tryd.prog.globalNamed "internal/strconv.uint64pow10" = some g ∧ g < B ∧ Lib.TabIs Tryd.prog w "internal/strconv.uint64pow10" .u64 Lib.pow10Tab
theorem Tb.below {B : Nat} {w w' : World} (h : Tb B w) (k : Below B w w') : Tb B w' := by
  obtain ⟨g, h1, h2, h3⟩ := h
  refine ⟨g, h1, h2, ?_⟩
  unfold Lib.TabIs World.var? at h3 ⊢
  rw [h1] at h3 ⊢
  simp only [Option.bind_some] at h3 ⊢
  rw [k.block g h2]
  exact h3
theorem Kp.alloc {B b : Nat} {u w : World} (h : Kp B b u w) (hB : B ≤ w.heap.size) (o : Obj) : Kp B b u (w.alloc o) := ⟨h.below.alloc hB o, h.others.alloc o⟩
theorem Kp.drew {B b : Nat} {u w : World} (h : Kp B b u w) : Kp B b u w.drew := ⟨h.below.drew, h.others.drew⟩
theorem Kp.le {B b : Nat} {u w : World} (h : Kp B b u w) (hB : B ≤ u.heap.size) : B ≤ w.heap.size := Nat.le_trans hB h.below.size
theorem Kp.obj {B b : Nat} {w w' : World} (h : Kp B b w w') {k : Nat} {cs : Array Value} {T : TypeId} {fz : Nat × Nat} (hk : w.heap[k]? = some (.cells cs T fz)) (hT : T ≠ TU) (hb : k ≠ b) : w'.heap[k]? = some (.cells cs T fz) :=
  h.others k _ hk (fun e => hb (Option.some.inj e)) (fun c f e => hT (by cases e; rfl))
theorem Kp.box5 {B b : Nat} {w w' : World} {a0 a1 a2 a3 a4 : Value} {T : TypeId} (h : Kp B b (w.alloc (.cells #[a0, a1, a2, a3, a4] T)) w') (hT : T ≠ TU) (hb : w.heap.size ≠ b) :
    w'.cell? ⟨w.heap.size, 0, none⟩ = some a0 ∧ w'.cell? ⟨w.heap.size, 1, none⟩ = some a1 ∧ w'.cell? ⟨w.heap.size, 2, none⟩ = some a2 ∧ w'.cell? ⟨w.heap.size, 3, none⟩ = some a3 ∧ w'.cell? ⟨w.heap.size, 4, none⟩ = some a4 := by
  have := h.obj (heap_alloc_new w _) hT hb
  refine ⟨?_, ?_, ?_, ?_, ?_⟩ <;> (rw [Lib.cell_of_heap this]; rfl)
theorem NodeR.below {B : Nat} {w w' : World} {n : Nd} {v : Value} (h : NodeR w (· < B) n v) (hg : Below B w w') : NodeR w' (· < B) n v :=
  h.ext (X := fun k => ¬ k < B) ⟨hg.os, hg.tape, hg.output, hg.size, fun k _ hx => hg.block k (Decidable.not_not.1 hx)⟩ (fun k hk hx => hx hk)
theorem Bd.grown {B b : Nat} {l : List UInt8} {w w' : World} (h : Bd B b l w) (hg : w.grownBy w' none) : Bd B b l w' := by
  have one : ∀ p, Bl B b p (Lib.byteCells l) w → Bl B b p (Lib.byteCells l) w' := by
    rintro p ⟨hB, v, hb, hown, hne⟩
    have hlt : b < w.heap.size := Lib.BuilderAtF.lt ⟨hB, v, hb, hown, hne⟩
    refine ⟨hB, v, (hg.block b hlt (by simp)).trans hb, hown.kept hg ?_, hne⟩
    cases hv : v.ownBlock
    · exact .inl rfl
    · exact .inr (by simp)
  exact h.elim (fun x => .inl (one _ x)) (fun x => .inr (one _ x))
theorem Bd.lt {B b : Nat} {l : List UInt8} {w : World} (h : Bd B b l w) : b < w.heap.size := h.elim (fun x => x.lt) (fun x => x.lt)
theorem grow_by (w : World) (k : Nat) (os : Array Obj) : w.grownBy (Go.Sort.grow (w.drewN k) os) none :=
  ⟨rfl, rfl, rfl, by simp [Go.Sort.grow], fun i hi _ => by
    show (w.heap ++ os)[i]? = _
    rw [Array.getElem?_append_left hi]⟩
theorem grow_kp {B b : Nat} (w : World) (k : Nat) (os : Array Obj) (hB : B ≤ w.heap.size) : Kp B b w (Go.Sort.grow (w.drewN k) os) :=
  ⟨(Below.refl B w).grown (grow_by w k os) hB (fun _ h => by cases h), (Lib.OthersKept.refl _ _ w).grown (grow_by w k os) (fun _ h => by cases h)⟩
theorem itoa_ok (B b : Nat) (l : List UInt8) (m : Int) (w : World) (h : Bd B b l w) (ht : Tb B w) (hB : B ≤ w.heap.size) (hm : -999999 ≤ m ∧ m ≤ 999999) :
    Calls Tryd.prog 62 #[.int .i64 m] w fun e w' => e = .returned (.string ⟨(Lib.itoa m).toArray⟩) ∧ Bd B b l w' ∧ Kp B b w w' := by
  obtain ⟨g, _, _, h3⟩ := ht
  refine (Tryd.strconv_Itoa m (by omega) (by omega) w h3).mono ?_
  rintro e w' ⟨rfl, k, os, rfl⟩
  exact ⟨rfl, h.grown (grow_by w k os), grow_kp w k os hB⟩
theorem NodesR.below {B : Nat} {w w' : World} {a : Option Addr} {c : Nat} {l : List Nd} (h : NodesR w (· < B) a c l) (hg : Below B w w') : NodesR w' (· < B) a c l :=
  h.ext (X := fun k => ¬ k < B) ⟨hg.os, hg.tape, hg.output, hg.size, fun k _ hx => hg.block k (Decidable.not_not.1 hx)⟩ (fun k hk hx => hx hk)
theorem StrsR.below {B : Nat} {w w' : World} {a : Option Addr} {c : Nat} {l : List ByteArray} (h : StrsR w (· < B) a c l) (hg : Below B w w') : StrsR w' (· < B) a c l :=
  h.ext (X := fun k => ¬ k < B) ⟨hg.os, hg.tape, hg.output, hg.size, fun k _ hx => hg.block k (Decidable.not_not.1 hx)⟩ (fun k hk hx => hx hk)
def WOk (n : Nd) : Prop := ∀ (B b : Nat) (l : List UInt8) (v : Value) (w : World), Bd B b l w → NodeR w (· < B) n v → Tb B w → B ≤ w.heap.size → Wr n → l.length + (fmtT n).length ≤ 900000 →
    Calls Tryd.prog 40 #[.pointer (some ⟨b, 0, none⟩), v] w fun e w' => e = .returned (.tuple #[]) ∧ Bd B b (l ++ fmtT n) w' ∧ Kp B b w w'
theorem writeNode_ok : ∀ n, WOk n := by
  refine Nd.ind' WOk ?_
  intro n ih B b l v w h hn ht hBw hw hlen
  have Ih := Lib.hid ih
  have H := Lib.hid h
  have Ht := Lib.hid ht
  obtain ⟨na, nc, ka, kc, rfl, hc⟩ := hn
  obtain ⟨htx, hns, hks⟩ := hc.parts
  have hkl : n.kids.length ≤ 9223372036854775807 := hks.2.1
  have Hks := Lib.hid hks
  have Hns := Lib.hid hns
  have Hw := Lib.hid hw
  have hkd := hw.kind
  have hfe := fmtT_eq n
  clear htx hns hc hks ih h ht hw
  unfold nodeV at *
  obtain h0 | h1 | h2 | h3 | h4 : n.kind = 0 ∨ n.kind = 1 ∨ n.kind = 2 ∨ n.kind = 3 ∨ n.kind = 4 := by omega
  · rw [h0] at hfe ⊢
    simp only [if_true] at hfe
    rw [hfe] at hlen ⊢
    have hl4 : l.length + 4 ≤ 1000000 := by simp only [List.length_cons, List.length_nil] at hlen; omega
    go_enter Tryd.func40, Tryd.ntmps40
    go_wp2_with (go_at_call 61; refine (wString B b l ⟨#[110, 117, 108, 108]⟩ _ (H.out.alloc _) hl4 (by simp; omega)).mono ?_; rintro e w2 ⟨rfl, hb2, k2⟩; have H2 := Lib.hid hb2; have K2 := Lib.hid k2; clear hb2 k2)
    go_end0
    exact ⟨rfl, H2.out, ((Kp.refl B b w).alloc hBw _).trans K2.out⟩
  · rw [h1] at hfe ⊢
    simp at hfe
    rw [hfe] at hlen ⊢
    have hil := itoa_len Hw.out.num
    have hsz : l.length + (⟨(Lib.itoa n.num).toArray⟩ : ByteArray).size ≤ 1000000 := by
      show l.length + (Lib.itoa n.num).toArray.size ≤ 1000000
      simp; omega
    go_enter Tryd.func40, Tryd.ntmps40
    go_wp2_with (go_at_call 62; refine (itoa_ok B b l n.num _ (H.out.alloc _) (Ht.out.below ((Below.refl B w).alloc hBw _)) (by simp; omega) Hw.out.num).mono ?_; rintro e w2 ⟨rfl, hb2, k2⟩; have H2 := Lib.hid hb2; have K2 := Lib.hid k2; have B2 : B ≤ w2.heap.size := k2.le (by simp; omega); clear hb2 k2)
    go_wp2_with (go_at_call 61; refine (wString B b l ⟨(Lib.itoa n.num).toArray⟩ _ H2.out hsz B2).mono ?_; rintro e w3 ⟨rfl, hb3, k3⟩; have H3 := Lib.hid hb3; have K3 := Lib.hid k3; clear hb3 k3)
    go_end0
    exact ⟨rfl, by simpa using H3.out, (((Kp.refl B b w).alloc hBw _).trans K2.out).trans K3.out⟩
  · rw [h2] at hfe ⊢
    simp at hfe
    rw [hfe] at hlen ⊢
    go_enter Tryd.func40, Tryd.ntmps40
    go_wp2_with (go_at_call 63; refine (writeText_ok B b l n.text _ (H.out.alloc _) Hw.out.text (by omega) (by simp; omega)).mono ?_; rintro e w2 ⟨rfl, hb2, k2⟩; have H2 := Lib.hid hb2; have K2 := Lib.hid k2; clear hb2 k2)
    go_end0
    exact ⟨rfl, H2.out, ((Kp.refl B b w).alloc hBw _).trans K2.out⟩
  · rw [h3] at hfe ⊢
    simp at hfe
    have hneb : w.heap.size ≠ b := by have := H.out.lt; omega
    have hl1 : l.length + (fmtL false n.names n.kids 0).length + 2 ≤ 900000 := by
      rw [hfe] at hlen
      simp only [List.length_cons, List.length_append, List.length_nil] at hlen
      omega
    have Hfe := Lib.hid hfe
    have Hneb := Lib.hid hneb
    clear hfe hlen
    go_enter Tryd.func40, Tryd.ntmps40
    go_wp2_with (go_at_call 64; refine (wByte B b l 91 _ rfl _ (H.out.alloc _) (by omega) (by simp; omega)).mono ?_; rintro e w1 ⟨rfl, hb1, k1⟩; obtain ⟨c0, c1, c2, c3, c4⟩ := k1.box5 (by decide) Hneb.out; have H1 := Lib.hid hb1; have K1 := Lib.hid (((Kp.refl B b w).alloc hBw _).trans k1); clear hb1 k1)
    go_loopw [4, 5, 34] (fun _ _ i wr => ∃ j : Nat, j ≤ n.kids.length ∧ i = .int .i64 j ∧ Hid (Bd B b (l ++ [91] ++ fmtL false n.names (n.kids.take j) 0) wr) ∧ Hid (Kp B b w wr)) (fun _ _ i _ => n.kids.length - (intOf i).toNat)
    case atStart => exact ⟨0, Nat.zero_le _, rfl, by simpa [fmtL] using H1, K1⟩
    case round =>
      obtain ⟨j, hj, rfl, Hr, Kr⟩ := hrel
      clear H1 K1 c0 c1 c2 c3 c4
      have hBr : B ≤ wr.heap.size := Kr.out.le hBw
      have hle := fmtL_le false n.names n.kids j
      by_cases hlt : j < n.kids.length
      · have hsucc := fmtL_succ false n.names hlt
        have hle2 := fmtL_le false n.names n.kids (j + 1)
        obtain ⟨_, _, hks⟩ := Hks.out.below Kr.out.below
        rcases hks with hks | ⟨bk, ok, rfl, _, hkr⟩
        · simp [hks] at hlt
        obtain ⟨na', nc', ka', kc', c0, c1, c2, c3, c4, hkc⟩ := hkr.get j hlt
        have Hkc : Hid (NodeR wr (· < B) n.kids[j] (nodeV n.kids[j] na' nc' ka' kc')) := Lib.hid ⟨_, _, _, _, rfl, hkc⟩
        have hneb2 : wr.heap.size ≠ b := by have := Hr.out.lt; omega
        have Hneb2 := Lib.hid hneb2
        have Kal := Lib.hid (fun o => (Kp.refl B b wr).alloc hBr o)
        clear hkc hkr hneb2 hneb
        obtain ⟨pre, hpre⟩ : ∃ pre, pre = l ++ [91] ++ fmtL false n.names (n.kids.take j) 0 := ⟨_, rfl⟩
        have hpl : pre.length = l.length + 1 + (fmtL false n.names (n.kids.take j) 0).length := by rw [hpre, List.length_append, List.length_append]; rfl
        have hst : l ++ [91] ++ fmtL false n.names (n.kids.take (j + 1)) 0 = pre ++ ((if 0 < j then [44] else []) ++ fmtT n.kids[j]) := by rw [hsucc, hpre]; simp only [Bool.false_eq_true, if_false, List.append_nil, List.append_assoc]
        rw [← hpre] at Hr
        have hsl := congrArg List.length hst
        simp only [List.length_append, List.length_cons, List.length_nil] at hsl
        have Hst := Lib.hid hst
        clear hst hsucc hpre
        by_cases h0 : 0 < j
        · rw [if_pos h0] at hsl Hst
          simp only [List.length_cons, List.length_nil] at hsl
          have hA : pre.length + 1 ≤ 1000000 := by omega
          have hA2 : (pre ++ [44]).length + (fmtT n.kids[j]).length ≤ 900000 := by simp only [List.length_append, List.length_cons, List.length_nil]; omega
          have HA2 := Lib.hid hA2
          clear hA2 hsl hpl hle hle2
          go_wp2_with (go_at_call 64; refine (wByte B b pre 44 _ rfl _ (Hr.out.alloc _) hA (by simp; omega)).mono ?_; rintro e w2 ⟨rfl, hb2, k2⟩; obtain ⟨d0, d1, d2, d3, d4⟩ := k2.box5 (by decide) Hneb2.out; have H2 := Lib.hid hb2; have K2 := Lib.hid ((Kal.out _).trans k2); have B2 : B ≤ w2.heap.size := k2.le (by simp; omega); clear hb2 k2)
          go_wp2_with (go_at_call 40; refine (Ih.out _ (List.getElem_mem hlt) B b (pre ++ [44]) _ _ H2.out (Hkc.out.below K2.out.below) (Ht.out.below (Kr.out.trans K2.out).below) B2 (Hw.out.kid _ (List.getElem_mem hlt)) HA2.out).mono ?_; rintro e w3 ⟨rfl, hb3, k3⟩; have H3 := Lib.hid hb3; have K3 := Lib.hid ((Kr.out.trans K2.out).trans k3); clear hb3 k3)
          go_roundw
          case rel => exact ⟨j + 1, by omega, by go_num, Lib.hid (by rw [Hst.out]; simpa [List.append_assoc] using H3.out), K3⟩
          case measure => simp [intOf]; omega
        · rw [if_neg h0] at hsl Hst
          simp only [List.length_nil] at hsl
          have hA2 : pre.length + (fmtT n.kids[j]).length ≤ 900000 := by omega
          have HA2 := Lib.hid hA2
          clear hA2 hsl hpl hle hle2
          go_wp2_with (go_at_call 40; refine (Ih.out _ (List.getElem_mem hlt) B b pre _ _ (Hr.out.alloc _) (Hkc.out.below (Kal.out _).below) (Ht.out.below (Kr.out.trans (Kal.out _)).below) (by simp; omega) (Hw.out.kid _ (List.getElem_mem hlt)) HA2.out).mono ?_; rintro e w3 ⟨rfl, hb3, k3⟩; have H3 := Lib.hid hb3; have K3 := Lib.hid ((Kr.out.trans (Kal.out _)).trans k3); clear hb3 k3)
          go_roundw
          case rel => exact ⟨j + 1, by omega, by go_num, Lib.hid (by rw [Hst.out]; simpa [List.append_assoc] using H3.out), K3⟩
          case measure => simp [intOf]; omega
      · have hje : n.kids.take j = n.kids := List.take_of_length_le (by omega)
        rw [hje] at Hr
        go_wp2_with (go_at_call 64; refine (wByte B b _ 93 _ rfl _ Hr.out (by simp only [List.length_append, List.length_cons, List.length_nil]; omega) hBr).mono ?_; rintro e w2 ⟨rfl, hb2, k2⟩; have H2 := Lib.hid hb2; have K2 := Lib.hid (Kr.out.trans k2); clear hb2 k2)
        go_end0
        exact ⟨rfl, by rw [Hfe.out]; simpa [List.append_assoc] using H2.out, K2.out⟩
  · rw [h4] at hfe ⊢
    simp at hfe
    have hneb : w.heap.size ≠ b := by have := H.out.lt; omega
    have hkn := Hw.out.map h4
    have hl1 : l.length + (fmtL true n.names n.kids 0).length + 2 ≤ 900000 := by
      rw [hfe] at hlen
      simp only [List.length_cons, List.length_append, List.length_nil] at hlen
      omega
    have Hfe := Lib.hid hfe
    have Hneb := Lib.hid hneb
    have Hkn := Lib.hid hkn
    clear hfe hlen hkn
    go_enter Tryd.func40, Tryd.ntmps40
    go_wp2_with (go_at_call 64; refine (wByte B b l 123 _ rfl _ (H.out.alloc _) (by omega) (by simp; omega)).mono ?_; rintro e w1 ⟨rfl, hb1, k1⟩; obtain ⟨c0, c1, c2, c3, c4⟩ := k1.box5 (by decide) Hneb.out; have H1 := Lib.hid hb1; have K1 := Lib.hid k1; clear hb1 k1)
    go_loopw [6, 7, 56] (fun _ _ i wr => ∃ j : Nat, j ≤ n.kids.length ∧ i = .int .i64 j ∧ Hid (Bd B b (l ++ [123] ++ fmtL true n.names (n.kids.take j) 0) wr) ∧ Hid (Kp B b (w.alloc (.cells #[.int .i64 4, .int .i64 n.num, .string n.text, .slice na n.names.length nc, .slice ka n.kids.length kc] 30)) wr)) (fun _ _ i _ => n.kids.length - (intOf i).toNat)
    case atStart => exact ⟨0, Nat.zero_le _, rfl, by simpa [fmtL] using H1, K1⟩
    case round =>
      obtain ⟨j, hj, rfl, Hr, Ka⟩ := hrel
      clear H1 K1 c0 c1 c2 c3 c4
      have Kr : Hid (Kp B b w wr) := Lib.hid (((Kp.refl B b w).alloc hBw _).trans Ka.out)
      have hBr : B ≤ wr.heap.size := Kr.out.le hBw
      have hle := fmtL_le true n.names n.kids j
      by_cases hlt : j < n.kids.length
      · have hsucc := fmtL_succ true n.names hlt
        have hle2 := fmtL_le true n.names n.kids (j + 1)
        have hjn : j < n.names.length := by have := Hkn.out; omega
        obtain ⟨_, _, hks⟩ := Hks.out.below Kr.out.below
        rcases hks with hks | ⟨bk, ok, rfl, _, hkr⟩
        · simp [hks] at hlt
        obtain ⟨na', nc', ka', kc', c0, c1, c2, c3, c4, hkc⟩ := hkr.get j hlt
        obtain ⟨_, _, _, hns4⟩ := Hns.out.below Kr.out.below
        rcases hns4 with hns4 | ⟨bn, on, rfl, hbB, hcell⟩
        · simp [hns4] at hjn
        have Hnc := Lib.hid (hcell j hjn)
        have hnsz := Hw.out.names _ (List.getElem_mem hjn)
        have hnl : n.names[j].data.toList.length = n.names[j].size := by simp
        have hql := quo_len n.names[j].data.toList
        have Hkc : Hid (NodeR wr (· < B) n.kids[j] (nodeV n.kids[j] na' nc' ka' kc')) := Lib.hid ⟨_, _, _, _, rfl, hkc⟩
        have hneb2 : wr.heap.size ≠ b := by have := Hr.out.lt; omega
        have Hneb2 := Lib.hid hneb2
        have Kal := Lib.hid (fun o => (Kp.refl B b wr).alloc hBr o)
        clear hkc hkr hneb2 hneb hcell
        obtain ⟨pre, hpre⟩ : ∃ pre, pre = l ++ [123] ++ fmtL true n.names (n.kids.take j) 0 := ⟨_, rfl⟩
        have hpl : pre.length = l.length + 1 + (fmtL true n.names (n.kids.take j) 0).length := by rw [hpre, List.length_append, List.length_append]; rfl
        have hst : l ++ [123] ++ fmtL true n.names (n.kids.take (j + 1)) 0 = pre ++ ((if 0 < j then [44] else []) ++ (quoT n.names[j].data.toList ++ [58]) ++ fmtT n.kids[j]) := by
          rw [hsucc, hpre, List.getElem?_eq_getElem hjn]; simp only [if_true, Option.getD_some, List.append_assoc]
        rw [← hpre] at Hr
        have hsl := congrArg List.length hst
        simp only [List.length_append, List.length_cons, List.length_nil] at hsl
        have Hst := Lib.hid hst
        clear hst hsucc hpre
        by_cases h0 : 0 < j
        · rw [if_pos h0] at hsl Hst
          simp only [List.length_cons, List.length_nil] at hsl
          have hA : pre.length + 1 ≤ 1000000 := by omega
          have hA1 : (pre ++ [44]).length ≤ 900000 := by simp only [List.length_append, List.length_cons, List.length_nil]; omega
          have hA3 : (pre ++ [44] ++ quoT n.names[j].data.toList).length + 1 ≤ 1000000 := by simp only [List.length_append, List.length_cons, List.length_nil]; omega
          have hA2 : (pre ++ [44] ++ quoT n.names[j].data.toList ++ [58]).length + (fmtT n.kids[j]).length ≤ 900000 := by simp only [List.length_append, List.length_cons, List.length_nil]; omega
          have HA1 := Lib.hid hA1
          have HA2 := Lib.hid hA2
          have HA3 := Lib.hid hA3
          clear hA1 hA2 hA3 hsl hpl hle hle2 hnl hql
          go_wp2_with (go_at_call 64; refine (wByte B b pre 44 _ rfl _ (Hr.out.alloc _) hA (by simp; omega)).mono ?_; rintro e w2 ⟨rfl, hb2, k2⟩; obtain ⟨e0, e1, e2, e3, e4⟩ := (Ka.out.trans ((Kal.out _).trans k2)).box5 (by decide) Hneb.out; have s0 := (((Kal.out _).trans k2).below.cell (p := ⟨bn, on + j, none⟩) hbB).trans Hnc.out; have H2 := Lib.hid hb2; have KB := Lib.hid k2; have K2 := Lib.hid ((Kal.out _).trans k2); have B2 : B ≤ w2.heap.size := k2.le (by simp; omega); clear hb2 k2)
          clear c0 c1 c2 c3 c4
          go_wp2_with (go_at_call 63; refine (writeText_ok B b (pre ++ [44]) n.names[j] _ H2.out hnsz HA1.out B2).mono ?_; rintro e w3 ⟨rfl, hb3, k3⟩; have H3 := Lib.hid hb3; have KB3 := Lib.hid (KB.out.trans k3); have K3 := Lib.hid (K2.out.trans k3); have B3 : B ≤ w3.heap.size := k3.le B2; clear hb3 k3)
          clear e0 e1 e2 e3 e4 s0
          go_wp2_with (go_at_call 64; refine (wByte B b (pre ++ [44] ++ quoT n.names[j].data.toList) 58 _ rfl _ H3.out HA3.out B3).mono ?_; rintro e w4 ⟨rfl, hb4, k4⟩; obtain ⟨d0, d1, d2, d3, d4⟩ := (KB3.out.trans k4).box5 (by decide) Hneb2.out; have H4 := Lib.hid hb4; have K4 := Lib.hid (K3.out.trans k4); have B4 : B ≤ w4.heap.size := k4.le B3; clear hb4 k4)
          go_wp2_with (go_at_call 40; refine (Ih.out _ (List.getElem_mem hlt) B b (pre ++ [44] ++ quoT n.names[j].data.toList ++ [58]) _ _ H4.out (Hkc.out.below K4.out.below) (Ht.out.below (Kr.out.trans K4.out).below) B4 (Hw.out.kid _ (List.getElem_mem hlt)) HA2.out).mono ?_; rintro e w5 ⟨rfl, hb5, k5⟩; have H5 := Lib.hid hb5; have K5 := Lib.hid ((Ka.out.trans K4.out).trans k5); clear hb5 k5)
          go_roundw
          case rel => exact ⟨j + 1, by omega, by go_num, Lib.hid (by rw [Hst.out]; simpa [List.append_assoc] using H5.out), K5⟩
          case measure => simp [intOf]; omega
        · rw [if_neg h0] at hsl Hst
          simp only [List.length_nil] at hsl
          have hA1 : pre.length ≤ 900000 := by omega
          have hA3 : (pre ++ quoT n.names[j].data.toList).length + 1 ≤ 1000000 := by simp only [List.length_append, List.length_cons, List.length_nil]; omega
          have hA2 : (pre ++ quoT n.names[j].data.toList ++ [58]).length + (fmtT n.kids[j]).length ≤ 900000 := by simp only [List.length_append, List.length_cons, List.length_nil]; omega
          have HA1 := Lib.hid hA1
          have HA2 := Lib.hid hA2
          have HA3 := Lib.hid hA3
          clear hA1 hA2 hA3 hsl hpl hle hle2 hnl hql
          obtain ⟨e0, e1, e2, e3, e4⟩ := Ka.out.box5 (by decide) Hneb.out
          have s0 := Hnc.out
          have hz1 : bn < wr.heap.size := by omega
          have hz2 : w.heap.size < wr.heap.size := by have := Ka.out.below.size; simp at this; omega
          go_wp2_with (go_at_call 63; refine (writeText_ok B b pre n.names[j] _ (Hr.out.alloc _) hnsz HA1.out (by simp; omega)).mono ?_; rintro e w3 ⟨rfl, hb3, k3⟩; have H3 := Lib.hid hb3; have KB3 := Lib.hid k3; have K3 := Lib.hid ((Kal.out _).trans k3); have B3 : B ≤ w3.heap.size := k3.le (by simp; omega); clear hb3 k3)
          clear e0 e1 e2 e3 e4 s0 c0 c1 c2 c3 c4
          go_wp2_with (go_at_call 64; refine (wByte B b (pre ++ quoT n.names[j].data.toList) 58 _ rfl _ H3.out HA3.out B3).mono ?_; rintro e w4 ⟨rfl, hb4, k4⟩; obtain ⟨d0, d1, d2, d3, d4⟩ := (KB3.out.trans k4).box5 (by decide) Hneb2.out; have H4 := Lib.hid hb4; have K4 := Lib.hid (K3.out.trans k4); have B4 : B ≤ w4.heap.size := k4.le B3; clear hb4 k4)
          go_wp2_with (go_at_call 40; refine (Ih.out _ (List.getElem_mem hlt) B b (pre ++ quoT n.names[j].data.toList ++ [58]) _ _ H4.out (Hkc.out.below K4.out.below) (Ht.out.below (Kr.out.trans K4.out).below) B4 (Hw.out.kid _ (List.getElem_mem hlt)) HA2.out).mono ?_; rintro e w5 ⟨rfl, hb5, k5⟩; have H5 := Lib.hid hb5; have K5 := Lib.hid ((Ka.out.trans K4.out).trans k5); clear hb5 k5)
          go_roundw
          case rel => exact ⟨j + 1, by omega, by go_num, Lib.hid (by rw [Hst.out]; simpa [List.append_assoc] using H5.out), K5⟩
          case measure => simp [intOf]; omega
      · have hje : n.kids.take j = n.kids := List.take_of_length_le (by omega)
        rw [hje] at Hr
        go_wp2_with (go_at_call 64; refine (wByte B b _ 125 _ rfl _ Hr.out (by simp only [List.length_append, List.length_cons, List.length_nil]; omega) hBr).mono ?_; rintro e w2 ⟨rfl, hb2, k2⟩; have H2 := Lib.hid hb2; have K2 := Lib.hid (Kr.out.trans k2); clear hb2 k2)
        go_end0
        exact ⟨rfl, by rw [Hfe.out]; simpa [List.append_assoc] using H2.out, K2.out⟩
end Go.Proofs.YtoedpagdklagdaaDoor
namespace Go.Proofs.YtoedpagdklagdaaDoor
open Go Go.RowKit
structure Shp where
  kind : Int
  names : List ByteArray
  needs : List Bool
  kids : List Shp
theorem Shp.ind' (P : Shp → Prop) (h : ∀ n : Shp, (∀ k ∈ n.kids, P k) → P n) : ∀ n, P n := by
  intro n
  refine Shp.rec (motive_1 := P) (motive_2 := fun l => ∀ k ∈ l, P k) ?_ ?_ ?_ n
  · intro kind names needs kids ih
    exact h ⟨kind, names, needs, kids⟩ ih
  · intro k hk; cases hk
  · intro k ks h1 h2 x hx
    rcases List.mem_cons.1 hx with rfl | hx
    · exact h1
    · exact h2 _ hx
def BoolsR (w : World) (S : Nat → Prop) (a : Option Addr) (c : Nat) (xs : List Bool) : Prop :=
  xs.length ≤ c ∧ xs.length ≤ big ∧ (xs = [] ∨ ∃ b o, a = some ⟨b, o, none⟩ ∧ S b ∧ ∀ i (h : i < xs.length), w.cell? ⟨b, o + i, none⟩ = some (.bool xs[i]))
mutual
def ShapeC (w : World) (S : Nat → Prop) : Shp → Option Addr → Nat → Option Addr → Nat → Option Addr → Nat → Prop
  | ⟨_, names, needs, kids⟩, na, nc, ba, bc, ka, kc => StrsR w S na nc names ∧ BoolsR w S ba bc needs ∧ kids.length ≤ kc ∧ kids.length ≤ big ∧ (kids = [] ∨ ∃ b o, ka = some ⟨b, o, none⟩ ∧ S b ∧ ShpsR w S b o kids)
def ShpsR (w : World) (S : Nat → Prop) (b : Nat) : Nat → List Shp → Prop
  | _, [] => True
  | o, k :: ks => (∃ na nc ba bc ka kc, w.cell? ⟨b, o, none⟩ = some (.int .i64 k.kind) ∧ w.cell? ⟨b, o + 1, none⟩ = some (.slice na k.names.length nc) ∧
      w.cell? ⟨b, o + 2, none⟩ = some (.slice ba k.needs.length bc) ∧ w.cell? ⟨b, o + 3, none⟩ = some (.slice ka k.kids.length kc) ∧ ShapeC w S k na nc ba bc ka kc) ∧ ShpsR w S b (o + 4) ks
end
def shapeV (n : Shp) (na : Option Addr) (nc : Nat) (ba : Option Addr) (bc : Nat) (ka : Option Addr) (kc : Nat) : Value :=
  .agg #[.int .i64 n.kind, .slice na n.names.length nc, .slice ba n.needs.length bc, .slice ka n.kids.length kc]
def ShapeR (w : World) (S : Nat → Prop) (n : Shp) (v : Value) : Prop := ∃ na nc ba bc ka kc, v = shapeV n na nc ba bc ka kc ∧ ShapeC w S n na nc ba bc ka kc
theorem BoolsR.ext {X S : Nat → Prop} {w w' : World} (h : Ext X w w') (hS : ∀ k, S k → ¬ X k) {a : Option Addr} {c : Nat} {xs : List Bool} (hs : BoolsR w S a c xs) : BoolsR w' S a c xs := by
  obtain ⟨h1, h2, h4⟩ := hs
  refine ⟨h1, h2, h4.imp id ?_⟩
  rintro ⟨b, o, rfl, hb, hc⟩
  exact ⟨b, o, rfl, hb, fun i hi => h.some (hc i hi) (hS b hb)⟩
theorem ShapeC.parts {w : World} {S : Nat → Prop} {n : Shp} {na : Option Addr} {nc : Nat} {ba : Option Addr} {bc : Nat} {ka : Option Addr} {kc : Nat} (h : ShapeC w S n na nc ba bc ka kc) :
    StrsR w S na nc n.names ∧ BoolsR w S ba bc n.needs ∧ n.kids.length ≤ kc ∧ n.kids.length ≤ big ∧ (n.kids = [] ∨ ∃ b o, ka = some ⟨b, o, none⟩ ∧ S b ∧ ShpsR w S b o n.kids) := by
  cases n; unfold ShapeC at h; exact h
mutual
theorem ShapeC.ext {X S : Nat → Prop} {w w' : World} (h : Ext X w w') (hS : ∀ k, S k → ¬ X k) : ∀ {n : Shp} {na : Option Addr} {nc : Nat} {ba : Option Addr} {bc : Nat} {ka : Option Addr} {kc : Nat}, ShapeC w S n na nc ba bc ka kc → ShapeC w' S n na nc ba bc ka kc
  | ⟨_, _, _, kids⟩, na, nc, ba, bc, ka, kc, hn => by
    unfold ShapeC at hn ⊢
    obtain ⟨h1, h2, h3, h4, h5⟩ := hn
    refine ⟨h1.ext h hS, h2.ext h hS, h3, h4, h5.imp id ?_⟩
    rintro ⟨b, o, e, hb, hk⟩
    exact ⟨b, o, e, hb, ShpsR.ext h hS (hS b hb) hk⟩
theorem ShpsR.ext {X S : Nat → Prop} {w w' : World} (h : Ext X w w') (hS : ∀ k, S k → ¬ X k) {b : Nat} (hb : ¬ X b) : ∀ {l : List Shp} {o : Nat}, ShpsR w S b o l → ShpsR w' S b o l
  | [], _, _ => by unfold ShpsR; trivial
  | k :: ks, o, hk => by
    unfold ShpsR at hk ⊢
    obtain ⟨⟨na, nc, ba, bc, ka, kc, c0, c1, c2, c3, hn⟩, hr⟩ := hk
    exact ⟨⟨na, nc, ba, bc, ka, kc, h.some c0 hb, h.some c1 hb, h.some c2 hb, h.some c3 hb, ShapeC.ext h hS hn⟩, ShpsR.ext h hS hb hr⟩
end
theorem ShpsR.get {w : World} {S : Nat → Prop} {b : Nat} : ∀ {l : List Shp} {o : Nat}, ShpsR w S b o l → ∀ i (h : i < l.length), ∃ na nc ba bc ka kc,
    w.cell? ⟨b, o + i * 4, none⟩ = some (.int .i64 l[i].kind) ∧ w.cell? ⟨b, o + i * 4 + 1, none⟩ = some (.slice na l[i].names.length nc) ∧
      w.cell? ⟨b, o + i * 4 + 2, none⟩ = some (.slice ba l[i].needs.length bc) ∧ w.cell? ⟨b, o + i * 4 + 3, none⟩ = some (.slice ka l[i].kids.length kc) ∧ ShapeC w S l[i] na nc ba bc ka kc
  | [], _, _, i, h => absurd h (by simp)
  | k :: ks, o, hk, 0, _ => by
    unfold ShpsR at hk
    simpa using hk.1
  | k :: ks, o, hk, i + 1, h => by
    unfold ShpsR at hk
    have := ShpsR.get hk.2 i (by simpa using h)
    simp only [List.getElem_cons_succ]
    have e : o + (i + 1) * 4 = o + 4 + i * 4 := by omega
    rw [e]
    exact this
theorem ShapeR.ext {X S : Nat → Prop} {w w' : World} (h : Ext X w w') (hS : ∀ k, S k → ¬ X k) {n : Shp} {v : Value} (hn : ShapeR w S n v) : ShapeR w' S n v := by
  obtain ⟨na, nc, ba, bc, ka, kc, hv, hc⟩ := hn
  exact ⟨na, nc, ba, bc, ka, kc, hv, hc.ext h hS⟩
theorem ShapeR.grow {S : Nat → Prop} {w w' : World} {n : Shp} {v : Value} (hn : ShapeR w S n v) (h : Grow w w') : ShapeR w' S n v := hn.ext h (fun _ _ h => h)
end Go.Proofs.YtoedpagdklagdaaDoor
namespace Go.Proofs.YtoedpagdklagdaaDoor
open Go.RowKit
def shpHead (x : Shp) : Bool :=
  inR x.kind 0 4 && areNamesB x.names && !(decide (0 < x.names.length) && decide (x.kind ≠ 4)) && decide (x.needs.length = x.names.length) && decide (x.kids.length = x.names.length)
mutual
def shpB : Shp → Nat → Bool
  | ⟨kind, names, needs, kids⟩, d => decide (0 < d) && shpHead ⟨kind, names, needs, kids⟩ && shpL kids (d - 1)
def shpL : List Shp → Nat → Bool
  | [], _ => true
  | k :: ks, d => shpB k d && shpL ks d
end
theorem shpB_eq (x : Shp) (d : Nat) : shpB x d = (decide (0 < d) && shpHead x && shpL x.kids (d - 1)) := by cases x; simp [shpB]
theorem shpL_all (l : List Shp) (d : Nat) : shpL l d = l.all fun k => shpB k d := by
  induction l with
  | nil => simp [shpL]
  | cons a l ih => simp [shpL, ih]
end Go.Proofs.YtoedpagdklagdaaDoor
namespace Go.Proofs.YtoedpagdklagdaaDoor
open Go.RowKit
end Go.Proofs.YtoedpagdklagdaaDoor
namespace Go.Proofs.YtoedpagdklagdaaDoor
open Go.RowKit
end Go.Proofs.YtoedpagdklagdaaDoor
namespace Go.Proofs.YtoedpagdklagdaaDoor
open Go.RowKit
def Good (n : Nd) : Prop := ∃ d, shapeB n d = true
def GoodS (x : Shp) : Prop := ∃ d, d ≤ 5 ∧ shpB x d = true
theorem Good.parts {n : Nd} (h : Good n) : partsB n = true := by
  obtain ⟨d, h⟩ := h
  rw [shapeB_eq] at h
  simp only [Bool.and_eq_true] at h
  exact h.1.2
theorem Good.kid {n k : Nd} (h : Good n) (hk : k ∈ n.kids) : Good k := by
  obtain ⟨d, h⟩ := h
  rw [shapeB_eq, shapeL_all] at h
  simp only [Bool.and_eq_true, List.all_eq_true] at h
  exact ⟨d - 1, h.2 k hk⟩
theorem Good.zero : Good Nd.zero := ⟨1, by simp [shapeB_eq, partsB, Nd.zero, shapeL]⟩
theorem Good.map {n : Nd} (h : Good n) (hk : n.kind = 4) : Asc n.names ∧ n.kids.length = n.names.length := by
  have hp := h.parts
  simp only [partsB, hk, Bool.and_eq_true] at hp
  simp [areNamesB] at hp
  exact ⟨namesB_asc hp.2.1.2, hp.2.2⟩
theorem Good.other {n : Nd} (h : Good n) (hk : n.kind ≠ 4) : n.names = [] := by
  have hp := h.parts
  simp only [partsB, hk, Bool.and_eq_true] at hp
  simp at hp
  exact hp.1.2
theorem Good.asc {n : Nd} (h : Good n) : Asc n.names := by
  by_cases hk : n.kind = 4
  · exact (h.map hk).1
  · rw [h.other hk]; intro i j hi; simp at hi
theorem Good.len {n : Nd} (h : Good n) : n.names.length ≤ n.kids.length := by
  by_cases hk : n.kind = 4
  · rw [(h.map hk).2]; exact Nat.le_refl _
  · rw [h.other hk]; exact Nat.zero_le _
theorem Good.kidOf {n : Nd} (h : Good n) (s : ByteArray) : Good (kidOf n s) := by
  cases hm : mem n.names s
  · rw [kidOf_no hm]; exact Good.zero
  · exact h.kid (kidOf_mem h.asc h.len hm)
theorem GoodS.kid {x k : Shp} (h : GoodS x) (hk : k ∈ x.kids) : GoodS k := by
  obtain ⟨d, hd, h⟩ := h
  rw [shpB_eq, shpL_all] at h
  simp only [Bool.and_eq_true, List.all_eq_true] at h
  exact ⟨d - 1, by omega, h.2 k hk⟩
end Go.Proofs.YtoedpagdklagdaaDoor
namespace Go.Proofs.YtoedpagdklagdaaDoor
open Go Go.RowKit
section
variable {P : Program} {ops : Array Oper} {Vs : Nat → Option (Value → World → Prop)} {w : World} {Q : Act → World → Prop}
theorem drew_grow {w w' : World} (h : Grow w.drew w') : Grow w w' := ((Ext.refl nil w).drew).trans h
theorem wpStab_read {o : Oper} {rest : List Oper} {k : Nat} {a : Act} {E : Env} (c : Value) (hw : Region.wanted o (yielded ops a.tmps) = true) (hV : Vs k = none)
    (h : ∀ x : Later w, valAt Grow P o a (later w x) c) (h2 : wpStab P ops Grow Vs (fun w' => Grow w.drew w') Q rest (k + 1) (a.put o.dst c) E) :
    wpStab P ops Grow Vs (fun w' => Grow w.drew w') Q (o :: rest) k a E := by
  unfold wpStab
  rw [if_pos hw]
  unfold does
  rw [hV]
  exact ⟨c, fun w' hc => h ⟨w', drew_grow hc.1⟩, h2⟩
theorem wpStab_made {o : Oper} {rest : List Oper} {k : Nat} {a : Act} {E : Env} (V : Value → World → Prop) (hw : Region.wanted o (yielded ops a.tmps) = true) (hV : Vs k = some V)
    (h : ∀ x : Later w, (∀ e ∈ o.after, Region.binds .any e = true → E e.on (later w x)) → stabAt Grow P o a (later w x) V)
    (h2 : ∀ v, wpStab P ops Grow Vs (fun w' => Grow w.drew w') Q rest (k + 1) (a.put o.dst v) (E.upd k (V v))) :
    wpStab P ops Grow Vs (fun w' => Grow w.drew w') Q (o :: rest) k a E := by
  unfold wpStab
  rw [if_pos hw]
  unfold does
  rw [hV]
  exact ⟨fun w' hc => h ⟨w', drew_grow hc.1⟩ hc.2, fun v w' _ _ _ => h2 v⟩
theorem wpStab_const {o : Oper} {rest : List Oper} {k : Nat} {a : Act} {E : Env} (c : Value) (hw : Region.wanted o (yielded ops a.tmps) = true) (hV : Vs k = some (fun v _ => v = c))
    (h : ∀ x : Later w, (∀ e ∈ o.after, Region.binds .any e = true → E e.on (later w x)) → stabAt Grow P o a (later w x) (fun v _ => v = c))
    (h2 : wpStab P ops Grow Vs (fun w' => Grow w.drew w') Q rest (k + 1) (a.put o.dst c) (E.upd k (fun _ => True))) :
    wpStab P ops Grow Vs (fun w' => Grow w.drew w') Q (o :: rest) k a E := by
  unfold wpStab
  rw [if_pos hw]
  unfold does
  rw [hV]
  refine ⟨fun w' hc => h ⟨w', drew_grow hc.1⟩ hc.2, fun v w' _ _ hv => ?_⟩
  subst hv
  have : (fun (u : Value) (_ : World) => u = v) v = (fun _ => True) := by funext _; simp
  rw [this]
  exact h2
theorem wpStab_end {k : Nat} {a : Act} {E : Env} (h : ∀ w', Grow w w' → Q a w') : wpStab P ops Grow Vs (fun w' => Grow w.drew w') Q [] k a E :=
  fun w' hc _ => h w' (drew_grow hc)
theorem stabAt_call {o : Oper} {a : Act} {w : World} {V : Value → World → Prop} {f : FuncId} {args : Array Value} (h : (execOp a.eval o).run P w = .ok (.enter f args) w)
    (hc : Calls P f args w fun e w' => ∃ v, e = .returned v ∧ Grow w w' ∧ V v w') : stabAt Grow P o a w V := by
  unfold stabAt
  rw [h]
  exact ⟨rfl, hc⟩
theorem valAt_of {o : Oper} {a : Act} {w : World} {c : Value} (h : (execOp a.eval o).run P w = .ok (.value c) w) : valAt Grow P o a w c := by
  unfold valAt
  rw [h]
  exact ⟨rfl, Ext.refl _ _⟩
end
end Go.Proofs.YtoedpagdklagdaaDoor
namespace Go.Proofs.YtoedpagdklagdaaDoor
open Go Go.RowKit
section
variable {P : Program} {ops : Array Oper} {Vs : Nat → Option (Value → World → Prop)} {w : World} {Q : Act → World → Prop}
end
end Go.Proofs.YtoedpagdklagdaaDoor
namespace Go.Proofs.YtoedpagdklagdaaDoor
open Go.RowKit
mutual
def mis : Shp → Nd → Option (List ByteArray)
  | ⟨kind, names, needs, kids⟩, n => if kind = 0 then none else if kind ≠ n.kind then some [] else misL names needs kids n
def misL : List ByteArray → List Bool → List Shp → Nd → Option (List ByteArray)
  | nm :: ns, nd :: bs, k :: ks, n => if mem n.names nm then (match mis k (kidOf n nm) with | some p => some (nm :: p) | none => misL ns bs ks n) else if nd then some [nm] else misL ns bs ks n
  | _, _, _, _ => none
end
theorem mis_eq (x : Shp) (n : Nd) : mis x n = if x.kind = 0 then none else if x.kind ≠ n.kind then some [] else misL x.names x.needs x.kids n := by cases x; simp [mis]
def MisR (w w' : World) (r : Option (List ByteArray)) (v : Value) : Prop :=
  ∃ a c fp, v = .tuple #[.slice a (r.getD []).length c, .bool r.isSome] ∧ StrsF w' a c (r.getD []) fp ∧ Free w.heap.size w' fp ∧ (r.getD [] = [] → a = none ∧ c = 0)
theorem MisR.grow {w w' w'' : World} {r : Option (List ByteArray)} {v : Value} (h : MisR w w' r v) (hg : Grow w' w'') : MisR w w'' r v := by
  obtain ⟨a, c, fp, hv, h1, h2, h3⟩ := h
  exact ⟨a, c, fp, hv, h1.keep (hg.keeps h2 (fun _ _ h => h)), h2.ext hg (fun _ _ h => h), h3⟩
theorem MisR.none (w w' : World) : MisR w w' .none (.tuple #[.slice .none 0 0, .bool false]) :=
  ⟨.none, 0, [], rfl, ⟨Nat.le_refl _, Nat.zero_le _, by simp, .inl ⟨rfl, rfl⟩⟩, Free.nil _ _, fun _ => ⟨rfl, rfl⟩⟩
theorem MisR.nil (w w' : World) : MisR w w' (some []) (.tuple #[.slice .none 0 0, .bool true]) :=
  ⟨.none, 0, [], rfl, ⟨Nat.le_refl _, Nat.zero_le _, by simp, .inl ⟨rfl, rfl⟩⟩, Free.nil _ _, fun _ => ⟨rfl, rfl⟩⟩
theorem strs_of_row {w : World} {B : Nat} {T : TypeId} {v : Value} {n : Nat} {xs : List ByteArray} (h : w.ownsRow B T 1 v n (xs.map Value.string)) (hx : ∀ x ∈ xs, x.size ≤ big) :
    ∃ a c fp, v = .slice a xs.length c ∧ StrsF w a c xs fp ∧ Free B w fp ∧ (xs = [] → fp = []) := by
  obtain ⟨h1, h2⟩ := h
  have hn : n = xs.length := by simp at h1; omega
  subst hn
  rcases h2 with ⟨rfl, h0⟩ | ⟨g, cap, cur, rfl, hb, hg, hle, hcap, hcs, htake⟩
  · have : xs = [] := List.length_eq_zero_iff.1 h0
    subst this
    exact ⟨none, 0, [], rfl, ⟨Nat.le_refl _, Nat.zero_le _, by simp, .inl ⟨rfl, rfl⟩⟩, Free.nil _ _, fun _ => rfl⟩
  · have hlen : xs.length ≤ big := by unfold maxLen at hcap; unfold big; omega
    by_cases he : xs = []
    · subst he
      exact ⟨_, _, [], rfl, ⟨Nat.zero_le _, Nat.zero_le _, by simp, .inl ⟨rfl, rfl⟩⟩, Free.nil _ _, fun _ => rfl⟩
    · refine ⟨_, _, [g], rfl, ⟨hle, hlen, hx, .inr ⟨g, 0, he, rfl, rfl, fun i hi => ?_⟩⟩, ⟨by simp, fun b hb' => ?_⟩, fun h => absurd h he⟩
      · unfold World.cell?
        simp only [hg, Nat.zero_add]
        have : cur.toList[i]? = some (Value.string xs[i]) := by
          have h3 : (cur.toList.take (xs.length * 1))[i]? = some (Value.string xs[i]) := by rw [htake]; simp [hi]
          rw [List.getElem?_take] at h3
          rw [if_pos (by omega)] at h3
          exact h3
        rw [Array.getElem?_toList] at this
        simpa [World.frozen?] using this
      · simp at hb'
        subst hb'
        refine ⟨hb, (Array.getElem?_eq_some_iff.1 hg).1, fun o => ?_⟩
        unfold World.frozen?
        simp [hg]
theorem MisR.one (W w : World) (x : ByteArray) (T : TypeId) (b : Nat) (hb : b = w.heap.size) (h : W.heap.size ≤ w.heap.size) (hx : x.size ≤ big) :
    MisR W (w.alloc (.cells #[.string x] T)) (some [x]) (.tuple #[.slice (some ⟨b, 0, Option.none⟩) 1 1, .bool true]) := by
  subst hb
  refine ⟨_, _, [w.heap.size], rfl, ⟨Nat.le_refl _, by simp [big], by simpa using hx, .inr ⟨_, 0, by simp, rfl, rfl, fun i hi => ?_⟩⟩, ⟨by simp, fun b hb => ?_⟩, fun h => by simp at h⟩
  · simp at hi
    subst hi
    rw [World.cell?_alloc_new]; rfl
  · simp at hb
    subst hb
    exact ⟨h, by simp, fun o => World.frozen?_alloc_new w _ T o⟩
theorem addr_add (b o j : Nat) : (⟨b, o, Option.none⟩ : Addr).add j = ⟨b, o + j, Option.none⟩ := by unfold Addr.add; split <;> simp_all
theorem MisR.row {w w' : World} {T : TypeId} {v : Value} {n : Nat} {x : ByteArray} {p : List ByteArray} (h : w'.ownsRow w.heap.size T 1 v n ((x :: p).map Value.string)) (hx : ∀ y ∈ x :: p, y.size ≤ big) :
    MisR w w' (some (x :: p)) (.tuple #[v, .bool true]) := by
  obtain ⟨a, c, fp, hv, h1, h2, _⟩ := strs_of_row h hx
  exact ⟨a, c, fp, by rw [hv]; rfl, h1, h2, fun h => by simp at h⟩
theorem MisR.base {w0 w w' : World} {r : Option (List ByteArray)} {v : Value} (h : MisR w w' r v) (hs : w0.heap.size ≤ w.heap.size) : MisR w0 w' r v := by
  obtain ⟨a, c, fp, hv, h1, h2, h3⟩ := h
  exact ⟨a, c, fp, hv, h1, h2.mono hs, h3⟩
theorem misL_len (n : Nd) (d : Nat) : ∀ (ks : List Shp), (∀ k ∈ ks, ∀ m p, mis k m = some p → p.length ≤ d) → ∀ ns bs p, misL ns bs ks n = some p → p.length ≤ d + 1
  | [], _, ns, bs, p, h => by cases ns <;> cases bs <;> simp [misL] at h
  | k :: ks, hk, [], bs, p, h => by simp [misL] at h
  | k :: ks, hk, nm :: ns, [], p, h => by simp [misL] at h
  | k :: ks, hk, nm :: ns, nd :: bs, p, h => by
    rw [misL] at h
    by_cases hm : mem n.names nm = true
    · rw [if_pos hm] at h
      cases hx : mis k (kidOf n nm) with
      | none => rw [hx] at h; exact misL_len n d ks (fun k' hk' => hk k' (by simp [hk'])) ns bs p h
      | some q =>
        rw [hx] at h
        simp at h
        subst h
        have := hk k (by simp) _ _ hx
        simp; omega
    · rw [if_neg hm] at h
      by_cases hn : nd = true
      · rw [if_pos hn] at h; simp at h; subst h; simp
      · rw [if_neg hn] at h
        exact misL_len n d ks (fun k' hk' => hk k' (by simp [hk'])) ns bs p h
theorem mis_len : ∀ (d : Nat) (x : Shp) (n : Nd) (p : List ByteArray), shpB x d = true → mis x n = some p → p.length ≤ d
  | 0, x, n, p, h, _ => by rw [shpB_eq] at h; simp at h
  | d + 1, x, n, p, h, hp => by
    rw [shpB_eq, shpL_all] at h
    simp only [Bool.and_eq_true, List.all_eq_true, Nat.add_sub_cancel] at h
    rw [mis_eq] at hp
    by_cases h0 : x.kind = 0
    · simp [h0] at hp
    · rw [if_neg h0] at hp
      by_cases h1 : x.kind ≠ n.kind
      · rw [if_pos h1] at hp; simp at hp; subst hp; simp
      · rw [if_neg h1] at hp
        exact misL_len n d x.kids (fun k hk m q hq => mis_len d k m q (h.2 k hk) hq) _ _ _ hp
theorem GoodS.len {x : Shp} (h : GoodS x) {n : Nd} {p : List ByteArray} (hp : mis x n = some p) : p.length ≤ 5 := by
  obtain ⟨d, hd, h⟩ := h
  exact Nat.le_trans (mis_len d x n p h hp) hd
end Go.Proofs.YtoedpagdklagdaaDoor
namespace Go.Proofs.YtoedpagdklagdaaDoor
open Go Go.RowKit
def NCells (w : World) (S : Nat → Prop) : List Nd → List Value → Prop
  | [], cs => cs = []
  | n :: l, cs => ∃ na nc ka kc cs', cs = nodeL n na nc ka kc ++ cs' ∧ NodeC w S n na nc ka kc ∧ NCells w S l cs'
theorem NCells.len {w : World} {S : Nat → Prop} : ∀ {l : List Nd} {cs : List Value}, NCells w S l cs → cs.length = l.length * 5
  | [], cs, h => by cases h; rfl
  | n :: l, cs, h => by
    obtain ⟨na, nc, ka, kc, cs', rfl, _, h⟩ := h
    rw [List.length_append, NCells.len h]; simp [nodeL, Nat.succ_mul]; omega
theorem NCells.append {w : World} {S : Nat → Prop} : ∀ {l m : List Nd} {cs ds : List Value}, NCells w S l cs → NCells w S m ds → NCells w S (l ++ m) (cs ++ ds)
  | [], m, cs, ds, h, k => by cases h; exact k
  | n :: l, m, cs, ds, h, k => by
    obtain ⟨na, nc, ka, kc, cs', rfl, hn, h⟩ := h
    exact ⟨na, nc, ka, kc, cs' ++ ds, by simp, hn, NCells.append h k⟩
theorem NCells.ext {X S : Nat → Prop} {w w' : World} (he : Ext X w w') (hS : ∀ k, S k → ¬ X k) : ∀ {l : List Nd} {cs : List Value}, NCells w S l cs → NCells w' S l cs
  | [], cs, h => h
  | n :: l, cs, h => by
    obtain ⟨na, nc, ka, kc, cs', rfl, hn, h⟩ := h
    exact ⟨na, nc, ka, kc, cs', rfl, hn.ext he hS, NCells.ext he hS h⟩
theorem NCells.mono {S T : Nat → Prop} {w : World} (hS : ∀ k, S k → T k) : ∀ {l : List Nd} {cs : List Value}, NCells w S l cs → NCells w T l cs
  | [], cs, h => h
  | n :: l, cs, h => by
    obtain ⟨na, nc, ka, kc, cs', rfl, hn, h⟩ := h
    exact ⟨na, nc, ka, kc, cs', rfl, hn.mono hS, NCells.mono hS h⟩
theorem NCells.one {w : World} {S : Nat → Prop} {n : Nd} {na : Option Addr} {nc : Nat} {ka : Option Addr} {kc : Nat} (h : NodeC w S n na nc ka kc) : NCells w S [n] (nodeL n na nc ka kc) :=
  ⟨na, nc, ka, kc, [], by simp, h, rfl⟩
theorem NCells.kids {w : World} {S : Nat → Prop} {b : Nat} : ∀ {l : List Nd} {cs : List Value} {o : Nat}, NCells w S l cs → (∀ i v, cs[i]? = some v → w.cell? ⟨b, o + i, none⟩ = some v) → KidsR w S b o l
  | [], _, _, _, _ => by unfold KidsR; trivial
  | n :: l, cs, o, h, hc => by
    obtain ⟨na, nc, ka, kc, cs', rfl, hn, h⟩ := h
    unfold KidsR
    refine ⟨⟨na, nc, ka, kc, hc 0 _ rfl, hc 1 _ rfl, hc 2 _ rfl, hc 3 _ rfl, hc 4 _ rfl, hn⟩, NCells.kids h (fun i v hi => ?_)⟩
    have := hc (5 + i) v (by rw [List.getElem?_append_right (by simp [nodeL])]; simpa [nodeL] using hi)
    rw [show o + (5 + i) = o + 5 + i by omega] at this
    exact this
theorem KidsR.cells {w : World} {S : Nat → Prop} {b : Nat} : ∀ {l : List Nd} {o : Nat}, KidsR w S b o l → ∃ cs, NCells w S l cs ∧ ∀ i v, cs[i]? = some v → w.cell? ⟨b, o + i, none⟩ = some v
  | [], _, _ => ⟨[], rfl, fun i v h => by simp at h⟩
  | n :: l, o, h => by
    unfold KidsR at h
    obtain ⟨⟨na, nc, ka, kc, c0, c1, c2, c3, c4, hn⟩, hr⟩ := h
    obtain ⟨cs, h1, h2⟩ := hr.cells
    refine ⟨nodeL n na nc ka kc ++ cs, ⟨na, nc, ka, kc, cs, rfl, hn, h1⟩, fun i v hi => ?_⟩
    match i, hi with
    | 0, hi => simp [nodeL] at hi; subst hi; exact c0
    | 1, hi => simp [nodeL] at hi; subst hi; exact c1
    | 2, hi => simp [nodeL] at hi; subst hi; exact c2
    | 3, hi => simp [nodeL] at hi; subst hi; exact c3
    | 4, hi => simp [nodeL] at hi; subst hi; exact c4
    | i + 5, hi =>
      have := h2 i v (by simpa [nodeL] using hi)
      rw [show o + (i + 5) = o + 5 + i by omega]
      exact this
end Go.Proofs.YtoedpagdklagdaaDoor
namespace Go.Proofs.YtoedpagdklagdaaDoor
open Go Go.RowKit
def Src (w : World) (y : Option Addr) (m : Nat) (news : List Value) : Prop := (m = 0 ∧ news = []) ∨ ∃ ad, y = some ad ∧ ∀ j u, news[j]? = some u → w.cell? (ad.add j) = some u
theorem Src.grow {w w' : World} {y : Option Addr} {m : Nat} {news : List Value} (h : Src w y m news) (hg : Grow w w') : Src w' y m news :=
  h.imp id (fun ⟨ad, hy, hc⟩ => ⟨ad, hy, fun j u hj => hg.some (hc j u hj)⟩)
def offRow (B : Nat) (v : Value) (k : Nat) : Prop := B ≤ k ∧ v.ownBlock ≠ some k
theorem grownBy_ext {w w' : World} {v : Value} (h : w.grownBy w' v.ownBlock) : Ext (fun k => v.ownBlock = some k) w w' :=
  ⟨h.os, h.tape, h.output, h.size, fun k hk hx => h.block k hk (fun e => hx e.symm)⟩
theorem NCells.grown {w w' : World} {B : Nat} {v v' : Value} {l : List Nd} {cs : List Value} (hlt : NCells w (fun k => offRow B v k ∧ k < w.heap.size) l cs) (hg : w.grownBy w' v.ownBlock) (hv : v'.ownBlock = v.ownBlock ∨ v'.ownBlock = some w.heap.size) :
    NCells w' (offRow B v') l cs := by
  have h1 := hlt.ext (grownBy_ext hg) (fun k hk hx => hk.1.2 hx)
  refine h1.mono (fun k hk => ⟨hk.1.1, fun e => ?_⟩)
  rcases hv with hv | hv
  · rw [hv] at e; exact hk.1.2 e
  · rw [hv] at e; cases e; exact Nat.lt_irrefl _ hk.2
theorem StrsR.lt {S : Nat → Prop} {w : World} {a : Option Addr} {c : Nat} {xs : List ByteArray} (h : StrsR w S a c xs) : StrsR w (fun k => S k ∧ k < w.heap.size) a c xs := by
  obtain ⟨h1, h2, h3, h4⟩ := h
  refine ⟨h1, h2, h3, ?_⟩
  rcases Nat.eq_zero_or_pos xs.length with hl | hl
  · exact .inl (List.length_eq_zero_iff.1 hl)
  rcases h4 with h4 | ⟨b, o, rfl, hb, hc⟩
  · exact .inl h4
  · exact .inr ⟨b, o, rfl, ⟨hb, lt_of_cell (hc 0 hl)⟩, hc⟩
mutual
theorem NodeC.lt {S : Nat → Prop} {w : World} : ∀ {n : Nd} {na : Option Addr} {nc : Nat} {ka : Option Addr} {kc : Nat}, NodeC w S n na nc ka kc → NodeC w (fun k => S k ∧ k < w.heap.size) n na nc ka kc
  | ⟨_, _, _, _, kids⟩, na, nc, ka, kc, h => by
    unfold NodeC at h ⊢
    obtain ⟨h1, h2, h3, h4, h5⟩ := h
    refine ⟨h1, h2.lt, h3, h4, ?_⟩
    rcases h5 with h5 | ⟨b, o, rfl, hb, hk⟩
    · exact .inl h5
    · cases kids with
      | nil => exact .inl rfl
      | cons k ks =>
        refine .inr ⟨b, o, rfl, ⟨hb, ?_⟩, KidsR.lt hk⟩
        unfold KidsR at hk
        obtain ⟨⟨_, _, _, _, c0, _⟩, _⟩ := hk
        exact lt_of_cell c0
theorem KidsR.lt {S : Nat → Prop} {w : World} {b : Nat} : ∀ {l : List Nd} {o : Nat}, KidsR w S b o l → KidsR w (fun k => S k ∧ k < w.heap.size) b o l
  | [], _, _ => by unfold KidsR; trivial
  | k :: ks, o, h => by
    unfold KidsR at h ⊢
    obtain ⟨⟨na, nc, ka, kc, c0, c1, c2, c3, c4, hn⟩, hr⟩ := h
    exact ⟨⟨na, nc, ka, kc, c0, c1, c2, c3, c4, hn.lt⟩, KidsR.lt hr⟩
end
theorem NCells.lt {S : Nat → Prop} {w : World} : ∀ {l : List Nd} {cs : List Value}, NCells w S l cs → NCells w (fun k => S k ∧ k < w.heap.size) l cs
  | [], cs, h => h
  | n :: l, cs, h => by
    obtain ⟨na, nc, ka, kc, cs', rfl, hn, h⟩ := h
    exact ⟨na, nc, ka, kc, cs', rfl, hn.lt, NCells.lt h⟩
theorem BoxN.grown {w w' : World} {b : Nat} {cs : List Value} {v : Value} (h : BoxN w b cs) (hg : w.grownBy w' v.ownBlock) (hb : ∀ k, v.ownBlock = some k → b < k) : BoxN w' b cs :=
  h.ext (grownBy_ext hg) (fun e => by have := hb _ e; omega)
end Go.Proofs.YtoedpagdklagdaaDoor
namespace Go.Proofs.YtoedpagdklagdaaDoor
open Go.RowKit
def fmtS (n : Nd) : ByteArray := if validB n then ⟨(fmtT n).toArray⟩ else ⟨#[]⟩
theorem below_of {w w' : World} (h : Grow w w') : Below w.heap.size w w' := ⟨h.os, h.tape, h.output, h.size, fun k hk => h.block k hk (fun h => h)⟩
theorem grow_of {w w' : World} (h : Below w.heap.size w w') : Grow w w' := ⟨h.os, h.tape, h.output, h.size, fun k hk _ => h.block k hk⟩
theorem NodeR.under {w : World} {n : Nd} {v : Value} (h : NodeR w any n v) : NodeR w (· < w.heap.size) n v := by
  obtain ⟨na, nc, ka, kc, rfl, hc⟩ := h
  exact ⟨na, nc, ka, kc, rfl, hc.lt.mono (fun _ h => h.2)⟩
theorem Tb.mono {B C : Nat} {w : World} (h : Tb B w) (hB : B ≤ C) : Tb C w := by
  obtain ⟨g, h1, h2, h3⟩ := h
  exact ⟨g, h1, by omega, h3⟩
theorem fresh_bd {B : Nat} {w : World} (hB : B ≤ w.heap.size) : Bd B w.heap.size [] (w.alloc (.cells #[.pointer none, .slice none 0 0] TB)) :=
  .inl ⟨hB, .slice none 0 0, heap_alloc_new w _, World.ownsRowF_nil _ _ _ _, by simp [Value.ownBlock]⟩
theorem FormatNode_ok (n : Nd) (v : Value) (w : World) (hn : NodeR w any n v) (ht : Tb w.heap.size w) :
    Calls Tryd.prog 14 #[v] w fun e w' => e = .returned (.string (fmtS n)) ∧ Grow w w' := by
  have hnu := hn.under
  have Hn := Lib.hid hn
  obtain ⟨na, nc, ka, kc, rfl, hc⟩ := hnu
  have Hnu : Hid (NodeR w (· < w.heap.size) n (nodeV n na nc ka kc)) := Lib.hid ⟨na, nc, ka, kc, rfl, hc⟩
  have Ht := Lib.hid ht
  clear hn hc ht
  unfold nodeV at *
  cases hv : validB n
  · have Hf : Hid (fmtS n = ⟨#[]⟩) := Lib.hid (by unfold fmtS; rw [hv]; rfl)
    go_enter Tryd.func14, Tryd.ntmps14
    go_wp2_with (go_at_call 19; refine (ValidNode_ok n _ _ ((Hn.out).ext ((Ext.refl nil w).alloc _) (fun _ _ h => h))).mono ?_; rintro e w1 ⟨rfl, hg1⟩; simp only [hv])
    go_ret
    exact ⟨by rw [Hf.out]; rfl, ((Ext.refl _ _).alloc _).trans hg1⟩
  · have hw := valid_wr (n := n) (by unfold validB at hv; rw [Bool.and_eq_true] at hv; exact hv.1)
    have hcnt : n.count ≤ 40 := by unfold validB at hv; rw [Bool.and_eq_true] at hv; simpa using hv.2
    have hfl := fmt_len hw
    have Hw := Lib.hid hw
    have hlen : ([] : List UInt8).length + (fmtT n).length ≤ 900000 := by simp only [List.length_nil]; omega
    have Hf : Hid (fmtS n = ⟨(fmtT n).toArray⟩) := Lib.hid (by unfold fmtS; rw [hv]; rfl)
    go_enter Tryd.func14, Tryd.ntmps14
    go_wp2_with (go_at_call 19; refine (ValidNode_ok n _ _ ((Hn.out).ext ((Ext.refl nil w).alloc _) (fun _ _ h => h))).mono ?_; rintro e w1 ⟨rfl, hg1⟩; simp only [hv]; have G1 := Lib.hid (((Ext.refl nil w).alloc _).trans hg1); have hcc := bcell hg1; have hz1 : w.heap.size < w1.heap.size := by have := hg1.size; simp at this; omega)
    clear hcc hg1
    have Hb1 := Lib.hid (below_of G1.out)
    have Hba := Lib.hid (fun o => (below_of G1.out).alloc (Nat.le_of_lt hz1) o)
    go_wp2_with (go_at_call 40; refine (writeNode_ok n w.heap.size w1.heap.size [] _ _ (fresh_bd (Nat.le_of_lt hz1)) (Hnu.out.below (Hba.out _)) (Ht.out.below (Hba.out _)) (by simp; omega) Hw.out hlen).mono ?_; rintro e w2 ⟨rfl, hb2, k2⟩; have H2 := Lib.hid hb2; have K2 := Lib.hid ((Hba.out _).trans k2.below); have B2 : w.heap.size ≤ w2.heap.size := k2.le (by simp; omega); clear hb2 k2)
    go_wp2_with (go_at_call 41; refine (Tryd.Builder_String_any_k w.heap.size w1.heap.size ([] ++ fmtT n) _ H2.out B2).mono ?_; rintro e w3 ⟨rfl, _, hb3, _⟩; have K3 := Lib.hid (K2.out.trans hb3); clear hb3)
    go_ret
    exact ⟨by rw [Hf.out]; rfl, grow_of K3.out⟩
end Go.Proofs.YtoedpagdklagdaaDoor
namespace Go.Proofs.YtoedpagdklagdaaDoor.Eng
open Go Go.RowKit
attribute [local simp] big size_mk ASt.pay Option.map_map Function.comp_def awant aop acall ado aev ofVal ofVal0 ASt.put ASt.add ASt.turn ASt.kill abox aalloc astore aload ASt.at cellsTo afieldAddr afield aindexAddr aindex alen abin aint acmp astr aun apick aextract anil aslice abound abuild afill abuildSlice asCells aps avCells over upd aappend asrc amax amin aconv mkSt slots rowsOf_cons rowsOf_nil usedOf_cons usedOf_nil ZK.av List.replicate ASt.back ASt.addL ASt.killL nodeA nodeT nodeTL_eq nodeL_eq strsE_get strsE_len intsE_get intsE_len strsE_at intsE_at tab2 tab3 tab4 tab5 tab6 tab7 tab8 tab9 tab10 tab11 tab12 tab13 tab14 tab15 tab16 tab17 tab18 tab19 tab21 tab22 tab23 tab24 tab25 tab28 tab29 tab30 tab35 tab40 tab41 tab42 tab45 tab46 tab47 tab55 tab56 tab57 tab63 tab73 tab74 tab84 tab87 tab89 tab90 tab93 tab94 tab109 tab120 tab123 tab128 tab129 tab134 tab135 tab137 tab138
theorem txt_size (l : List UInt8) : (txt l).size = l.length := by show l.toArray.size = _; simp
theorem txt_app (a b : List UInt8) : txt a ++ txt b = txt (a ++ b) := by
  unfold txt
  apply ByteArray.ext
  simp [ByteArray.data_append]
theorem digs_one {u : Nat} (h : u < 10) : Lib.decDigits u = [UInt8.ofNat (48 + u)] := by rw [Lib.decDigits, dif_pos h]
theorem digs_more {u : Nat} (h : ¬ u < 10) : Lib.decDigits u = Lib.decDigits (u / 10) ++ [UInt8.ofNat (48 + u % 10)] := by rw [Lib.decDigits, dif_neg h]
theorem decimalU_AC : ∀ u : Nat, u ≤ 999999 → AC Tryd.prog 59 [.int .i64 (u : Int)] 0 (fun r => r = .str (txt (Lib.decDigits u))) := by
  intro u
  induction u using Nat.strongRecOn with
  | ind u ih =>
  intro hu
  have hneg : ¬ ((u : Int) < 0) := by omega
  by_cases h10 : u < 10
  · have hlt : (u : Int) < 10 := by omega
    have hw : IntKind.i64.wrap (48 + (u : Int)) = 48 + (u : Int) := i64_nat (by omega) (by omega)
    have hw8 : IntKind.u8.wrap (48 + (u : Int)) = 48 + (u : Int) := IntWalk.u8_in _ (by omega)
    have hb1 : (0 : Int) ≤ 48 + (u : Int) := by omega
    have hb2 : 48 + (u : Int) ≤ 255 := by omega
    have hn : (48 + (u : Int)).toNat = 48 + u := by omega
    refine AC.of tab_ok mixed_ok Tryd.func59 (by rfl) (by kernel_rfl) ?_; rintro ⟨P, T, hT, hm, w0, S0, rd0, k0⟩ hP hTT; dsimp only at hP hTT; subst hP hTT; unfold initSt; rw [Tryd.ntmps59]
    (repeat (first | with_reducible refine AW.seq ?_ | ((first | refine arun_kn 4 rfl (fun C hC => ?_) | refine arunD_kn 4 rfl (fun C hC => ?_)); (repeat ((conv => whnf); simp [hneg, hlt, hw, hw8, hb1, hb2, hn, aconv, isU8, bytesV, strV])); refine hC _ ?_; clear hC C; simp only [List.drop, Nat.reduceAdd]) | ((first | refine arun_kn 1 rfl (fun C hC => ?_) | refine arunD_kn 1 rfl (fun C hC => ?_)); (repeat ((conv => whnf); simp [hneg, hlt, hw, hw8, hb1, hb2, hn, aconv, isU8, bytesV, strV])); refine hC _ ?_; clear hC C; simp only [List.drop, Nat.reduceAdd]) | (refine arun_skip ?_ ?_; (focus (simp [awant, hneg, hlt, hw, hw8, hb1, hb2, hn, aconv, isU8, bytesV, strV]; done))) | (refine AW.regionK [] (fun K hK => ?_)) | (refine AW.regionDK [] (pcs [] []) (by kernel_rfl) (by kernel_rfl) (fun K hK => ?_)) | (refine AW.condT ?_ ?_; (focus (simp [aev, hneg, hlt, hw, hw8, hb1, hb2, hn, aconv, isU8, bytesV, strV]; done))) | (refine AW.condF ?_ ?_; (focus (simp [aev, hneg, hlt, hw, hw8, hb1, hb2, hn, aconv, isU8, bytesV, strV]; done))) | with_reducible refine AW.block ?_ | ((first | ((first | refine arun_nil ?_ | refine arunD_nil ?_); refine hK _ ?_; clear hK K) | refine AW.skip ?_ | refine AW.exit ?_ | refine AW.ret ?_); simp only [thenA_exit, inBlockA_exit, if_true, if_false, Nat.reduceEqDiff, thenA_normal, inBlockA_normal, reduceIte, thenA_ret, inBlockA_ret, endQ_ret, endR_ret, endG_ret, endQ_normal, endR_normal, endG_normal])))
    rw [digs_one h10]
    exact ⟨.str (txt [UInt8.ofNat (48 + u)]), by simp [ares, aresL, txt], pur_str, rfl⟩
  · have hlt : ¬ ((u : Int) < 10) := by omega
    have pd := ih (u / 10) (by omega) (by omega)
    have hq : (u : Int).tdiv 10 = ((u / 10 : Nat) : Int) := rfl
    have hr : (u : Int).tmod 10 = ((u % 10 : Nat) : Int) := rfl
    have hw0 : IntKind.i64.wrap ((u / 10 : Nat) : Int) = ((u / 10 : Nat) : Int) := i64_nat (by omega) (by omega)
    have hm : u % 10 < 10 := Nat.mod_lt _ (by omega)
    rw [digs_more h10]
    have hdl := digs_len 4 (u / 10) (by omega)
    generalize u / 10 = q at *
    generalize u % 10 = m at *
    generalize Lib.decDigits q = D at *
    have hw : IntKind.i64.wrap (48 + (m : Int)) = 48 + (m : Int) := i64_nat (by omega) (by omega)
    have hw8 : IntKind.u8.wrap (48 + (m : Int)) = 48 + (m : Int) := IntWalk.u8_in _ (by omega)
    have hb1 : (0 : Int) ≤ 48 + (m : Int) := by omega
    have hb2 : 48 + (m : Int) ≤ 255 := by omega
    have hn : (48 + (m : Int)).toNat = 48 + m := by omega
    have hap : txt D ++ ⟨#[UInt8.ofNat (48 + m)]⟩ = txt (D ++ [UInt8.ofNat (48 + m)]) := txt_app D [_]
    have hap2 : txt D ++ ⟨#[48 + UInt8.ofNat m]⟩ = txt (D ++ [48 + UInt8.ofNat m]) := txt_app D [_]
    have hz : D.length + 1 ≤ 9223372036854775807 := by omega
    refine AC.of tab_ok mixed_ok Tryd.func59 (by rfl) (by kernel_rfl) ?_; rintro ⟨P, T, hT, hm, w0, S0, rd0, k0⟩ hP hTT; dsimp only at hP hTT; subst hP hTT; unfold initSt; rw [Tryd.ntmps59]
    (repeat (first | with_reducible refine AW.seq ?_ | ((first | refine arun_kn 4 rfl (fun C hC => ?_) | refine arunD_kn 4 rfl (fun C hC => ?_)); (repeat ((conv => whnf); simp [hneg, hlt, hq, hr, hw0, hw, hw8, hb1, hb2, hn, hap, hap2, hz, txt_size, aconv, isU8, bytesV, strV])); refine hC _ ?_; clear hC C; simp only [List.drop, Nat.reduceAdd]) | ((first | refine arun_kn 1 rfl (fun C hC => ?_) | refine arunD_kn 1 rfl (fun C hC => ?_)); (repeat ((conv => whnf); simp [hneg, hlt, hq, hr, hw0, hw, hw8, hb1, hb2, hn, hap, hap2, hz, txt_size, aconv, isU8, bytesV, strV])); refine hC _ ?_; clear hC C; simp only [List.drop, Nat.reduceAdd]) | (refine arun_skip ?_ ?_; (focus (simp [awant, hneg, hlt, hq, hr, hw0, hw, hw8, hb1, hb2, hn, hap, hap2, hz, txt_size, aconv, isU8, bytesV, strV]; done))) | (refine arun_c0 (pd) ?_; rintro _ rfl) | (refine arunD_c (0) (pd) ?_; rintro _ rfl; intro _) | (refine AW.regionK [] (fun K hK => ?_)) | (refine AW.regionDK [] (pcs [(2, 0, fun r => r = .str (txt D))] []) (by kernel_rfl) (by kernel_rfl) (fun K hK => ?_)) | (refine AW.condT ?_ ?_; (focus (simp [aev, hneg, hlt, hq, hr, hw0, hw, hw8, hb1, hb2, hn, hap, hap2, hz, txt_size, aconv, isU8, bytesV, strV]; done))) | (refine AW.condF ?_ ?_; (focus (simp [aev, hneg, hlt, hq, hr, hw0, hw, hw8, hb1, hb2, hn, hap, hap2, hz, txt_size, aconv, isU8, bytesV, strV]; done))) | with_reducible refine AW.block ?_ | ((first | ((first | refine arun_nil ?_ | refine arunD_nil ?_); refine hK _ ?_; clear hK K) | refine AW.skip ?_ | refine AW.exit ?_ | refine AW.ret ?_); simp only [thenA_exit, inBlockA_exit, if_true, if_false, Nat.reduceEqDiff, thenA_normal, inBlockA_normal, reduceIte, thenA_ret, inBlockA_ret, endQ_ret, endR_ret, endG_ret, endQ_normal, endR_normal, endG_normal])))
    exact ⟨.str (txt (D ++ [UInt8.ofNat (48 + m)])), by simp [ares, aresL, hap2], pur_str, rfl⟩
theorem decimalI_AC (m : Int) (hm : -999999 ≤ m ∧ m ≤ 999999) : AC Tryd.prog 59 [.int .i64 m] 0 (fun r => r = .str (txt (Lib.itoa m))) := by
  rcases Int.lt_or_le m 0 with h | h
  · have hne : (m == -m) = false := beq_false_of_ne (by omega)
    have hw : IntKind.i64.wrap (-m) = -m := i64_nat (by omega) (by omega)
    have hab : (-m : Int) = ((m.natAbs : Nat) : Int) := by omega
    have pd := decimalU_AC m.natAbs (by omega)
    rw [← hab] at pd
    have e : Lib.itoa m = 45 :: Lib.decDigits m.natAbs := by unfold Lib.itoa; rw [if_pos h]
    have hdl := digs_len 5 m.natAbs (by omega)
    rw [e]
    generalize Lib.decDigits m.natAbs = D at *
    have hap : ⟨#[45]⟩ ++ txt D = txt (45 :: D) := txt_app [45] D
    have hz : 1 + D.length ≤ 9223372036854775807 := by omega
    have hw' : IntKind.i64.wrap (0 - m) = -m := by rw [Int.zero_sub]; exact hw
    refine AC.of tab_ok mixed_ok Tryd.func59 (by rfl) (by kernel_rfl) ?_; rintro ⟨P, T, hT, hm, w0, S0, rd0, k0⟩ hP hTT; dsimp only at hP hTT; subst hP hTT; unfold initSt; rw [Tryd.ntmps59]
    (repeat (first | with_reducible refine AW.seq ?_ | ((first | refine arun_kn 4 rfl (fun C hC => ?_) | refine arunD_kn 4 rfl (fun C hC => ?_)); (repeat ((conv => whnf); simp [h, hne, hw, hw', hap, hz, txt_size])); refine hC _ ?_; clear hC C; simp only [List.drop, Nat.reduceAdd]) | ((first | refine arun_kn 1 rfl (fun C hC => ?_) | refine arunD_kn 1 rfl (fun C hC => ?_)); (repeat ((conv => whnf); simp [h, hne, hw, hw', hap, hz, txt_size])); refine hC _ ?_; clear hC C; simp only [List.drop, Nat.reduceAdd]) | (refine arun_skip ?_ ?_; (focus (simp [awant, h, hne, hw, hw', hap, hz, txt_size]; done))) | (refine arun_c0 (pd) ?_; rintro _ rfl) | (refine AW.regionK [] (fun K hK => ?_)) | (refine AW.regionDK [] (pcs [] []) (by kernel_rfl) (by kernel_rfl) (fun K hK => ?_)) | (refine AW.condT ?_ ?_; (focus (simp [aev, h, hne, hw, hw', hap, hz, txt_size]; done))) | (refine AW.condF ?_ ?_; (focus (simp [aev, h, hne, hw, hw', hap, hz, txt_size]; done))) | with_reducible refine AW.block ?_ | ((first | ((first | refine arun_nil ?_ | refine arunD_nil ?_); refine hK _ ?_; clear hK K) | refine AW.skip ?_ | refine AW.exit ?_ | refine AW.ret ?_); simp only [thenA_exit, inBlockA_exit, if_true, if_false, Nat.reduceEqDiff, thenA_normal, inBlockA_normal, reduceIte, thenA_ret, inBlockA_ret, endQ_ret, endR_ret, endG_ret, endQ_normal, endR_normal, endG_normal])))
    exact ⟨.str (txt (45 :: D)), by simp [ares, aresL], pur_str, rfl⟩
  · obtain ⟨u, rfl⟩ := Int.eq_ofNat_of_zero_le h
    have e : Lib.itoa (u : Int) = Lib.decDigits u := by unfold Lib.itoa; rw [if_neg (by omega)]; rfl
    rw [e]
    exact decimalU_AC u (by omega)
theorem quote_AC (s : ByteArray) (hs : s.size ≤ 12) : AC Tryd.prog 60 [.str s] 0 (fun r => r = .str (txt (quoT s.data.toList))) := by
  have hsl : s.data.toList.length = s.size := by simp
  refine AC.of tab_ok mixed_ok Tryd.func60 (by rfl) (by kernel_rfl) ?_; rintro ⟨P, T, hT, hm, w0, S0, rd0, k0⟩ hP hTT; dsimp only at hP hTT; subst hP hTT; unfold initSt; rw [Tryd.ntmps60]
  (repeat (first | with_reducible refine AW.seq ?_ | ((first | refine arun_kn 4 rfl (fun C hC => ?_) | refine arunD_kn 4 rfl (fun C hC => ?_)); (repeat ((conv => whnf); simp)); refine hC _ ?_; clear hC C; simp only [List.drop, Nat.reduceAdd]) | ((first | refine arun_kn 1 rfl (fun C hC => ?_) | refine arunD_kn 1 rfl (fun C hC => ?_)); (repeat ((conv => whnf); simp)); refine hC _ ?_; clear hC C; simp only [List.drop, Nat.reduceAdd]) | (refine arun_skip ?_ ?_; (focus (simp [awant]; done))) | (refine AW.regionK [] (fun K hK => ?_)) | (refine AW.regionDK [] (pcs [] []) (by kernel_rfl) (by kernel_rfl) (fun K hK => ?_)) | (refine AW.condT ?_ ?_; (focus (simp [aev]; done))) | (refine AW.condF ?_ ?_; (focus (simp [aev]; done))) | with_reducible refine AW.block ?_ | ((first | ((first | refine arun_nil ?_ | refine arunD_nil ?_); refine hK _ ?_; clear hK K) | refine AW.skip ?_ | refine AW.exit ?_ | refine AW.ret ?_); simp only [thenA_exit, inBlockA_exit, if_true, if_false, Nat.reduceEqDiff, thenA_normal, inBlockA_normal, reduceIte, thenA_ret, inBlockA_ret, endQ_ret, endR_ret, endG_ret, endQ_normal, endR_normal, endG_normal])))
  refine AW.loopS (fun (x : Nat × List UInt8) => mkSt (slots 0 32 [(0, .str s), (3, .str (txt x.2)), (4, .int .i64 x.1)]) [] [] (rd0.map fun _ => 0)) (fun x => s.size - x.1) (fun x => x.1 ≤ s.size ∧ x.2.length ≤ 1 + 2 * x.1 ∧ x.2 = 34 :: (s.data.toList.take x.1).flatMap escT) (0, [34]) ?_ ⟨Nat.zero_le _, by simp, by simp⟩ ?_
  · have h34 : txt [34] = ⟨#[34]⟩ := rfl
    dsimp only
    exact (less_of (by simp [lessL, mkSt, slots, h34]) (by simp [upd, mkSt, rowsOf_cons, h34]) (by simp [upd, mkSt, usedOf_cons, h34]) (by first | exact rd_less (by omega) | simp [mkSt, h34]) (by simp [slots, in_any, in_int, in_bool, in_str, in_ptr, in_own, in_agg, in_vnil, in_rdr, usedOf_cons, usedOf_nil, strs_in, ints_in, nodes_in, in_tup, h34]) (by simp only [List.forall_mem_cons, List.not_mem_nil, false_implies, implies_true, and_true, true_and, h34]; (repeat (first | with_reducible exact trivial | with_reducible refine And.intro ?_ ?_ | with_reducible exact in_int | with_reducible exact in_str | with_reducible exact in_bool | with_reducible exact strs_in _ | with_reducible exact nodes_in _ | with_reducible exact items_in _ | with_reducible exact in_vnil | with_reducible exact in_any | exact hin _ | with_reducible refine take_in ?_ | with_reducible exact strsE_in _ | with_reducible exact nodesE_in _ | with_reducible exact nodeL_in _ | with_reducible exact itemsE_in _ | with_reducible exact itemL_in _ | with_reducible refine app_in ?_ ?_ | with_reducible refine sing_in ?_ | (focus (simp [in_any, in_int, in_bool, in_str, in_ptr, in_own, in_agg, in_vnil, in_rdr, usedOf_cons, usedOf_nil, strs_in, ints_in, nodes_in, h34]; done)))); done))
  · rintro ⟨k, acc⟩ ⟨hk, hl, hf⟩
    dsimp only at hk hl hf ⊢
    by_cases hlt : k < s.size
    · have hg : s[k]? = some s[k] := by simp [hlt]
      have hw : IntKind.i64.wrap ((k : Int) + 1) = (k : Int) + 1 := i64_nat (by omega) (by omega)
      have hst : (s.data.toList.take (k + 1)).flatMap escT = (s.data.toList.take k).flatMap escT ++ escT s[k] := by
        rw [take_snoc' _ k (by omega), List.flatMap_append]; simp; rfl
      have hex : s.extract k (k + 1) = txt [s[k]] := by
        apply ByteArray.ext
        apply Array.ext
        · simp [txt]; omega
        · intro i h1 h2
          have : i = 0 := by simp [txt] at h2; omega
          subst this
          simp [txt]
          rfl
      have hc1 : (0 : Int) ≤ (k : Int) + 1 := by omega
      have hc2 : (k : Int) + 1 ≤ (s.size : Int) := by omega
      have hc3 : (k : Int) ≤ (k : Int) + 1 := by omega
      have hc4 : ((k : Int) + 1).toNat = k + 1 := by omega
      have hc5 : k + 1 ≤ s.size := by omega
      have hz1 : acc.length + 1 ≤ 9223372036854775807 := by omega
      have hz2 : acc.length + 1 + 1 ≤ 9223372036854775807 := by omega
      have ha1 : txt acc ++ ⟨#[92]⟩ = txt (acc ++ [92]) := txt_app acc [92]
      have ha2 : txt (acc ++ [92]) ++ txt [s[k]] = txt (acc ++ [92] ++ [s[k]]) := txt_app _ _
      have ha3 : txt acc ++ txt [s[k]] = txt (acc ++ [s[k]]) := txt_app _ _
      cases a1 : ((s[k].toNat : Int) == 34) <;> cases a2 : ((s[k].toNat : Int) == 92)
      · (repeat (first | with_reducible refine AW.seq ?_ | ((first | refine arun_kn 4 rfl (fun C hC => ?_) | refine arunD_kn 4 rfl (fun C hC => ?_)); (repeat ((conv => whnf); simp [hlt, hg, hw, hex, hc1, hc2, hc3, hc4, hc5, hz1, ha3, a1, a2, txt_size])); refine hC _ ?_; clear hC C; simp only [List.drop, Nat.reduceAdd]) | ((first | refine arun_kn 1 rfl (fun C hC => ?_) | refine arunD_kn 1 rfl (fun C hC => ?_)); (repeat ((conv => whnf); simp [hlt, hg, hw, hex, hc1, hc2, hc3, hc4, hc5, hz1, ha3, a1, a2, txt_size])); refine hC _ ?_; clear hC C; simp only [List.drop, Nat.reduceAdd]) | (refine arun_skip ?_ ?_; (focus (simp [awant, hlt, hg, hw, hex, hc1, hc2, hc3, hc4, hc5, hz1, ha3, a1, a2, txt_size]; done))) | (refine AW.regionK [] (fun K hK => ?_)) | (refine AW.regionDK [] (pcs [] []) (by kernel_rfl) (by kernel_rfl) (fun K hK => ?_)) | (refine AW.condT ?_ ?_; (focus (simp [aev, hlt, hg, hw, hex, hc1, hc2, hc3, hc4, hc5, hz1, ha3, a1, a2, txt_size]; done))) | (refine AW.condF ?_ ?_; (focus (simp [aev, hlt, hg, hw, hex, hc1, hc2, hc3, hc4, hc5, hz1, ha3, a1, a2, txt_size]; done))) | with_reducible refine AW.block ?_ | ((first | ((first | refine arun_nil ?_ | refine arunD_nil ?_); refine hK _ ?_; clear hK K) | refine AW.skip ?_ | refine AW.exit ?_ | refine AW.ret ?_); simp only [thenA_exit, inBlockA_exit, if_true, if_false, Nat.reduceEqDiff, thenA_normal, inBlockA_normal, reduceIte, thenA_ret, inBlockA_ret, endQ_ret, endR_ret, endG_ret, endQ_normal, endR_normal, endG_normal])))
        refine ⟨(k + 1, acc ++ [s[k]]), by dsimp only; omega, ⟨by dsimp only; omega, by dsimp only; simp only [List.length_append, List.length_cons, List.length_nil]; omega, by dsimp only; rw [hf, hst, esc_no a1 a2]; rfl⟩, ?_⟩
        dsimp only
        exact less_a
      all_goals
        (repeat (first | with_reducible refine AW.seq ?_ | ((first | refine arun_kn 4 rfl (fun C hC => ?_) | refine arunD_kn 4 rfl (fun C hC => ?_)); (repeat ((conv => whnf); simp [hlt, hg, hw, hex, hc1, hc2, hc3, hc4, hc5, hz1, hz2, ha1, ha2, a1, a2, txt_size])); refine hC _ ?_; clear hC C; simp only [List.drop, Nat.reduceAdd]) | ((first | refine arun_kn 1 rfl (fun C hC => ?_) | refine arunD_kn 1 rfl (fun C hC => ?_)); (repeat ((conv => whnf); simp [hlt, hg, hw, hex, hc1, hc2, hc3, hc4, hc5, hz1, hz2, ha1, ha2, a1, a2, txt_size])); refine hC _ ?_; clear hC C; simp only [List.drop, Nat.reduceAdd]) | (refine arun_skip ?_ ?_; (focus (simp [awant, hlt, hg, hw, hex, hc1, hc2, hc3, hc4, hc5, hz1, hz2, ha1, ha2, a1, a2, txt_size]; done))) | (refine AW.regionK [] (fun K hK => ?_)) | (refine AW.regionDK [] (pcs [] []) (by kernel_rfl) (by kernel_rfl) (fun K hK => ?_)) | (refine AW.condT ?_ ?_; (focus (simp [aev, hlt, hg, hw, hex, hc1, hc2, hc3, hc4, hc5, hz1, hz2, ha1, ha2, a1, a2, txt_size]; done))) | (refine AW.condF ?_ ?_; (focus (simp [aev, hlt, hg, hw, hex, hc1, hc2, hc3, hc4, hc5, hz1, hz2, ha1, ha2, a1, a2, txt_size]; done))) | with_reducible refine AW.block ?_ | ((first | ((first | refine arun_nil ?_ | refine arunD_nil ?_); refine hK _ ?_; clear hK K) | refine AW.skip ?_ | refine AW.exit ?_ | refine AW.ret ?_); simp only [thenA_exit, inBlockA_exit, if_true, if_false, Nat.reduceEqDiff, thenA_normal, inBlockA_normal, reduceIte, thenA_ret, inBlockA_ret, endQ_ret, endR_ret, endG_ret, endQ_normal, endR_normal, endG_normal])))
        refine ⟨(k + 1, acc ++ [92] ++ [s[k]]), by dsimp only; omega, ⟨by dsimp only; omega, by dsimp only; simp only [List.length_append, List.length_cons, List.length_nil]; omega, by dsimp only; rw [hf, hst, esc_yes (c := s[k]) (by simp [a1, a2])]; simp⟩, ?_⟩
        dsimp only
        exact less_a
    · have hall : s.data.toList.take k = s.data.toList := List.take_of_length_le (by omega)
      rw [hall] at hf
      have hz1 : acc.length + 1 ≤ 9223372036854775807 := by omega
      have ha1 : txt acc ++ ⟨#[34]⟩ = txt (acc ++ [34]) := txt_app acc [34]
      (repeat (first | with_reducible refine AW.seq ?_ | ((first | refine arun_kn 4 rfl (fun C hC => ?_) | refine arunD_kn 4 rfl (fun C hC => ?_)); (repeat ((conv => whnf); simp [hlt, hz1, ha1, txt_size])); refine hC _ ?_; clear hC C; simp only [List.drop, Nat.reduceAdd]) | ((first | refine arun_kn 1 rfl (fun C hC => ?_) | refine arunD_kn 1 rfl (fun C hC => ?_)); (repeat ((conv => whnf); simp [hlt, hz1, ha1, txt_size])); refine hC _ ?_; clear hC C; simp only [List.drop, Nat.reduceAdd]) | (refine arun_skip ?_ ?_; (focus (simp [awant, hlt, hz1, ha1, txt_size]; done))) | (refine AW.regionK [] (fun K hK => ?_)) | (refine AW.regionDK [] (pcs [] []) (by kernel_rfl) (by kernel_rfl) (fun K hK => ?_)) | (refine AW.condT ?_ ?_; (focus (simp [aev, hlt, hz1, ha1, txt_size]; done))) | (refine AW.condF ?_ ?_; (focus (simp [aev, hlt, hz1, ha1, txt_size]; done))) | with_reducible refine AW.block ?_ | ((first | ((first | refine arun_nil ?_ | refine arunD_nil ?_); refine hK _ ?_; clear hK K) | refine AW.skip ?_ | refine AW.exit ?_ | refine AW.ret ?_); simp only [thenA_exit, inBlockA_exit, if_true, if_false, Nat.reduceEqDiff, thenA_normal, inBlockA_normal, reduceIte, thenA_ret, inBlockA_ret, endQ_ret, endR_ret, endG_ret, endQ_normal, endR_normal, endG_normal])))
      exact ⟨.str (txt (acc ++ [34])), by simp [ares, aresL, ha1], pur_str, by rw [hf]; rfl⟩
theorem format_AC : ∀ n, Wr n → (fmtT n).length ≤ 900000 → AC Tryd.prog 37 [nodeA n] 0 (fun r => r = .str (txt (fmtT n))) := Nd.ind' _ (fun n ih hn hlen => by
  have hkd := hn.kind
  have hfe := fmtT_eq n
  have h6 := hn.kids
  unfold nodeA
  rw [nodeL_eq]
  obtain hk | hk | hk | hk | hk : n.kind = 0 ∨ n.kind = 1 ∨ n.kind = 2 ∨ n.kind = 3 ∨ n.kind = 4 := by omega
  · rw [hk] at hfe
    simp only [if_true] at hfe
    rw [hfe]
    refine AC.of tab_ok mixed_ok Tryd.func37 (by rfl) (by kernel_rfl) ?_; rintro ⟨P, T, hT, hm, w0, S0, rd0, k0⟩ hP hTT; dsimp only at hP hTT; subst hP hTT; unfold initSt; rw [Tryd.ntmps37]
    (repeat (first | with_reducible refine AW.seq ?_ | ((first | refine arun_kn 4 rfl (fun C hC => ?_) | refine arunD_kn 4 rfl (fun C hC => ?_)); (repeat ((conv => whnf); simp [hk])); refine hC _ ?_; clear hC C; simp only [List.drop, Nat.reduceAdd]) | ((first | refine arun_kn 1 rfl (fun C hC => ?_) | refine arunD_kn 1 rfl (fun C hC => ?_)); (repeat ((conv => whnf); simp [hk])); refine hC _ ?_; clear hC C; simp only [List.drop, Nat.reduceAdd]) | (refine arun_skip ?_ ?_; (focus (simp [awant, hk]; done))) | (refine AW.regionK [] (fun K hK => ?_)) | (refine AW.regionDK [] (pcs [] []) (by kernel_rfl) (by kernel_rfl) (fun K hK => ?_)) | (refine AW.condT ?_ ?_; (focus (simp [aev, hk]; done))) | (refine AW.condF ?_ ?_; (focus (simp [aev, hk]; done))) | with_reducible refine AW.block ?_ | ((first | ((first | refine arun_nil ?_ | refine arunD_nil ?_); refine hK _ ?_; clear hK K) | refine AW.skip ?_ | refine AW.exit ?_ | refine AW.ret ?_); simp only [thenA_exit, inBlockA_exit, if_true, if_false, Nat.reduceEqDiff, thenA_normal, inBlockA_normal, reduceIte, thenA_ret, inBlockA_ret, endQ_ret, endR_ret, endG_ret, endQ_normal, endR_normal, endG_normal])))
    exact ⟨.str (txt [110, 117, 108, 108]), by simp [ares, aresL, txt], pur_str, rfl⟩
  · rw [hk] at hfe
    simp at hfe
    rw [hfe]
    refine AC.of tab_ok mixed_ok Tryd.func37 (by rfl) (by kernel_rfl) ?_; rintro ⟨P, T, hT, hm, w0, S0, rd0, k0⟩ hP hTT; dsimp only at hP hTT; subst hP hTT; unfold initSt; rw [Tryd.ntmps37]
    (repeat (first | with_reducible refine AW.seq ?_ | ((first | refine arun_kn 4 rfl (fun C hC => ?_) | refine arunD_kn 4 rfl (fun C hC => ?_)); (repeat ((conv => whnf); simp [hk])); refine hC _ ?_; clear hC C; simp only [List.drop, Nat.reduceAdd]) | ((first | refine arun_kn 1 rfl (fun C hC => ?_) | refine arunD_kn 1 rfl (fun C hC => ?_)); (repeat ((conv => whnf); simp [hk])); refine hC _ ?_; clear hC C; simp only [List.drop, Nat.reduceAdd]) | (refine arun_skip ?_ ?_; (focus (simp [awant, hk]; done))) | (refine arun_c0 (decimalI_AC n.num hn.num) ?_; rintro _ rfl) | (refine AW.regionK [] (fun K hK => ?_)) | (refine AW.regionDK [] (pcs [] []) (by kernel_rfl) (by kernel_rfl) (fun K hK => ?_)) | (refine AW.condT ?_ ?_; (focus (simp [aev, hk]; done))) | (refine AW.condF ?_ ?_; (focus (simp [aev, hk]; done))) | with_reducible refine AW.block ?_ | ((first | ((first | refine arun_nil ?_ | refine arunD_nil ?_); refine hK _ ?_; clear hK K) | refine AW.skip ?_ | refine AW.exit ?_ | refine AW.ret ?_); simp only [thenA_exit, inBlockA_exit, if_true, if_false, Nat.reduceEqDiff, thenA_normal, inBlockA_normal, reduceIte, thenA_ret, inBlockA_ret, endQ_ret, endR_ret, endG_ret, endQ_normal, endR_normal, endG_normal])))
    exact ⟨.str (txt (Lib.itoa n.num)), by simp [ares, aresL], pur_str, rfl⟩
  · rw [hk] at hfe
    simp at hfe
    rw [hfe]
    refine AC.of tab_ok mixed_ok Tryd.func37 (by rfl) (by kernel_rfl) ?_; rintro ⟨P, T, hT, hm, w0, S0, rd0, k0⟩ hP hTT; dsimp only at hP hTT; subst hP hTT; unfold initSt; rw [Tryd.ntmps37]
    (repeat (first | with_reducible refine AW.seq ?_ | ((first | refine arun_kn 4 rfl (fun C hC => ?_) | refine arunD_kn 4 rfl (fun C hC => ?_)); (repeat ((conv => whnf); simp [hk])); refine hC _ ?_; clear hC C; simp only [List.drop, Nat.reduceAdd]) | ((first | refine arun_kn 1 rfl (fun C hC => ?_) | refine arunD_kn 1 rfl (fun C hC => ?_)); (repeat ((conv => whnf); simp [hk])); refine hC _ ?_; clear hC C; simp only [List.drop, Nat.reduceAdd]) | (refine arun_skip ?_ ?_; (focus (simp [awant, hk]; done))) | (refine arun_c0 (quote_AC n.text hn.text) ?_; rintro _ rfl) | (refine AW.regionK [] (fun K hK => ?_)) | (refine AW.regionDK [] (pcs [] []) (by kernel_rfl) (by kernel_rfl) (fun K hK => ?_)) | (refine AW.condT ?_ ?_; (focus (simp [aev, hk]; done))) | (refine AW.condF ?_ ?_; (focus (simp [aev, hk]; done))) | with_reducible refine AW.block ?_ | ((first | ((first | refine arun_nil ?_ | refine arunD_nil ?_); refine hK _ ?_; clear hK K) | refine AW.skip ?_ | refine AW.exit ?_ | refine AW.ret ?_); simp only [thenA_exit, inBlockA_exit, if_true, if_false, Nat.reduceEqDiff, thenA_normal, inBlockA_normal, reduceIte, thenA_ret, inBlockA_ret, endQ_ret, endR_ret, endG_ret, endQ_normal, endR_normal, endG_normal])))
    exact ⟨.str (txt (quoT n.text.data.toList)), by simp [ares, aresL], pur_str, by simp⟩
  · rw [hk] at hfe
    simp at hfe
    have hl1 : (fmtL false n.names n.kids 0).length + 2 ≤ 900000 := by
      rw [hfe] at hlen
      simp only [List.length_cons, List.length_append, List.length_nil] at hlen
      omega
    rw [hfe]
    clear hfe hlen
    refine AC.of tab_ok mixed_ok Tryd.func37 (by rfl) (by kernel_rfl) ?_; rintro ⟨P, T, hT, hm, w0, S0, rd0, k0⟩ hP hTT; dsimp only at hP hTT; subst hP hTT; unfold initSt; rw [Tryd.ntmps37]
    (repeat (first | with_reducible refine AW.seq ?_ | ((first | refine arun_kn 4 rfl (fun C hC => ?_) | refine arunD_kn 4 rfl (fun C hC => ?_)); (repeat ((conv => whnf); simp [hk])); refine hC _ ?_; clear hC C; simp only [List.drop, Nat.reduceAdd]) | ((first | refine arun_kn 1 rfl (fun C hC => ?_) | refine arunD_kn 1 rfl (fun C hC => ?_)); (repeat ((conv => whnf); simp [hk])); refine hC _ ?_; clear hC C; simp only [List.drop, Nat.reduceAdd]) | (refine arun_skip ?_ ?_; (focus (simp [awant, hk]; done))) | (refine AW.regionK [] (fun K hK => ?_)) | (refine AW.regionDK [] (pcs [] []) (by kernel_rfl) (by kernel_rfl) (fun K hK => ?_)) | (refine AW.condT ?_ ?_; (focus (simp [aev, hk]; done))) | (refine AW.condF ?_ ?_; (focus (simp [aev, hk]; done))) | with_reducible refine AW.block ?_ | ((first | ((first | refine arun_nil ?_ | refine arunD_nil ?_); refine hK _ ?_; clear hK K) | refine AW.skip ?_ | refine AW.exit ?_ | refine AW.ret ?_); simp only [thenA_exit, inBlockA_exit, if_true, if_false, Nat.reduceEqDiff, thenA_normal, inBlockA_normal, reduceIte, thenA_ret, inBlockA_ret, endQ_ret, endR_ret, endG_ret, endQ_normal, endR_normal, endG_normal])))
    refine AW.loopS (fun (x : Nat × List UInt8) => mkSt (slots 0 59 [(1, .ptr true 5 1 1 0 0), (3, .str (txt x.2)), (4, .int .i64 x.1)]) [(1, ⟨true, 30, 5, [nodeL n]⟩)] [1] (rd0.map fun _ => 0)) (fun x => n.kids.length - x.1) (fun x => x.1 ≤ n.kids.length ∧ x.2 = fmtL false n.names (n.kids.take x.1) 0) (0, []) ?_ ⟨Nat.zero_le _, by simp [fmtL]⟩ ?_
    · have h34 : txt [] = ⟨#[]⟩ := rfl
      rw [nodeL_eq]
      exact (less_of (by simp [lessL, mkSt, slots, h34, hk]) (by simp [upd, mkSt, rowsOf_cons, h34, hk]) (by simp [upd, mkSt, usedOf_cons, h34, hk]) (by first | exact rd_less (by omega) | simp [mkSt, h34, hk]) (by simp [slots, in_any, in_int, in_bool, in_str, in_ptr, in_own, in_agg, in_vnil, in_rdr, usedOf_cons, usedOf_nil, strs_in, ints_in, nodes_in, in_tup, h34, hk]) (by simp only [List.forall_mem_cons, List.not_mem_nil, false_implies, implies_true, and_true, true_and, h34, hk]; (repeat (first | with_reducible exact trivial | with_reducible refine And.intro ?_ ?_ | with_reducible exact in_int | with_reducible exact in_str | with_reducible exact in_bool | with_reducible exact strs_in _ | with_reducible exact nodes_in _ | with_reducible exact items_in _ | with_reducible exact in_vnil | with_reducible exact in_any | exact hin _ | with_reducible refine take_in ?_ | with_reducible exact strsE_in _ | with_reducible exact nodesE_in _ | with_reducible exact nodeL_in _ | with_reducible exact itemsE_in _ | with_reducible exact itemL_in _ | with_reducible refine app_in ?_ ?_ | with_reducible refine sing_in ?_ | (focus (simp [in_any, in_int, in_bool, in_str, in_ptr, in_own, in_agg, in_vnil, in_rdr, usedOf_cons, usedOf_nil, strs_in, ints_in, nodes_in, h34, hk]; done)))); done))
    · rintro ⟨i, acc⟩ ⟨hi, hf⟩
      dsimp only at hi hf ⊢
      rw [nodeL_eq]
      have hle := fmtL_le false n.names n.kids i
      rw [← hf] at hle
      by_cases hlt : i < n.kids.length
      · have hw : IntKind.i64.wrap ((i : Int) + 1) = (i : Int) + 1 := i64_nat (by omega) (by omega)
        have hsucc := fmtL_succ false n.names hlt
        have hle2 := fmtL_le false n.names n.kids (i + 1)
        rw [← hf] at hsucc
        have hsl := congrArg List.length hsucc
        simp only [List.length_append] at hsl
        have pk := ih n.kids[i] (List.getElem_mem hlt) (hn.kid _ (List.getElem_mem hlt)) (by omega)
        unfold nodeA at pk
        rw [nodeL_eq] at pk
        have hkl : (fmtT n.kids[i]).length ≤ 900000 := by omega
        have hal : acc.length ≤ 900000 := by omega
        simp only [Bool.false_eq_true, if_false, List.append_nil] at hsucc
        by_cases h0 : 0 < i
        · have h0' : (0 : Int) < (i : Int) := by omega
          rw [if_pos h0] at hsucc
          generalize fmtT n.kids[i] = F at *
          have ha1 : txt acc ++ ⟨#[44]⟩ = txt (acc ++ [44]) := txt_app acc [44]
          have ha2 : txt (acc ++ [44]) ++ txt F = txt (acc ++ [44] ++ F) := txt_app _ _
          have hz1 : acc.length + 1 ≤ 9223372036854775807 := by omega
          have hz2 : acc.length + 1 + F.length ≤ 9223372036854775807 := by omega
          (repeat (first | with_reducible refine AW.seq ?_ | ((first | refine arun_kn 4 rfl (fun C hC => ?_) | refine arunD_kn 4 rfl (fun C hC => ?_)); (repeat ((conv => whnf); simp [hlt, hk, h0, h0', hw, ha1, ha2, hz1, hz2, txt_size])); refine hC _ ?_; clear hC C; simp only [List.drop, Nat.reduceAdd]) | ((first | refine arun_kn 1 rfl (fun C hC => ?_) | refine arunD_kn 1 rfl (fun C hC => ?_)); (repeat ((conv => whnf); simp [hlt, hk, h0, h0', hw, ha1, ha2, hz1, hz2, txt_size])); refine hC _ ?_; clear hC C; simp only [List.drop, Nat.reduceAdd]) | (refine arun_skip ?_ ?_; (focus (simp [awant, hlt, hk, h0, h0', hw, ha1, ha2, hz1, hz2, txt_size]; done))) | (refine arun_c0 (pk) ?_; rintro _ rfl) | (refine AW.regionK [] (fun K hK => ?_)) | (refine AW.regionDK [] (pcs [] []) (by kernel_rfl) (by kernel_rfl) (fun K hK => ?_)) | (refine AW.condT ?_ ?_; (focus (simp [aev, hlt, hk, h0, h0', hw, ha1, ha2, hz1, hz2, txt_size]; done))) | (refine AW.condF ?_ ?_; (focus (simp [aev, hlt, hk, h0, h0', hw, ha1, ha2, hz1, hz2, txt_size]; done))) | with_reducible refine AW.block ?_ | ((first | ((first | refine arun_nil ?_ | refine arunD_nil ?_); refine hK _ ?_; clear hK K) | refine AW.skip ?_ | refine AW.exit ?_ | refine AW.ret ?_); simp only [thenA_exit, inBlockA_exit, if_true, if_false, Nat.reduceEqDiff, thenA_normal, inBlockA_normal, reduceIte, thenA_ret, inBlockA_ret, endQ_ret, endR_ret, endG_ret, endQ_normal, endR_normal, endG_normal])))
          refine ⟨(i + 1, acc ++ [44] ++ F), by dsimp only; omega, ⟨by dsimp only; omega, by dsimp only; rw [hsucc]; simp only [List.append_assoc]⟩, ?_⟩
          dsimp only
          exact (less_of (by simp [lessL, mkSt, slots, hk]) (by simp [upd, mkSt, rowsOf_cons, hk]) (by simp [upd, mkSt, usedOf_cons, hk]) (by first | exact rd_less (by omega) | simp [mkSt, hk]) (by simp [slots, in_any, in_int, in_bool, in_str, in_ptr, in_own, in_agg, in_vnil, in_rdr, usedOf_cons, usedOf_nil, strs_in, ints_in, nodes_in, in_tup, hk]) (by simp only [List.forall_mem_cons, List.not_mem_nil, false_implies, implies_true, and_true, true_and, hk]; (repeat (first | with_reducible exact trivial | with_reducible refine And.intro ?_ ?_ | with_reducible exact in_int | with_reducible exact in_str | with_reducible exact in_bool | with_reducible exact strs_in _ | with_reducible exact nodes_in _ | with_reducible exact items_in _ | with_reducible exact in_vnil | with_reducible exact in_any | exact hin _ | with_reducible refine take_in ?_ | with_reducible exact strsE_in _ | with_reducible exact nodesE_in _ | with_reducible exact nodeL_in _ | with_reducible exact itemsE_in _ | with_reducible exact itemL_in _ | with_reducible refine app_in ?_ ?_ | with_reducible refine sing_in ?_ | (focus (simp [in_any, in_int, in_bool, in_str, in_ptr, in_own, in_agg, in_vnil, in_rdr, usedOf_cons, usedOf_nil, strs_in, ints_in, nodes_in, hk]; done)))); done))
        · have h0' : ¬ (0 : Int) < (i : Int) := by omega
          rw [if_neg h0] at hsucc
          generalize fmtT n.kids[i] = F at *
          have ha2 : txt acc ++ txt F = txt (acc ++ F) := txt_app _ _
          have hz2 : acc.length + F.length ≤ 9223372036854775807 := by omega
          (repeat (first | with_reducible refine AW.seq ?_ | ((first | refine arun_kn 4 rfl (fun C hC => ?_) | refine arunD_kn 4 rfl (fun C hC => ?_)); (repeat ((conv => whnf); simp [hlt, hk, h0, h0', hw, ha2, hz2, txt_size])); refine hC _ ?_; clear hC C; simp only [List.drop, Nat.reduceAdd]) | ((first | refine arun_kn 1 rfl (fun C hC => ?_) | refine arunD_kn 1 rfl (fun C hC => ?_)); (repeat ((conv => whnf); simp [hlt, hk, h0, h0', hw, ha2, hz2, txt_size])); refine hC _ ?_; clear hC C; simp only [List.drop, Nat.reduceAdd]) | (refine arun_skip ?_ ?_; (focus (simp [awant, hlt, hk, h0, h0', hw, ha2, hz2, txt_size]; done))) | (refine arun_c0 (pk) ?_; rintro _ rfl) | (refine AW.regionK [] (fun K hK => ?_)) | (refine AW.regionDK [] (pcs [] []) (by kernel_rfl) (by kernel_rfl) (fun K hK => ?_)) | (refine AW.condT ?_ ?_; (focus (simp [aev, hlt, hk, h0, h0', hw, ha2, hz2, txt_size]; done))) | (refine AW.condF ?_ ?_; (focus (simp [aev, hlt, hk, h0, h0', hw, ha2, hz2, txt_size]; done))) | with_reducible refine AW.block ?_ | ((first | ((first | refine arun_nil ?_ | refine arunD_nil ?_); refine hK _ ?_; clear hK K) | refine AW.skip ?_ | refine AW.exit ?_ | refine AW.ret ?_); simp only [thenA_exit, inBlockA_exit, if_true, if_false, Nat.reduceEqDiff, thenA_normal, inBlockA_normal, reduceIte, thenA_ret, inBlockA_ret, endQ_ret, endR_ret, endG_ret, endQ_normal, endR_normal, endG_normal])))
          refine ⟨(i + 1, acc ++ F), by dsimp only; omega, ⟨by dsimp only; omega, by dsimp only; rw [hsucc]; rfl⟩, ?_⟩
          dsimp only
          exact (less_of (by simp [lessL, mkSt, slots, hk]) (by simp [upd, mkSt, rowsOf_cons, hk]) (by simp [upd, mkSt, usedOf_cons, hk]) (by first | exact rd_less (by omega) | simp [mkSt, hk]) (by simp [slots, in_any, in_int, in_bool, in_str, in_ptr, in_own, in_agg, in_vnil, in_rdr, usedOf_cons, usedOf_nil, strs_in, ints_in, nodes_in, in_tup, hk]) (by simp only [List.forall_mem_cons, List.not_mem_nil, false_implies, implies_true, and_true, true_and, hk]; (repeat (first | with_reducible exact trivial | with_reducible refine And.intro ?_ ?_ | with_reducible exact in_int | with_reducible exact in_str | with_reducible exact in_bool | with_reducible exact strs_in _ | with_reducible exact nodes_in _ | with_reducible exact items_in _ | with_reducible exact in_vnil | with_reducible exact in_any | exact hin _ | with_reducible refine take_in ?_ | with_reducible exact strsE_in _ | with_reducible exact nodesE_in _ | with_reducible exact nodeL_in _ | with_reducible exact itemsE_in _ | with_reducible exact itemL_in _ | with_reducible refine app_in ?_ ?_ | with_reducible refine sing_in ?_ | (focus (simp [in_any, in_int, in_bool, in_str, in_ptr, in_own, in_agg, in_vnil, in_rdr, usedOf_cons, usedOf_nil, strs_in, ints_in, nodes_in, hk]; done)))); done))
      · have hall : n.kids.take i = n.kids := List.take_of_length_le (by omega)
        rw [hall] at hf
        have ha1 : ⟨#[91]⟩ ++ txt acc = txt (91 :: acc) := txt_app [91] acc
        have ha2 : txt (91 :: acc) ++ ⟨#[93]⟩ = txt (91 :: acc ++ [93]) := txt_app _ [93]
        have hz1 : 1 + acc.length ≤ 9223372036854775807 := by omega
        have hz2 : acc.length + 1 + 1 ≤ 9223372036854775807 := by omega
        (repeat (first | with_reducible refine AW.seq ?_ | ((first | refine arun_kn 4 rfl (fun C hC => ?_) | refine arunD_kn 4 rfl (fun C hC => ?_)); (repeat ((conv => whnf); simp [hlt, hk, ha1, ha2, hz1, hz2, txt_size])); refine hC _ ?_; clear hC C; simp only [List.drop, Nat.reduceAdd]) | ((first | refine arun_kn 1 rfl (fun C hC => ?_) | refine arunD_kn 1 rfl (fun C hC => ?_)); (repeat ((conv => whnf); simp [hlt, hk, ha1, ha2, hz1, hz2, txt_size])); refine hC _ ?_; clear hC C; simp only [List.drop, Nat.reduceAdd]) | (refine arun_skip ?_ ?_; (focus (simp [awant, hlt, hk, ha1, ha2, hz1, hz2, txt_size]; done))) | (refine AW.regionK [] (fun K hK => ?_)) | (refine AW.regionDK [] (pcs [] []) (by kernel_rfl) (by kernel_rfl) (fun K hK => ?_)) | (refine AW.condT ?_ ?_; (focus (simp [aev, hlt, hk, ha1, ha2, hz1, hz2, txt_size]; done))) | (refine AW.condF ?_ ?_; (focus (simp [aev, hlt, hk, ha1, ha2, hz1, hz2, txt_size]; done))) | with_reducible refine AW.block ?_ | ((first | ((first | refine arun_nil ?_ | refine arunD_nil ?_); refine hK _ ?_; clear hK K) | refine AW.skip ?_ | refine AW.exit ?_ | refine AW.ret ?_); simp only [thenA_exit, inBlockA_exit, if_true, if_false, Nat.reduceEqDiff, thenA_normal, inBlockA_normal, reduceIte, thenA_ret, inBlockA_ret, endQ_ret, endR_ret, endG_ret, endQ_normal, endR_normal, endG_normal])))
        exact ⟨.str (txt (91 :: acc ++ [93])), by simp [ares, aresL], pur_str, by rw [hf]; rfl⟩
  · rw [hk] at hfe
    simp at hfe
    have hkn := hn.map hk
    have hl1 : (fmtL true n.names n.kids 0).length + 2 ≤ 900000 := by
      rw [hfe] at hlen
      simp only [List.length_cons, List.length_append, List.length_nil] at hlen
      omega
    rw [hfe]
    clear hfe hlen
    refine AC.of tab_ok mixed_ok Tryd.func37 (by rfl) (by kernel_rfl) ?_; rintro ⟨P, T, hT, hm, w0, S0, rd0, k0⟩ hP hTT; dsimp only at hP hTT; subst hP hTT; unfold initSt; rw [Tryd.ntmps37]
    (repeat (first | with_reducible refine AW.seq ?_ | ((first | refine arun_kn 4 rfl (fun C hC => ?_) | refine arunD_kn 4 rfl (fun C hC => ?_)); (repeat ((conv => whnf); simp [hk])); refine hC _ ?_; clear hC C; simp only [List.drop, Nat.reduceAdd]) | ((first | refine arun_kn 1 rfl (fun C hC => ?_) | refine arunD_kn 1 rfl (fun C hC => ?_)); (repeat ((conv => whnf); simp [hk])); refine hC _ ?_; clear hC C; simp only [List.drop, Nat.reduceAdd]) | (refine arun_skip ?_ ?_; (focus (simp [awant, hk]; done))) | (refine AW.regionK [] (fun K hK => ?_)) | (refine AW.regionDK [] (pcs [] []) (by kernel_rfl) (by kernel_rfl) (fun K hK => ?_)) | (refine AW.condT ?_ ?_; (focus (simp [aev, hk]; done))) | (refine AW.condF ?_ ?_; (focus (simp [aev, hk]; done))) | with_reducible refine AW.block ?_ | ((first | ((first | refine arun_nil ?_ | refine arunD_nil ?_); refine hK _ ?_; clear hK K) | refine AW.skip ?_ | refine AW.exit ?_ | refine AW.ret ?_); simp only [thenA_exit, inBlockA_exit, if_true, if_false, Nat.reduceEqDiff, thenA_normal, inBlockA_normal, reduceIte, thenA_ret, inBlockA_ret, endQ_ret, endR_ret, endG_ret, endQ_normal, endR_normal, endG_normal])))
    refine AW.loopS (fun (x : Nat × List UInt8) => mkSt (slots 0 59 [(1, .ptr true 5 1 1 0 0), (3, .str (txt x.2)), (4, .int .i64 x.1)]) [(1, ⟨true, 30, 5, [nodeL n]⟩)] [1] (rd0.map fun _ => 0)) (fun x => n.kids.length - x.1) (fun x => x.1 ≤ n.kids.length ∧ x.2 = fmtL true n.names (n.kids.take x.1) 0) (0, []) ?_ ⟨Nat.zero_le _, by simp [fmtL]⟩ ?_
    · have h34 : txt [] = ⟨#[]⟩ := rfl
      rw [nodeL_eq]
      exact (less_of (by simp [lessL, mkSt, slots, h34, hk]) (by simp [upd, mkSt, rowsOf_cons, h34, hk]) (by simp [upd, mkSt, usedOf_cons, h34, hk]) (by first | exact rd_less (by omega) | simp [mkSt, h34, hk]) (by simp [slots, in_any, in_int, in_bool, in_str, in_ptr, in_own, in_agg, in_vnil, in_rdr, usedOf_cons, usedOf_nil, strs_in, ints_in, nodes_in, in_tup, h34, hk]) (by simp only [List.forall_mem_cons, List.not_mem_nil, false_implies, implies_true, and_true, true_and, h34, hk]; (repeat (first | with_reducible exact trivial | with_reducible refine And.intro ?_ ?_ | with_reducible exact in_int | with_reducible exact in_str | with_reducible exact in_bool | with_reducible exact strs_in _ | with_reducible exact nodes_in _ | with_reducible exact items_in _ | with_reducible exact in_vnil | with_reducible exact in_any | exact hin _ | with_reducible refine take_in ?_ | with_reducible exact strsE_in _ | with_reducible exact nodesE_in _ | with_reducible exact nodeL_in _ | with_reducible exact itemsE_in _ | with_reducible exact itemL_in _ | with_reducible refine app_in ?_ ?_ | with_reducible refine sing_in ?_ | (focus (simp [in_any, in_int, in_bool, in_str, in_ptr, in_own, in_agg, in_vnil, in_rdr, usedOf_cons, usedOf_nil, strs_in, ints_in, nodes_in, h34, hk]; done)))); done))
    · rintro ⟨i, acc⟩ ⟨hi, hf⟩
      dsimp only at hi hf ⊢
      rw [nodeL_eq]
      have hle := fmtL_le true n.names n.kids i
      rw [← hf] at hle
      by_cases hlt : i < n.kids.length
      · have hw : IntKind.i64.wrap ((i : Int) + 1) = (i : Int) + 1 := i64_nat (by omega) (by omega)
        have hsucc := fmtL_succ true n.names hlt
        have hle2 := fmtL_le true n.names n.kids (i + 1)
        rw [← hf] at hsucc
        have hsl := congrArg List.length hsucc
        simp only [List.length_append] at hsl
        have pk := ih n.kids[i] (List.getElem_mem hlt) (hn.kid _ (List.getElem_mem hlt)) (by omega)
        unfold nodeA at pk
        rw [nodeL_eq] at pk
        have hkl : (fmtT n.kids[i]).length ≤ 900000 := by omega
        have hal : acc.length ≤ 900000 := by omega
        have hjn : i < n.names.length := by omega
        have pq := quote_AC n.names[i] (hn.names _ (List.getElem_mem hjn))
        simp only [if_true, List.getElem?_eq_getElem hjn, Option.getD_some] at hsucc hsl
        have hql := quo_len n.names[i].data.toList
        have hqn := hn.names _ (List.getElem_mem hjn)
        have hqs : n.names[i].data.toList.length = n.names[i].size := by simp
        generalize hQ : quoT n.names[i].data.toList = Q at *
        by_cases h0 : 0 < i
        · have h0' : (0 : Int) < (i : Int) := by omega
          rw [if_pos h0] at hsucc
          generalize fmtT n.kids[i] = F at *
          have ha1 : txt acc ++ ⟨#[44]⟩ = txt (acc ++ [44]) := txt_app acc [44]
          have ha2 : txt (acc ++ [44]) ++ txt Q = txt (acc ++ [44] ++ Q) := txt_app _ _
          have ha3 : txt (acc ++ [44] ++ Q) ++ ⟨#[58]⟩ = txt (acc ++ [44] ++ Q ++ [58]) := txt_app _ [58]
          have ha4 : txt (acc ++ [44] ++ Q ++ [58]) ++ txt F = txt (acc ++ [44] ++ Q ++ [58] ++ F) := txt_app _ _
          generalize hA1 : acc ++ [44] = A1 at *
          generalize hA2 : A1 ++ Q = A2 at *
          generalize hA3 : A2 ++ [58] = A3 at *
          have hn1 : A1.length = acc.length + 1 := by rw [← hA1]; simp
          have hn2 : A2.length = A1.length + Q.length := by rw [← hA2]; simp
          have hn3 : A3.length = A2.length + 1 := by rw [← hA3]; simp
          have hz1 : acc.length + 1 ≤ 9223372036854775807 := by omega
          have hz2 : A1.length + Q.length ≤ 9223372036854775807 := by omega
          have hz3 : A2.length + 1 ≤ 9223372036854775807 := by omega
          have hz4 : A3.length + F.length ≤ 9223372036854775807 := by omega
          clear hn1 hn2 hn3
          (repeat (first | with_reducible refine AW.seq ?_ | ((first | refine arun_kn 4 rfl (fun C hC => ?_) | refine arunD_kn 4 rfl (fun C hC => ?_)); (repeat ((conv => whnf); simp [hlt, hk, hjn, h0, h0', hw, ha1, ha2, ha3, ha4, hz1, hz2, hz3, hz4, txt_size])); refine hC _ ?_; clear hC C; simp only [List.drop, Nat.reduceAdd]) | ((first | refine arun_kn 1 rfl (fun C hC => ?_) | refine arunD_kn 1 rfl (fun C hC => ?_)); (repeat ((conv => whnf); simp [hlt, hk, hjn, h0, h0', hw, ha1, ha2, ha3, ha4, hz1, hz2, hz3, hz4, txt_size])); refine hC _ ?_; clear hC C; simp only [List.drop, Nat.reduceAdd]) | (refine arun_skip ?_ ?_; (focus (simp [awant, hlt, hk, hjn, h0, h0', hw, ha1, ha2, ha3, ha4, hz1, hz2, hz3, hz4, txt_size]; done))) | (refine arun_c0 (pq) ?_; rintro _ rfl) | (refine arun_c0 (pk) ?_; rintro _ rfl) | (refine AW.regionK [] (fun K hK => ?_)) | (refine AW.regionDK [] (pcs [] []) (by kernel_rfl) (by kernel_rfl) (fun K hK => ?_)) | (refine AW.condT ?_ ?_; (focus (simp [aev, hlt, hk, hjn, h0, h0', hw, ha1, ha2, ha3, ha4, hz1, hz2, hz3, hz4, txt_size]; done))) | (refine AW.condF ?_ ?_; (focus (simp [aev, hlt, hk, hjn, h0, h0', hw, ha1, ha2, ha3, ha4, hz1, hz2, hz3, hz4, txt_size]; done))) | with_reducible refine AW.block ?_ | ((first | ((first | refine arun_nil ?_ | refine arunD_nil ?_); refine hK _ ?_; clear hK K) | refine AW.skip ?_ | refine AW.exit ?_ | refine AW.ret ?_); simp only [thenA_exit, inBlockA_exit, if_true, if_false, Nat.reduceEqDiff, thenA_normal, inBlockA_normal, reduceIte, thenA_ret, inBlockA_ret, endQ_ret, endR_ret, endG_ret, endQ_normal, endR_normal, endG_normal])))
          refine ⟨(i + 1, A3 ++ F), by dsimp only; omega, ⟨by dsimp only; omega, by dsimp only; rw [hsucc, ← hA3, ← hA2, ← hA1]; simp only [List.append_assoc]⟩, ?_⟩
          dsimp only
          exact (less_of (by simp [lessL, mkSt, slots, hk]) (by simp [upd, mkSt, rowsOf_cons, hk]) (by simp [upd, mkSt, usedOf_cons, hk]) (by first | exact rd_less (by omega) | simp [mkSt, hk]) (by simp [slots, in_any, in_int, in_bool, in_str, in_ptr, in_own, in_agg, in_vnil, in_rdr, usedOf_cons, usedOf_nil, strs_in, ints_in, nodes_in, in_tup, hk]) (by simp only [List.forall_mem_cons, List.not_mem_nil, false_implies, implies_true, and_true, true_and, hk]; (repeat (first | with_reducible exact trivial | with_reducible refine And.intro ?_ ?_ | with_reducible exact in_int | with_reducible exact in_str | with_reducible exact in_bool | with_reducible exact strs_in _ | with_reducible exact nodes_in _ | with_reducible exact items_in _ | with_reducible exact in_vnil | with_reducible exact in_any | exact hin _ | with_reducible refine take_in ?_ | with_reducible exact strsE_in _ | with_reducible exact nodesE_in _ | with_reducible exact nodeL_in _ | with_reducible exact itemsE_in _ | with_reducible exact itemL_in _ | with_reducible refine app_in ?_ ?_ | with_reducible refine sing_in ?_ | (focus (simp [in_any, in_int, in_bool, in_str, in_ptr, in_own, in_agg, in_vnil, in_rdr, usedOf_cons, usedOf_nil, strs_in, ints_in, nodes_in, hk]; done)))); done))
        · have h0' : ¬ (0 : Int) < (i : Int) := by omega
          rw [if_neg h0] at hsucc
          generalize fmtT n.kids[i] = F at *
          have ha2 : txt acc ++ txt Q = txt (acc ++ Q) := txt_app _ _
          have ha3 : txt (acc ++ Q) ++ ⟨#[58]⟩ = txt (acc ++ Q ++ [58]) := txt_app _ [58]
          have ha4 : txt (acc ++ Q ++ [58]) ++ txt F = txt (acc ++ Q ++ [58] ++ F) := txt_app _ _
          generalize hA2 : acc ++ Q = A2 at *
          generalize hA3 : A2 ++ [58] = A3 at *
          have hn2 : A2.length = acc.length + Q.length := by rw [← hA2]; simp
          have hn3 : A3.length = A2.length + 1 := by rw [← hA3]; simp
          have hz2 : acc.length + Q.length ≤ 9223372036854775807 := by omega
          have hz3 : A2.length + 1 ≤ 9223372036854775807 := by omega
          have hz4 : A3.length + F.length ≤ 9223372036854775807 := by omega
          clear hn2 hn3
          (repeat (first | with_reducible refine AW.seq ?_ | ((first | refine arun_kn 4 rfl (fun C hC => ?_) | refine arunD_kn 4 rfl (fun C hC => ?_)); (repeat ((conv => whnf); simp [hlt, hk, hjn, h0, h0', hw, ha2, ha3, ha4, hz2, hz3, hz4, txt_size])); refine hC _ ?_; clear hC C; simp only [List.drop, Nat.reduceAdd]) | ((first | refine arun_kn 1 rfl (fun C hC => ?_) | refine arunD_kn 1 rfl (fun C hC => ?_)); (repeat ((conv => whnf); simp [hlt, hk, hjn, h0, h0', hw, ha2, ha3, ha4, hz2, hz3, hz4, txt_size])); refine hC _ ?_; clear hC C; simp only [List.drop, Nat.reduceAdd]) | (refine arun_skip ?_ ?_; (focus (simp [awant, hlt, hk, hjn, h0, h0', hw, ha2, ha3, ha4, hz2, hz3, hz4, txt_size]; done))) | (refine arun_c0 (pq) ?_; rintro _ rfl) | (refine arun_c0 (pk) ?_; rintro _ rfl) | (refine AW.regionK [] (fun K hK => ?_)) | (refine AW.regionDK [] (pcs [] []) (by kernel_rfl) (by kernel_rfl) (fun K hK => ?_)) | (refine AW.condT ?_ ?_; (focus (simp [aev, hlt, hk, hjn, h0, h0', hw, ha2, ha3, ha4, hz2, hz3, hz4, txt_size]; done))) | (refine AW.condF ?_ ?_; (focus (simp [aev, hlt, hk, hjn, h0, h0', hw, ha2, ha3, ha4, hz2, hz3, hz4, txt_size]; done))) | with_reducible refine AW.block ?_ | ((first | ((first | refine arun_nil ?_ | refine arunD_nil ?_); refine hK _ ?_; clear hK K) | refine AW.skip ?_ | refine AW.exit ?_ | refine AW.ret ?_); simp only [thenA_exit, inBlockA_exit, if_true, if_false, Nat.reduceEqDiff, thenA_normal, inBlockA_normal, reduceIte, thenA_ret, inBlockA_ret, endQ_ret, endR_ret, endG_ret, endQ_normal, endR_normal, endG_normal])))
          refine ⟨(i + 1, A3 ++ F), by dsimp only; omega, ⟨by dsimp only; omega, by dsimp only; rw [hsucc, ← hA3, ← hA2]; simp only [List.append_assoc, List.nil_append]⟩, ?_⟩
          dsimp only
          exact (less_of (by simp [lessL, mkSt, slots, hk]) (by simp [upd, mkSt, rowsOf_cons, hk]) (by simp [upd, mkSt, usedOf_cons, hk]) (by first | exact rd_less (by omega) | simp [mkSt, hk]) (by simp [slots, in_any, in_int, in_bool, in_str, in_ptr, in_own, in_agg, in_vnil, in_rdr, usedOf_cons, usedOf_nil, strs_in, ints_in, nodes_in, in_tup, hk]) (by simp only [List.forall_mem_cons, List.not_mem_nil, false_implies, implies_true, and_true, true_and, hk]; (repeat (first | with_reducible exact trivial | with_reducible refine And.intro ?_ ?_ | with_reducible exact in_int | with_reducible exact in_str | with_reducible exact in_bool | with_reducible exact strs_in _ | with_reducible exact nodes_in _ | with_reducible exact items_in _ | with_reducible exact in_vnil | with_reducible exact in_any | exact hin _ | with_reducible refine take_in ?_ | with_reducible exact strsE_in _ | with_reducible exact nodesE_in _ | with_reducible exact nodeL_in _ | with_reducible exact itemsE_in _ | with_reducible exact itemL_in _ | with_reducible refine app_in ?_ ?_ | with_reducible refine sing_in ?_ | (focus (simp [in_any, in_int, in_bool, in_str, in_ptr, in_own, in_agg, in_vnil, in_rdr, usedOf_cons, usedOf_nil, strs_in, ints_in, nodes_in, hk]; done)))); done))
      · have hall : n.kids.take i = n.kids := List.take_of_length_le (by omega)
        rw [hall] at hf
        have ha1 : ⟨#[123]⟩ ++ txt acc = txt (123 :: acc) := txt_app [123] acc
        have ha2 : txt (123 :: acc) ++ ⟨#[125]⟩ = txt (123 :: acc ++ [125]) := txt_app _ [125]
        have hz1 : 1 + acc.length ≤ 9223372036854775807 := by omega
        have hz2 : acc.length + 1 + 1 ≤ 9223372036854775807 := by omega
        (repeat (first | with_reducible refine AW.seq ?_ | ((first | refine arun_kn 4 rfl (fun C hC => ?_) | refine arunD_kn 4 rfl (fun C hC => ?_)); (repeat ((conv => whnf); simp [hlt, hk, ha1, ha2, hz1, hz2, txt_size])); refine hC _ ?_; clear hC C; simp only [List.drop, Nat.reduceAdd]) | ((first | refine arun_kn 1 rfl (fun C hC => ?_) | refine arunD_kn 1 rfl (fun C hC => ?_)); (repeat ((conv => whnf); simp [hlt, hk, ha1, ha2, hz1, hz2, txt_size])); refine hC _ ?_; clear hC C; simp only [List.drop, Nat.reduceAdd]) | (refine arun_skip ?_ ?_; (focus (simp [awant, hlt, hk, ha1, ha2, hz1, hz2, txt_size]; done))) | (refine AW.regionK [] (fun K hK => ?_)) | (refine AW.regionDK [] (pcs [] []) (by kernel_rfl) (by kernel_rfl) (fun K hK => ?_)) | (refine AW.condT ?_ ?_; (focus (simp [aev, hlt, hk, ha1, ha2, hz1, hz2, txt_size]; done))) | (refine AW.condF ?_ ?_; (focus (simp [aev, hlt, hk, ha1, ha2, hz1, hz2, txt_size]; done))) | with_reducible refine AW.block ?_ | ((first | ((first | refine arun_nil ?_ | refine arunD_nil ?_); refine hK _ ?_; clear hK K) | refine AW.skip ?_ | refine AW.exit ?_ | refine AW.ret ?_); simp only [thenA_exit, inBlockA_exit, if_true, if_false, Nat.reduceEqDiff, thenA_normal, inBlockA_normal, reduceIte, thenA_ret, inBlockA_ret, endQ_ret, endR_ret, endG_ret, endQ_normal, endR_normal, endG_normal])))
        exact ⟨.str (txt (123 :: acc ++ [125])), by simp [ares, aresL], pur_str, by rw [hf]; rfl⟩)
theorem fmt_ok {n : Nd} (h : validB n = true) : Wr n ∧ (fmtT n).length ≤ 2800 ∧ fmtS n = txt (fmtT n) := by
  have h2 := h
  unfold validB at h2
  rw [Bool.and_eq_true] at h2
  have hw := valid_wr h2.1
  have hc : n.count ≤ 40 := by simpa using h2.2
  have := fmt_len hw
  exact ⟨hw, by omega, by unfold fmtS txt; rw [h]; rfl⟩
end Go.Proofs.YtoedpagdklagdaaDoor.Eng
namespace Go.Proofs.YtoedpagdklagdaaDoor
open Go.RowKit
def TW (w : World) : Prop := Tb w.heap.size w
theorem TW.grow {w w' : World} (h : TW w) (hg : Grow w w') : TW w' := (Tb.below h (below_of hg)).mono hg.size
structure NB (w : World) (k : Nat) (n : Nd) (na : Option Addr) (nc : Nat) (ka : Option Addr) (kc : Nat) : Prop where
  box : w.heap[k]? = some (.cells #[.int .i64 n.kind, .int .i64 n.num, .string n.text, .slice na n.names.length nc, .slice ka n.kids.length kc] 30 (0, 0))
  node : NodeR w any n (nodeV n na nc ka kc)
theorem NB.grow {w w' : World} {k : Nat} {n : Nd} {na : Option Addr} {nc : Nat} {ka : Option Addr} {kc : Nat} (h : NB w k n na nc ka kc) (hg : Grow w w') : NB w' k n na nc ka kc :=
  ⟨(hg.block k (Array.getElem?_eq_some_iff.1 h.box).1 (fun h => h)).trans h.box, h.node.grow hg⟩
theorem NB.new {w : World} {n : Nd} {na : Option Addr} {nc : Nat} {ka : Option Addr} {kc : Nat} (h : NodeR w any n (nodeV n na nc ka kc)) :
    NB (w.alloc (.cells #[.int .i64 n.kind, .int .i64 n.num, .string n.text, .slice na n.names.length nc, .slice ka n.kids.length kc] 30)) w.heap.size n na nc ka kc :=
  ⟨heap_alloc_new w _, h.grow ((Ext.refl _ _).alloc _)⟩
theorem NB.cells {w : World} {k : Nat} {n : Nd} {na : Option Addr} {nc : Nat} {ka : Option Addr} {kc : Nat} (h : NB w k n na nc ka kc) :
    w.cell? ⟨k, 0, none⟩ = some (.int .i64 n.kind) ∧ w.cell? ⟨k, 1, none⟩ = some (.int .i64 n.num) ∧ w.cell? ⟨k, 2, none⟩ = some (.string n.text) ∧ w.cell? ⟨k, 3, none⟩ = some (.slice na n.names.length nc) ∧ w.cell? ⟨k, 4, none⟩ = some (.slice ka n.kids.length kc) := by
  refine ⟨?_, ?_, ?_, ?_, ?_⟩ <;> (rw [Lib.cell_of_heap h.box]; rfl)
open Eng in
theorem ac_node {f : FuncId} {n : Nd} {Post : AV → Prop} (h : AC0 Tryd.prog f [nodeA n] Post) (W : World) (v : Value) (hv : NodeR W any n v) :
    Calls Tryd.prog f #[v] W fun e W' => ∃ u r S', e = .returned u ∧ Grow W W' ∧ Rep W' (pureC nil S' none) r u ∧ Post r := by
  refine (h.2 W nil (fun b => b < W.heap.size) [v] (fun b hb => hb.elim) (fun b hb => hb) ?_).mono ?_
  · unfold RepL
    exact ⟨_, _, rfl, rep_of_node hv.under, by unfold RepL; rfl⟩
  · rintro e W' ⟨u, r, S', rfl, hg, _, _, hr, hp⟩
    exact ⟨u, r, S', rfl, hg, hr, hp⟩
theorem ac_str {f : FuncId} {n : Nd} {s : ByteArray} (h : Eng.AC0 Tryd.prog f [Eng.nodeA n] (fun r => r = .str s)) (W : World) (v : Value) (hv : NodeR W any n v) :
    Calls Tryd.prog f #[v] W fun e W' => e = .returned (.string s) ∧ Grow W W' := (ac_node h W v hv).mono fun e W' ⟨u, r, S', h1, hg, hr, hp⟩ => by
  subst hp; rw [Eng.rep_str] at hr; exact ⟨by rw [h1, hr.1], hg⟩
theorem draw_node {f : FuncId} {zs : List Int} (h : Eng.ByteL zs → Eng.AC0 Tryd.prog f [.view .loose 1 (Eng.bytesE zs)] (fun r => ∃ n : Nd, Eng.Sml n ∧ r = Eng.nodeA n)) (W : World) (v : Value) (hv : BytesR W zs v) :
    Calls Tryd.prog f #[v] W fun e W' => ∃ n na nc ka kc, e = .returned (nodeV n na nc ka kc) ∧ Grow W W' ∧ NodeR W' any n (nodeV n na nc ka kc) ∧ Eng.Sml n := by
  obtain ⟨a, c, rfl, h1, h2, h3, h4⟩ := hv
  refine ((h h4).2 W nil (fun b => b < W.heap.size) [.slice a zs.length c] (fun b hb => hb.elim) (fun b hb => hb) ?_).mono ?_
  · unfold Eng.RepL
    refine ⟨_, _, rfl, ?_, by unfold Eng.RepL; rfl⟩
    refine Eng.rep_view.2 ⟨a, c, by rw [Eng.bytesE_len], fun h => (by cases h), by rw [Eng.bytesE_len]; exact h1, by rw [Eng.bytesE_len]; exact h2, fun e he => ?_, ?_⟩
    · obtain ⟨k, _, rfl⟩ := List.mem_map.1 he; rfl
    · rcases h3 with rfl | ⟨b, o, ha, hc⟩
      · exact .inl rfl
      · by_cases hz : zs = []
        · subst hz; exact .inl rfl
        · have hb : b < W.heap.size := lt_of_cell (hc 0 (List.length_pos_iff.2 hz))
          refine .inr ⟨b, o, ha, hb, Eng.RepE.of_get (sz := 1) (fun e he => ?_) (fun i e he => ?_)⟩
          · obtain ⟨k, _, rfl⟩ := List.mem_map.1 he; rfl
          · unfold Eng.bytesE at he
            rw [List.getElem?_map, Option.map_eq_some_iff] at he
            obtain ⟨x, hx, rfl⟩ := he
            obtain ⟨hi, rfl⟩ := List.getElem?_eq_some_iff.1 hx
            refine Eng.RepC.of_get (fun j d hd => ?_)
            have hj := (List.getElem?_eq_some_iff.1 hd).1
            simp only [List.length_cons, List.length_nil] at hj
            obtain rfl : j = 0 := by omega
            simp only [List.getElem?_cons_zero, Option.some.injEq] at hd
            subst hd
            exact ⟨_, by simpa using hc i hi, rfl, Eng.rep_int.2 rfl⟩
  · rintro e W' ⟨u, r, S', rfl, hg, _, _, hr, n, hn, rfl⟩
    have hnr := Eng.nodeA_of_rep hr
    obtain ⟨na, nc, ka, kc, rfl, hc⟩ := hnr
    exact ⟨n, na, nc, ka, kc, rfl, hg, ⟨na, nc, ka, kc, rfl, hc⟩, hn⟩
end Go.Proofs.YtoedpagdklagdaaDoor
namespace Go.Proofs.YtoedpagdklagdaaDoor
open Go.RowKit
theorem toNode_any (n : Nd) (v : Value) (w : World) (hc : costN n ≤ 1048576) (hn : NodeR w any n v) :
    Calls Tryd.prog 13 #[v] w fun e w' => ∃ v', e = .returned v' ∧ Grow w w' ∧ NodeR w' any n v' :=
  (toNode_ok n v w hc hn).mono fun _ _ ⟨v', _, he, hg, ho, _⟩ => ⟨v', he, hg, ho.toR (fun _ _ => trivial)⟩
theorem eqNode_self (n : Nd) (v u : Value) (w : World) (ha : NodeR w any n v) (hb : NodeR w any n u) :
    Calls Tryd.prog 15 #[v, u] w fun e w' => e = .returned (.bool true) ∧ Grow w w' :=
  (eqNode_ok n n v u w ha hb).mono fun e w' ⟨he, hg⟩ => ⟨by rw [he, eqN_refl], hg⟩
structure NL (w : World) (k : Nat) (n : Nd) (na : Option Addr) (nc : Nat) (ka : Option Addr) (kc : Nat) : Prop where
  box : w.heap[k]? = some (.cells #[.int .i64 n.kind, .int .i64 n.num, .string n.text, .slice na n.names.length nc, .slice ka n.kids.length kc] 25 (0, 0))
  node : NodeR w any n (nodeV n na nc ka kc)
theorem NL.grow {w w' : World} {k : Nat} {n : Nd} {na : Option Addr} {nc : Nat} {ka : Option Addr} {kc : Nat} (h : NL w k n na nc ka kc) (hg : Grow w w') : NL w' k n na nc ka kc :=
  ⟨(hg.block k (Array.getElem?_eq_some_iff.1 h.box).1 (fun h => h)).trans h.box, h.node.grow hg⟩
theorem NL.new {w : World} {n : Nd} {na : Option Addr} {nc : Nat} {ka : Option Addr} {kc : Nat} (h : NodeR w any n (nodeV n na nc ka kc)) :
    NL (w.alloc (.cells #[.int .i64 n.kind, .int .i64 n.num, .string n.text, .slice na n.names.length nc, .slice ka n.kids.length kc] 25)) w.heap.size n na nc ka kc :=
  ⟨heap_alloc_new w _, h.grow ((Ext.refl _ _).alloc _)⟩
theorem NL.cells {w : World} {k : Nat} {n : Nd} {na : Option Addr} {nc : Nat} {ka : Option Addr} {kc : Nat} (h : NL w k n na nc ka kc) :
    w.cell? ⟨k, 0, none⟩ = some (.int .i64 n.kind) ∧ w.cell? ⟨k, 1, none⟩ = some (.int .i64 n.num) ∧ w.cell? ⟨k, 2, none⟩ = some (.string n.text) ∧ w.cell? ⟨k, 3, none⟩ = some (.slice na n.names.length nc) ∧ w.cell? ⟨k, 4, none⟩ = some (.slice ka n.kids.length kc) := by
  refine ⟨?_, ?_, ?_, ?_, ?_⟩ <;> (rw [Lib.cell_of_heap h.box]; rfl)
end Go.Proofs.YtoedpagdklagdaaDoor
namespace Go.Proofs.YtoedpagdklagdaaDoor.Eng
open Go Go.RowKit
attribute [local simp] big size_mk ASt.pay Option.map_map Function.comp_def awant aop acall ado aev ofVal ofVal0 ASt.put ASt.add ASt.turn ASt.kill abox aalloc astore aload ASt.at cellsTo afieldAddr afield aindexAddr aindex alen abin aint acmp astr aun apick aextract anil aslice abound abuild afill abuildSlice asCells aps avCells over upd aappend asrc amax amin aconv mkSt slots rowsOf_cons rowsOf_nil usedOf_cons usedOf_nil ZK.av List.replicate ASt.back ASt.addL ASt.killL nodeA nodeT nodeTL_eq nodeL_eq strsE_get strsE_len intsE_get intsE_len strsE_at intsE_at tab2 tab3 tab4 tab5 tab6 tab7 tab8 tab9 tab10 tab11 tab12 tab13 tab14 tab15 tab16 tab17 tab18 tab19 tab21 tab22 tab23 tab24 tab25 tab28 tab29 tab30 tab35 tab40 tab41 tab42 tab45 tab46 tab47 tab55 tab56 tab57 tab63 tab73 tab74 tab84 tab87 tab89 tab90 tab93 tab94 tab109 tab120 tab123 tab128 tab129 tab134 tab135 tab137 tab138
theorem drawTagOf_AC0 (zs : List Int) (hl : zs.length ≤ 1048576) (hb : ByteL zs) : AC0 Tryd.prog 27 [.view .loose 1 (bytesE zs)] (fun r => ∃ n : Nd, Sml n ∧ r = nodeA n) := by
  have hc := cN_le
  have hN : AC Tryd.prog 44 [.rdr] cN rNodeA := anyNode_AC
  generalize cN = M at *
  refine AC0.of tab_ok mixed_ok Tryd.func27 (by rfl) (by kernel_rfl) ?_; rintro ⟨P, T, hT, hm, w0, S0, rd0, k0⟩ hP hTT hk0; dsimp only at hP hTT hk0; subst hP hTT hk0; unfold initSt; rw [Tryd.ntmps27]
  (repeat (first | with_reducible refine AW.seq ?_ | ((first | refine arun_kn 4 rfl (fun C hC => ?_) | refine arunD_kn 4 rfl (fun C hC => ?_)); (repeat ((conv => whnf); simp)); refine hC _ ?_; clear hC C; simp only [List.drop, Nat.reduceAdd]) | ((first | refine arun_kn 1 rfl (fun C hC => ?_) | refine arunD_kn 1 rfl (fun C hC => ?_)); (repeat ((conv => whnf); simp)); refine hC _ ?_; clear hC C; simp only [List.drop, Nat.reduceAdd]) | (refine arun_skip ?_ ?_; (focus (simp [awant]; done))) | (refine arun_cN M (newReader_ACN zs (0 + M) hl (by omega) hb) ?_) | (refine arun_c (M) (hN) ?_; (rintro _ ⟨n, hn, rfl⟩)) | (refine AW.regionK [] (fun K hK => ?_)) | (refine AW.regionDK [] (pcs [] []) (by kernel_rfl) (by kernel_rfl) (fun K hK => ?_)) | (refine AW.condT ?_ ?_; (focus (simp [aev]; done))) | (refine AW.condF ?_ ?_; (focus (simp [aev]; done))) | with_reducible refine AW.block ?_ | ((first | ((first | refine arun_nil ?_ | refine arunD_nil ?_); refine hK _ ?_; clear hK K) | refine AW.skip ?_ | refine AW.exit ?_ | refine AW.ret ?_); simp only [thenA_exit, inBlockA_exit, if_true, if_false, Nat.reduceEqDiff, thenA_normal, inBlockA_normal, reduceIte, thenA_ret, inBlockA_ret, endQ_ret, endR_ret, endG_ret, endQ_normal, endR_normal, endG_normal])))
  exact ⟨nodeA n, by simp [ares, aresL, upd, rowsOf_cons], node_pur n, n, hn, rfl⟩
end Go.Proofs.YtoedpagdklagdaaDoor.Eng
namespace Go.Proofs.YtoedpagdklagdaaDoor
open Go.RowKit
end Go.Proofs.YtoedpagdklagdaaDoor
namespace Go.Proofs.YtoedpagdklagdaaDoor
def tagN (l : List UInt8) : Nat := l.foldl (fun a c => (131 * a + c.toNat) % 65521) 17
def hexs : ByteArray := ⟨#[48, 49, 50, 51, 52, 53, 54, 55, 56, 57, 97, 98, 99, 100, 101, 102]⟩
def hx (k : Nat) : UInt8 := (hexs[k]?).getD 0
def hexT (s : Nat) : ByteArray := txt [hx (s / 4096), hx (s / 256 % 16), hx (s / 16 % 16), hx (s % 16)]
theorem hx_at (k : Nat) (h : k < 16) : hexs[k]? = some (hx k) := by
  have : ∀ k : Fin 16, hexs[k.1]? = some (hx k.1) := by decide +kernel
  exact this ⟨k, h⟩
theorem tagN_le (l : List UInt8) : tagN l ≤ 65520 := by
  rcases l.eq_nil_or_concat with rfl | ⟨l', c, rfl⟩
  · decide
  · unfold tagN
    simp only [List.concat_eq_append, List.foldl_append, List.foldl_cons, List.foldl_nil]
    omega
theorem tagN_snoc (l : List UInt8) (c : UInt8) : tagN (l ++ [c]) = (131 * tagN l + c.toNat) % 65521 := by
  unfold tagN
  rw [List.foldl_append]; rfl
end Go.Proofs.YtoedpagdklagdaaDoor
namespace Go.Proofs.YtoedpagdklagdaaDoor.Eng
open Go Go.RowKit
attribute [local simp] big size_mk ASt.pay Option.map_map Function.comp_def awant aop acall ado aev ofVal ofVal0 ASt.put ASt.add ASt.turn ASt.kill abox aalloc astore aload ASt.at cellsTo afieldAddr afield aindexAddr aindex alen abin aint acmp astr aun apick aextract anil aslice abound abuild afill abuildSlice asCells aps avCells over upd aappend asrc amax amin aconv mkSt slots rowsOf_cons rowsOf_nil usedOf_cons usedOf_nil ZK.av List.replicate ASt.back ASt.addL ASt.killL nodeA nodeT nodeTL_eq nodeL_eq strsE_get strsE_len intsE_get intsE_len strsE_at intsE_at tab2 tab3 tab4 tab5 tab6 tab7 tab8 tab9 tab10 tab11 tab12 tab13 tab14 tab15 tab16 tab17 tab18 tab19 tab21 tab22 tab23 tab24 tab25 tab28 tab29 tab30 tab35 tab40 tab41 tab42 tab45 tab46 tab47 tab55 tab56 tab57 tab63 tab73 tab74 tab84 tab87 tab89 tab90 tab93 tab94 tab109 tab120 tab123 tab128 tab129 tab134 tab135 tab137 tab138
theorem sumOf_AC (s : ByteArray) (hs : s.size ≤ 1000000) : AC Tryd.prog 48 [.str s] 0 (fun r => r = .int .i64 (tagN s.data.toList)) := by
  have hsl : s.data.toList.length = s.size := by simp
  refine AC.of tab_ok mixed_ok Tryd.func48 (by rfl) (by kernel_rfl) ?_; rintro ⟨P, T, hT, hm, w0, S0, rd0, k0⟩ hP hTT; dsimp only at hP hTT; subst hP hTT; unfold initSt; rw [Tryd.ntmps48]
  (repeat (first | with_reducible refine AW.seq ?_ | ((first | refine arun_kn 4 rfl (fun C hC => ?_) | refine arunD_kn 4 rfl (fun C hC => ?_)); (repeat ((conv => whnf); simp)); refine hC _ ?_; clear hC C; simp only [List.drop, Nat.reduceAdd]) | ((first | refine arun_kn 1 rfl (fun C hC => ?_) | refine arunD_kn 1 rfl (fun C hC => ?_)); (repeat ((conv => whnf); simp)); refine hC _ ?_; clear hC C; simp only [List.drop, Nat.reduceAdd]) | (refine arun_skip ?_ ?_; (focus (simp [awant]; done))) | (refine AW.regionK [] (fun K hK => ?_)) | (refine AW.regionDK [] (pcs [] []) (by kernel_rfl) (by kernel_rfl) (fun K hK => ?_)) | (refine AW.condT ?_ ?_; (focus (simp [aev]; done))) | (refine AW.condF ?_ ?_; (focus (simp [aev]; done))) | with_reducible refine AW.block ?_ | ((first | ((first | refine arun_nil ?_ | refine arunD_nil ?_); refine hK _ ?_; clear hK K) | refine AW.skip ?_ | refine AW.exit ?_ | refine AW.ret ?_); simp only [thenA_exit, inBlockA_exit, if_true, if_false, Nat.reduceEqDiff, thenA_normal, inBlockA_normal, reduceIte, thenA_ret, inBlockA_ret, endQ_ret, endR_ret, endG_ret, endQ_normal, endR_normal, endG_normal])))
  refine AW.loopS (fun (x : Nat × Nat) => mkSt (slots 0 20 [(0, .str s), (2, .int .i64 0), (3, .int .i64 x.2), (4, .int .i64 x.1)]) [] [] (rd0.map fun _ => 0)) (fun x => s.size - x.1) (fun x => x.1 ≤ s.size ∧ x.2 = tagN (s.data.toList.take x.1)) (0, 17) ?_ ⟨Nat.zero_le _, by simp [tagN]⟩ ?_
  · exact less_a
  · rintro ⟨k, S⟩ ⟨hk, hf⟩
    dsimp only at hk hf ⊢
    have hSl : S ≤ 65520 := by rw [hf]; exact tagN_le _
    by_cases hlt : k < s.size
    · have hg : s[k]? = some s[k] := by simp [hlt]
      have hw : IntKind.i64.wrap ((k : Int) + 1) = (k : Int) + 1 := i64_nat (by omega) (by omega)
      have hst : tagN (s.data.toList.take (k + 1)) = (131 * S + s[k].toNat) % 65521 := by
        rw [take_snoc' _ k (by omega), tagN_snoc, hf]; rfl
      have hcb : s[k].toNat ≤ 255 := by have := s[k].toNat_lt; omega
      have hw1 : IntKind.i64.wrap (131 * (S : Int)) = 131 * (S : Int) := i64_nat (by omega) (by omega)
      have hw0 : IntKind.i64.wrap (s[k].toNat : Int) = (s[k].toNat : Int) := i64_nat (by omega) (by omega)
      have hw2 : IntKind.i64.wrap (131 * (S : Int) + (s[k].toNat : Int)) = 131 * (S : Int) + (s[k].toNat : Int) := i64_nat (by omega) (by omega)
      have hr : (131 * (S : Int) + (s[k].toNat : Int)).tmod 65521 = ((tagN (s.data.toList.take (k + 1)) : Nat) : Int) := by
        rw [hst, show (131 * (S : Int) + (s[k].toNat : Int)) = ((131 * S + s[k].toNat : Nat) : Int) by omega]; rfl
      (repeat (first | with_reducible refine AW.seq ?_ | ((first | refine arun_kn 4 rfl (fun C hC => ?_) | refine arunD_kn 4 rfl (fun C hC => ?_)); (repeat ((conv => whnf); simp [hlt, hg, hw, hw0, hw1, hw2, hr])); refine hC _ ?_; clear hC C; simp only [List.drop, Nat.reduceAdd]) | ((first | refine arun_kn 1 rfl (fun C hC => ?_) | refine arunD_kn 1 rfl (fun C hC => ?_)); (repeat ((conv => whnf); simp [hlt, hg, hw, hw0, hw1, hw2, hr])); refine hC _ ?_; clear hC C; simp only [List.drop, Nat.reduceAdd]) | (refine arun_skip ?_ ?_; (focus (simp [awant, hlt, hg, hw, hw0, hw1, hw2, hr]; done))) | (refine AW.regionK [] (fun K hK => ?_)) | (refine AW.regionDK [] (pcs [] []) (by kernel_rfl) (by kernel_rfl) (fun K hK => ?_)) | (refine AW.condT ?_ ?_; (focus (simp [aev, hlt, hg, hw, hw0, hw1, hw2, hr]; done))) | (refine AW.condF ?_ ?_; (focus (simp [aev, hlt, hg, hw, hw0, hw1, hw2, hr]; done))) | with_reducible refine AW.block ?_ | ((first | ((first | refine arun_nil ?_ | refine arunD_nil ?_); refine hK _ ?_; clear hK K) | refine AW.skip ?_ | refine AW.exit ?_ | refine AW.ret ?_); simp only [thenA_exit, inBlockA_exit, if_true, if_false, Nat.reduceEqDiff, thenA_normal, inBlockA_normal, reduceIte, thenA_ret, inBlockA_ret, endQ_ret, endR_ret, endG_ret, endQ_normal, endR_normal, endG_normal])))
      refine ⟨(k + 1, tagN (s.data.toList.take (k + 1))), by dsimp only; omega, ⟨by dsimp only; omega, rfl⟩, ?_⟩
      dsimp only
      exact less_a
    · have hall : s.data.toList.take k = s.data.toList := List.take_of_length_le (by omega)
      rw [hall] at hf
      subst hf
      (repeat (first | with_reducible refine AW.seq ?_ | ((first | refine arun_kn 4 rfl (fun C hC => ?_) | refine arunD_kn 4 rfl (fun C hC => ?_)); (repeat ((conv => whnf); simp [hlt])); refine hC _ ?_; clear hC C; simp only [List.drop, Nat.reduceAdd]) | ((first | refine arun_kn 1 rfl (fun C hC => ?_) | refine arunD_kn 1 rfl (fun C hC => ?_)); (repeat ((conv => whnf); simp [hlt])); refine hC _ ?_; clear hC C; simp only [List.drop, Nat.reduceAdd]) | (refine arun_skip ?_ ?_; (focus (simp [awant, hlt]; done))) | (refine AW.regionK [] (fun K hK => ?_)) | (refine AW.regionDK [] (pcs [] []) (by kernel_rfl) (by kernel_rfl) (fun K hK => ?_)) | (refine AW.condT ?_ ?_; (focus (simp [aev, hlt]; done))) | (refine AW.condF ?_ ?_; (focus (simp [aev, hlt]; done))) | with_reducible refine AW.block ?_ | ((first | ((first | refine arun_nil ?_ | refine arunD_nil ?_); refine hK _ ?_; clear hK K) | refine AW.skip ?_ | refine AW.exit ?_ | refine AW.ret ?_); simp only [thenA_exit, inBlockA_exit, if_true, if_false, Nat.reduceEqDiff, thenA_normal, inBlockA_normal, reduceIte, thenA_ret, inBlockA_ret, endQ_ret, endR_ret, endG_ret, endQ_normal, endR_normal, endG_normal])))
      exact ⟨.int .i64 (tagN s.data.toList : Nat), by simp [ares, aresL], pur_int, rfl⟩
theorem hex_AC (s : Nat) (hs : s ≤ 65520) : AC Tryd.prog 47 [.int .i64 (s : Int)] 0 (fun r => r = .str (hexT s)) := by
  have ha : (⟨#[48, 49, 50, 51, 52, 53, 54, 55, 56, 57, 97, 98, 99, 100, 101, 102]⟩ : ByteArray) = hexs := rfl
  have hz : hexs.size ≤ 9223372036854775807 := by decide +kernel
  have q1 : (s : Int).tdiv 4096 = ((s / 4096 : Nat) : Int) := rfl
  have q2 : (s : Int).tdiv 256 = ((s / 256 : Nat) : Int) := rfl
  have q3 : (s : Int).tdiv 16 = ((s / 16 : Nat) : Int) := rfl
  have m2 : ((s / 256 : Nat) : Int).tmod 16 = ((s / 256 % 16 : Nat) : Int) := rfl
  have m3 : ((s / 16 : Nat) : Int).tmod 16 = ((s / 16 % 16 : Nat) : Int) := rfl
  have m4 : (s : Int).tmod 16 = ((s % 16 : Nat) : Int) := rfl
  have v1 : IntKind.i64.wrap ((s / 4096 : Nat) : Int) = ((s / 4096 : Nat) : Int) := i64_nat (by omega) (by omega)
  have v2 : IntKind.i64.wrap ((s / 256 : Nat) : Int) = ((s / 256 : Nat) : Int) := i64_nat (by omega) (by omega)
  have v3 : IntKind.i64.wrap ((s / 16 : Nat) : Int) = ((s / 16 : Nat) : Int) := i64_nat (by omega) (by omega)
  have h1 := hx_at (s / 4096) (by omega)
  have h2 := hx_at (s / 256 % 16) (by omega)
  have h3 := hx_at (s / 16 % 16) (by omega)
  have h4 := hx_at (s % 16) (by omega)
  have e : hexT s = txt [hx (s / 4096), hx (s / 256 % 16), hx (s / 16 % 16), hx (s % 16)] := rfl
  rw [e]
  clear e
  generalize s / 4096 = A at *
  generalize s / 256 = B at *
  generalize s / 16 = C at *
  generalize B % 16 = B1 at *
  generalize C % 16 = C1 at *
  generalize s % 16 = D1 at *
  have b1 := (hx A).toNat_lt
  have b2 := (hx B1).toNat_lt
  have b3 := (hx C1).toNat_lt
  have b4 := (hx D1).toNat_lt
  have c1 : ((hx A).toNat : Int) ≤ 255 := by omega
  have c2 : ((hx B1).toNat : Int) ≤ 255 := by omega
  have c3 : ((hx C1).toNat : Int) ≤ 255 := by omega
  have c4 : ((hx D1).toNat : Int) ≤ 255 := by omega
  refine AC.of tab_ok mixed_ok Tryd.func47 (by rfl) (by kernel_rfl) ?_; rintro ⟨P, T, hT, hm, w0, S0, rd0, k0⟩ hP hTT; dsimp only at hP hTT; subst hP hTT; unfold initSt; rw [Tryd.ntmps47]
  (repeat (first | with_reducible refine AW.seq ?_ | ((first | refine arun_kn 4 rfl (fun C hC => ?_) | refine arunD_kn 4 rfl (fun C hC => ?_)); (repeat ((conv => whnf); simp [ha, hz, q1, q2, q3, m2, m3, m4, v1, v2, v3, h1, h2, h3, h4, c1, c2, c3, c4, aconv, isU8, bytesV, strV])); refine hC _ ?_; clear hC C; simp only [List.drop, Nat.reduceAdd]) | ((first | refine arun_kn 1 rfl (fun C hC => ?_) | refine arunD_kn 1 rfl (fun C hC => ?_)); (repeat ((conv => whnf); simp [ha, hz, q1, q2, q3, m2, m3, m4, v1, v2, v3, h1, h2, h3, h4, c1, c2, c3, c4, aconv, isU8, bytesV, strV])); refine hC _ ?_; clear hC C; simp only [List.drop, Nat.reduceAdd]) | (refine arun_skip ?_ ?_; (focus (simp [awant, ha, hz, q1, q2, q3, m2, m3, m4, v1, v2, v3, h1, h2, h3, h4, c1, c2, c3, c4, aconv, isU8, bytesV, strV]; done))) | (refine AW.regionK [] (fun K hK => ?_)) | (refine AW.regionDK [] (pcs [] []) (by kernel_rfl) (by kernel_rfl) (fun K hK => ?_)) | (refine AW.condT ?_ ?_; (focus (simp [aev, ha, hz, q1, q2, q3, m2, m3, m4, v1, v2, v3, h1, h2, h3, h4, c1, c2, c3, c4, aconv, isU8, bytesV, strV]; done))) | (refine AW.condF ?_ ?_; (focus (simp [aev, ha, hz, q1, q2, q3, m2, m3, m4, v1, v2, v3, h1, h2, h3, h4, c1, c2, c3, c4, aconv, isU8, bytesV, strV]; done))) | with_reducible refine AW.block ?_ | ((first | ((first | refine arun_nil ?_ | refine arunD_nil ?_); refine hK _ ?_; clear hK K) | refine AW.skip ?_ | refine AW.exit ?_ | refine AW.ret ?_); simp only [thenA_exit, inBlockA_exit, if_true, if_false, Nat.reduceEqDiff, thenA_normal, inBlockA_normal, reduceIte, thenA_ret, inBlockA_ret, endQ_ret, endR_ret, endG_ret, endQ_normal, endR_normal, endG_normal])))
  exact ⟨.str (txt [hx A, hx B1, hx C1, hx D1]), by simp [ares, aresL, txt], pur_str, rfl⟩
def tagS (n : Nd) : ByteArray := if validB n then hexT (tagN (fmtT n)) else ⟨#[]⟩
theorem specTagOf_AC (n : Nd) : AC Tryd.prog 23 [nodeA n] 0 (fun r => r = .str (tagS n)) := by
  have p1 := validNode_AC n .loose
  unfold nodeA
  rw [nodeL_eq]
  cases hv : validB n <;> rw [hv] at p1
  · have e : tagS n = ⟨#[]⟩ := by unfold tagS; rw [hv]; rfl
    rw [e]
    refine AC.of tab_ok mixed_ok Tryd.func23 (by rfl) (by kernel_rfl) ?_; rintro ⟨P, T, hT, hm, w0, S0, rd0, k0⟩ hP hTT; dsimp only at hP hTT; subst hP hTT; unfold initSt; rw [Tryd.ntmps23]
    (repeat (first | with_reducible refine AW.seq ?_ | ((first | refine arun_kn 4 rfl (fun C hC => ?_) | refine arunD_kn 4 rfl (fun C hC => ?_)); (repeat ((conv => whnf); simp)); refine hC _ ?_; clear hC C; simp only [List.drop, Nat.reduceAdd]) | ((first | refine arun_kn 1 rfl (fun C hC => ?_) | refine arunD_kn 1 rfl (fun C hC => ?_)); (repeat ((conv => whnf); simp)); refine hC _ ?_; clear hC C; simp only [List.drop, Nat.reduceAdd]) | (refine arun_skip ?_ ?_; (focus (simp [awant]; done))) | (refine arun_c0 (p1) ?_; rintro _ rfl) | (refine AW.regionK [] (fun K hK => ?_)) | (refine AW.regionDK [] (pcs [] []) (by kernel_rfl) (by kernel_rfl) (fun K hK => ?_)) | (refine AW.condT ?_ ?_; (focus (simp [aev]; done))) | (refine AW.condF ?_ ?_; (focus (simp [aev]; done))) | with_reducible refine AW.block ?_ | ((first | ((first | refine arun_nil ?_ | refine arunD_nil ?_); refine hK _ ?_; clear hK K) | refine AW.skip ?_ | refine AW.exit ?_ | refine AW.ret ?_); simp only [thenA_exit, inBlockA_exit, if_true, if_false, Nat.reduceEqDiff, thenA_normal, inBlockA_normal, reduceIte, thenA_ret, inBlockA_ret, endQ_ret, endR_ret, endG_ret, endQ_normal, endR_normal, endG_normal])))
    exact ⟨.str ⟨#[]⟩, by simp [ares, aresL], pur_str, rfl⟩
  · obtain ⟨hw, hl, _⟩ := fmt_ok hv
    have e : tagS n = hexT (tagN (fmtT n)) := by unfold tagS; rw [hv]; rfl
    rw [e]
    have p2 := format_AC n hw (by omega)
    unfold nodeA at p2
    rw [nodeL_eq] at p2
    have p3 := sumOf_AC (txt (fmtT n)) (by rw [txt_size]; omega)
    have e2 : (txt (fmtT n)).data.toList = fmtT n := by simp [txt]
    rw [e2] at p3
    have p4 := hex_AC (tagN (fmtT n)) (tagN_le _)
    generalize tagN (fmtT n) = S at *
    generalize txt (fmtT n) = F at *
    refine AC.of tab_ok mixed_ok Tryd.func23 (by rfl) (by kernel_rfl) ?_; rintro ⟨P, T, hT, hm, w0, S0, rd0, k0⟩ hP hTT; dsimp only at hP hTT; subst hP hTT; unfold initSt; rw [Tryd.ntmps23]
    (repeat (first | with_reducible refine AW.seq ?_ | ((first | refine arun_kn 4 rfl (fun C hC => ?_) | refine arunD_kn 4 rfl (fun C hC => ?_)); (repeat ((conv => whnf); simp)); refine hC _ ?_; clear hC C; simp only [List.drop, Nat.reduceAdd]) | ((first | refine arun_kn 1 rfl (fun C hC => ?_) | refine arunD_kn 1 rfl (fun C hC => ?_)); (repeat ((conv => whnf); simp)); refine hC _ ?_; clear hC C; simp only [List.drop, Nat.reduceAdd]) | (refine arun_skip ?_ ?_; (focus (simp [awant]; done))) | (refine arun_c0 (p1) ?_; rintro _ rfl) | (refine arun_c0 (p2) ?_; rintro _ rfl) | (refine arun_c0 (p3) ?_; rintro _ rfl) | (refine arun_c0 (p4) ?_; rintro _ rfl) | (refine AW.regionK [] (fun K hK => ?_)) | (refine AW.regionDK [] (pcs [] []) (by kernel_rfl) (by kernel_rfl) (fun K hK => ?_)) | (refine AW.condT ?_ ?_; (focus (simp [aev]; done))) | (refine AW.condF ?_ ?_; (focus (simp [aev]; done))) | with_reducible refine AW.block ?_ | ((first | ((first | refine arun_nil ?_ | refine arunD_nil ?_); refine hK _ ?_; clear hK K) | refine AW.skip ?_ | refine AW.exit ?_ | refine AW.ret ?_); simp only [thenA_exit, inBlockA_exit, if_true, if_false, Nat.reduceEqDiff, thenA_normal, inBlockA_normal, reduceIte, thenA_ret, inBlockA_ret, endQ_ret, endR_ret, endG_ret, endQ_normal, endR_normal, endG_normal])))
    exact ⟨.str (hexT S), by simp [ares, aresL], pur_str, rfl⟩
end Go.Proofs.YtoedpagdklagdaaDoor.Eng
