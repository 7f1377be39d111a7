/-
  A region that draws its order and whose calls only make memory: one walk in the order of the text, in whatever later world.
-/
import Derived.Test.YtchiakeceiefdaaMem
import Derived.Test.YtchiakeceiefdaaReg
namespace Go.Proofs.Ytchiakeceiefdaa
open Go Go.RowKit

/-- Some later world. -/
structure Later (w : World) : Type where
  at' : World
  grown : Grow w at'
def later (w : World) (x : Later w) : World := x.at'
instance later_some (w : World) : Nonempty (Later w) := ⟨⟨w, Ext.refl _ _⟩⟩
theorem later_grow (w : World) (x : Later w) : Grow w (later w x) := x.grown

@[go_sem] theorem later_cell (w : World) (x : Later w) (a : Addr) (h : (w.cell? a).isSome = true) : (later w x).cell? a = w.cell? a := by
  obtain ⟨v, hv⟩ := Option.isSome_iff_exists.1 h
  rw [hv]; exact (later_grow w x).some hv

theorem wp_region_later {P : Program} {id : Nat} {Q : Exit → Act → World → Prop} {a : Act} {w : World} {l : List Oper} (hm : P.follows .mixedOrders = true) (hB : Region.lexB .any l.toArray = true)
    (h : wpQuiet P l.toArray (fun w' => ∃ x, w' = later w x) (fun a' => ∀ w', (∃ x, w' = later w x) → Q .normal a' w') l a) : (Code.region id l.toArray true).wp P Q a w :=
  wp_region_quiet (C := fun w' => ∃ x, w' = later w x) hm hB ⟨⟨w.drew, (Ext.refl _ _).drew⟩, rfl⟩ (by simpa using h)

/-- A call in a later world that leaves a later one. -/
theorem later_call {P : Program} {f : FuncId} {args : Array Value} {w : World} {x : Later w} {v : Value}
    (h : Calls P f args (later w x) fun e w' => e = .returned v ∧ Grow (later w x) w') : Calls P f args (later w x) fun e w'' => e = .returned v ∧ ∃ y, w'' = later w y :=
  h.mono fun _ w' ⟨he, hg⟩ => ⟨he, ⟨w', (later_grow w x).trans hg⟩, rfl⟩
theorem later_call_same {P : Program} {f : FuncId} {args : Array Value} {w : World} {x : Later w} {v : Value}
    (h : Calls P f args (later w x) fun e w' => e = .returned v ∧ w' = later w x) : Calls P f args (later w x) fun e w'' => e = .returned v ∧ ∃ y, w'' = later w y :=
  h.mono fun _ _ ⟨he, hg⟩ => ⟨he, x, hg⟩

end Go.Proofs.Ytchiakeceiefdaa
