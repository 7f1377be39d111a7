/-
  Texts of this claim, joined.
-/
import Derived.Test.YtfjaobfaepjfnaaDoorReG

set_option linter.unusedSimpArgs false
set_option linter.unusedVariables false
set_option linter.unnecessarySimpa false
set_option maxRecDepth 100000
set_option maxHeartbeats 16000000
namespace Go.Proofs.YtfjaobfaepjfnaaDoor
open Go.RowKit
structure Reqn where
  method : Int
  name : ByteArray
  want : List ByteArray
  avoid : List ByteArray
  body : Nd
  ops : List Opn
def reqCells (q : Reqn) (wa : Option Addr) (wc : Nat) (va : Option Addr) (vc : Nat) (na : Option Addr) (nc : Nat) (ka : Option Addr) (kc : Nat) (oa : Option Addr) (oc : Nat) : Array Value :=
  #[.int .i64 q.method, .string q.name, .slice wa q.want.length wc, .slice va q.avoid.length vc, .int .i64 q.body.kind, .int .i64 q.body.num, .string q.body.text, .slice na q.body.names.length nc, .slice ka q.body.kids.length kc, .slice oa q.ops.length oc]
def ReqC (w : World) (S : Nat → Prop) (q : Reqn) (wa : Option Addr) (wc : Nat) (va : Option Addr) (vc : Nat) (na : Option Addr) (nc : Nat) (ka : Option Addr) (kc : Nat) (oa : Option Addr) (oc : Nat) : Prop :=
  q.name.size ≤ big ∧ StrsR w S wa wc q.want ∧ StrsR w S va vc q.avoid ∧ NodeC w S q.body na nc ka kc ∧ OpsR w S oa oc q.ops
def ReqR (w : World) (S : Nat → Prop) (q : Reqn) (v : Value) : Prop := ∃ wa wc va vc na nc ka kc oa oc, v = .agg (reqCells q wa wc va vc na nc ka kc oa oc) ∧ ReqC w S q wa wc va vc na nc ka kc oa oc
theorem ReqR.ext {X S : Nat → Prop} {w w' : World} (h : Ext X w w') (hS : ∀ k, S k → ¬ X k) {q : Reqn} {v : Value} (hs : ReqR w S q v) : ReqR w' S q v := by
  obtain ⟨wa, wc, va, vc, na, nc, ka, kc, oa, oc, hv, h1, h2, h3, h4, h5⟩ := hs
  exact ⟨wa, wc, va, vc, na, nc, ka, kc, oa, oc, hv, h1, h2.ext h hS, h3.ext h hS, h4.ext h hS, h5.ext h hS⟩
theorem ReqR.grow {S : Nat → Prop} {w w' : World} {q : Reqn} {v : Value} (hs : ReqR w S q v) (h : Grow w w') : ReqR w' S q v := hs.ext h (fun _ _ h => h)
end Go.Proofs.YtfjaobfaepjfnaaDoor
namespace Go.Proofs.YtfjaobfaepjfnaaDoor
open Go.RowKit Go.ChangeShapes Go.WideShapes Go.Deep
section
variable {H : Type} {enc : TypeId × Value → H} {W : World} {base : Nat} {sp : Nat → Bool} {held : Bool}
end
end Go.Proofs.YtfjaobfaepjfnaaDoor
namespace Go.Proofs.YtfjaobfaepjfnaaDoor
open Go.RowKit Go.ChangeShapes Go.WideShapes Go.Deep
section
variable {H : Type} {enc : TypeId × Value → H} {W : World} {base : Nat} {sp : Nat → Bool} {held : Bool}
end
end Go.Proofs.YtfjaobfaepjfnaaDoor
namespace Go.Proofs.YtfjaobfaepjfnaaDoor
open Go.RowKit
end Go.Proofs.YtfjaobfaepjfnaaDoor
namespace Go.Proofs.YtfjaobfaepjfnaaDoor
open Go.RowKit
end Go.Proofs.YtfjaobfaepjfnaaDoor
namespace Go.Proofs.YtfjaobfaepjfnaaDoor
open Go.RowKit
theorem lt_trans {a b c : ByteArray} (h1 : lt a b = true) (h2 : lt b c = true) : lt a c = true := bl_trans _ _ _ h1 h2
end Go.Proofs.YtfjaobfaepjfnaaDoor
namespace Go.Proofs.YtfjaobfaepjfnaaDoor
open Go.RowKit Go.ChangeShapes Go.WideShapes Go.Deep
section
variable {H : Type} {enc : TypeId × Value → H} {W : World} {base : Nat} {sp : Nat → Bool} {held : Bool}
theorem rv_node {fuel : Nat} {cs : Array Value} {x : DataW H × List MemPlace} (h : DataW.trod enc Tryd.prog W base sp held fuel 44 cs.toList = some x) : ∃ y, RV nodeRep packA W any y (.agg cs) := by
  obtain ⟨q, na, nc, ka, kc, e2, hq⟩ := open_node _ _ _ h
  exact ⟨q, cs.toList, rfl, na, nc, ka, kc, e2, hq⟩
theorem rv_strs {fuel : Nat} {v : Value} {x : DataW H × List MemPlace} (h : DataW.trod enc Tryd.prog W base sp held fuel 23 [v] = some x) : ∃ y, RV strsRep packO W any y v := by
  obtain ⟨a, c, xs, e, hs⟩ := open_strs' h
  exact ⟨xs, [v], rfl, a, c, e, hs⟩
end
end Go.Proofs.YtfjaobfaepjfnaaDoor
