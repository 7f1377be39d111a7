/-
  Texts of this claim, joined.
-/
import Derived.BigQuiet
import Derived.Laws.AppendOwn
import Derived.Laws.AppendOwnNone
import Derived.Laws.OwnMore
import Derived.Lib.Bytealg
import Derived.Shelf.Strings.BuilderK
import Derived.Lib.ItoaNum
import Derived.Deep.LoopGhost
import Derived.Shelf.Strings.Builder1
import Derived.Shelf.Strings.BuilderF
import Derived.Shelf.Strconv.Itoa0
import Derived.Shelf.Strconv.Itoa1
import Derived.Shelf.LaysM
import Derived.Shelf.Strconv.Itoa2
import Derived.Shelf.Strconv.Itoa3
import Derived.Test.YtoedpagdklagdaaDoorProg
import Derived.Test.YtoedpagdklagdaaDoorPcD

set_option linter.unusedSimpArgs false
set_option linter.unusedVariables false
set_option linter.unnecessarySimpa false
set_option maxRecDepth 100000
set_option maxHeartbeats 16000000
namespace Go.Proofs.YtoedpagdklagdaaDoor
open Go Go.RowKit
structure Shp where
  kind : Int
  names : List ByteArray
  needs : List Bool
  kids : List Shp
theorem Shp.ind' (P : Shp → Prop) (h : ∀ n : Shp, (∀ k ∈ n.kids, P k) → P n) : ∀ n, P n := by
  intro n
  refine Shp.rec (motive_1 := P) (motive_2 := fun l => ∀ k ∈ l, P k) ?_ ?_ ?_ n
  · intro kind names needs kids ih
    exact h ⟨kind, names, needs, kids⟩ ih
  · intro k hk; cases hk
  · intro k ks h1 h2 x hx
    rcases List.mem_cons.1 hx with rfl | hx
    · exact h1
    · exact h2 _ hx
def BoolsR (w : World) (S : Nat → Prop) (a : Option Addr) (c : Nat) (xs : List Bool) : Prop :=
  xs.length ≤ c ∧ xs.length ≤ big ∧ (xs = [] ∨ ∃ b o, a = some ⟨b, o, none⟩ ∧ S b ∧ ∀ i (h : i < xs.length), w.cell? ⟨b, o + i, none⟩ = some (.bool xs[i]))
mutual
def ShapeC (w : World) (S : Nat → Prop) : Shp → Option Addr → Nat → Option Addr → Nat → Option Addr → Nat → Prop
  | ⟨_, names, needs, kids⟩, na, nc, ba, bc, ka, kc => StrsR w S na nc names ∧ BoolsR w S ba bc needs ∧ kids.length ≤ kc ∧ kids.length ≤ big ∧ (kids = [] ∨ ∃ b o, ka = some ⟨b, o, none⟩ ∧ S b ∧ ShpsR w S b o kids)
def ShpsR (w : World) (S : Nat → Prop) (b : Nat) : Nat → List Shp → Prop
  | _, [] => True
  | o, k :: ks => (∃ na nc ba bc ka kc, w.cell? ⟨b, o, none⟩ = some (.int .i64 k.kind) ∧ w.cell? ⟨b, o + 1, none⟩ = some (.slice na k.names.length nc) ∧
      w.cell? ⟨b, o + 2, none⟩ = some (.slice ba k.needs.length bc) ∧ w.cell? ⟨b, o + 3, none⟩ = some (.slice ka k.kids.length kc) ∧ ShapeC w S k na nc ba bc ka kc) ∧ ShpsR w S b (o + 4) ks
end
def shapeV (n : Shp) (na : Option Addr) (nc : Nat) (ba : Option Addr) (bc : Nat) (ka : Option Addr) (kc : Nat) : Value :=
  .agg #[.int .i64 n.kind, .slice na n.names.length nc, .slice ba n.needs.length bc, .slice ka n.kids.length kc]
def ShapeR (w : World) (S : Nat → Prop) (n : Shp) (v : Value) : Prop := ∃ na nc ba bc ka kc, v = shapeV n na nc ba bc ka kc ∧ ShapeC w S n na nc ba bc ka kc
theorem BoolsR.ext {X S : Nat → Prop} {w w' : World} (h : Ext X w w') (hS : ∀ k, S k → ¬ X k) {a : Option Addr} {c : Nat} {xs : List Bool} (hs : BoolsR w S a c xs) : BoolsR w' S a c xs := by
  obtain ⟨h1, h2, h4⟩ := hs
  refine ⟨h1, h2, h4.imp id ?_⟩
  rintro ⟨b, o, rfl, hb, hc⟩
  exact ⟨b, o, rfl, hb, fun i hi => h.some (hc i hi) (hS b hb)⟩
theorem ShapeC.parts {w : World} {S : Nat → Prop} {n : Shp} {na : Option Addr} {nc : Nat} {ba : Option Addr} {bc : Nat} {ka : Option Addr} {kc : Nat} (h : ShapeC w S n na nc ba bc ka kc) :
    StrsR w S na nc n.names ∧ BoolsR w S ba bc n.needs ∧ n.kids.length ≤ kc ∧ n.kids.length ≤ big ∧ (n.kids = [] ∨ ∃ b o, ka = some ⟨b, o, none⟩ ∧ S b ∧ ShpsR w S b o n.kids) := by
  cases n; unfold ShapeC at h; exact h
mutual
theorem ShapeC.ext {X S : Nat → Prop} {w w' : World} (h : Ext X w w') (hS : ∀ k, S k → ¬ X k) : ∀ {n : Shp} {na : Option Addr} {nc : Nat} {ba : Option Addr} {bc : Nat} {ka : Option Addr} {kc : Nat}, ShapeC w S n na nc ba bc ka kc → ShapeC w' S n na nc ba bc ka kc
  | ⟨_, _, _, kids⟩, na, nc, ba, bc, ka, kc, hn => by
    unfold ShapeC at hn ⊢
    obtain ⟨h1, h2, h3, h4, h5⟩ := hn
    refine ⟨h1.ext h hS, h2.ext h hS, h3, h4, h5.imp id ?_⟩
    rintro ⟨b, o, e, hb, hk⟩
    exact ⟨b, o, e, hb, ShpsR.ext h hS (hS b hb) hk⟩
theorem ShpsR.ext {X S : Nat → Prop} {w w' : World} (h : Ext X w w') (hS : ∀ k, S k → ¬ X k) {b : Nat} (hb : ¬ X b) : ∀ {l : List Shp} {o : Nat}, ShpsR w S b o l → ShpsR w' S b o l
  | [], _, _ => by unfold ShpsR; trivial
  | k :: ks, o, hk => by
    unfold ShpsR at hk ⊢
    obtain ⟨⟨na, nc, ba, bc, ka, kc, c0, c1, c2, c3, hn⟩, hr⟩ := hk
    exact ⟨⟨na, nc, ba, bc, ka, kc, h.some c0 hb, h.some c1 hb, h.some c2 hb, h.some c3 hb, ShapeC.ext h hS hn⟩, ShpsR.ext h hS hb hr⟩
end
theorem ShpsR.get {w : World} {S : Nat → Prop} {b : Nat} : ∀ {l : List Shp} {o : Nat}, ShpsR w S b o l → ∀ i (h : i < l.length), ∃ na nc ba bc ka kc,
    w.cell? ⟨b, o + i * 4, none⟩ = some (.int .i64 l[i].kind) ∧ w.cell? ⟨b, o + i * 4 + 1, none⟩ = some (.slice na l[i].names.length nc) ∧
      w.cell? ⟨b, o + i * 4 + 2, none⟩ = some (.slice ba l[i].needs.length bc) ∧ w.cell? ⟨b, o + i * 4 + 3, none⟩ = some (.slice ka l[i].kids.length kc) ∧ ShapeC w S l[i] na nc ba bc ka kc
  | [], _, _, i, h => absurd h (by simp)
  | k :: ks, o, hk, 0, _ => by
    unfold ShpsR at hk
    simpa using hk.1
  | k :: ks, o, hk, i + 1, h => by
    unfold ShpsR at hk
    have := ShpsR.get hk.2 i (by simpa using h)
    simp only [List.getElem_cons_succ]
    have e : o + (i + 1) * 4 = o + 4 + i * 4 := by omega
    rw [e]
    exact this
theorem ShapeR.ext {X S : Nat → Prop} {w w' : World} (h : Ext X w w') (hS : ∀ k, S k → ¬ X k) {n : Shp} {v : Value} (hn : ShapeR w S n v) : ShapeR w' S n v := by
  obtain ⟨na, nc, ba, bc, ka, kc, hv, hc⟩ := hn
  exact ⟨na, nc, ba, bc, ka, kc, hv, hc.ext h hS⟩
theorem ShapeR.grow {S : Nat → Prop} {w w' : World} {n : Shp} {v : Value} (hn : ShapeR w S n v) (h : Grow w w') : ShapeR w' S n v := hn.ext h (fun _ _ h => h)
end Go.Proofs.YtoedpagdklagdaaDoor
namespace Go.Proofs.YtoedpagdklagdaaDoor
open Go.RowKit
def shapeL' (n : Shp) (na : Option Addr) (nc : Nat) (ba : Option Addr) (bc : Nat) (ka : Option Addr) (kc : Nat) : List Value :=
  [.int .i64 n.kind, .slice na n.names.length nc, .slice ba n.needs.length bc, .slice ka n.kids.length kc]
def shpHead (x : Shp) : Bool :=
  inR x.kind 0 4 && areNamesB x.names && !(decide (0 < x.names.length) && decide (x.kind ≠ 4)) && decide (x.needs.length = x.names.length) && decide (x.kids.length = x.names.length)
mutual
def shpB : Shp → Nat → Bool
  | ⟨kind, names, needs, kids⟩, d => decide (0 < d) && shpHead ⟨kind, names, needs, kids⟩ && shpL kids (d - 1)
def shpL : List Shp → Nat → Bool
  | [], _ => true
  | k :: ks, d => shpB k d && shpL ks d
end
theorem shpB_eq (x : Shp) (d : Nat) : shpB x d = (decide (0 < d) && shpHead x && shpL x.kids (d - 1)) := by cases x; simp [shpB]
theorem shpL_all (l : List Shp) (d : Nat) : shpL l d = l.all fun k => shpB k d := by
  induction l with
  | nil => simp [shpL]
  | cons a l ih => simp [shpL, ih]
end Go.Proofs.YtoedpagdklagdaaDoor
namespace Go.Proofs.YtoedpagdklagdaaDoor
open Go Go.RowKit
def BoolsF (w : World) (a : Option Addr) (c : Nat) (xs : List Bool) (fp : List Nat) : Prop :=
  xs.length ≤ c ∧ xs.length ≤ big ∧ ((xs = [] ∧ fp = []) ∨ ∃ b o, xs ≠ [] ∧ a = some ⟨b, o, none⟩ ∧ fp = [b] ∧ ∀ i (h : i < xs.length), w.cell? ⟨b, o + i, none⟩ = some (.bool xs[i]))
theorem BoolsF.keep {w w' : World} {a : Option Addr} {c : Nat} {xs : List Bool} {fp : List Nat} (hs : BoolsF w a c xs fp)
    (h : ∀ b ∈ fp, ∀ o, w'.cell? ⟨b, o, none⟩ = w.cell? ⟨b, o, none⟩) : BoolsF w' a c xs fp := by
  obtain ⟨h1, h2, h4⟩ := hs
  refine ⟨h1, h2, h4.imp id ?_⟩
  rintro ⟨b, o, hne, rfl, rfl, hc⟩
  exact ⟨b, o, hne, rfl, rfl, fun i hi => by rw [h b (by simp)]; exact hc i hi⟩
theorem BoolsF.toR {w : World} {a : Option Addr} {c : Nat} {xs : List Bool} {fp : List Nat} (hs : BoolsF w a c xs fp) {S : Nat → Prop} (hS : ∀ b ∈ fp, S b) : BoolsR w S a c xs := by
  obtain ⟨h1, h2, h4⟩ := hs
  refine ⟨h1, h2, h4.imp (fun h => h.1) ?_⟩
  rintro ⟨b, o, _, rfl, rfl, hc⟩
  exact ⟨b, o, rfl, hS b (by simp), hc⟩
mutual
def ShapeF (w : World) : Shp → Option Addr → Nat → Option Addr → Nat → Option Addr → Nat → List Nat → Prop
  | ⟨_, names, needs, kids⟩, na, nc, ba, bc, ka, kc, fp => ∃ f1 f2 f3, fp = f1 ++ f2 ++ f3 ∧ StrsF w na nc names f1 ∧ BoolsF w ba bc needs f2 ∧ kids.length ≤ kc ∧ kids.length ≤ big ∧
      ((kids = [] ∧ f3 = []) ∨ ∃ b o f4, kids ≠ [] ∧ ka = some ⟨b, o, none⟩ ∧ f3 = b :: f4 ∧ ShpsF w b o kids f4)
def ShpsF (w : World) (b : Nat) : Nat → List Shp → List Nat → Prop
  | _, [], fp => fp = []
  | o, k :: ks, fp => ∃ f1 f2, fp = f1 ++ f2 ∧ (∃ na nc ba bc ka kc, w.cell? ⟨b, o, none⟩ = some (.int .i64 k.kind) ∧ w.cell? ⟨b, o + 1, none⟩ = some (.slice na k.names.length nc) ∧ w.cell? ⟨b, o + 2, none⟩ = some (.slice ba k.needs.length bc) ∧
      w.cell? ⟨b, o + 3, none⟩ = some (.slice ka k.kids.length kc) ∧ ShapeF w k na nc ba bc ka kc f1) ∧ ShpsF w b (o + 4) ks f2
end
def ShpLF (w : World) (a : Option Addr) (c : Nat) (l : List Shp) (fp : List Nat) : Prop :=
  l.length ≤ c ∧ l.length ≤ big ∧ ((l = [] ∧ fp = []) ∨ ∃ b o f, l ≠ [] ∧ a = some ⟨b, o, none⟩ ∧ fp = b :: f ∧ ShpsF w b o l f)
theorem ShapeF.mk {w : World} {n : Shp} {na : Option Addr} {nc : Nat} {ba : Option Addr} {bc : Nat} {ka : Option Addr} {kc : Nat} {f1 f2 f3 : List Nat}
    (h2 : StrsF w na nc n.names f1) (h3 : BoolsF w ba bc n.needs f2) (h4 : ShpLF w ka kc n.kids f3) : ShapeF w n na nc ba bc ka kc (f1 ++ f2 ++ f3) := by
  cases n; unfold ShapeF
  exact ⟨f1, f2, f3, rfl, h2, h3, h4⟩
def ShapeO (w : World) (n : Shp) (v : Value) (fp : List Nat) : Prop := ∃ na nc ba bc ka kc, v = shapeV n na nc ba bc ka kc ∧ ShapeF w n na nc ba bc ka kc fp
mutual
theorem ShapeF.keep {w w' : World} : ∀ {n : Shp} {na : Option Addr} {nc : Nat} {ba : Option Addr} {bc : Nat} {ka : Option Addr} {kc : Nat} {fp : List Nat}, ShapeF w n na nc ba bc ka kc fp →
    (∀ b ∈ fp, ∀ o, w'.cell? ⟨b, o, none⟩ = w.cell? ⟨b, o, none⟩) → ShapeF w' n na nc ba bc ka kc fp
  | ⟨_, _, _, kids⟩, na, nc, ba, bc, ka, kc, fp, hn, h => by
    unfold ShapeF at hn ⊢
    obtain ⟨f1, f2, f3, rfl, h1, h2, h3, h4, h5⟩ := hn
    refine ⟨f1, f2, f3, rfl, h1.keep (fun b hb => h b (by simp [hb])), h2.keep (fun b hb => h b (by simp [hb])), h3, h4, h5.imp id ?_⟩
    rintro ⟨b, o, f4, hne, rfl, rfl, hc⟩
    exact ⟨b, o, f4, hne, rfl, rfl, ShpsF.keep hc (fun x hx => h x (by simp [hx])) (fun o' _ _ => h b (by simp) o')⟩
theorem ShpsF.keep {w w' : World} {b : Nat} : ∀ {l : List Shp} {o : Nat} {fp : List Nat}, ShpsF w b o l fp → (∀ x ∈ fp, ∀ o', w'.cell? ⟨x, o', none⟩ = w.cell? ⟨x, o', none⟩) →
    (∀ o', o ≤ o' → o' < o + 4 * l.length → w'.cell? ⟨b, o', none⟩ = w.cell? ⟨b, o', none⟩) → ShpsF w' b o l fp
  | [], _, _, hk, _, _ => by unfold ShpsF at hk ⊢; exact hk
  | k :: ks, o, fp, hk, h, hb => by
    unfold ShpsF at hk ⊢
    obtain ⟨f1, f2, rfl, ⟨na, nc, ba, bc, ka, kc, c0, c1, c2, c3, hn⟩, hr⟩ := hk
    simp only [List.length_cons] at hb
    refine ⟨f1, f2, rfl, ⟨na, nc, ba, bc, ka, kc, ?_, ?_, ?_, ?_, ShapeF.keep hn (fun x hx => h x (by simp [hx]))⟩, ShpsF.keep hr (fun x hx => h x (by simp [hx])) (fun o' h1 h2 => hb o' (by omega) (by omega))⟩
    · rw [hb _ (by omega) (by omega)]; exact c0
    · rw [hb _ (by omega) (by omega)]; exact c1
    · rw [hb _ (by omega) (by omega)]; exact c2
    · rw [hb _ (by omega) (by omega)]; exact c3
end
mutual
theorem ShapeF.toC {w : World} {S : Nat → Prop} : ∀ {n : Shp} {na : Option Addr} {nc : Nat} {ba : Option Addr} {bc : Nat} {ka : Option Addr} {kc : Nat} {fp : List Nat}, ShapeF w n na nc ba bc ka kc fp → (∀ b ∈ fp, S b) → ShapeC w S n na nc ba bc ka kc
  | ⟨_, _, _, kids⟩, na, nc, ba, bc, ka, kc, fp, hn, h => by
    unfold ShapeF at hn; unfold ShapeC
    obtain ⟨f1, f2, f3, rfl, h1, h2, h3, h4, h5⟩ := hn
    refine ⟨h1.toR (fun b hb => h b (by simp [hb])), h2.toR (fun b hb => h b (by simp [hb])), h3, h4, h5.imp (fun h => h.1) ?_⟩
    rintro ⟨b, o, f4, _, rfl, rfl, hc⟩
    exact ⟨b, o, rfl, h b (by simp), ShpsF.toR hc (fun x hx => h x (by simp [hx]))⟩
theorem ShpsF.toR {w : World} {S : Nat → Prop} {b : Nat} : ∀ {l : List Shp} {o : Nat} {fp : List Nat}, ShpsF w b o l fp → (∀ x ∈ fp, S x) → ShpsR w S b o l
  | [], _, _, _, _ => by unfold ShpsR; trivial
  | k :: ks, o, fp, hk, h => by
    unfold ShpsF at hk; unfold ShpsR
    obtain ⟨f1, f2, rfl, ⟨na, nc, ba, bc, ka, kc, c0, c1, c2, c3, hn⟩, hr⟩ := hk
    exact ⟨⟨na, nc, ba, bc, ka, kc, c0, c1, c2, c3, ShapeF.toC hn (fun x hx => h x (by simp [hx]))⟩, ShpsF.toR hr (fun x hx => h x (by simp [hx]))⟩
end
theorem ShapeO.toR {w : World} {n : Shp} {v : Value} {fp : List Nat} (h : ShapeO w n v fp) {S : Nat → Prop} (hS : ∀ b ∈ fp, S b) : ShapeR w S n v := by
  obtain ⟨na, nc, ba, bc, ka, kc, hv, hc⟩ := h
  exact ⟨na, nc, ba, bc, ka, kc, hv, hc.toC hS⟩
theorem ShpsF.snoc {w : World} {b : Nat} {k : Shp} {f' : List Nat} {na : Option Addr} {nc : Nat} {ba : Option Addr} {bc : Nat} {ka : Option Addr} {kc : Nat} : ∀ {l : List Shp} {o : Nat} {fp : List Nat}, ShpsF w b o l fp →
    w.cell? ⟨b, o + 4 * l.length, none⟩ = some (.int .i64 k.kind) → w.cell? ⟨b, o + 4 * l.length + 1, none⟩ = some (.slice na k.names.length nc) → w.cell? ⟨b, o + 4 * l.length + 2, none⟩ = some (.slice ba k.needs.length bc) →
    w.cell? ⟨b, o + 4 * l.length + 3, none⟩ = some (.slice ka k.kids.length kc) → ShapeF w k na nc ba bc ka kc f' →
    ShpsF w b o (l ++ [k]) (fp ++ f')
  | [], o, fp, hk, c0, c1, c2, c3, hn => by
    unfold ShpsF at hk; subst hk
    simp only [List.length_nil, Nat.mul_zero, Nat.add_zero] at c0 c1 c2 c3
    simp only [List.nil_append]
    unfold ShpsF
    exact ⟨f', [], by simp, ⟨na, nc, ba, bc, ka, kc, c0, c1, c2, c3, hn⟩, by unfold ShpsF; rfl⟩
  | x :: l, o, fp, hk, c0, c1, c2, c3, hn => by
    unfold ShpsF at hk
    obtain ⟨f1, f2, rfl, hx, hr⟩ := hk
    have e : o + 4 * (x :: l).length = o + 4 + 4 * l.length := by simp; omega
    rw [e] at c0 c1 c2 c3
    simp only [List.cons_append]
    unfold ShpsF
    exact ⟨f1, f2 ++ f', by simp, hx, ShpsF.snoc hr c0 c1 c2 c3 hn⟩
theorem ShpsF.lay {w : World} {b n : Nat} {l : List Shp} {k : Shp} {fp f' : List Nat} {na : Option Addr} {nc : Nat} {ba : Option Addr} {bc : Nat} {ka : Option Addr} {kc : Nat} (hr : RowIn w b n) (hk : ShpsF w b 0 l fp)
    (hn : ShapeF w k na nc ba bc ka kc f') (hlen : (l.length + 1) * 4 ≤ n) (h1 : b ∉ fp) (h2 : b ∉ f') :
    ShpsF (storeL w b (l.length * 4) (shapeL' k na nc ba bc ka kc)) b 0 (l ++ [k]) (fp ++ f') := by
  have hl : l.length * 4 + (shapeL' k na nc ba bc ka kc).length ≤ n := by show l.length * 4 + 4 ≤ n; omega
  have at' := fun i v h => storeL_at (vs := shapeL' k na nc ba bc ka kc) hr hl i v h
  have other := fun x hx o => storeL_elsewhere b (shapeL' k na nc ba bc ka kc) w (l.length * 4) x o hx
  have e0 : 0 + 4 * l.length = l.length * 4 := by omega
  refine ShpsF.snoc (hk.keep (fun x hx o => other x (fun e => h1 (e ▸ hx)) o) (fun o' _ ho => storeL_below hr hl o' (by omega))) ?_ ?_ ?_ ?_ (hn.keep (fun x hx o => other x (fun e => h2 (e ▸ hx)) o))
  · rw [e0]; exact at' 0 _ rfl
  · rw [e0]; exact at' 1 _ rfl
  · rw [e0]; exact at' 2 _ rfl
  · rw [e0]; exact at' 3 _ rfl
end Go.Proofs.YtoedpagdklagdaaDoor
namespace Go.Proofs.YtoedpagdklagdaaDoor
open Go Go.RowKit
def CellsAt (w : World) (b o : Nat) (cs : List Value) : Prop := ∀ i v, cs[i]? = some v → w.cell? ⟨b, o + i, none⟩ = some v
theorem CellsAt.ext {X : Nat → Prop} {w w' : World} (h : Ext X w w') {b o : Nat} (hb : ¬ X b) {cs : List Value} (hc : CellsAt w b o cs) : CellsAt w' b o cs :=
  fun i v hi => h.some (hc i v hi) hb
theorem CellsAt.keep {w w' : World} {b o : Nat} {cs : List Value} (hc : CellsAt w b o cs) (h : ∀ o', o ≤ o' → o' < o + cs.length → w'.cell? ⟨b, o', none⟩ = w.cell? ⟨b, o', none⟩) : CellsAt w' b o cs :=
  fun i v hi => by
    have := (List.getElem?_eq_some_iff.1 hi).1
    rw [h _ (by omega) (by omega)]; exact hc i v hi
structure Rep (α : Type) where
  n : Nat
  R : World → (Nat → Prop) → α → List Value → Prop
  F : World → α → List Value → List Nat → Prop
  rlen : ∀ {w S x cs}, R w S x cs → cs.length = n
  flen : ∀ {w x cs fp}, F w x cs fp → cs.length = n
  ext : ∀ {X S : Nat → Prop} {w w' x cs}, Ext X w w' → (∀ k, S k → ¬ X k) → R w S x cs → R w' S x cs
  mono : ∀ {S T : Nat → Prop} {w x cs}, (∀ k, S k → T k) → R w S x cs → R w T x cs
  lt : ∀ {S : Nat → Prop} {w x cs}, R w S x cs → R w (fun k => S k ∧ k < w.heap.size) x cs
  keep : ∀ {w w' x cs fp}, F w x cs fp → (∀ b ∈ fp, ∀ o, w'.cell? ⟨b, o, none⟩ = w.cell? ⟨b, o, none⟩) → F w' x cs fp
  toR : ∀ {S : Nat → Prop} {w x cs fp}, F w x cs fp → (∀ b ∈ fp, S b) → R w S x cs
theorem Rep.grow {α : Type} (E : Rep α) {S : Nat → Prop} {w w' : World} {x : α} {cs : List Value} (h : E.R w S x cs) (hg : Grow w w') : E.R w' S x cs := E.ext hg (fun _ _ h => h) h
def intRep : Rep Int where
  n := 1
  R := fun _ _ x cs => cs = [.int .i64 x]
  F := fun _ x cs fp => cs = [.int .i64 x] ∧ fp = []
  rlen := fun h => by rw [h]; rfl
  flen := fun h => by rw [h.1]; rfl
  ext := fun _ _ h => h
  mono := fun _ h => h
  lt := fun h => h
  keep := fun h _ => h
  toR := fun h _ => h.1
def strRep : Rep ByteArray where
  n := 1
  R := fun _ _ x cs => cs = [.string x] ∧ x.size ≤ big
  F := fun _ x cs fp => cs = [.string x] ∧ x.size ≤ big ∧ fp = []
  rlen := fun h => by rw [h.1]; rfl
  flen := fun h => by rw [h.1]; rfl
  ext := fun _ _ h => h
  mono := fun _ h => h
  lt := fun h => h
  keep := fun h _ => h
  toR := fun h _ => ⟨h.1, h.2.1⟩
def pairRep {α β : Type} (A : Rep α) (B : Rep β) : Rep (α × β) where
  n := A.n + B.n
  R := fun w S x cs => ∃ c d, cs = c ++ d ∧ A.R w S x.1 c ∧ B.R w S x.2 d
  F := fun w x cs fp => ∃ c d f g, cs = c ++ d ∧ fp = f ++ g ∧ A.F w x.1 c f ∧ B.F w x.2 d g
  rlen := by rintro w S x cs ⟨c, d, rfl, h1, h2⟩; rw [List.length_append, A.rlen h1, B.rlen h2]
  flen := by rintro w x cs fp ⟨c, d, f, g, rfl, rfl, h1, h2⟩; rw [List.length_append, A.flen h1, B.flen h2]
  ext := by rintro X S w w' x cs h hS ⟨c, d, rfl, h1, h2⟩; exact ⟨c, d, rfl, A.ext h hS h1, B.ext h hS h2⟩
  mono := by rintro S T w x cs h ⟨c, d, rfl, h1, h2⟩; exact ⟨c, d, rfl, A.mono h h1, B.mono h h2⟩
  lt := by rintro S w x cs ⟨c, d, rfl, h1, h2⟩; exact ⟨c, d, rfl, A.lt h1, B.lt h2⟩
  keep := by rintro w w' x cs fp ⟨c, d, f, g, rfl, rfl, h1, h2⟩ h; exact ⟨c, d, f, g, rfl, rfl, A.keep h1 (fun b hb => h b (by simp [hb])), B.keep h2 (fun b hb => h b (by simp [hb]))⟩
  toR := by rintro S w x cs fp ⟨c, d, f, g, rfl, rfl, h1, h2⟩ h; exact ⟨c, d, rfl, A.toR h1 (fun b hb => h b (by simp [hb])), B.toR h2 (fun b hb => h b (by simp [hb]))⟩
section slices
variable {α : Type} (E : Rep α)
def SlR (w : World) (S : Nat → Prop) (a : Option Addr) (c : Nat) (l : List α) : Prop :=
  l.length ≤ c ∧ l.length ≤ big ∧ (l = [] ∨ ∃ b o, a = some ⟨b, o, none⟩ ∧ S b ∧ ∀ i (h : i < l.length), ∃ cs, CellsAt w b (o + i * E.n) cs ∧ E.R w S l[i] cs)
def RowF (w : World) (b : Nat) : Nat → List α → List Nat → Prop
  | _, [], fp => fp = []
  | o, x :: l, fp => ∃ f1 f2 cs, fp = f1 ++ f2 ∧ CellsAt w b o cs ∧ E.F w x cs f1 ∧ RowF w b (o + E.n) l f2
def SlF (w : World) (a : Option Addr) (c : Nat) (l : List α) (fp : List Nat) : Prop :=
  l.length ≤ c ∧ l.length ≤ big ∧ ((l = [] ∧ fp = []) ∨ ∃ b o f, l ≠ [] ∧ a = some ⟨b, o, none⟩ ∧ fp = b :: f ∧ RowF E w b o l f)
variable {E}
theorem RowF.keep {w w' : World} {b : Nat} : ∀ {l : List α} {o : Nat} {fp : List Nat}, RowF E w b o l fp → (∀ x ∈ fp, ∀ o', w'.cell? ⟨x, o', none⟩ = w.cell? ⟨x, o', none⟩) →
    (∀ o', o ≤ o' → o' < o + l.length * E.n → w'.cell? ⟨b, o', none⟩ = w.cell? ⟨b, o', none⟩) → RowF E w' b o l fp
  | [], _, _, hk, _, _ => hk
  | x :: l, o, fp, hk, h, hb => by
    obtain ⟨f1, f2, cs, rfl, hc, hx, hr⟩ := hk
    have hl := E.flen hx
    have e : (x :: l).length * E.n = l.length * E.n + E.n := by simp [Nat.succ_mul]
    rw [e] at hb
    exact ⟨f1, f2, cs, rfl, hc.keep (fun o' h1 h2 => hb o' h1 (by omega)), E.keep hx (fun b hb => h b (by simp [hb])), RowF.keep hr (fun b hb => h b (by simp [hb])) (fun o' h1 h2 => hb o' (by omega) (by omega))⟩
theorem RowF.toR {S : Nat → Prop} {w : World} {b : Nat} : ∀ {l : List α} {o : Nat} {fp : List Nat}, RowF E w b o l fp → (∀ x ∈ fp, S x) → ∀ i (h : i < l.length), ∃ cs, CellsAt w b (o + i * E.n) cs ∧ E.R w S l[i] cs
  | [], _, _, _, _, i, h => absurd h (by simp)
  | x :: l, o, fp, hk, h, 0, _ => by
    obtain ⟨f1, f2, cs, rfl, hc, hx, _⟩ := hk
    exact ⟨cs, by simpa using hc, E.toR hx (fun b hb => h b (by simp [hb]))⟩
  | x :: l, o, fp, hk, h, i + 1, hi => by
    obtain ⟨f1, f2, cs, rfl, _, _, hr⟩ := hk
    have := RowF.toR hr (fun b hb => h b (by simp [hb])) i (by simpa using hi)
    rw [show o + (i + 1) * E.n = o + E.n + i * E.n by rw [Nat.succ_mul]; omega]
    simpa using this
theorem SlF.keep {w w' : World} {a : Option Addr} {c : Nat} {l : List α} {fp : List Nat} (hs : SlF E w a c l fp)
    (h : ∀ b ∈ fp, ∀ o, w'.cell? ⟨b, o, none⟩ = w.cell? ⟨b, o, none⟩) : SlF E w' a c l fp := by
  obtain ⟨h1, h2, h4⟩ := hs
  refine ⟨h1, h2, h4.imp id ?_⟩
  rintro ⟨b, o, f, hne, rfl, rfl, hc⟩
  exact ⟨b, o, f, hne, rfl, rfl, hc.keep (fun x hx => h x (by simp [hx])) (fun o' _ _ => h b (by simp) o')⟩
theorem SlF.toR {S : Nat → Prop} {w : World} {a : Option Addr} {c : Nat} {l : List α} {fp : List Nat} (hs : SlF E w a c l fp) (hS : ∀ b ∈ fp, S b) : SlR E w S a c l := by
  obtain ⟨h1, h2, h4⟩ := hs
  refine ⟨h1, h2, h4.imp (fun h => h.1) ?_⟩
  rintro ⟨b, o, f, _, rfl, rfl, hc⟩
  exact ⟨b, o, rfl, hS b (by simp), hc.toR (fun x hx => hS x (by simp [hx]))⟩
theorem SlR.ext {X S : Nat → Prop} {w w' : World} (h : Ext X w w') (hS : ∀ k, S k → ¬ X k) {a : Option Addr} {c : Nat} {l : List α} (hs : SlR E w S a c l) : SlR E w' S a c l := by
  obtain ⟨h1, h2, h4⟩ := hs
  refine ⟨h1, h2, h4.imp id ?_⟩
  rintro ⟨b, o, rfl, hb, hc⟩
  exact ⟨b, o, rfl, hb, fun i hi => by obtain ⟨cs, h1, h2⟩ := hc i hi; exact ⟨cs, h1.ext h (hS b hb), E.ext h hS h2⟩⟩
theorem SlR.grow {S : Nat → Prop} {w w' : World} {a : Option Addr} {c : Nat} {l : List α} (hs : SlR E w S a c l) (h : Grow w w') : SlR E w' S a c l := hs.ext h (fun _ _ h => h)
theorem SlR.mono {S T : Nat → Prop} {w : World} (h : ∀ k, S k → T k) {a : Option Addr} {c : Nat} {l : List α} (hs : SlR E w S a c l) : SlR E w T a c l := by
  obtain ⟨h1, h2, h4⟩ := hs
  refine ⟨h1, h2, h4.imp id ?_⟩
  rintro ⟨b, o, rfl, hb, hc⟩
  exact ⟨b, o, rfl, h b hb, fun i hi => by obtain ⟨cs, h1, h2⟩ := hc i hi; exact ⟨cs, h1, E.mono h h2⟩⟩
theorem CellsAt.lt {w : World} {b o : Nat} {cs : List Value} (hc : CellsAt w b o cs) (h : cs ≠ []) : b < w.heap.size := by
  cases cs with
  | nil => exact absurd rfl h
  | cons v vs => exact lt_of_cell (hc 0 v rfl)
theorem RowF.snoc {w : World} {b : Nat} {x : α} {cs : List Value} {f' : List Nat} : ∀ {l : List α} {o : Nat} {fp : List Nat}, RowF E w b o l fp → CellsAt w b (o + l.length * E.n) cs → E.F w x cs f' → RowF E w b o (l ++ [x]) (fp ++ f')
  | [], o, fp, hk, hc, hx => by
    cases hk
    exact ⟨f', [], cs, by simp, by simpa using hc, hx, rfl⟩
  | y :: l, o, fp, hk, hc, hx => by
    obtain ⟨f1, f2, cs', rfl, h1, h2, hr⟩ := hk
    have e : o + (y :: l).length * E.n = o + E.n + l.length * E.n := by simp [Nat.succ_mul]; omega
    rw [e] at hc
    exact ⟨f1, f2 ++ f', cs', by simp, h1, h2, RowF.snoc hr hc hx⟩
theorem RowF.lay {w : World} {b n : Nat} {l : List α} {x : α} {cs : List Value} {fp f' : List Nat} (hr : RowIn w b n) (hk : RowF E w b 0 l fp) (hn : E.F w x cs f') (hlen : (l.length + 1) * E.n ≤ n) (h1 : b ∉ fp) (h2 : b ∉ f') :
    RowF E (storeL w b (l.length * E.n) cs) b 0 (l ++ [x]) (fp ++ f') := by
  have hcl := E.flen hn
  rw [Nat.succ_mul] at hlen
  have hl : l.length * E.n + cs.length ≤ n := by omega
  have other := fun x hx o => storeL_elsewhere b cs w (l.length * E.n) x o hx
  refine RowF.snoc (hk.keep (fun x hx o => other x (fun e => h1 (e ▸ hx)) o) (fun o' _ ho => storeL_below hr hl o' (by omega))) ?_ (E.keep hn (fun x hx o => other x (fun e => h2 (e ▸ hx)) o))
  intro i v hi
  rw [Nat.zero_add]
  exact storeL_at hr hl i v hi
end slices
def slRep {α : Type} (E : Rep α) (h0 : 0 < E.n) : Rep (List α) where
  n := 1
  R := fun w S l cs => ∃ a c, cs = [.slice a l.length c] ∧ SlR E w S a c l
  F := fun w l cs fp => ∃ a c, cs = [.slice a l.length c] ∧ SlF E w a c l fp
  rlen := by rintro w S x cs ⟨a, c, rfl, _⟩; rfl
  flen := by rintro w x cs fp ⟨a, c, rfl, _⟩; rfl
  ext := by rintro X S w w' x cs h hS ⟨a, c, rfl, hs⟩; exact ⟨a, c, rfl, hs.ext h hS⟩
  mono := by rintro S T w x cs h ⟨a, c, rfl, hs⟩; exact ⟨a, c, rfl, hs.mono h⟩
  lt := by
    rintro S w l cs ⟨a, c, rfl, h1, h2, h3⟩
    refine ⟨a, c, rfl, h1, h2, ?_⟩
    rcases Nat.eq_zero_or_pos l.length with hl | hl
    · exact .inl (List.length_eq_zero_iff.1 hl)
    rcases h3 with h3 | ⟨b, o, rfl, hb, hc⟩
    · exact .inl h3
    · refine .inr ⟨b, o, rfl, ⟨hb, ?_⟩, fun i hi => by obtain ⟨cs, h1, h2⟩ := hc i hi; exact ⟨cs, h1, E.lt h2⟩⟩
      obtain ⟨cs, h1, h2⟩ := hc 0 hl
      exact h1.lt (by intro e; have := E.rlen h2; rw [e] at this; simp at this; omega)
  keep := by rintro w w' x cs fp ⟨a, c, rfl, hs⟩ h; exact ⟨a, c, rfl, hs.keep h⟩
  toR := by rintro S w x cs fp ⟨a, c, rfl, hs⟩ h; exact ⟨a, c, rfl, hs.toR h⟩
end Go.Proofs.YtoedpagdklagdaaDoor
namespace Go.Proofs.YtoedpagdklagdaaDoor
open Go.RowKit
theorem txt_size (l : List UInt8) : (txt l).size = l.length := by show (txt l).data.size = _; simp [txt]
end Go.Proofs.YtoedpagdklagdaaDoor
namespace Go.Proofs.YtoedpagdklagdaaDoor
open Go.RowKit
def inl (fp : List Nat) (k : Nat) : Prop := k ∈ fp
theorem Free.sub {B : Nat} {w w' : World} {fp fx : List Nat} (h : Free B w fp) (he : Ext (inl fx) w w') (hx : ∀ b ∈ fx, ∀ o, w'.frozen? ⟨b, o, none⟩ = false) : Free B w' fp := by
  refine ⟨h.1, fun b hb => ⟨(h.2 b hb).1, Nat.lt_of_lt_of_le (h.2 b hb).2.1 he.size, fun o => ?_⟩⟩
  by_cases hbx : b ∈ fx
  · exact hx b hbx o
  · rw [he.frozen (p := ⟨b, o, none⟩) (h.2 b hb).2.1 hbx]; exact (h.2 b hb).2.2 o
def RowAt (w : World) (b o n : Nat) : Prop := b < w.heap.size ∧ (∀ j, j < n → ∃ u, w.cell? ⟨b, o + j, none⟩ = some u) ∧ ∀ j, w.frozen? ⟨b, j, none⟩ = false
theorem RowAt.ext {X : Nat → Prop} {w w' : World} {b o n : Nat} (h : Ext X w w') (hx : ¬ X b) (hr : RowAt w b o n) : RowAt w' b o n := by
  obtain ⟨h1, h2, h3⟩ := hr
  refine ⟨Nat.lt_of_lt_of_le h1 h.size, fun j hj => ?_, fun j => ?_⟩
  · rw [h.cell (p := ⟨b, o + j, none⟩) h1 hx]; exact h2 j hj
  · rw [h.frozen (p := ⟨b, j, none⟩) h1 hx]; exact h3 j
theorem RowAt.setCell {w : World} {b o n : Nat} (hr : RowAt w b o n) (p : Addr) (v : Value) : RowAt (w.setCell p v) b o n := by
  obtain ⟨h1, h2, h3⟩ := hr
  refine ⟨by rw [size_setCell]; exact h1, fun j hj => cell?_setCell_some (h2 j hj).choose_spec, fun j => ?_⟩
  rw [World.frozen?_setCell]; exact h3 j
end Go.Proofs.YtoedpagdklagdaaDoor
namespace Go.Proofs.YtoedpagdklagdaaDoor
open Go.RowKit
theorem KidsF.append {w : World} {b : Nat} : ∀ {l m : List Nd} {o : Nat} {f g : List Nat}, KidsF w b o l f → KidsF w b (o + l.length * 5) m g → KidsF w b o (l ++ m) (f ++ g)
  | [], m, o, f, g, h1, h2 => by
    unfold KidsF at h1; subst h1; simpa using h2
  | x :: l, m, o, f, g, h1, h2 => by
    unfold KidsF at h1
    obtain ⟨f1, f2, rfl, hx, hr⟩ := h1
    rw [List.cons_append]; unfold KidsF
    refine ⟨f1, f2 ++ g, by simp, hx, KidsF.append hr ?_⟩
    rw [show o + 5 + l.length * 5 = o + (x :: l).length * 5 by simp; omega]
    exact h2
theorem KidsF.split {w : World} {b : Nat} : ∀ {l m : List Nd} {o : Nat} {fp : List Nat}, KidsF w b o (l ++ m) fp → ∃ f g, fp = f ++ g ∧ KidsF w b o l f ∧ KidsF w b (o + l.length * 5) m g
  | [], m, o, fp, h => ⟨[], fp, rfl, by unfold KidsF; rfl, by simpa using h⟩
  | x :: l, m, o, fp, h => by
    rw [List.cons_append] at h; unfold KidsF at h
    obtain ⟨f1, f2, rfl, hx, hr⟩ := h
    obtain ⟨f, g, rfl, h1, h2⟩ := KidsF.split hr
    rw [show o + 5 + l.length * 5 = o + (x :: l).length * 5 by simp; omega] at h2
    exact ⟨f1 ++ f, g, by simp, by unfold KidsF; exact ⟨f1, f, rfl, hx, h1⟩, h2⟩
theorem set_ne (w : World) (b p b' q : Nat) (v : Value) (h : b' ≠ b ∨ q ≠ p) : (w.setCell ⟨b, p, none⟩ v).cell? ⟨b', q, none⟩ = w.cell? ⟨b', q, none⟩ :=
  World.cell?_setCell_other _ _ _ _ (by intro e; cases e; rcases h with h | h <;> exact h rfl)
end Go.Proofs.YtoedpagdklagdaaDoor
namespace Go.Proofs.YtoedpagdklagdaaDoor
open Go.RowKit
end Go.Proofs.YtoedpagdklagdaaDoor
namespace Go.Proofs.YtoedpagdklagdaaDoor
open Go.RowKit
end Go.Proofs.YtoedpagdklagdaaDoor
namespace Go.Proofs.YtoedpagdklagdaaDoor
open Go.RowKit
end Go.Proofs.YtoedpagdklagdaaDoor
namespace Go.Proofs.YtoedpagdklagdaaDoor
open Go.RowKit
def Good (n : Nd) : Prop := ∃ d, shapeB n d = true
def GoodS (x : Shp) : Prop := ∃ d, d ≤ 5 ∧ shpB x d = true
theorem Good.parts {n : Nd} (h : Good n) : partsB n = true := by
  obtain ⟨d, h⟩ := h
  rw [shapeB_eq] at h
  simp only [Bool.and_eq_true] at h
  exact h.1.2
theorem Good.kid {n k : Nd} (h : Good n) (hk : k ∈ n.kids) : Good k := by
  obtain ⟨d, h⟩ := h
  rw [shapeB_eq, shapeL_all] at h
  simp only [Bool.and_eq_true, List.all_eq_true] at h
  exact ⟨d - 1, h.2 k hk⟩
theorem Good.zero : Good Nd.zero := ⟨1, by simp [shapeB_eq, partsB, Nd.zero, shapeL]⟩
theorem Good.map {n : Nd} (h : Good n) (hk : n.kind = 4) : Asc n.names ∧ n.kids.length = n.names.length := by
  have hp := h.parts
  simp only [partsB, hk, Bool.and_eq_true] at hp
  simp [areNamesB] at hp
  exact ⟨namesB_asc hp.2.1.2, hp.2.2⟩
theorem Good.other {n : Nd} (h : Good n) (hk : n.kind ≠ 4) : n.names = [] := by
  have hp := h.parts
  simp only [partsB, hk, Bool.and_eq_true] at hp
  simp at hp
  exact hp.1.2
theorem Good.asc {n : Nd} (h : Good n) : Asc n.names := by
  by_cases hk : n.kind = 4
  · exact (h.map hk).1
  · rw [h.other hk]; intro i j hi; simp at hi
theorem Good.len {n : Nd} (h : Good n) : n.names.length ≤ n.kids.length := by
  by_cases hk : n.kind = 4
  · rw [(h.map hk).2]; exact Nat.le_refl _
  · rw [h.other hk]; exact Nat.zero_le _
theorem Good.kidOf {n : Nd} (h : Good n) (s : ByteArray) : Good (kidOf n s) := by
  cases hm : mem n.names s
  · rw [kidOf_no hm]; exact Good.zero
  · exact h.kid (kidOf_mem h.asc h.len hm)
theorem GoodS.kid {x k : Shp} (h : GoodS x) (hk : k ∈ x.kids) : GoodS k := by
  obtain ⟨d, hd, h⟩ := h
  rw [shpB_eq, shpL_all] at h
  simp only [Bool.and_eq_true, List.all_eq_true] at h
  exact ⟨d - 1, by omega, h.2 k hk⟩
end Go.Proofs.YtoedpagdklagdaaDoor
namespace Go.Proofs.YtoedpagdklagdaaDoor
open Go Go.RowKit
section
variable {P : Program} {ops : Array Oper} {Vs : Nat → Option (Value → World → Prop)} {w : World} {Q : Act → World → Prop}
theorem drew_grow {w w' : World} (h : Grow w.drew w') : Grow w w' := ((Ext.refl nil w).drew).trans h
theorem wpStab_made {o : Oper} {rest : List Oper} {k : Nat} {a : Act} {E : Env} (V : Value → World → Prop) (hw : Region.wanted o (yielded ops a.tmps) = true) (hV : Vs k = some V)
    (h : ∀ x : Later w, (∀ e ∈ o.after, Region.binds .any e = true → E e.on (later w x)) → stabAt Grow P o a (later w x) V)
    (h2 : ∀ v, wpStab P ops Grow Vs (fun w' => Grow w.drew w') Q rest (k + 1) (a.put o.dst v) (E.upd k (V v))) :
    wpStab P ops Grow Vs (fun w' => Grow w.drew w') Q (o :: rest) k a E := by
  unfold wpStab
  rw [if_pos hw]
  unfold does
  rw [hV]
  exact ⟨fun w' hc => h ⟨w', drew_grow hc.1⟩ hc.2, fun v w' _ _ _ => h2 v⟩
theorem wpStab_const {o : Oper} {rest : List Oper} {k : Nat} {a : Act} {E : Env} (c : Value) (hw : Region.wanted o (yielded ops a.tmps) = true) (hV : Vs k = some (fun v _ => v = c))
    (h : ∀ x : Later w, (∀ e ∈ o.after, Region.binds .any e = true → E e.on (later w x)) → stabAt Grow P o a (later w x) (fun v _ => v = c))
    (h2 : wpStab P ops Grow Vs (fun w' => Grow w.drew w') Q rest (k + 1) (a.put o.dst c) (E.upd k (fun _ => True))) :
    wpStab P ops Grow Vs (fun w' => Grow w.drew w') Q (o :: rest) k a E := by
  unfold wpStab
  rw [if_pos hw]
  unfold does
  rw [hV]
  refine ⟨fun w' hc => h ⟨w', drew_grow hc.1⟩ hc.2, fun v w' _ _ hv => ?_⟩
  subst hv
  have : (fun (u : Value) (_ : World) => u = v) v = (fun _ => True) := by funext _; simp
  rw [this]
  exact h2
theorem wpStab_end {k : Nat} {a : Act} {E : Env} (h : ∀ w', Grow w w' → Q a w') : wpStab P ops Grow Vs (fun w' => Grow w.drew w') Q [] k a E :=
  fun w' hc _ => h w' (drew_grow hc)
theorem stabAt_call {o : Oper} {a : Act} {w : World} {V : Value → World → Prop} {f : FuncId} {args : Array Value} (h : (execOp a.eval o).run P w = .ok (.enter f args) w)
    (hc : Calls P f args w fun e w' => ∃ v, e = .returned v ∧ Grow w w' ∧ V v w') : stabAt Grow P o a w V := by
  unfold stabAt
  rw [h]
  exact ⟨rfl, hc⟩
end
end Go.Proofs.YtoedpagdklagdaaDoor
namespace Go.Proofs.YtoedpagdklagdaaDoor
open Go Go.RowKit
def easy (o : Oper) : Bool :=
  match o.op with
  | .move _ | .assign _ | .pick _ _ _ | .load _ _ | .fieldAddr _ _ _ | .indexAddr _ _ _ | .index _ _ _ | .field _ _ _ | .extract _ _ | .binOp _ _ _ _ _ | .unOp _ _ _ | .convert _ _ _ | .slice _ _ _ _ _ | .build _ _ => true
  | .call { callee := .builtin .len, args := _, argTypes := _ } => true
  | _ => false
theorem pureVal_run {P : Program} (s : Sem Value) (w w' : World) (f : FuncId) (args : Array Value) : (do pure (Next.value (← s)) : Sem Next).run P w ≠ .ok (.enter f args) w' := by
  intro h
  have : (do pure (Next.value (← s)) : Sem Next).run P w = (s.run P w).andThen fun a w' => .ok (.value a) w' := by
    simp [Result.andThen]
  rw [this] at h
  cases hs : s.run P w with
  | ok a w1 => rw [hs] at h; simp [Result.andThen] at h
  | halt x w1 => rw [hs] at h; simp [Result.andThen] at h
theorem noEnter {P : Program} {o : Oper} (he : easy o = true) (ρ : Operand → Value) (w w' : World) (f : FuncId) (args : Array Value) : (execOp ρ o).run P w ≠ .ok (.enter f args) w' := by
  obtain ⟨dst, op, type, pos, after, guard⟩ := o
  cases op <;> simp only [easy, Bool.false_eq_true] at he
  case move x => intro h; simp [execOp] at h
  case assign x => intro h; simp [execOp] at h
  case pick c a b =>
    intro h
    have : (execOp ρ ⟨dst, .pick c a b, type, pos, after, guard⟩).run P w = ((asBool (ρ c)).run P w).andThen fun q w' => .ok (.value (if q then ρ a else ρ b)) w' := by
      simp [execOp, Result.andThen]
    rw [this] at h
    cases hs : (asBool (ρ c)).run P w with
    | ok a w1 => rw [hs] at h; simp [Result.andThen] at h
    | halt x w1 => rw [hs] at h; simp [Result.andThen] at h
  case load t a => exact pureVal_run _ _ _ _ _
  case fieldAddr => exact pureVal_run _ _ _ _ _
  case indexAddr => exact pureVal_run _ _ _ _ _
  case index => exact pureVal_run _ _ _ _ _
  case field => exact pureVal_run _ _ _ _ _
  case extract => exact pureVal_run _ _ _ _ _
  case binOp => exact pureVal_run _ _ _ _ _
  case unOp => exact pureVal_run _ _ _ _ _
  case convert => exact pureVal_run _ _ _ _ _
  case slice => exact pureVal_run _ _ _ _ _
  case build => exact pureVal_run _ _ _ _ _
  case call c =>
    obtain ⟨callee, args', tys⟩ := c
    cases callee with
    | value x => simp at he
    | invoke r m => simp at he
    | builtin b =>
      cases b <;> simp at he
      intro h
      simp [execOp, resolve, invoke, builtin] at h
      cases hs : (Builtin.len_ tys type (Array.map ρ args')).run P w with
      | ok a w1 => rw [hs] at h; simp [Result.andThen] at h
      | halt x w1 => rw [hs] at h; simp [Result.andThen] at h
section
variable {P : Program} {ops : Array Oper} {Vs : Nat → Option (Value → World → Prop)} {w : World} {Q : Act → World → Prop}
theorem wpStab_quiet {o : Oper} {rest : List Oper} {k : Nat} {a : Act} {E : Env} (he : easy o = true) (hw : Region.wanted o (yielded ops a.tmps) = true) (hV : Vs k = none)
    (h : ∀ K : Act → Prop, (∀ a, wpStab P ops Grow Vs (fun w' => Grow w.drew w') Q rest (k + 1) a E → K a) → o.quiet P a (fun w' => ∃ x, w' = later w x) K) :
    wpStab P ops Grow Vs (fun w' => Grow w.drew w') Q (o :: rest) k a E := by
  unfold wpStab
  rw [if_pos hw]
  unfold does
  rw [hV]
  obtain ⟨v, h1, h2⟩ := h _ (fun _ h => h)
  refine ⟨v, fun w' hc => ?_, h2⟩
  have h3 := h1 w' ⟨⟨w', drew_grow hc.1⟩, rfl⟩
  unfold Oper.quietAt at h3
  unfold valAt
  have hne := noEnter (P := P) he a.eval w'
  generalize (execOp a.eval o).run P w' = r at *
  cases r with
  | ok n w2 =>
    cases n <;> simp only [Oper.quietUpon] at h3 <;> simp only [valUpon]
    case value u => exact ⟨h3.2, by rw [h3.1]; exact Ext.refl _ _⟩
    case skip => exact ⟨h3.2, by rw [h3.1]; exact Ext.refl _ _⟩
    case enter f args => exact absurd rfl (hne w2 f args)
  | halt x w2 => simp only [Oper.quietUpon] at h3
end
end Go.Proofs.YtoedpagdklagdaaDoor
namespace Go.Proofs.YtoedpagdklagdaaDoor
open Go.RowKit
mutual
def mis : Shp → Nd → Option (List ByteArray)
  | ⟨kind, names, needs, kids⟩, n => if kind = 0 then none else if kind ≠ n.kind then some [] else misL names needs kids n
def misL : List ByteArray → List Bool → List Shp → Nd → Option (List ByteArray)
  | nm :: ns, nd :: bs, k :: ks, n => if mem n.names nm then (match mis k (kidOf n nm) with | some p => some (nm :: p) | none => misL ns bs ks n) else if nd then some [nm] else misL ns bs ks n
  | _, _, _, _ => none
end
theorem mis_eq (x : Shp) (n : Nd) : mis x n = if x.kind = 0 then none else if x.kind ≠ n.kind then some [] else misL x.names x.needs x.kids n := by cases x; simp [mis]
def MisR (w w' : World) (r : Option (List ByteArray)) (v : Value) : Prop :=
  ∃ a c fp, v = .tuple #[.slice a (r.getD []).length c, .bool r.isSome] ∧ StrsF w' a c (r.getD []) fp ∧ Free w.heap.size w' fp ∧ (r.getD [] = [] → a = none ∧ c = 0)
theorem MisR.grow {w w' w'' : World} {r : Option (List ByteArray)} {v : Value} (h : MisR w w' r v) (hg : Grow w' w'') : MisR w w'' r v := by
  obtain ⟨a, c, fp, hv, h1, h2, h3⟩ := h
  exact ⟨a, c, fp, hv, h1.keep (hg.keeps h2 (fun _ _ h => h)), h2.ext hg (fun _ _ h => h), h3⟩
theorem MisR.none (w w' : World) : MisR w w' .none (.tuple #[.slice .none 0 0, .bool false]) :=
  ⟨.none, 0, [], rfl, ⟨Nat.le_refl _, Nat.zero_le _, by simp, .inl ⟨rfl, rfl⟩⟩, Free.nil _ _, fun _ => ⟨rfl, rfl⟩⟩
theorem MisR.nil (w w' : World) : MisR w w' (some []) (.tuple #[.slice .none 0 0, .bool true]) :=
  ⟨.none, 0, [], rfl, ⟨Nat.le_refl _, Nat.zero_le _, by simp, .inl ⟨rfl, rfl⟩⟩, Free.nil _ _, fun _ => ⟨rfl, rfl⟩⟩
theorem strs_of_row {w : World} {B : Nat} {T : TypeId} {v : Value} {n : Nat} {xs : List ByteArray} (h : w.ownsRow B T 1 v n (xs.map Value.string)) (hx : ∀ x ∈ xs, x.size ≤ big) :
    ∃ a c fp, v = .slice a xs.length c ∧ StrsF w a c xs fp ∧ Free B w fp ∧ (xs = [] → fp = []) := by
  obtain ⟨h1, h2⟩ := h
  have hn : n = xs.length := by simp at h1; omega
  subst hn
  rcases h2 with ⟨rfl, h0⟩ | ⟨g, cap, cur, rfl, hb, hg, hle, hcap, hcs, htake⟩
  · have : xs = [] := List.length_eq_zero_iff.1 h0
    subst this
    exact ⟨none, 0, [], rfl, ⟨Nat.le_refl _, Nat.zero_le _, by simp, .inl ⟨rfl, rfl⟩⟩, Free.nil _ _, fun _ => rfl⟩
  · have hlen : xs.length ≤ big := by unfold maxLen at hcap; unfold big; omega
    by_cases he : xs = []
    · subst he
      exact ⟨_, _, [], rfl, ⟨Nat.zero_le _, Nat.zero_le _, by simp, .inl ⟨rfl, rfl⟩⟩, Free.nil _ _, fun _ => rfl⟩
    · refine ⟨_, _, [g], rfl, ⟨hle, hlen, hx, .inr ⟨g, 0, he, rfl, rfl, fun i hi => ?_⟩⟩, ⟨by simp, fun b hb' => ?_⟩, fun h => absurd h he⟩
      · unfold World.cell?
        simp only [hg, Nat.zero_add]
        have : cur.toList[i]? = some (Value.string xs[i]) := by
          have h3 : (cur.toList.take (xs.length * 1))[i]? = some (Value.string xs[i]) := by rw [htake]; simp [hi]
          rw [List.getElem?_take] at h3
          rw [if_pos (by omega)] at h3
          exact h3
        rw [Array.getElem?_toList] at this
        simpa [World.frozen?] using this
      · simp at hb'
        subst hb'
        refine ⟨hb, (Array.getElem?_eq_some_iff.1 hg).1, fun o => ?_⟩
        unfold World.frozen?
        simp [hg]
theorem MisR.one (W w : World) (x : ByteArray) (T : TypeId) (b : Nat) (hb : b = w.heap.size) (h : W.heap.size ≤ w.heap.size) (hx : x.size ≤ big) :
    MisR W (w.alloc (.cells #[.string x] T)) (some [x]) (.tuple #[.slice (some ⟨b, 0, Option.none⟩) 1 1, .bool true]) := by
  subst hb
  refine ⟨_, _, [w.heap.size], rfl, ⟨Nat.le_refl _, by simp [big], by simpa using hx, .inr ⟨_, 0, by simp, rfl, rfl, fun i hi => ?_⟩⟩, ⟨by simp, fun b hb => ?_⟩, fun h => by simp at h⟩
  · simp at hi
    subst hi
    rw [World.cell?_alloc_new]; rfl
  · simp at hb
    subst hb
    exact ⟨h, by simp, fun o => World.frozen?_alloc_new w _ T o⟩
theorem addr_add (b o j : Nat) : (⟨b, o, Option.none⟩ : Addr).add j = ⟨b, o + j, Option.none⟩ := by unfold Addr.add; split <;> simp_all
theorem MisR.row {w w' : World} {T : TypeId} {v : Value} {n : Nat} {x : ByteArray} {p : List ByteArray} (h : w'.ownsRow w.heap.size T 1 v n ((x :: p).map Value.string)) (hx : ∀ y ∈ x :: p, y.size ≤ big) :
    MisR w w' (some (x :: p)) (.tuple #[v, .bool true]) := by
  obtain ⟨a, c, fp, hv, h1, h2, _⟩ := strs_of_row h hx
  exact ⟨a, c, fp, by rw [hv]; rfl, h1, h2, fun h => by simp at h⟩
theorem MisR.base {w0 w w' : World} {r : Option (List ByteArray)} {v : Value} (h : MisR w w' r v) (hs : w0.heap.size ≤ w.heap.size) : MisR w0 w' r v := by
  obtain ⟨a, c, fp, hv, h1, h2, h3⟩ := h
  exact ⟨a, c, fp, hv, h1, h2.mono hs, h3⟩
theorem misL_len (n : Nd) (d : Nat) : ∀ (ks : List Shp), (∀ k ∈ ks, ∀ m p, mis k m = some p → p.length ≤ d) → ∀ ns bs p, misL ns bs ks n = some p → p.length ≤ d + 1
  | [], _, ns, bs, p, h => by cases ns <;> cases bs <;> simp [misL] at h
  | k :: ks, hk, [], bs, p, h => by simp [misL] at h
  | k :: ks, hk, nm :: ns, [], p, h => by simp [misL] at h
  | k :: ks, hk, nm :: ns, nd :: bs, p, h => by
    rw [misL] at h
    by_cases hm : mem n.names nm = true
    · rw [if_pos hm] at h
      cases hx : mis k (kidOf n nm) with
      | none => rw [hx] at h; exact misL_len n d ks (fun k' hk' => hk k' (by simp [hk'])) ns bs p h
      | some q =>
        rw [hx] at h
        simp at h
        subst h
        have := hk k (by simp) _ _ hx
        simp; omega
    · rw [if_neg hm] at h
      by_cases hn : nd = true
      · rw [if_pos hn] at h; simp at h; subst h; simp
      · rw [if_neg hn] at h
        exact misL_len n d ks (fun k' hk' => hk k' (by simp [hk'])) ns bs p h
theorem mis_len : ∀ (d : Nat) (x : Shp) (n : Nd) (p : List ByteArray), shpB x d = true → mis x n = some p → p.length ≤ d
  | 0, x, n, p, h, _ => by rw [shpB_eq] at h; simp at h
  | d + 1, x, n, p, h, hp => by
    rw [shpB_eq, shpL_all] at h
    simp only [Bool.and_eq_true, List.all_eq_true, Nat.add_sub_cancel] at h
    rw [mis_eq] at hp
    by_cases h0 : x.kind = 0
    · simp [h0] at hp
    · rw [if_neg h0] at hp
      by_cases h1 : x.kind ≠ n.kind
      · rw [if_pos h1] at hp; simp at hp; subst hp; simp
      · rw [if_neg h1] at hp
        exact misL_len n d x.kids (fun k hk m q hq => mis_len d k m q (h.2 k hk) hq) _ _ _ hp
theorem GoodS.len {x : Shp} (h : GoodS x) {n : Nd} {p : List ByteArray} (hp : mis x n = some p) : p.length ≤ 5 := by
  obtain ⟨d, hd, h⟩ := h
  exact Nat.le_trans (mis_len d x n p h hp) hd
end Go.Proofs.YtoedpagdklagdaaDoor
namespace Go.Proofs.YtoedpagdklagdaaDoor
open Go Go.RowKit
def NCells (w : World) (S : Nat → Prop) : List Nd → List Value → Prop
  | [], cs => cs = []
  | n :: l, cs => ∃ na nc ka kc cs', cs = nodeL n na nc ka kc ++ cs' ∧ NodeC w S n na nc ka kc ∧ NCells w S l cs'
theorem NCells.len {w : World} {S : Nat → Prop} : ∀ {l : List Nd} {cs : List Value}, NCells w S l cs → cs.length = l.length * 5
  | [], cs, h => by cases h; rfl
  | n :: l, cs, h => by
    obtain ⟨na, nc, ka, kc, cs', rfl, _, h⟩ := h
    rw [List.length_append, NCells.len h]; simp [nodeL, Nat.succ_mul]; omega
theorem NCells.append {w : World} {S : Nat → Prop} : ∀ {l m : List Nd} {cs ds : List Value}, NCells w S l cs → NCells w S m ds → NCells w S (l ++ m) (cs ++ ds)
  | [], m, cs, ds, h, k => by cases h; exact k
  | n :: l, m, cs, ds, h, k => by
    obtain ⟨na, nc, ka, kc, cs', rfl, hn, h⟩ := h
    exact ⟨na, nc, ka, kc, cs' ++ ds, by simp, hn, NCells.append h k⟩
theorem NCells.ext {X S : Nat → Prop} {w w' : World} (he : Ext X w w') (hS : ∀ k, S k → ¬ X k) : ∀ {l : List Nd} {cs : List Value}, NCells w S l cs → NCells w' S l cs
  | [], cs, h => h
  | n :: l, cs, h => by
    obtain ⟨na, nc, ka, kc, cs', rfl, hn, h⟩ := h
    exact ⟨na, nc, ka, kc, cs', rfl, hn.ext he hS, NCells.ext he hS h⟩
theorem NCells.mono {S T : Nat → Prop} {w : World} (hS : ∀ k, S k → T k) : ∀ {l : List Nd} {cs : List Value}, NCells w S l cs → NCells w T l cs
  | [], cs, h => h
  | n :: l, cs, h => by
    obtain ⟨na, nc, ka, kc, cs', rfl, hn, h⟩ := h
    exact ⟨na, nc, ka, kc, cs', rfl, hn.mono hS, NCells.mono hS h⟩
theorem NCells.one {w : World} {S : Nat → Prop} {n : Nd} {na : Option Addr} {nc : Nat} {ka : Option Addr} {kc : Nat} (h : NodeC w S n na nc ka kc) : NCells w S [n] (nodeL n na nc ka kc) :=
  ⟨na, nc, ka, kc, [], by simp, h, rfl⟩
theorem NCells.kids {w : World} {S : Nat → Prop} {b : Nat} : ∀ {l : List Nd} {cs : List Value} {o : Nat}, NCells w S l cs → (∀ i v, cs[i]? = some v → w.cell? ⟨b, o + i, none⟩ = some v) → KidsR w S b o l
  | [], _, _, _, _ => by unfold KidsR; trivial
  | n :: l, cs, o, h, hc => by
    obtain ⟨na, nc, ka, kc, cs', rfl, hn, h⟩ := h
    unfold KidsR
    refine ⟨⟨na, nc, ka, kc, hc 0 _ rfl, hc 1 _ rfl, hc 2 _ rfl, hc 3 _ rfl, hc 4 _ rfl, hn⟩, NCells.kids h (fun i v hi => ?_)⟩
    have := hc (5 + i) v (by rw [List.getElem?_append_right (by simp [nodeL])]; simpa [nodeL] using hi)
    rw [show o + (5 + i) = o + 5 + i by omega] at this
    exact this
theorem KidsR.cells {w : World} {S : Nat → Prop} {b : Nat} : ∀ {l : List Nd} {o : Nat}, KidsR w S b o l → ∃ cs, NCells w S l cs ∧ ∀ i v, cs[i]? = some v → w.cell? ⟨b, o + i, none⟩ = some v
  | [], _, _ => ⟨[], rfl, fun i v h => by simp at h⟩
  | n :: l, o, h => by
    unfold KidsR at h
    obtain ⟨⟨na, nc, ka, kc, c0, c1, c2, c3, c4, hn⟩, hr⟩ := h
    obtain ⟨cs, h1, h2⟩ := hr.cells
    refine ⟨nodeL n na nc ka kc ++ cs, ⟨na, nc, ka, kc, cs, rfl, hn, h1⟩, fun i v hi => ?_⟩
    match i, hi with
    | 0, hi => simp [nodeL] at hi; subst hi; exact c0
    | 1, hi => simp [nodeL] at hi; subst hi; exact c1
    | 2, hi => simp [nodeL] at hi; subst hi; exact c2
    | 3, hi => simp [nodeL] at hi; subst hi; exact c3
    | 4, hi => simp [nodeL] at hi; subst hi; exact c4
    | i + 5, hi =>
      have := h2 i v (by simpa [nodeL] using hi)
      rw [show o + (i + 5) = o + 5 + i by omega]
      exact this
end Go.Proofs.YtoedpagdklagdaaDoor
namespace Go.Proofs.YtoedpagdklagdaaDoor
open Go Go.RowKit
def Src (w : World) (y : Option Addr) (m : Nat) (news : List Value) : Prop := (m = 0 ∧ news = []) ∨ ∃ ad, y = some ad ∧ ∀ j u, news[j]? = some u → w.cell? (ad.add j) = some u
theorem Src.grow {w w' : World} {y : Option Addr} {m : Nat} {news : List Value} (h : Src w y m news) (hg : Grow w w') : Src w' y m news :=
  h.imp id (fun ⟨ad, hy, hc⟩ => ⟨ad, hy, fun j u hj => hg.some (hc j u hj)⟩)
def offRow (B : Nat) (v : Value) (k : Nat) : Prop := B ≤ k ∧ v.ownBlock ≠ some k
theorem grownBy_ext {w w' : World} {v : Value} (h : w.grownBy w' v.ownBlock) : Ext (fun k => v.ownBlock = some k) w w' :=
  ⟨h.os, h.tape, h.output, h.size, fun k hk hx => h.block k hk (fun e => hx e.symm)⟩
theorem NCells.grown {w w' : World} {B : Nat} {v v' : Value} {l : List Nd} {cs : List Value} (hlt : NCells w (fun k => offRow B v k ∧ k < w.heap.size) l cs) (hg : w.grownBy w' v.ownBlock) (hv : v'.ownBlock = v.ownBlock ∨ v'.ownBlock = some w.heap.size) :
    NCells w' (offRow B v') l cs := by
  have h1 := hlt.ext (grownBy_ext hg) (fun k hk hx => hk.1.2 hx)
  refine h1.mono (fun k hk => ⟨hk.1.1, fun e => ?_⟩)
  rcases hv with hv | hv
  · rw [hv] at e; exact hk.1.2 e
  · rw [hv] at e; cases e; exact Nat.lt_irrefl _ hk.2
theorem StrsR.lt {S : Nat → Prop} {w : World} {a : Option Addr} {c : Nat} {xs : List ByteArray} (h : StrsR w S a c xs) : StrsR w (fun k => S k ∧ k < w.heap.size) a c xs := by
  obtain ⟨h1, h2, h3, h4⟩ := h
  refine ⟨h1, h2, h3, ?_⟩
  rcases Nat.eq_zero_or_pos xs.length with hl | hl
  · exact .inl (List.length_eq_zero_iff.1 hl)
  rcases h4 with h4 | ⟨b, o, rfl, hb, hc⟩
  · exact .inl h4
  · exact .inr ⟨b, o, rfl, ⟨hb, lt_of_cell (hc 0 hl)⟩, hc⟩
mutual
theorem NodeC.lt {S : Nat → Prop} {w : World} : ∀ {n : Nd} {na : Option Addr} {nc : Nat} {ka : Option Addr} {kc : Nat}, NodeC w S n na nc ka kc → NodeC w (fun k => S k ∧ k < w.heap.size) n na nc ka kc
  | ⟨_, _, _, _, kids⟩, na, nc, ka, kc, h => by
    unfold NodeC at h ⊢
    obtain ⟨h1, h2, h3, h4, h5⟩ := h
    refine ⟨h1, h2.lt, h3, h4, ?_⟩
    rcases h5 with h5 | ⟨b, o, rfl, hb, hk⟩
    · exact .inl h5
    · cases kids with
      | nil => exact .inl rfl
      | cons k ks =>
        refine .inr ⟨b, o, rfl, ⟨hb, ?_⟩, KidsR.lt hk⟩
        unfold KidsR at hk
        obtain ⟨⟨_, _, _, _, c0, _⟩, _⟩ := hk
        exact lt_of_cell c0
theorem KidsR.lt {S : Nat → Prop} {w : World} {b : Nat} : ∀ {l : List Nd} {o : Nat}, KidsR w S b o l → KidsR w (fun k => S k ∧ k < w.heap.size) b o l
  | [], _, _ => by unfold KidsR; trivial
  | k :: ks, o, h => by
    unfold KidsR at h ⊢
    obtain ⟨⟨na, nc, ka, kc, c0, c1, c2, c3, c4, hn⟩, hr⟩ := h
    exact ⟨⟨na, nc, ka, kc, c0, c1, c2, c3, c4, hn.lt⟩, KidsR.lt hr⟩
end
theorem NCells.lt {S : Nat → Prop} {w : World} : ∀ {l : List Nd} {cs : List Value}, NCells w S l cs → NCells w (fun k => S k ∧ k < w.heap.size) l cs
  | [], cs, h => h
  | n :: l, cs, h => by
    obtain ⟨na, nc, ka, kc, cs', rfl, hn, h⟩ := h
    exact ⟨na, nc, ka, kc, cs', rfl, hn.lt, NCells.lt h⟩
theorem BoxN.grown {w w' : World} {b : Nat} {cs : List Value} {v : Value} (h : BoxN w b cs) (hg : w.grownBy w' v.ownBlock) (hb : ∀ k, v.ownBlock = some k → b < k) : BoxN w' b cs :=
  h.ext (grownBy_ext hg) (fun e => by have := hb _ e; omega)
end Go.Proofs.YtoedpagdklagdaaDoor
namespace Go.Proofs.YtoedpagdklagdaaDoor
open Go Go.RowKit
theorem NodeC.grow' {S : Nat → Prop} {w w' : World} {n : Nd} {na : Option Addr} {nc : Nat} {ka : Option Addr} {kc : Nat} (h : NodeC w S n na nc ka kc) (hg : Grow w w') : NodeC w' S n na nc ka kc := h.ext hg (fun _ _ h => h)
theorem Grow.toX' {X : Nat → Prop} {w w' : World} (h : Grow w w') : Ext X w w' := h.mono (fun _ h => False.elim h)
def nodeRep : Rep Nd where
  n := 5
  R := fun w S x cs => ∃ na nc ka kc, cs = nodeL x na nc ka kc ∧ NodeC w S x na nc ka kc
  F := fun w x cs fp => ∃ na nc ka kc, cs = nodeL x na nc ka kc ∧ NodeF w x na nc ka kc fp
  rlen := by rintro w S x cs ⟨na, nc, ka, kc, rfl, _⟩; rfl
  flen := by rintro w x cs fp ⟨na, nc, ka, kc, rfl, _⟩; rfl
  ext := by rintro X S w w' x cs h hS ⟨na, nc, ka, kc, rfl, hn⟩; exact ⟨na, nc, ka, kc, rfl, hn.ext h hS⟩
  mono := by rintro S T w x cs h ⟨na, nc, ka, kc, rfl, hn⟩; exact ⟨na, nc, ka, kc, rfl, hn.mono h⟩
  lt := by rintro S w x cs ⟨na, nc, ka, kc, rfl, hn⟩; exact ⟨na, nc, ka, kc, rfl, hn.lt⟩
  keep := by rintro w w' x cs fp ⟨na, nc, ka, kc, rfl, hn⟩ h; exact ⟨na, nc, ka, kc, rfl, hn.keep h⟩
  toR := by rintro S w x cs fp ⟨na, nc, ka, kc, rfl, hn⟩ h; exact ⟨na, nc, ka, kc, rfl, hn.toC h⟩
end Go.Proofs.YtoedpagdklagdaaDoor
namespace Go.Proofs.YtoedpagdklagdaaDoor
open Go Go.RowKit
structure Elm (wr w : World) (b p n : Nat) (cs : List Value) (G : List Nat) : Prop where
  ext : Ext (inl (b :: G)) wr w
  len : cs.length = n
  cells : ∀ i v, cs[i]? = some v → w.cell? ⟨b, p + i, none⟩ = some v
  rest : ∀ q, (q < p ∨ p + n ≤ q) → w.cell? ⟨b, q, none⟩ = wr.cell? ⟨b, q, none⟩
  fr : ∀ q, w.frozen? ⟨b, q, none⟩ = false
  lt : b < w.heap.size
theorem Elm.new {w : World} {b p n : Nat} {cs : List Value} (hc : CellsAt w b p cs) (hl : cs.length = n) (hf : ∀ q, w.frozen? ⟨b, q, none⟩ = false) (hb : b < w.heap.size) : Elm w w b p n cs [] :=
  ⟨Ext.refl _ _, hl, hc, fun _ _ => rfl, hf, hb⟩
theorem Elm.set {wr w : World} {b p n : Nat} {cs : List Value} {G : List Nat} (h : Elm wr w b p n cs G) (i : Nat) (hi : i < cs.length) (v : Value) : Elm wr (w.setCell ⟨b, p + i, none⟩ v) b p n (cs.set i v) G := by
  have h0 := h.cells i cs[i] (List.getElem?_eq_getElem hi)
  refine ⟨h.ext.setIn (p := ⟨b, p + i, none⟩) (by simp [inl]) v, by rw [List.length_set]; exact h.len, fun j u hj => ?_, fun q hq => ?_, fun q => by rw [World.frozen?_setCell]; exact h.fr q, by rw [size_setCell]; exact h.lt⟩
  · rw [cell_set h0]
    rw [List.getElem?_set] at hj
    by_cases e : j = i
    · subst e; rw [if_pos rfl]; simpa [hi] using hj
    · have hne : ¬ (⟨b, p + j, none⟩ : Addr) = ⟨b, p + i, none⟩ := by intro h'; have := congrArg Addr.off h'; simp at this; exact e this
      rw [if_neg hne]
      rw [if_neg (fun h' => e h'.symm)] at hj
      exact h.cells j u hj
  · have := h.len
    rw [set_ne _ _ _ _ _ _ (.inr (by omega))]; exact h.rest q hq
theorem Elm.set0 {wr w : World} {b p n : Nat} {cs : List Value} {G : List Nat} (h : Elm wr w b p n cs G) (hi : 0 < cs.length) (v : Value) : Elm wr (w.setCell ⟨b, p, none⟩ v) b p n (cs.set 0 v) G := h.set 0 hi v
theorem Elm.sub {wr w w' : World} {b p n : Nat} {cs : List Value} {G g : List Nat} (h : Elm wr w b p n cs G) (he : Ext (inl g) w w') (hb : b ∉ g) : Elm wr w' b p n cs (G ++ g) := by
  refine ⟨(h.ext.mono (fun k hk => ?_)).trans (he.mono (fun k hk => ?_)), h.len, fun i v hi => he.some (h.cells i v hi) hb, fun q hq => ?_, fun q => ?_, Nat.lt_of_lt_of_le h.lt he.size⟩
  · simp [inl] at hk ⊢
    rcases hk with hk | hk
    · exact .inl hk
    · exact .inr (.inl hk)
  · simp [inl] at hk ⊢; exact .inr (.inr hk)
  · rw [he.cell (p := ⟨b, q, none⟩) h.lt hb]; exact h.rest q hq
  · rw [he.frozen (p := ⟨b, q, none⟩) h.lt hb]; exact h.fr q
theorem Elm.grow {wr w w' : World} {b p n : Nat} {cs : List Value} {G : List Nat} (h : Elm wr w b p n cs G) (hg : Grow w w') : Elm wr w' b p n cs G := by
  have := h.sub (g := []) (hg.toX' (X := inl [])) (by simp)
  simpa using this
section rows
variable {α : Type} {E : Rep α}
theorem RowF.split {w : World} {b : Nat} : ∀ {l m : List α} {o : Nat} {fp : List Nat}, RowF E w b o (l ++ m) fp → ∃ f g, fp = f ++ g ∧ RowF E w b o l f ∧ RowF E w b (o + l.length * E.n) m g
  | [], m, o, fp, h => ⟨[], fp, rfl, rfl, by simpa using h⟩
  | x :: l, m, o, fp, h => by
    obtain ⟨f1, f2, cs, rfl, hc, hx, hr⟩ := h
    obtain ⟨f, g, rfl, h1, h2⟩ := RowF.split hr
    rw [show o + E.n + l.length * E.n = o + (x :: l).length * E.n by simp [Nat.succ_mul]; omega] at h2
    exact ⟨f1 ++ f, g, by simp, ⟨f1, f, cs, rfl, hc, hx, h1⟩, h2⟩
end rows
end Go.Proofs.YtoedpagdklagdaaDoor
namespace Go.Proofs.YtoedpagdklagdaaDoor
open Go.RowKit
end Go.Proofs.YtoedpagdklagdaaDoor
namespace Go.Proofs.YtoedpagdklagdaaDoor
open Go.RowKit
end Go.Proofs.YtoedpagdklagdaaDoor
namespace Go.Proofs.YtoedpagdklagdaaDoor
open Go.RowKit
end Go.Proofs.YtoedpagdklagdaaDoor
namespace Go.Proofs.YtoedpagdklagdaaDoor
open Go.RowKit
end Go.Proofs.YtoedpagdklagdaaDoor
namespace Go.Proofs.YtoedpagdklagdaaDoor
open Go.RowKit
end Go.Proofs.YtoedpagdklagdaaDoor
namespace Go.Proofs.YtoedpagdklagdaaDoor
open Go.RowKit
end Go.Proofs.YtoedpagdklagdaaDoor
namespace Go.Proofs.YtoedpagdklagdaaDoor
open Go.RowKit
end Go.Proofs.YtoedpagdklagdaaDoor
namespace Go.Proofs.YtoedpagdklagdaaDoor
open Go.RowKit
def OwnS (w w' : World) (xs : List ByteArray) (v : Value) : Prop := ∃ a c fp, v = .slice a xs.length c ∧ StrsF w' a c xs fp ∧ Free w.heap.size w' fp
theorem OwnS.nil (w w' : World) : OwnS w w' [] (.slice none 0 0) := ⟨none, 0, [], rfl, ⟨Nat.le_refl _, Nat.zero_le _, by simp, .inl ⟨rfl, rfl⟩⟩, Free.nil _ _⟩
theorem OwnS.grow {w w' w'' : World} {xs : List ByteArray} {v : Value} (h : OwnS w w' xs v) (hg : Grow w' w'') : OwnS w w'' xs v := by
  obtain ⟨a, c, fp, hv, h1, h2⟩ := h
  exact ⟨a, c, fp, hv, h1.keep (hg.keeps h2 (fun _ _ h => h)), h2.ext hg (fun _ _ h => h)⟩
theorem Free.down {B B' : Nat} {w : World} {fp : List Nat} (h : Free B w fp) (hb : B' ≤ B) : Free B' w fp := ⟨h.1, fun y hy => ⟨Nat.le_trans hb (h.2 y hy).1, (h.2 y hy).2⟩⟩
theorem OwnS.row {w w' : World} {B : Nat} {T : TypeId} {v : Value} {n : Nat} {xs : List ByteArray} (hB : w.heap.size ≤ B) (h : w'.ownsRow B T 1 v n (xs.map Value.string)) (hx : ∀ x ∈ xs, x.size ≤ big) : OwnS w w' xs v := by
  obtain ⟨a, c, fp, hv, h1, h2, _⟩ := strs_of_row h hx
  exact ⟨a, c, fp, hv, h1, h2.down hB⟩
end Go.Proofs.YtoedpagdklagdaaDoor
namespace Go.Proofs.YtoedpagdklagdaaDoor
open Go.RowKit
def Seg (A Z : Nat) (w : World) (fp : List Nat) : Prop := Free A w fp ∧ ∀ y ∈ fp, y < Z
theorem Seg.of {A : Nat} {w : World} {fp : List Nat} (h : Free A w fp) : Seg A w.heap.size w fp := ⟨h, fun y hy => (h.2 y hy).2.1⟩
theorem Seg.grow {A Z : Nat} {w w' : World} {fp : List Nat} (h : Seg A Z w fp) (hg : Grow w w') : Seg A Z w' fp := ⟨h.1.ext hg (fun _ _ h => h), h.2⟩
theorem Seg.off {A Z A' Z' : Nat} {w w0 : World} {fp fx : List Nat} (h : Seg A Z w fp) (hx : Seg A' Z' w0 fx) (hd : Z ≤ A' ∨ Z' ≤ A) : ∀ y ∈ fp, ¬ inl fx y := fun y hy h2 => by
  have h3 := h.2 y hy
  have h4 := (h.1.2 y hy).1
  have h5 := hx.2 y h2
  have h6 := (hx.1.2 y h2).1
  omega
theorem Seg.ext {A Z A' Z' : Nat} {w w' w0 : World} {fp fx : List Nat} (h : Seg A Z w fp) (hx : Seg A' Z' w0 fx) (hd : Z ≤ A' ∨ Z' ≤ A) (he : Ext (inl fx) w w') : Seg A Z w' fp := ⟨h.1.ext he (h.off hx hd), h.2⟩
theorem Seg.keeps {A Z A' Z' : Nat} {w w' w0 : World} {fp fx : List Nat} (h : Seg A Z w fp) (hx : Seg A' Z' w0 fx) (hd : Z ≤ A' ∨ Z' ≤ A) (he : Ext (inl fx) w w') : ∀ b ∈ fp, ∀ o, w'.cell? ⟨b, o, none⟩ = w.cell? ⟨b, o, none⟩ := he.keeps h.1 (h.off hx hd)
theorem Seg.inner {A Z : Nat} {w0 w w' : World} {fp : List Nat} (h : Seg A Z w fp) (hg : Grow w0 w) (he : Ext (inl fp) w w') (hA : w0.heap.size ≤ A) : Grow w0 w' :=
  hg.inner he (fun i hi => Nat.le_trans hA (h.1.2 i hi).1)
theorem Seg.box {A Z b : Nat} {w0 w w' : World} {fp : List Nat} {cs : List Value} (h : Seg A Z w0 fp) (hB : BoxN w b cs) (he : Ext (inl fp) w w') (hd : b < A ∨ Z ≤ b) : BoxN w' b cs :=
  hB.ext he (fun hi => by have h3 := h.2 b hi; have h4 := (h.1.2 b hi).1; omega)
theorem Seg.below {A Z : Nat} {w0 w w' : World} {fp : List Nat} {a : Option Addr} {c Y : Nat} {xs : List ByteArray} (h : Seg A Z w0 fp) (hs : StrsR w (fun k => k < Y) a c xs) (he : Ext (inl fp) w w') (hd : Y ≤ A) : StrsR w' (fun k => k < Y) a c xs :=
  hs.ext he (fun k hk hi => by have h4 := (h.1.2 k hi).1; omega)
theorem StrsR.under {S : Nat → Prop} {w : World} {a : Option Addr} {c : Nat} {xs : List ByteArray} (h : StrsR w S a c xs) : StrsR w (fun k => k < w.heap.size) a c xs := h.lt.mono (fun _ h => h.2)
end Go.Proofs.YtoedpagdklagdaaDoor
namespace Go.Proofs.YtoedpagdklagdaaDoor
open Go.RowKit
def packA (cs : List Value) : Value := .agg cs.toArray
def RV {α : Type} (E : Rep α) (pk : List Value → Value) (w : World) (S : Nat → Prop) (x : α) (v : Value) : Prop := ∃ cs, v = pk cs ∧ E.R w S x cs
def FV {α : Type} (E : Rep α) (pk : List Value → Value) (w : World) (x : α) (v : Value) (fp : List Nat) : Prop := ∃ cs, v = pk cs ∧ E.F w x cs fp
section
variable {α : Type} {E : Rep α} {pk : List Value → Value}
theorem RV.ext {X S : Nat → Prop} {w w' : World} {x : α} {v : Value} (h : RV E pk w S x v) (he : Ext X w w') (hS : ∀ k, S k → ¬ X k) : RV E pk w' S x v := by
  obtain ⟨cs, hv, hc⟩ := h; exact ⟨cs, hv, E.ext he hS hc⟩
theorem RV.grow {S : Nat → Prop} {w w' : World} {x : α} {v : Value} (h : RV E pk w S x v) (hg : Grow w w') : RV E pk w' S x v := h.ext hg (fun _ _ h => h)
theorem RV.mono {S T : Nat → Prop} {w : World} {x : α} {v : Value} (h : RV E pk w S x v) (hS : ∀ k, S k → T k) : RV E pk w T x v := by
  obtain ⟨cs, hv, hc⟩ := h; exact ⟨cs, hv, E.mono hS hc⟩
theorem RV.any {S : Nat → Prop} {w : World} {x : α} {v : Value} (h : RV E pk w S x v) : RV E pk w any x v := h.mono (fun _ _ => trivial)
theorem RV.under {S : Nat → Prop} {w : World} {x : α} {v : Value} (h : RV E pk w S x v) : RV E pk w (fun k => k < w.heap.size) x v := by
  obtain ⟨cs, hv, hc⟩ := h; exact ⟨cs, hv, E.mono (fun _ h => h.2) (E.lt hc)⟩
theorem FV.keep {w w' : World} {x : α} {v : Value} {fp : List Nat} (h : FV E pk w x v fp) (hk : ∀ b ∈ fp, ∀ o, w'.cell? ⟨b, o, none⟩ = w.cell? ⟨b, o, none⟩) : FV E pk w' x v fp := by
  obtain ⟨cs, hv, hc⟩ := h; exact ⟨cs, hv, E.keep hc hk⟩
theorem FV.rv {w : World} {x : α} {v : Value} {fp : List Nat} (h : FV E pk w x v fp) : RV E pk w Go.Proofs.YtoedpagdklagdaaDoor.any x v := by
  obtain ⟨cs, hv, hc⟩ := h; exact ⟨cs, hv, E.toR hc (fun _ _ => trivial)⟩
theorem FV.grow {w w' : World} {x : α} {v : Value} {fp : List Nat} {A Z : Nat} (h : FV E pk w x v fp) (hs : Seg A Z w fp) (hg : Grow w w') : FV E pk w' x v fp := h.keep (hg.keeps hs.1 (fun _ _ h => h))
theorem Seg.rv {A Z Y : Nat} {w0 w w' : World} {fp : List Nat} {x : α} {v : Value} (h : Seg A Z w0 fp) (hs : RV E pk w (fun k => k < Y) x v) (he : Ext (inl fp) w w') (hd : Y ≤ A) : RV E pk w' (fun k => k < Y) x v :=
  hs.ext he (fun k hk hi => by have h4 := (h.1.2 k hi).1; omega)
end
end Go.Proofs.YtoedpagdklagdaaDoor
namespace Go.Proofs.YtoedpagdklagdaaDoor
open Go.RowKit
abbrev Itm := ByteArray × Int × Nd
def itmRep : Rep Itm := pairRep strRep (pairRep intRep (nodeRep))
theorem itmRep_n : itmRep.n = 7 := rfl
def itmL (x : Itm) (na2 : Option Addr) (nc2 : Nat) (ka2 : Option Addr) (kc2 : Nat) : List Value := [.string x.1, .int .i64 x.2.1, .int .i64 x.2.2.kind, .int .i64 x.2.2.num, .string x.2.2.text, .slice na2 x.2.2.names.length nc2, .slice ka2 x.2.2.kids.length kc2]
def costItm (x : Itm) : Nat := x.1.size + costN x.2.2
def costItmL (l : List Itm) : Nat := l.length + (l.map costItm).sum
def sumItm (l : List Itm) : Nat := (l.map costItm).sum
theorem sumItm_snoc (l : List Itm) (x : Itm) : sumItm (l ++ [x]) = sumItm l + costItm x := by simp [sumItm]
theorem sumItm_take (l : List Itm) (k : Nat) : sumItm (l.take k) ≤ sumItm l := by
  unfold sumItm; rw [List.map_take]; exact sum_take_le _ _
theorem costItm_get (l : List Itm) (k : Nat) (h : k < l.length) : costItm l[k] ≤ costItmL l := by
  have := sumItm_take l (k + 1)
  rw [take_snoc' _ _ h, sumItm_snoc] at this
  unfold costItmL; unfold sumItm at *; omega
theorem itmRep_open {w : World} {S : Nat → Prop} {x : Itm} {cs : List Value} (h : itmRep.R w S x cs) : ∃ (na2 : Option Addr) (nc2 : Nat) (ka2 : Option Addr) (kc2 : Nat), cs = itmL x na2 nc2 ka2 kc2 ∧ x.1.size ≤ big ∧ NodeC w S x.2.2 na2 nc2 ka2 kc2 := by
  obtain ⟨_, _, rfl, ⟨rfl, h0⟩, ⟨_, _, rfl, rfl, ⟨na2, nc2, ka2, kc2, rfl, h2⟩⟩⟩ := h
  exact ⟨na2, nc2, ka2, kc2, rfl, h0, h2⟩
theorem itmRep_openF {w : World} {x : Itm} {cs : List Value} {fp : List Nat} (h : itmRep.F w x cs fp) : ∃ (na2 : Option Addr) (nc2 : Nat) (ka2 : Option Addr) (kc2 : Nat), cs = itmL x na2 nc2 ka2 kc2 ∧ x.1.size ≤ big ∧ True := by
  obtain ⟨_, _, _, _, rfl, _, ⟨rfl, h0, _⟩, ⟨_, _, _, _, rfl, _, ⟨rfl, _⟩, ⟨na2, nc2, ka2, kc2, rfl, h2⟩⟩⟩ := h
  exact ⟨na2, nc2, ka2, kc2, rfl, h0, trivial⟩
theorem szItem_ok (x : Itm) (cs : List Value) (left : Int) (w : World) (hb0 : 0 ≤ left) (hb1 : left ≤ 1048576) (hx : itmRep.R w any x cs) :
    Calls Tryd.prog 70 #[.agg cs.toArray, .int .i64 left] w fun e w' => e = .returned (.int .i64 (szR (costItm x) left)) ∧ Grow w w' := by
  obtain ⟨na2, nc2, ka2, kc2, rfl, h0, h2⟩ := itmRep_open hx
  have hs0 : x.1.size ≤ 9223372036854775807 := h0
  have H2 := Lib.hid h2
  clear h0 h2
  have Hce : Hid (costItm x = x.1.size + costN x.2.2) := Lib.hid rfl
  unfold itmL
  by_cases a0 : left < ((x.1.size : Nat) : Int)
  · have Hf := Lib.hid (szR_neg (c := costItm x) (left := left) (by have := Hce.out; omega))
    go_enter Tryd.func70, Tryd.ntmps70
    go_wp2_with fail
    go_ret
    exact ⟨by simp [Hf.out], (by repeat (first | with_reducible exact Ext.refl _ _ | with_reducible refine Ext.trans ?_ (by assumption) | with_reducible refine Ext.drew ?_ | with_reducible refine Ext.drewN ?_ _ | with_reducible refine Ext.alloc ?_ _ | with_reducible refine Ext.setNew ?_ (by simp; done) _ | with_reducible refine Ext.setNew ?_ (by simp; omega) _))⟩
  by_cases a2 : left - ((x.1.size : Nat) : Int) < ((costN x.2.2 : Nat) : Int)
  · have Hf := Lib.hid (szR_neg (c := costItm x) (left := left) (by have := Hce.out; omega))
    have Hs2 := Lib.hid (szR_neg a2)
    go_enter Tryd.func70, Tryd.ntmps70
    go_wp2_with fail
    refine (szNode_ok x.2.2 _ _ _ (by omega) (by omega) ⟨_, _, _, _, rfl, H2.out.grow' (by repeat (first | with_reducible exact Ext.refl _ _ | with_reducible refine Ext.trans ?_ (by assumption) | with_reducible refine Ext.drew ?_ | with_reducible refine Ext.drewN ?_ _ | with_reducible refine Ext.alloc ?_ _ | with_reducible refine Ext.setNew ?_ (by simp; done) _ | with_reducible refine Ext.setNew ?_ (by simp; omega) _))⟩).mono ?_
    rintro e w3 ⟨rfl, hg3⟩
    simp only [Hs2.out]
    have hcc3 := bcell hg3
    go_wp2_with fail
    go_ret
    exact ⟨by simp [Hf.out], (by repeat (first | with_reducible exact Ext.refl _ _ | with_reducible refine Ext.trans ?_ (by assumption) | with_reducible refine Ext.drew ?_ | with_reducible refine Ext.drewN ?_ _ | with_reducible refine Ext.alloc ?_ _ | with_reducible refine Ext.setNew ?_ (by simp; done) _ | with_reducible refine Ext.setNew ?_ (by simp; omega) _))⟩
  have Hs2 := Lib.hid (szR_pos (c := costN x.2.2) (left := left - ((x.1.size : Nat) : Int)) (by omega))
  have Hf := Lib.hid (szR_pos (c := costItm x) (left := left) (by have := Hce.out; omega))
  go_enter Tryd.func70, Tryd.ntmps70
  go_wp2_with fail
  refine (szNode_ok x.2.2 _ _ _ (by omega) (by omega) ⟨_, _, _, _, rfl, H2.out.grow' (by repeat (first | with_reducible exact Ext.refl _ _ | with_reducible refine Ext.trans ?_ (by assumption) | with_reducible refine Ext.drew ?_ | with_reducible refine Ext.drewN ?_ _ | with_reducible refine Ext.alloc ?_ _ | with_reducible refine Ext.setNew ?_ (by simp; done) _ | with_reducible refine Ext.setNew ?_ (by simp; omega) _))⟩).mono ?_
  rintro e w3 ⟨rfl, hg3⟩
  simp only [Hs2.out]
  have hcc3 := bcell hg3
  go_wp2_with fail
  go_ret
  exact ⟨by have h1 := Hf.out; have h2 := Hce.out; rw [h1]; simp; omega, (by repeat (first | with_reducible exact Ext.refl _ _ | with_reducible refine Ext.trans ?_ (by assumption) | with_reducible refine Ext.drew ?_ | with_reducible refine Ext.drewN ?_ _ | with_reducible refine Ext.alloc ?_ _ | with_reducible refine Ext.setNew ?_ (by simp; done) _ | with_reducible refine Ext.setNew ?_ (by simp; omega) _))⟩
theorem szItemS_ok (l : List Itm) (a : Option Addr) (c : Nat) (left : Int) (w : World) (hn : SlR itmRep w any a c l) (h0 : 0 ≤ left) (h1 : left ≤ 1048576) :
    Calls Tryd.prog 50 #[.slice a l.length c, .int .i64 left] w fun e w' => e = .returned (.int .i64 (szR (costItmL l) left)) ∧ Grow w w' := by
  have hbig : l.length ≤ 9223372036854775807 := hn.2.1
  have hce : costItmL l = l.length + sumItm l := rfl
  have Hce := Lib.hid hce
  have Hn := Lib.hid hn
  clear hn hce
  by_cases hl : left < (l.length : Int)
  · have Hf := Lib.hid (szR_neg (c := costItmL l) (left := left) (by rw [Hce.out]; omega))
    go_enter Tryd.func50, Tryd.ntmps50
    go_wp2
    go_ret
    exact ⟨by rw [Hf.out]; simp, Ext.refl _ _⟩
  · go_enter Tryd.func50, Tryd.ntmps50
    go_wp2
    go_loopw [1, 5] (fun t i wr => Grow w wr ∧ ∃ (k : Nat) (r : Int), k ≤ l.length ∧ i = .int .i64 k ∧ t = .int .i64 r ∧ 0 ≤ r ∧ r ≤ 1048576 ∧ Hid (r = left - l.length - sumItm (l.take k))) (fun _ i _ => l.length - (intOf i).toNat)
    case atStart => exact ⟨Ext.refl _ _, 0, _, Nat.zero_le _, rfl, rfl, by omega, by omega, Lib.hid (by simp [sumItm])⟩
    case round =>
      obtain ⟨hg, k, r, hk, rfl, rfl, hr0, hr1, Hr⟩ := hrel
      have hst := sumItm_take l k
      by_cases hlt : k < l.length
      · obtain ⟨_, _, hks⟩ := (Hn.out).grow hg
        rcases hks with hks | ⟨bk, ok, rfl, _, hkr⟩
        · simp [hks] at hlt
        obtain ⟨cs, hcs, hx⟩ := hkr k hlt
        have Hx := Lib.hid hx
        obtain ⟨na2, nc2, ka2, kc2, rfl, h0, h2⟩ := itmRep_open hx
        rw [itmRep_n] at hcs
        have x0 : wr.cell? ⟨bk, ok + k * 7, none⟩ = _ := hcs 0 _ rfl
        have x1 := hcs 1 _ rfl
        have x2 := hcs 2 _ rfl
        have x3 := hcs 3 _ rfl
        have x4 := hcs 4 _ rfl
        have x5 := hcs 5 _ rfl
        have x6 := hcs 6 _ rfl
        have hst2 := sumItm_take l (k + 1)
        rw [take_snoc' _ _ hlt, sumItm_snoc] at hst2
        clear hkr hcs hx h0 h2
        by_cases hneg : r < (costItm l[k] : Int)
        · have Hf : Hid (szR (costItmL l) left = -1) := Lib.hid (szR_neg (by rw [Hce.out]; have := Hr.out; omega))
          have Hs := Lib.hid (szR_neg hneg)
          go_wp2_with fail
          refine (szItem_ok l[k] _ _ _ hr0 hr1 Hx.out).mono ?_
          rintro e w2 ⟨rfl, hg2⟩
          simp only [Hs.out]
          go_wp2_with fail
          go_ret
          exact ⟨by simp [Hf.out], hg.trans hg2⟩
        · have Hs := Lib.hid (szR_pos (c := costItm l[k]) (left := r) (by omega))
          go_wp2_with fail
          refine (szItem_ok l[k] _ _ _ hr0 hr1 Hx.out).mono ?_
          rintro e w2 ⟨rfl, hg2⟩
          simp only [Hs.out]
          go_wp2_with fail
          go_roundw
          case rel => exact ⟨hg.trans hg2, k + 1, _, by omega, by go_num, rfl, by omega, by omega, Lib.hid (by rw [take_snoc' _ _ hlt, sumItm_snoc, Hr.out]; omega)⟩
          case measure => simp [intOf]; omega
      · have hke : k = l.length := by omega
        have Hf : Hid (szR (costItmL l) left = r) := Lib.hid (by
          have h2 := Hr.out
          rw [hke, List.take_length] at h2
          rw [szR_pos (by rw [Hce.out]; omega), Hce.out]; omega)
        have Hke := Lib.hid hke
        clear hke
        go_wp2
        go_ret
        exact ⟨by simp [Hf.out], hg⟩
theorem eqItem_same (x : Itm) (cs ds : List Value) (w : World) (hx : itmRep.R w any x cs) (hy : itmRep.R w any x ds) :
    Calls Tryd.prog 75 #[.agg cs.toArray, .agg ds.toArray] w fun e w' => e = .returned (.bool true) ∧ Grow w w' := by
  obtain ⟨na2, nc2, ka2, kc2, rfl, h0, h2⟩ := itmRep_open hx
  obtain ⟨na2', nc2', ka2', kc2', rfl, h0', h2'⟩ := itmRep_open hy
  have H2 := Lib.hid h2
  have H2' := Lib.hid h2'
  have e0 : (x.1.toList == x.1.toList) = true := by simp
  have e1 : (x.2.1 != x.2.1) = false := by simp
  have E2 : Hid (eqN x.2.2 x.2.2 = true) := Lib.hid (eqN_refl _)
  clear hx hy h0 h0' h2 h2'
  unfold itmL
  go_enter Tryd.func75, Tryd.ntmps75
  go_wp2_with fail
  refine (eqNode_ok x.2.2 x.2.2 _ _ _ ⟨_, _, _, _, rfl, H2.out.grow' (by repeat (first | with_reducible exact Ext.refl _ _ | with_reducible refine Ext.trans ?_ (by assumption) | with_reducible refine Ext.drew ?_ | with_reducible refine Ext.drewN ?_ _ | with_reducible refine Ext.alloc ?_ _ | with_reducible refine Ext.setNew ?_ (by simp; done) _ | with_reducible refine Ext.setNew ?_ (by simp; omega) _))⟩ ⟨_, _, _, _, rfl, H2'.out.grow' (by repeat (first | with_reducible exact Ext.refl _ _ | with_reducible refine Ext.trans ?_ (by assumption) | with_reducible refine Ext.drew ?_ | with_reducible refine Ext.drewN ?_ _ | with_reducible refine Ext.alloc ?_ _ | with_reducible refine Ext.setNew ?_ (by simp; done) _ | with_reducible refine Ext.setNew ?_ (by simp; omega) _))⟩).mono ?_
  rintro e w4 ⟨rfl, hg4⟩
  simp only [E2.out]
  have hcc4 := bcell hg4
  go_wp2_with fail
  go_ret
  exact ⟨by simp, (by repeat (first | with_reducible exact Ext.refl _ _ | with_reducible refine Ext.trans ?_ (by assumption) | with_reducible refine Ext.drew ?_ | with_reducible refine Ext.drewN ?_ _ | with_reducible refine Ext.alloc ?_ _ | with_reducible refine Ext.setNew ?_ (by simp; done) _ | with_reducible refine Ext.setNew ?_ (by simp; omega) _))⟩
theorem eqItemS_same (l : List Itm) (a b : Option Addr) (c d : Nat) (w : World) (ha : SlR itmRep w any a c l) (hb : SlR itmRep w any b d l) :
    Calls Tryd.prog 56 #[.slice a l.length c, .slice b l.length d] w fun e w' => e = .returned (.bool true) ∧ Grow w w' := by
  have hbig : l.length ≤ 9223372036854775807 := ha.2.1
  have Ha := Lib.hid ha
  have Hb := Lib.hid hb
  clear ha hb
  have hlb : ((l.length : Int) != (l.length : Int)) = false := by simp
  go_enter Tryd.func56, Tryd.ntmps56
  go_wp2
  go_loopw [4, 5] (fun n i wr => n = .bool false ∧ Grow w wr ∧ ∃ k : Nat, k ≤ l.length ∧ i = .int .i64 k) (fun _ i _ => l.length - (intOf i).toNat)
  case atStart => exact ⟨rfl, Ext.refl _ _, 0, Nat.zero_le _, rfl⟩
  case round =>
    obtain ⟨rfl, hg, k, hk, rfl⟩ := hrel
    by_cases hlt : k < l.length
    · obtain ⟨_, _, ha4⟩ := (Ha.out).grow hg
      obtain ⟨_, _, hb4⟩ := (Hb.out).grow hg
      rcases ha4 with hh | ⟨ba, oa, rfl, _, hca⟩
      · rw [hh] at hlt; simp at hlt
      rcases hb4 with hh | ⟨bb, ob, rfl, _, hcb⟩
      · rw [hh] at hlt; simp at hlt
      obtain ⟨cs, hcs, hx⟩ := hca k hlt
      obtain ⟨ds, hds, hy⟩ := hcb k hlt
      have Hx := Lib.hid hx
      have Hy := Lib.hid hy
      obtain ⟨na2, nc2, ka2, kc2, rfl, h0, h2⟩ := itmRep_open hx
      obtain ⟨na2', nc2', ka2', kc2', rfl, h0', h2'⟩ := itmRep_open hy
      rw [itmRep_n] at hcs hds
      have x0 : wr.cell? ⟨ba, oa + k * 7, none⟩ = _ := hcs 0 _ rfl
      have x1 := hcs 1 _ rfl
      have x2 := hcs 2 _ rfl
      have x3 := hcs 3 _ rfl
      have x4 := hcs 4 _ rfl
      have x5 := hcs 5 _ rfl
      have x6 := hcs 6 _ rfl
      have y0 : wr.cell? ⟨bb, ob + k * 7, none⟩ = _ := hds 0 _ rfl
      have y1 := hds 1 _ rfl
      have y2 := hds 2 _ rfl
      have y3 := hds 3 _ rfl
      have y4 := hds 4 _ rfl
      have y5 := hds 5 _ rfl
      have y6 := hds 6 _ rfl
      clear hca hcb Ha Hb hcs hds hx hy h0 h0' h2 h2'
      go_wp2_with fail
      (refine wp_region_later (by kernel_rfl) (by kernel_rfl) ?_; (repeat (first | go_big_quiet_step ((go_at_call 75; exact later_call (v := .bool true) (eqItem_same l[k] _ _ _ (itmRep.grow Hx.out (later_grow _ _)) (itmRep.grow Hy.out (later_grow _ _))))) | quiet_step ((go_at_call 75; exact later_call (v := .bool true) (eqItem_same l[k] _ _ _ (itmRep.grow Hx.out (later_grow _ _)) (itmRep.grow Hy.out (later_grow _ _))))))); refine wpQuiet_nil ?_; rintro _ ⟨x_w2, rfl⟩; have hg_w2 := later_grow wr x_w2; generalize later wr x_w2 = w2 at hg_w2 ⊢)
      go_wp2_with fail
      go_roundw
      case rel => exact ⟨rfl, hg.trans hg_w2, k + 1, by omega, by go_num⟩
      case measure => simp [intOf]; omega
    · go_wp2_with fail
      go_ret
      exact ⟨by simp, hg⟩
end Go.Proofs.YtoedpagdklagdaaDoor
namespace Go.Proofs.YtoedpagdklagdaaDoor
open Go.RowKit
theorem toItem_ok (x : Itm) (cs : List Value) (w : World) (hcost : costItm x ≤ 1048576) (hx : itmRep.R w any x cs) :
    Calls Tryd.prog 73 #[.agg cs.toArray] w fun e w' => ∃ cs' fp, e = .returned (.agg (cs' : List Value).toArray) ∧ Grow w w' ∧ itmRep.F w' x cs' fp ∧ Free w.heap.size w' fp := by
  have hce : costItm x = x.1.size + costN x.2.2 := rfl
  rw [hce] at hcost
  obtain ⟨na2, nc2, ka2, kc2, rfl, h0, h2⟩ := itmRep_open hx
  have H0 := Lib.hid h0
  have H2 := Lib.hid h2
  clear hx hce h0 h2
  have B0 := ((BoxN.new w (itmL x na2 nc2 ka2 kc2) 94).grow ((Ext.refl nil _).alloc (.cells #[.string ⟨#[]⟩, .int .i64 0, .int .i64 0, .int .i64 0, .string ⟨#[]⟩, .slice none 0 0, .slice none 0 0] 74))).grow ((Ext.refl nil _).alloc (.cells #[.string x.1, .int .i64 x.2.1, .int .i64 0, .int .i64 0, .string ⟨#[]⟩, .slice none 0 0, .slice none 0 0] 74))
  have B1 := (BoxN.new1 w (.cells (itmL x na2 nc2 ka2 kc2).toArray 94) [.string ⟨#[]⟩, .int .i64 0, .int .i64 0, .int .i64 0, .string ⟨#[]⟩, .slice none 0 0, .slice none 0 0] 74).grow ((Ext.refl nil _).alloc (.cells #[.string x.1, .int .i64 x.2.1, .int .i64 0, .int .i64 0, .string ⟨#[]⟩, .slice none 0 0, .slice none 0 0] 74))
  have B2 := BoxN.new2 w (.cells (itmL x na2 nc2 ka2 kc2).toArray 94) (.cells #[.string ⟨#[]⟩, .int .i64 0, .int .i64 0, .int .i64 0, .string ⟨#[]⟩, .slice none 0 0, .slice none 0 0] 74) [.string x.1, .int .i64 x.2.1, .int .i64 0, .int .i64 0, .string ⟨#[]⟩, .slice none 0 0, .slice none 0 0] 74
  have hgp : Grow w (((w.alloc (.cells (itmL x na2 nc2 ka2 kc2).toArray 94)).alloc (.cells #[.string ⟨#[]⟩, .int .i64 0, .int .i64 0, .int .i64 0, .string ⟨#[]⟩, .slice none 0 0, .slice none 0 0] 74)).alloc (.cells #[.string x.1, .int .i64 x.2.1, .int .i64 0, .int .i64 0, .string ⟨#[]⟩, .slice none 0 0, .slice none 0 0] 74)) := (by repeat (first | with_reducible exact Ext.refl _ _ | with_reducible refine Ext.trans ?_ (by assumption) | with_reducible refine Ext.drew ?_ | with_reducible refine Ext.drewN ?_ _ | with_reducible refine Ext.alloc ?_ _ | with_reducible refine Ext.setNew ?_ (by simp; done) _ | with_reducible refine Ext.setNew ?_ (by simp; omega) _))
  have HB0 := Lib.hid B0
  have HB1 := Lib.hid B1
  have HB2 := Lib.hid B2
  have Hgp := Lib.hid hgp
  clear B0 B1 B2 hgp
  unfold itmL at *
  go_enter Tryd.func73, Tryd.ntmps73
  go_wp2_with fail
  refine (toNode_ok x.2.2 (nodeV x.2.2 na2 nc2 ka2 kc2) _ (by omega) ⟨_, _, _, _, rfl, H2.out.grow' (Ext.trans Hgp.out (Ext.refl _ _))⟩).mono ?_
  rintro e w1 ⟨v2, f2, rfl, hg, hF, hf⟩
  obtain ⟨na2', nc2', ka2', kc2', rfl, hF⟩ := hF
  have e0 := Ext.trans (Ext.refl (fun k => k = w.heap.size + 1 ∨ k = w.heap.size + 1 + 1) _) (hg.toX' (X := (fun k => k = w.heap.size + 1 ∨ k = w.heap.size + 1 + 1)))
  have B0 := HB0.out.grow hg
  have B1 := HB1.out.grow hg
  have B2 := HB2.out.grow hg
  have hgp := Hgp.out.inner e0 (by intro i hi; omega)
  simp only [World.size_alloc] at hf
  have Hf2 := Lib.hid hf
  have HF2 := Lib.hid hF
  have HE0 := Lib.hid e0
  clear hg hF hf e0 HB0 HB1 HB2 Hgp
  have HB0 := Lib.hid B0
  have HB1 := Lib.hid B1
  have HB2 := Lib.hid B2
  have Hgp := Lib.hid hgp
  clear B0 B1 B2 hgp
  unfold nodeV
  have p0 := HB0.out.cell 0 _ rfl
  have p1 := HB0.out.cell 1 _ rfl
  have p2 := HB0.out.cell 2 _ rfl
  have p3 := HB0.out.cell 3 _ rfl
  have p4 := HB0.out.cell 4 _ rfl
  have p5 := HB0.out.cell 5 _ rfl
  have p6 := HB0.out.cell 6 _ rfl
  have q0 := HB2.out.cell 0 _ rfl
  have q1 := HB2.out.cell 1 _ rfl
  have q2 := HB2.out.cell 2 _ rfl
  have q3 := HB2.out.cell 3 _ rfl
  have q4 := HB2.out.cell 4 _ rfl
  have q5 := HB2.out.cell 5 _ rfl
  have q6 := HB2.out.cell 6 _ rfl
  have qf := HB2.out.fr
  have r0 := HB1.out.cell 0 _ rfl
  have r1 := HB1.out.cell 1 _ rfl
  have r2 := HB1.out.cell 2 _ rfl
  have r3 := HB1.out.cell 3 _ rfl
  have r4 := HB1.out.cell 4 _ rfl
  have r5 := HB1.out.cell 5 _ rfl
  have r6 := HB1.out.cell 6 _ rfl
  have rf := HB1.out.fr
  have z1 : w.heap.size + 1 + 1 < w1.heap.size := HB2.out.lt
  go_wp2_with fail
  clear p0 q0 p1 q1 p2 q2 p3 q3 p4 q4 p5 q5 p6 q6 qf rf r0 r1 r2 r3 r4 r5 r6
  have BF := ((((((((((((HB1.out.other (p := ⟨w.heap.size + 1 + 1, 2, none⟩) (by simp) (.int .i64 x.2.2.kind)).other (p := ⟨w.heap.size + 1 + 1, 3, none⟩) (by simp) (.int .i64 x.2.2.num)).other (p := ⟨w.heap.size + 1 + 1, 4, none⟩) (by simp) (.string x.2.2.text)).other (p := ⟨w.heap.size + 1 + 1, 5, none⟩) (by simp) (.slice na2' x.2.2.names.length nc2')).other (p := ⟨w.heap.size + 1 + 1, 6, none⟩) (by simp) (.slice ka2' x.2.2.kids.length kc2')).set 0 (by simp) (.string x.1)).set 1 (by simp) (.int .i64 x.2.1)).set 2 (by simp) (.int .i64 x.2.2.kind)).set 3 (by simp) (.int .i64 x.2.2.num)).set 4 (by simp) (.string x.2.2.text)).set 5 (by simp) (.slice na2' x.2.2.names.length nc2')).set 6 (by simp) (.slice ka2' x.2.2.kids.length kc2'))
  have x2 : ∀ b ∈ f2, ¬ (b = w.heap.size + 1 ∨ b = w.heap.size + 1 + 1) := fun b hb => by have := (Hf2.out.2 b hb).1; omega
  have fin : ∀ W, Ext (fun k => k = w.heap.size + 1 ∨ k = w.heap.size + 1 + 1) w1 W → ∃ cs' fp, Ending.returned (.agg ([.string x.1, .int .i64 x.2.1, .int .i64 x.2.2.kind, .int .i64 x.2.2.num, .string x.2.2.text, .slice na2' x.2.2.names.length nc2', .slice ka2' x.2.2.kids.length kc2'] : List Value).toArray) = Ending.returned (.agg (cs' : List Value).toArray) ∧ Grow w W ∧ itmRep.F W x cs' fp ∧ Free w.heap.size W fp := by
    intro W hW
    have g2 : Ext (fun k => k = w.heap.size + 1 ∨ k = w.heap.size + 1 + 1) w1 W := hW
    have F2 := Hf2.out.ext g2 x2
    have k2 := HF2.out.keep (g2.keeps Hf2.out x2)
    refine ⟨_, ([] ++ ([] ++ f2)), rfl, Hgp.out.inner hW (by intro i hi; omega), ⟨[.string x.1], [.int .i64 x.2.1, .int .i64 x.2.2.kind, .int .i64 x.2.2.num, .string x.2.2.text, .slice na2' x.2.2.names.length nc2', .slice ka2' x.2.2.kids.length kc2'], [], ([] ++ f2), rfl, rfl, ⟨rfl, H0.out, rfl⟩, ⟨[.int .i64 x.2.1], [.int .i64 x.2.2.kind, .int .i64 x.2.2.num, .string x.2.2.text, .slice na2' x.2.2.names.length nc2', .slice ka2' x.2.2.kids.length kc2'], [], f2, rfl, rfl, ⟨rfl, rfl⟩, ⟨na2', nc2', ka2', kc2', rfl, k2⟩⟩⟩, ?_⟩
    simp only [List.nil_append]
    exact F2.mono (by omega)
  have r0 := BF.cell 0 _ rfl
  have r1 := BF.cell 1 _ rfl
  have r2 := BF.cell 2 _ rfl
  have r3 := BF.cell 3 _ rfl
  have r4 := BF.cell 4 _ rfl
  have r5 := BF.cell 5 _ rfl
  have r6 := BF.cell 6 _ rfl
  refine bodyPost_ret (v := .agg #[.string x.1, .int .i64 x.2.1, .int .i64 x.2.2.kind, .int .i64 x.2.2.num, .string x.2.2.text, .slice na2' x.2.2.names.length nc2', .slice ka2' x.2.2.kids.length kc2']) ?_ rfl ?_
  · simp [results, Tryd.results73, go_sem, r0, r1, r2, r3, r4, r5, r6]
  · refine fin _ ?_
    exact (by repeat (first | with_reducible exact Ext.refl _ _ | with_reducible refine Ext.setIn ?_ (by simp) _ | with_reducible refine Ext.trans ?_ (Ext.mono (by assumption) (fun _ h => False.elim h))))
theorem info_Item : (Tryd.prog.info? 74).map (fun i => (i.zero, i.size, i.bytes)) = some (some (.agg #[.string ⟨#[]⟩, .int .i64 0, .int .i64 0, .int .i64 0, .string ⟨#[]⟩, .slice none 0 0, .slice none 0 0]), 7, 104) := by kernel_rfl
theorem toItemS_ok (l : List Itm) (a : Option Addr) (c : Nat) (w : World) (hcost : costItmL l ≤ 1048576) (hn : SlR itmRep w any a c l) :
    Calls Tryd.prog 53 #[.slice a l.length c] w fun e w' => ∃ a' c' fp, e = .returned (.slice a' l.length c') ∧ Grow w w' ∧ SlF itmRep w' a' c' l fp ∧ Free w.heap.size w' fp := by
  have hb : l.length ≤ 1048576 := by unfold costItmL at hcost; omega
  have Hn := Lib.hid hn
  clear hn
  have hmk := run_mk (P := Tryd.prog) 45 74 _ 7 104 Tryd.underlying45 info_Item .i64 .i64 l.length (by omega) (by omega)
  go_enter Tryd.func53, Tryd.ntmps53
  go_wp2
  clear hmk
  go_loopw [4] (fun i wr => ∃ (k : Nat) (fp : List Nat), k ≤ l.length ∧ i = .int .i64 k ∧ Grow w wr ∧ RowIn wr w.heap.size (l.length * 7) ∧ RowF itmRep wr w.heap.size 0 (l.take k) fp ∧ Free (w.heap.size + 1) wr fp) (fun i _ => l.length - (intOf i).toNat)
  case atStart => exact ⟨0, [], Nat.zero_le _, rfl, (Ext.refl _ _).alloc _, RowIn.made _ _ _ _, rfl, Free.nil _ _⟩
  case round =>
    obtain ⟨k, fp, hk, rfl, hg, hrow, hkf, hfr⟩ := hrel
    have Hrow := Lib.hid hrow
    have Hkf := Lib.hid hkf
    have Hfr := Lib.hid hfr
    clear hrow hkf hfr
    by_cases hlt : k < l.length
    · obtain ⟨_, _, hks⟩ := (Hn.out).grow hg
      rcases hks with hks | ⟨bk, ok, rfl, _, hkr⟩
      · simp [hks] at hlt
      obtain ⟨cs, hcs, hx⟩ := hkr k hlt
      have Hx := Lib.hid hx
      obtain ⟨na2, nc2, ka2, kc2, rfl, h0, h2⟩ := itmRep_open hx
      rw [itmRep_n] at hcs
      have x0 : wr.cell? ⟨bk, ok + k * 7, none⟩ = _ := hcs 0 _ rfl
      have x1 := hcs 1 _ rfl
      have x2 := hcs 2 _ rfl
      have x3 := hcs 3 _ rfl
      have x4 := hcs 4 _ rfl
      have x5 := hcs 5 _ rfl
      have x6 := hcs 6 _ rfl
      have hck := costItm_get l k hlt
      clear hkr hcs hx h0 h2
      go_wp2_with fail
      refine (toItem_ok l[k] _ _ (by omega) Hx.out).mono ?_
      rintro e w2 ⟨ds, f', rfl, hg2, hN, hf'⟩
      clear x0 x1 x2 x3 x4 x5 x6
      have Hl := itmRep.flen hN
      have HN := Lib.hid hN
      obtain ⟨na2', nc2', ka2', kc2', rfl, g0, g2⟩ := itmRep_openF hN
      have hrow2 := Hrow.out.ext hg2 (fun h => h)
      have hfz := hrow2.2.2
      obtain ⟨u0, d0⟩ := hrow2.2.1 (k * 7) (by omega)
      obtain ⟨u1, d1⟩ := hrow2.2.1 (k * 7 + 1) (by omega)
      obtain ⟨u2, d2⟩ := hrow2.2.1 (k * 7 + 2) (by omega)
      obtain ⟨u3, d3⟩ := hrow2.2.1 (k * 7 + 3) (by omega)
      obtain ⟨u4, d4⟩ := hrow2.2.1 (k * 7 + 4) (by omega)
      obtain ⟨u5, d5⟩ := hrow2.2.1 (k * 7 + 5) (by omega)
      obtain ⟨u6, d6⟩ := hrow2.2.1 (k * 7 + 6) (by omega)
      have Hrow2 := Lib.hid hrow2
      clear hrow2 hN Hl g0 g2
      unfold itmL at *
      go_wp2_with fail
      clear d0 d1 d2 d3 d4 d5 d6 hfz
      have hl : (l.take k).length = k := by simp; omega
      have hbf : w.heap.size ∉ fp := fun h => by have := (Hfr.out.2 _ h).1; omega
      have hbf' : w.heap.size ∉ f' := fun h => by have := (hf'.2 _ h).1; have := Hrow.out.1; omega
      have hfr2 := Hfr.out.ext hg2 (fun _ _ h => h)
      have hkf2 := Hkf.out.keep (hg2.keeps Hfr.out (fun _ _ h => h)) (fun o' _ ho => hg2.cell (p := ⟨w.heap.size, o', none⟩) Hrow.out.1 (fun h => h))
      have hlay := RowF.lay Hrow2.out hkf2 HN.out (by rw [hl, itmRep_n]; omega) hbf hbf'
      rw [hl, itmRep_n] at hlay
      have hfr3 := Free.append Hfr.out hf' hg2 (Nat.le_refl _) (by have := Hrow.out.1; omega)
      go_roundw
      case rel =>
        rw [show (((((((w2.setCell ⟨w.heap.size, k * 7, none⟩ (.string l[k].1)).setCell ⟨w.heap.size, k * 7 + 1, none⟩ (.int .i64 l[k].2.1)).setCell ⟨w.heap.size, k * 7 + 2, none⟩ (.int .i64 l[k].2.2.kind)).setCell ⟨w.heap.size, k * 7 + 3, none⟩ (.int .i64 l[k].2.2.num)).setCell ⟨w.heap.size, k * 7 + 4, none⟩ (.string l[k].2.2.text)).setCell ⟨w.heap.size, k * 7 + 5, none⟩ (.slice na2' l[k].2.2.names.length nc2')).setCell ⟨w.heap.size, k * 7 + 6, none⟩ (.slice ka2' l[k].2.2.kids.length kc2')) = storeL w2 w.heap.size (k * 7) [.string l[k].1, .int .i64 l[k].2.1, .int .i64 l[k].2.2.kind, .int .i64 l[k].2.2.num, .string l[k].2.2.text, .slice na2' l[k].2.2.names.length nc2', .slice ka2' l[k].2.2.kids.length kc2'] from rfl]
        exact ⟨k + 1, fp ++ f', by omega, by go_num, Grow.inner (hg.trans hg2) (storeL_ext w.heap.size [.string l[k].1, .int .i64 l[k].2.1, .int .i64 l[k].2.2.kind, .int .i64 l[k].2.2.num, .string l[k].2.2.text, .slice na2' l[k].2.2.names.length nc2', .slice ka2' l[k].2.2.kids.length kc2'] w2 (k * 7)) (by intro i hi; omega), storeL_row _ _ _ Hrow2.out, by rw [take_snoc' _ _ hlt]; exact hlay, storeL_free _ _ _ hfr3⟩
      case measure => simp [intOf]; omega
    · have hke : k = l.length := by omega
      subst hke
      go_wp2
      go_ret
      rw [List.take_length] at Hkf
      by_cases hne : l = []
      · subst hne
        exact ⟨_, _, [], rfl, hg, ⟨Nat.le_refl _, by simp, .inl ⟨rfl, rfl⟩⟩, Free.nil _ _⟩
      · exact ⟨_, _, w.heap.size :: fp, rfl, hg, ⟨Nat.le_refl _, Hn.out.2.1, .inr ⟨_, 0, fp, hne, rfl, rfl, Hkf.out⟩⟩, Free.cons Hrow.out (Nat.le_refl _) Hfr.out⟩
end Go.Proofs.YtoedpagdklagdaaDoor
namespace Go.Proofs.YtoedpagdklagdaaDoor
open Go.RowKit
end Go.Proofs.YtoedpagdklagdaaDoor
namespace Go.Proofs.YtoedpagdklagdaaDoor
open Go.RowKit
def nameC (c : UInt8) : Bool := inR c.toNat 97 122 || inR c.toNat 48 57
def nameB (s : ByteArray) : Bool := decide (1 ≤ s.size) && decide (s.size ≤ 8) && s.data.toList.all nameC
theorem inR_cases (c a b : Int) : (c < a ∧ inR c a b = false) ∨ (b < c ∧ inR c a b = false) ∨ (a ≤ c ∧ c ≤ b ∧ inR c a b = true) := by
  by_cases h1 : c < a
  · exact .inl ⟨h1, by simp [inR]; omega⟩
  · by_cases h2 : b < c
    · exact .inr (.inl ⟨h2, by simp [inR]; omega⟩)
    · exact .inr (.inr ⟨by omega, by omega, by simp [inR]; omega⟩)
theorem all_end {p : UInt8 → Bool} (s : ByteArray) (k : Nat) (h : ¬ k < s.size) (hk : k ≤ s.size) (h1 : (s.data.toList.take k).all p = true) : s.data.toList.all p = true := by
  have : k = s.data.toList.length := by simp; omega
  rwa [this, List.take_length] at h1
theorem isName_ok (s : ByteArray) (w : World) (hs : s.size ≤ big) :
    Calls Tryd.prog 74 #[.string s] w fun e w' => e = .returned (.bool (nameB s)) ∧ w = w' := by
  unfold big at hs
  by_cases h0 : s.size = 0
  · have he : s.toList.isEmpty = true := by rw [ByteArray.toList_eq]; simp; exact ByteArray.size_eq_zero_iff.1 h0 ▸ rfl
    have Hf : Hid (nameB s = false) := Lib.hid (by simp [nameB, h0])
    clear h0
    go_enter Tryd.func74, Tryd.ntmps74
    go_wp2
    go_ret
    exact ⟨by simp [Hf.out], rfl⟩
  have he : s.toList.isEmpty = false := by
    rw [ByteArray.toList_eq, List.isEmpty_eq_false_iff]
    intro h
    have : s.data.toList.length = 0 := by rw [h]; rfl
    exact h0 (by simpa using this)
  have h0 : 1 ≤ s.size := by omega
  by_cases h8 : 8 < s.size
  · have Hf : Hid (nameB s = false) := Lib.hid (by simp [nameB]; omega)
    go_enter Tryd.func74, Tryd.ntmps74
    go_wp2
    go_ret
    exact ⟨by simp [Hf.out], rfl⟩
  · have h8' : s.size ≤ 8 := by omega
    clear h8
    go_enter Tryd.func74, Tryd.ntmps74
    go_wp2
    go_loop [2, 3] (fun n i => n = .bool false ∧ ∃ k : Nat, k ≤ s.size ∧ i = .int .i64 k ∧ Hid ((s.data.toList.take k).all nameC = true)) (fun _ i => s.size - (intOf i).toNat)
    case atStart => exact ⟨rfl, 0, Nat.zero_le _, rfl, Lib.hid rfl⟩
    case round =>
      obtain ⟨rfl, k, hk, rfl, Hall⟩ := hrel
      by_cases hlt : k < s.size
      · have fin0 : inR (s[k].toNat : Int) 97 122 = false → inR (s[k].toNat : Int) 48 57 = false → nameB s = false := fun h1 h2 => by
          have := all_stop s k hlt (p := nameC) (by simp [nameC, h1, h2])
          simp [nameB, this]
        have fin1 : (inR (s[k].toNat : Int) 97 122 = true ∨ inR (s[k].toNat : Int) 48 57 = true) → (s.data.toList.take (k + 1)).all nameC = true := fun h => all_step s k hlt Hall.out (by rcases h with h | h <;> simp [nameC, h])
        have Fin0 := Lib.hid fin0
        have Fin1 := Lib.hid fin1
        clear fin0 fin1
        rcases inR_cases (s[k].toNat : Int) 97 122 with ⟨a1, a2⟩ | ⟨a1, a2⟩ | ⟨a1, a1', a2⟩
        · rcases inR_cases (s[k].toNat : Int) 48 57 with ⟨b1, b2⟩ | ⟨b1, b2⟩ | ⟨b1, b1', b2⟩
          · have Hf := Lib.hid (Fin0.out a2 b2)
            clear a2 b2
            go_wp2
            go_ret
            exact ⟨by simp [Hf.out], rfl⟩
          · have Hf := Lib.hid (Fin0.out a2 b2)
            clear a2 b2
            go_wp2
            go_ret
            exact ⟨by simp [Hf.out], rfl⟩
          · have Hf := Lib.hid (Fin1.out (.inr b2))
            clear a2 b2
            go_wp2
            go_round
            case rel => exact ⟨rfl, k + 1, by omega, by go_num, Hf⟩
            case measure => simp [intOf]; omega
        · have b1 : 57 < (s[k].toNat : Int) := by omega
          have Hf := Lib.hid (Fin0.out a2 (by simp [inR]; omega))
          clear a2
          go_wp2
          go_ret
          exact ⟨by simp [Hf.out], rfl⟩
        · have Hf := Lib.hid (Fin1.out (.inl a2))
          clear a2
          go_wp2
          go_round
          case rel => exact ⟨rfl, k + 1, by omega, by go_num, Hf⟩
          case measure => simp [intOf]; omega
      · have Hf : Hid (nameB s = true) := Lib.hid (by simp [nameB, all_end s k hlt hk Hall.out]; omega)
        go_wp2
        go_ret
        exact ⟨by simp [Hf.out], rfl⟩
theorem validName_ok (s : ByteArray) (w : World) (hs : s.size ≤ big) :
    Calls Tryd.prog 71 #[.string s] w fun e w' => e = .returned (.bool (nameB s)) ∧ w = w' := by
  unfold big at hs
  go_enter Tryd.func71, Tryd.ntmps71
  go_wp2
  go_loop [2, 3] (fun n i => n = .bool false ∧ ∃ k : Nat, k ≤ s.size ∧ i = .int .i64 k ∧ Hid ((s.data.toList.take k).all nameC = true)) (fun _ i => s.size - (intOf i).toNat)
  case atStart => exact ⟨rfl, 0, Nat.zero_le _, rfl, Lib.hid rfl⟩
  case round =>
    obtain ⟨rfl, k, hk, rfl, Hall⟩ := hrel
    by_cases hlt : k < s.size
    · have hby := byte_lt s[k]
      cases a2 : inR (s[k].toNat : Int) 97 122
      · cases b2 : inR (s[k].toNat : Int) 48 57
        · have Hf : Hid (nameB s = false) := Lib.hid (by
            have := all_stop s k hlt (p := nameC) (by simp [nameC, a2, b2])
            simp [nameB, this])
          go_wp2_with (go_at_call 72; refine (inRange_ok _ _ _ _).mono ?_; rintro e w' ⟨rfl, rfl⟩)
          go_ret
          exact ⟨by simp [Hf.out], rfl⟩
        · have Hf := Lib.hid (all_step s k hlt Hall.out (p := nameC) (by simp [nameC, b2]))
          go_wp2_with (go_at_call 72; refine (inRange_ok _ _ _ _).mono ?_; rintro e w' ⟨rfl, rfl⟩)
          go_round
          case rel => exact ⟨rfl, k + 1, by omega, by go_num, Hf⟩
          case measure => simp [intOf]; omega
      · have Hf := Lib.hid (all_step s k hlt Hall.out (p := nameC) (by simp [nameC, a2]))
        go_wp2_with (go_at_call 72; refine (inRange_ok _ _ _ _).mono ?_; rintro e w' ⟨rfl, rfl⟩)
        go_round
        case rel => exact ⟨rfl, k + 1, by omega, by go_num, Hf⟩
        case measure => simp [intOf]; omega
    · have Hf : Hid (nameB s = inR s.size 1 8) := Lib.hid (by rw [Bool.eq_iff_iff]; simp [nameB, all_end s k hlt hk Hall.out, inR]; omega)
      go_wp2_with (go_at_call 72; refine (inRange_ok _ _ _ _).mono ?_; rintro e w' ⟨rfl, rfl⟩)
      go_ret
      exact ⟨by simp [Hf.out], rfl⟩
end Go.Proofs.YtoedpagdklagdaaDoor
namespace Go.Proofs.YtoedpagdklagdaaDoor
open Go.RowKit
abbrev Sto := List Itm × Int
theorem itmRep_pos : 0 < itmRep.n := by rw [itmRep_n]; omega
def stoRep : Rep Sto := pairRep (slRep itmRep itmRep_pos) intRep
def stoV (s : Sto) (a : Option Addr) (c : Nat) : Value := .agg #[.slice a s.1.length c, .int .i64 s.2]
def costSto (s : Sto) : Nat := costItmL s.1
theorem sto_open {w : World} {S : Nat → Prop} {s : Sto} {v : Value} (h : RV stoRep packA w S s v) : ∃ a c, v = stoV s a c ∧ SlR itmRep w S a c s.1 := by
  obtain ⟨cs, rfl, _, _, rfl, ⟨a, c, rfl, h⟩, rfl⟩ := h; exact ⟨a, c, rfl, h⟩
theorem sto_shut {w : World} {S : Nat → Prop} {s : Sto} {a : Option Addr} {c : Nat} (h : SlR itmRep w S a c s.1) : RV stoRep packA w S s (stoV s a c) := ⟨_, rfl, _, _, rfl, ⟨a, c, rfl, h⟩, rfl⟩
theorem sto_shutF {w : World} {s : Sto} {a : Option Addr} {c : Nat} {fp : List Nat} (h : SlF itmRep w a c s.1 fp) : FV stoRep packA w s (stoV s a c) fp :=
  ⟨_, rfl, _, _, fp, [], rfl, by simp, ⟨a, c, rfl, h⟩, ⟨rfl, rfl⟩⟩
def itmB (clock : Int) (x : Itm) : Bool := nameB x.1 && inR x.2.1 1 clock && validB x.2.2
def itmsFrom (clock : Int) : Option ByteArray → List Itm → Bool
  | _, [] => true
  | p, x :: r => (match p with | none => true | some y => lt y x.1) && itmB clock x && itmsFrom clock (some x.1) r
def itmsAt (clock : Int) (l : List Itm) (k : Nat) : Bool := itmsFrom clock (if k = 0 then none else (l[k - 1]?).map (·.1)) (l.drop k)
def itmsB (clock : Int) (l : List Itm) : Bool := itmsFrom clock none l
def storeB (s : Sto) : Bool := decide (s.1.length ≤ 10) && inR s.2 0 999 && itmsB s.2 s.1
theorem itmsAt_zero (clock : Int) (l : List Itm) : itmsAt clock l 0 = itmsB clock l := by simp [itmsAt, itmsB]
theorem itmsAt_end (clock : Int) (l : List Itm) (k : Nat) (h : ¬ k < l.length) : itmsAt clock l k = true := by
  unfold itmsAt; rw [List.drop_eq_nil_of_le (by omega)]; cases k <;> simp [itmsFrom]
theorem itmsAt_first (clock : Int) (l : List Itm) (h : 0 < l.length) : itmsAt clock l 0 = (itmB clock l[0] && itmsAt clock l 1) := by
  unfold itmsAt; rw [drop_cons l 0 h]; simp [itmsFrom, h]
theorem itmsAt_next (clock : Int) (l : List Itm) (k : Nat) (h : k < l.length) (h0 : 0 < k) : itmsAt clock l k = (lt l[k - 1].1 l[k].1 && itmB clock l[k] && itmsAt clock l (k + 1)) := by
  unfold itmsAt
  rw [drop_cons l k h, if_neg (by omega), List.getElem?_eq_getElem (by omega)]
  simp [itmsFrom, h]
theorem itmsAt_bad {clock : Int} {l : List Itm} {k : Nat} (h : k < l.length) (hb : itmB clock l[k] = false ∨ (0 < k ∧ lt (l[k - 1]'(by omega)).1 l[k].1 = false)) : itmsAt clock l k = false := by
  rcases Nat.eq_zero_or_pos k with rfl | h0
  · rcases hb with hb | ⟨hb, _⟩
    · rw [itmsAt_first _ _ h, hb]; rfl
    · omega
  · rw [itmsAt_next _ _ _ h h0]
    rcases hb with hb | ⟨_, hb⟩
    · rw [hb]; simp
    · rw [hb]; simp
theorem itmsAt_good {clock : Int} {l : List Itm} {k : Nat} (h : k < l.length) (hb : itmB clock l[k] = true) (ho : ∀ _ : 0 < k, lt (l[k - 1]'(by omega)).1 l[k].1 = true) : itmsAt clock l k = itmsAt clock l (k + 1) := by
  rcases Nat.eq_zero_or_pos k with rfl | h0
  · rw [itmsAt_first _ _ h, hb]; rfl
  · rw [itmsAt_next _ _ _ h h0, hb, ho h0]; simp
theorem itmsFrom_all {clock : Int} : ∀ {p : Option ByteArray} {l : List Itm}, itmsFrom clock p l = true → ∀ x ∈ l, itmB clock x = true
  | _, [], _, x, hx => by cases hx
  | p, y :: r, h, x, hx => by
    unfold itmsFrom at h
    simp only [Bool.and_eq_true] at h
    rcases List.mem_cons.1 hx with rfl | hx
    · exact h.1.2
    · exact itmsFrom_all h.2 x hx
theorem lt_trans {a b c : ByteArray} (h1 : lt a b = true) (h2 : lt b c = true) : lt a c = true := bl_trans _ _ _ h1 h2
theorem itmsFrom_asc {clock : Int} : ∀ {p : Option ByteArray} {l : List Itm}, itmsFrom clock p l = true → (l.map (·.1)).Pairwise (fun a b => lt a b = true) ∧ ∀ y, p = some y → ∀ x ∈ l, lt y x.1 = true
  | _, [], _ => ⟨List.Pairwise.nil, fun _ _ x hx => by cases hx⟩
  | p, y :: r, h => by
    unfold itmsFrom at h
    simp only [Bool.and_eq_true] at h
    obtain ⟨i1, i2⟩ := itmsFrom_asc h.2
    refine ⟨List.Pairwise.cons (fun z hz => ?_) i1, ?_⟩
    · obtain ⟨x, hx, rfl⟩ := List.mem_map.1 hz
      exact i2 _ rfl x hx
    · rintro q rfl x hx
      have h0 : lt q y.1 = true := h.1.1
      rcases List.mem_cons.1 hx with rfl | hx
      · exact h0
      · exact lt_trans h0 (i2 _ rfl x hx)
theorem storeB_parts {s : Sto} (h : storeB s = true) : s.1.length ≤ 10 ∧ 0 ≤ s.2 ∧ s.2 ≤ 999 ∧ (∀ x ∈ s.1, itmB s.2 x = true) ∧ (s.1.map (·.1)).Pairwise (fun a b => lt a b = true) := by
  unfold storeB inR at h
  simp only [Bool.and_eq_true, decide_eq_true_eq] at h
  exact ⟨h.1.1, h.1.2.1, h.1.2.2, itmsFrom_all h.2, (itmsFrom_asc h.2).1⟩
end Go.Proofs.YtoedpagdklagdaaDoor
namespace Go.Proofs.YtoedpagdklagdaaDoor.Eng
open Go Go.RowKit
def itemL (x : Itm) : List AV := .str x.1 :: .int .i64 x.2.1 :: nodeL x.2.2
def itemA (x : Itm) : AV := .agg (itemL x)
theorem itemL_eq (x : Itm) : itemL x = [.str x.1, .int .i64 x.2.1, .int .i64 x.2.2.kind, .int .i64 x.2.2.num, .str x.2.2.text, .view .loose 1 (strsE x.2.2.names), .view .loose 5 (x.2.2.kids.map nodeL)] := by unfold itemL; rw [nodeL_eq]
theorem itemL_len (x : Itm) : (itemL x).length = 7 := by rw [itemL_eq]; rfl
theorem itemL_pur (x : Itm) : ∀ c ∈ itemL x, Pur c := by
  intro c hc
  simp only [itemL, List.mem_cons] at hc
  rcases hc with rfl | rfl | hc
  · exact pur_str
  · exact pur_int
  · exact nodeL_pur _ c hc
theorem itemL_in {U : Nat → Bool} (x : Itm) : ∀ c ∈ itemL x, AV.In U c := by
  intro c hc
  simp only [itemL, List.mem_cons] at hc
  rcases hc with rfl | rfl | hc
  · exact in_str
  · exact in_int
  · exact nodeL_in _ c hc
theorem item_pur (x : Itm) : Pur (itemA x) := pur_agg (itemL_pur x)
theorem item_clo (x : Itm) : Clo (itemA x) := (item_pur x).clo
theorem item_in {U : Nat → Bool} (x : Itm) : AV.In U (itemA x) := in_agg.2 (itemL_in x)
theorem itemsE_pur (l : List Itm) : ∀ e ∈ l.map itemL, ∀ c ∈ e, Pur c := fun e he c hc => by
  obtain ⟨k, _, rfl⟩ := List.mem_map.1 he
  exact itemL_pur k c hc
theorem itemsE_clo (l : List Itm) : ∀ e ∈ l.map itemL, ∀ c ∈ e, Clo c := fun e he c hc => (itemsE_pur l e he c hc).clo
theorem itemsE_in {U : Nat → Bool} (l : List Itm) : ∀ e ∈ l.map itemL, ∀ c ∈ e, AV.In U c := fun e he c hc => by
  obtain ⟨k, _, rfl⟩ := List.mem_map.1 he
  exact itemL_in k c hc
theorem items_clo {t : VC} (l : List Itm) : Clo (.view t 7 (l.map itemL)) := clo_view (itemsE_clo l)
theorem items_in {U : Nat → Bool} {t : VC} (l : List Itm) : AV.In U (.view t 7 (l.map itemL)) := in_view.2 (itemsE_in l)
def storeT (t : VC) (s : Sto) : AV := .agg [.view t 7 (s.1.map itemL), .int .i64 s.2]
def storeA (s : Sto) : AV := storeT .loose s
theorem store_clo (t : VC) (s : Sto) : Clo (storeT t s) := clo_agg (by
  simp only [List.forall_mem_cons, List.not_mem_nil, false_implies, implies_true, and_true]
  exact ⟨items_clo _, clo_int⟩)
theorem storeA_clo (s : Sto) : Clo (storeA s) := store_clo .loose s
theorem store_in {U : Nat → Bool} (t : VC) (s : Sto) : AV.In U (storeT t s) := in_agg.2 (by
  simp only [List.forall_mem_cons, List.not_mem_nil, false_implies, implies_true, and_true]
  exact ⟨items_in _, in_int⟩)
theorem storeA_in {U : Nat → Bool} (s : Sto) : AV.In U (storeA s) := store_in .loose s
def storeO (s : Sto) (id : Nat) : AV := .agg [.own id s.1.length, .int .i64 s.2]
def itemsRow (s : Sto) : Row := ⟨false, 74, 7, s.1.map itemL⟩
theorem less_s {s : ASt} {tm : List AV} {rl : List (Nat × Row)} {us : List Nat} {rd : Option Nat} (h1 : lessL s.tmps tm := by (simp [lessL, mkSt, slots] <;> fail)) (h2 : ∀ p ∈ rl, s.rows p.1 = some p.2 := by (simp [upd, mkSt, rowsOf_cons] <;> fail)) (h3 : ∀ id ∈ us, s.used id = true := by (simp [upd, mkSt, usedOf_cons] <;> fail))
    (h4 : rd = s.rd ∨ ∃ j j', s.rd = some j ∧ rd = some j' ∧ j' ≤ j := by first | exact rd_less (by omega) | (simp [mkSt] <;> fail))
    (h5 : ∀ c ∈ tm, AV.In (usedOf us) c := by (simp [slots, in_any, in_int, in_bool, in_str, in_ptr, in_own, in_agg, in_vnil, in_rdr, usedOf_cons, usedOf_nil, strs_in, ints_in, nodes_in, items_in, in_tup] <;> fail))
    (h6 : ∀ p ∈ rl, usedOf us p.1 = true ∧ ∀ e ∈ p.2.es, ∀ c ∈ e, AV.In (usedOf us) c := by (simp only [List.forall_mem_cons, List.not_mem_nil, false_implies, implies_true, and_true, true_and, itemA, itemL_eq, storeA, storeT, storeO, itemsRow] <;> (repeat (first | with_reducible exact trivial | with_reducible refine And.intro ?_ ?_ | with_reducible exact in_int | with_reducible exact in_str | with_reducible exact in_bool | with_reducible exact strs_in _ | with_reducible exact nodes_in _ | with_reducible exact items_in _ | with_reducible exact in_vnil | with_reducible exact in_any | exact hin _ | with_reducible refine take_in ?_ | with_reducible exact strsE_in _ | with_reducible exact nodesE_in _ | with_reducible exact nodeL_in _ | with_reducible exact itemsE_in _ | with_reducible exact itemL_in _ | with_reducible refine app_in ?_ ?_ | with_reducible refine sing_in ?_ | (focus (simp [in_any, in_int, in_bool, in_str, in_ptr, in_own, in_agg, in_vnil, in_rdr, usedOf_cons, usedOf_nil, strs_in, ints_in, nodes_in, items_in] <;> fail)))) <;> fail)) : Less s (mkSt tm rl us rd) := less_of h1 h2 h3 h4 h5 h6
end Go.Proofs.YtoedpagdklagdaaDoor.Eng
namespace Go.Proofs.YtoedpagdklagdaaDoor
open Go Go.RowKit
def RB (b n : Nat) (K : World → Prop) (w w' : World) : Prop := Ext (fun k => k = b) w w' ∧ (RowIn w b n → RowIn w' b n) ∧ (K w → K w')
theorem RB.refl (b n : Nat) (K : World → Prop) (w : World) : RB b n K w w := ⟨Ext.refl _ _, fun h => h, fun h => h⟩
theorem RB.trans {b n : Nat} {K : World → Prop} {a c d : World} (h : RB b n K a c) (k : RB b n K c d) : RB b n K a d := ⟨h.1.trans k.1, fun x => k.2.1 (h.2.1 x), fun x => k.2.2 (h.2.2 x)⟩
structure LaterB (b n : Nat) (K : World → Prop) (w : World) : Type where
  at' : World
  rel : RB b n K w at'
def laterB {b n : Nat} {K : World → Prop} (w : World) (x : LaterB b n K w) : World := x.at'
instance laterB_some (b n : Nat) (K : World → Prop) (w : World) : Nonempty (LaterB b n K w) := ⟨⟨w, RB.refl _ _ _ _⟩⟩
theorem laterB_rel {b n : Nat} {K : World → Prop} (w : World) (x : LaterB b n K w) : RB b n K w (laterB w x) := x.rel
@[go_sem] theorem laterB_cell {b n : Nat} {K : World → Prop} (w : World) (x : LaterB b n K w) (a : Addr) (h : (w.cell? a).isSome = true) (hb : ¬ a.block = b) : (laterB w x).cell? a = w.cell? a := by
  obtain ⟨v, hv⟩ := Option.isSome_iff_exists.1 h
  rw [hv]; exact (laterB_rel w x).1.some hv hb
section
variable {P : Program} {ops : Array Oper} {Vs : Nat → Option (Value → World → Prop)} {w : World} {Q : Act → World → Prop} {b n : Nat} {K : World → Prop}
end
end Go.Proofs.YtoedpagdklagdaaDoor
namespace Go.Proofs.YtoedpagdklagdaaDoor
open Go.RowKit
theorem bl_ne {a b : ByteArray} (h : lt a b = true) : (a.toList == b.toList) = false := by
  cases h' : a.toList == b.toList
  · rfl
  · have : a.toList = b.toList := by simpa using h'
    unfold lt at h
    rw [this, bl_irrefl] at h; cases h
theorem isName_same (x : ByteArray) (w : World) (hs : x.size ≤ big) : Calls Tryd.prog 74 #[.string x] w fun e w' => e = .returned (.bool (nameB x)) ∧ w' = w :=
  (isName_ok x w hs).mono fun _ _ ⟨h1, h2⟩ => ⟨h1, h2.symm⟩
theorem ValidStore_ok (s : Sto) (v : Value) (w : World) (h : RV stoRep packA w any s v) :
    Calls Tryd.prog 54 #[v] w fun e w' => e = .returned (.bool (storeB s)) ∧ Grow w w' := by
  obtain ⟨a, c, rfl, hs⟩ := sto_open h
  have hbig : s.1.length ≤ 9223372036854775807 := hs.2.1
  have Hs := Lib.hid hs
  clear h hs
  unfold stoV
  by_cases hbad : 10 < s.1.length ∨ s.2 < 0 ∨ 999 < s.2
  · have Hb : Hid (storeB s = false) := Lib.hid (by simp only [storeB, inR, Bool.and_eq_false_iff, decide_eq_false_iff_not]; omega)
    rcases hbad with hb | hb | hb
    · go_enter Tryd.func54, Tryd.ntmps54
      go_wp2_with fail
      go_ret
      exact ⟨by simp [Hb.out], (by repeat (first | with_reducible exact Ext.refl _ _ | with_reducible refine Ext.trans ?_ (by assumption) | with_reducible refine Ext.drew ?_ | with_reducible refine Ext.drewN ?_ _ | with_reducible refine Ext.alloc ?_ _ | with_reducible refine Ext.setNew ?_ (by simp; done) _ | with_reducible refine Ext.setNew ?_ (by simp; omega) _))⟩
    · by_cases hl : 10 < s.1.length
      all_goals
        go_enter Tryd.func54, Tryd.ntmps54
        go_wp2_with fail
        go_ret
        exact ⟨by simp [Hb.out], (by repeat (first | with_reducible exact Ext.refl _ _ | with_reducible refine Ext.trans ?_ (by assumption) | with_reducible refine Ext.drew ?_ | with_reducible refine Ext.drewN ?_ _ | with_reducible refine Ext.alloc ?_ _ | with_reducible refine Ext.setNew ?_ (by simp; done) _ | with_reducible refine Ext.setNew ?_ (by simp; omega) _))⟩
    · by_cases hl : 10 < s.1.length
      · go_enter Tryd.func54, Tryd.ntmps54
        go_wp2_with fail
        go_ret
        exact ⟨by simp [Hb.out], (by repeat (first | with_reducible exact Ext.refl _ _ | with_reducible refine Ext.trans ?_ (by assumption) | with_reducible refine Ext.drew ?_ | with_reducible refine Ext.drewN ?_ _ | with_reducible refine Ext.alloc ?_ _ | with_reducible refine Ext.setNew ?_ (by simp; done) _ | with_reducible refine Ext.setNew ?_ (by simp; omega) _))⟩
      · have h0 : 0 ≤ s.2 := by omega
        go_enter Tryd.func54, Tryd.ntmps54
        go_wp2_with fail
        go_ret
        exact ⟨by simp [Hb.out], (by repeat (first | with_reducible exact Ext.refl _ _ | with_reducible refine Ext.trans ?_ (by assumption) | with_reducible refine Ext.drew ?_ | with_reducible refine Ext.drewN ?_ _ | with_reducible refine Ext.alloc ?_ _ | with_reducible refine Ext.setNew ?_ (by simp; done) _ | with_reducible refine Ext.setNew ?_ (by simp; omega) _))⟩
  have hl : s.1.length ≤ 10 := by omega
  have h0 : 0 ≤ s.2 := by omega
  have h9 : s.2 ≤ 999 := by omega
  have Hb : Hid (storeB s = itmsB s.2 s.1) := Lib.hid (by simp [storeB, inR, hl, h0, h9])
  clear hbad
  have HB := Lib.hid (BoxN.new w [.slice a s.1.length c, .int .i64 s.2] 47)
  go_enter Tryd.func54, Tryd.ntmps54
  go_wp2_with fail
  go_loopw [2, 3, 4, 22] (fun n _ _ i wr => n = .bool false ∧ Grow w wr ∧ BoxN wr w.heap.size [.slice a s.1.length c, .int .i64 s.2] ∧ ∃ k : Nat, k ≤ s.1.length ∧ i = .int .i64 k ∧ Hid (itmsB s.2 s.1 = itmsAt s.2 s.1 k)) (fun _ _ _ i _ => s.1.length - (intOf i).toNat)
  case atStart => exact ⟨rfl, (by repeat (first | with_reducible exact Ext.refl _ _ | with_reducible refine Ext.trans ?_ (by assumption) | with_reducible refine Ext.drew ?_ | with_reducible refine Ext.drewN ?_ _ | with_reducible refine Ext.alloc ?_ _ | with_reducible refine Ext.setNew ?_ (by simp; done) _ | with_reducible refine Ext.setNew ?_ (by simp; omega) _)), HB.out, 0, Nat.zero_le _, rfl, Lib.hid (itmsAt_zero _ _).symm⟩
  case round =>
    obtain ⟨rfl, hg, hB, k, hk, rfl, Hr⟩ := hrel
    have HB := Lib.hid hB
    have zB := hB.lt
    clear hB
    by_cases hlt : k < s.1.length
    · obtain ⟨_, _, hks⟩ := (Hs.out).grow hg
      rcases hks with hks | ⟨bk, ok, rfl, _, hkr⟩
      · simp [hks] at hlt
      obtain ⟨cs, hcs, hx⟩ := hkr k hlt
      obtain ⟨na0, nc0, ka0, kc0, rfl, hsz, h0⟩ := itmRep_open hx
      rw [itmRep_n] at hcs
      have x0 : wr.cell? ⟨bk, ok + k * 7, none⟩ = _ := hcs 0 _ rfl
      have x1 := hcs 1 _ rfl
      have x2 := hcs 2 _ rfl
      have x3 := hcs 3 _ rfl
      have x4 := hcs 4 _ rfl
      have x5 := hcs 5 _ rfl
      have x6 := hcs 6 _ rfl
      have zb : bk < wr.heap.size := lt_of_cell x0
      have H0 := Lib.hid h0
      have q0 := HB.out.cell 0 _ rfl
      have q1 := HB.out.cell 1 _ rfl
      have prev : ∀ h0 : 0 < k, wr.cell? ⟨bk, ok + (k - 1) * 7, none⟩ = some (.string (s.1[k - 1]'(by omega)).1) := fun h0 => by
        obtain ⟨cs', hcs', hx'⟩ := hkr (k - 1) (by omega)
        obtain ⟨_, _, _, _, rfl, _, _⟩ := itmRep_open hx'
        rw [itmRep_n] at hcs'
        exact hcs' 0 _ rfl
      have Prev := Lib.hid prev
      clear hkr hcs hx h0 prev
      have hg1 : ∀ o : Obj, Grow w (wr.alloc o) := fun o => hg.alloc o
      by_cases hbad : nameB s.1[k].1 = false ∨ (0 < k ∧ lt (s.1[k - 1]'(by omega)).1 s.1[k].1 = false)
      · have Hs : Hid (itmsAt s.2 s.1 k = false) := Lib.hid (itmsAt_bad hlt (hbad.imp (fun h => by unfold itmB; rw [h]; rfl) id))
        by_cases hn : nameB s.1[k].1 = false
        · have Hn := Lib.hid hn
          clear hn hbad
          go_wp2_with fail
          go_quiet ((go_at_call 74; exact Calls.quiet_of_same (by simpa only [Hn.out] using isName_same s.1[k].1 _ hsz)))
          go_wp2_with fail
          go_ret
          exact ⟨by simp [Hb.out, Hr.out, Hs.out], (by repeat (first | with_reducible exact Ext.refl _ _ | with_reducible refine Ext.trans ?_ (by assumption) | with_reducible refine Ext.drew ?_ | with_reducible refine Ext.drewN ?_ _ | with_reducible refine Ext.alloc ?_ _ | with_reducible refine Ext.setNew ?_ (by simp; done) _ | with_reducible refine Ext.setNew ?_ (by simp; omega) _))⟩
        · have hn : nameB s.1[k].1 = true := by simpa using hn
          obtain ⟨hk0, hlt'⟩ := hbad.resolve_left (by simp [hn])
          have Hn := Lib.hid hn
          have hki : (0 : Int) < (k : Int) := by omega
          have y0 := Prev.out hk0
          have k1 : ((k : Int) - 1).toNat = k - 1 := by omega
          have k2 : (0 : Int) ≤ (k : Int) - 1 := by omega
          have k3 : (k : Int) - 1 < (s.1.length : Int) := by omega
          clear hn
          rcases bl_cases (s.1[k - 1]'(by omega)).1 s.1[k].1 with ⟨l1, l2, l3, l4, _⟩ | ⟨l1, l2, l3, l4, _⟩ | l0
          · have := hlt'.symm.trans l1; cases this
          · clear hlt'
            go_wp2_with fail
            go_quiet ((go_at_call 74; exact Calls.quiet_of_same (by simpa only [Hn.out] using isName_same s.1[k].1 _ hsz)))
            go_wp2_with fail
            go_ret
            exact ⟨by simp [Hb.out, Hr.out, Hs.out], (by repeat (first | with_reducible exact Ext.refl _ _ | with_reducible refine Ext.trans ?_ (by assumption) | with_reducible refine Ext.drew ?_ | with_reducible refine Ext.drewN ?_ _ | with_reducible refine Ext.alloc ?_ _ | with_reducible refine Ext.setNew ?_ (by simp; done) _ | with_reducible refine Ext.setNew ?_ (by simp; omega) _))⟩
          · rw [l0] at y0
            clear l0 hlt'
            have l1 := blF_irrefl s.1[k].1
            go_wp2_with fail
            go_quiet ((go_at_call 74; exact Calls.quiet_of_same (by simpa only [Hn.out] using isName_same s.1[k].1 _ hsz)))
            go_wp2_with fail
            go_ret
            exact ⟨by simp [Hb.out, Hr.out, Hs.out], (by repeat (first | with_reducible exact Ext.refl _ _ | with_reducible refine Ext.trans ?_ (by assumption) | with_reducible refine Ext.drew ?_ | with_reducible refine Ext.drewN ?_ _ | with_reducible refine Ext.alloc ?_ _ | with_reducible refine Ext.setNew ?_ (by simp; done) _ | with_reducible refine Ext.setNew ?_ (by simp; omega) _))⟩
      · have hn : nameB s.1[k].1 = true := by
          cases h : nameB s.1[k].1
          · exact absurd (.inl h) hbad
          · rfl
        have hord : ∀ h0 : 0 < k, lt (s.1[k - 1]'(by omega)).1 s.1[k].1 = true := fun h0 => by
          cases h : lt (s.1[k - 1]'(by omega)).1 s.1[k].1
          · exact absurd (.inr ⟨h0, h⟩) hbad
          · rfl
        have Hn := Lib.hid hn
        have Hord := Lib.hid hord
        have fin : ∀ (wz : World), Hid (itmB s.2 s.1[k] = (inR s.1[k].2.1 1 s.2 && validB s.1[k].2.2)) := fun _ => Lib.hid (by unfold itmB; rw [hn]; rfl)
        have Hi := fin w
        clear hbad hn hord fin
        by_cases hk0 : 0 < k
        · have hki : (0 : Int) < (k : Int) := by omega
          have y0 := Prev.out hk0
          have k1 : ((k : Int) - 1).toNat = k - 1 := by omega
          have k2 : (0 : Int) ≤ (k : Int) - 1 := by omega
          have k3 : (k : Int) - 1 < (s.1.length : Int) := by omega
          have l1 : lt (s.1[k - 1]'(by omega)).1 s.1[k].1 = true := Hord.out hk0
          have l2 : Op.bytesLess s.1[k].1.toList (s.1[k - 1]'(by omega)).1.toList = false := bl_asymm _ _ l1
          have l3 : ((s.1[k - 1]'(by omega)).1.toList == s.1[k].1.toList) = false := bl_ne l1
          go_wp2_with fail
          go_quiet ((go_at_call 74; exact Calls.quiet_of_same (by simpa only [Hn.out] using isName_same s.1[k].1 _ hsz)))
          by_cases hv1 : s.1[k].2.1 < 1
          · have Hs : Hid (itmsAt s.2 s.1 k = false) := Lib.hid (itmsAt_bad hlt (.inl (by rw [Hi.out]; simp [inR]; omega)))
            go_wp2_with fail
            go_ret
            exact ⟨by simp [Hb.out, Hr.out, Hs.out], (by repeat (first | with_reducible exact Ext.refl _ _ | with_reducible refine Ext.trans ?_ (by assumption) | with_reducible refine Ext.drew ?_ | with_reducible refine Ext.drewN ?_ _ | with_reducible refine Ext.alloc ?_ _ | with_reducible refine Ext.setNew ?_ (by simp; done) _ | with_reducible refine Ext.setNew ?_ (by simp; omega) _))⟩
          by_cases hv2 : s.2 < s.1[k].2.1
          · have Hs : Hid (itmsAt s.2 s.1 k = false) := Lib.hid (itmsAt_bad hlt (.inl (by rw [Hi.out]; simp [inR]; omega)))
            go_wp2_with fail
            go_ret
            exact ⟨by simp [Hb.out, Hr.out, Hs.out], (by repeat (first | with_reducible exact Ext.refl _ _ | with_reducible refine Ext.trans ?_ (by assumption) | with_reducible refine Ext.drew ?_ | with_reducible refine Ext.drewN ?_ _ | with_reducible refine Ext.alloc ?_ _ | with_reducible refine Ext.setNew ?_ (by simp; done) _ | with_reducible refine Ext.setNew ?_ (by simp; omega) _))⟩
          cases hvb : validB s.1[k].2.2
          · have Hs : Hid (itmsAt s.2 s.1 k = false) := Lib.hid (itmsAt_bad hlt (.inl (by rw [Hi.out, hvb]; simp)))
            have Hv := Lib.hid hvb
            clear hvb
            go_wp2_with fail
            refine (ValidNode_ok s.1[k].2.2 _ _ ⟨_, _, _, _, rfl, H0.out.grow' (by repeat (first | with_reducible exact Ext.refl _ _ | with_reducible refine Ext.trans ?_ (by assumption) | with_reducible refine Ext.drew ?_ | with_reducible refine Ext.drewN ?_ _ | with_reducible refine Ext.alloc ?_ _ | with_reducible refine Ext.setNew ?_ (by simp; done) _ | with_reducible refine Ext.setNew ?_ (by simp; omega) _))⟩).mono ?_
            rintro e w3 ⟨rfl, hg3⟩
            simp only [Hv.out]
            go_wp2_with fail
            go_ret
            exact ⟨by simp [Hb.out, Hr.out, Hs.out], (by repeat (first | with_reducible exact Ext.refl _ _ | with_reducible refine Ext.trans ?_ (by assumption) | with_reducible refine Ext.drew ?_ | with_reducible refine Ext.drewN ?_ _ | with_reducible refine Ext.alloc ?_ _ | with_reducible refine Ext.setNew ?_ (by simp; done) _ | with_reducible refine Ext.setNew ?_ (by simp; omega) _))⟩
          · have Hs : Hid (itmsAt s.2 s.1 k = itmsAt s.2 s.1 (k + 1)) := Lib.hid (itmsAt_good hlt (by rw [Hi.out, hvb]; simp [inR]; omega) Hord.out)
            have Hv := Lib.hid hvb
            clear hvb
            go_wp2_with fail
            refine (ValidNode_ok s.1[k].2.2 _ _ ⟨_, _, _, _, rfl, H0.out.grow' (by repeat (first | with_reducible exact Ext.refl _ _ | with_reducible refine Ext.trans ?_ (by assumption) | with_reducible refine Ext.drew ?_ | with_reducible refine Ext.drewN ?_ _ | with_reducible refine Ext.alloc ?_ _ | with_reducible refine Ext.setNew ?_ (by simp; done) _ | with_reducible refine Ext.setNew ?_ (by simp; omega) _))⟩).mono ?_
            rintro e w3 ⟨rfl, hg3⟩
            simp only [Hv.out]
            have hgr : Grow wr w3 := (by repeat (first | with_reducible exact Ext.refl _ _ | with_reducible refine Ext.trans ?_ (by assumption) | with_reducible refine Ext.drew ?_ | with_reducible refine Ext.drewN ?_ _ | with_reducible refine Ext.alloc ?_ _ | with_reducible refine Ext.setNew ?_ (by simp; done) _ | with_reducible refine Ext.setNew ?_ (by simp; omega) _))
            go_wp2_with fail
            go_roundw
            case rel => exact ⟨rfl, hg.trans hgr, HB.out.grow hgr, k + 1, by omega, by go_num, Lib.hid (by rw [Hr.out, Hs.out])⟩
            case measure => simp [intOf]; omega
        · have hki : ¬ (0 : Int) < (k : Int) := by omega
          go_wp2_with fail
          go_quiet ((go_at_call 74; exact Calls.quiet_of_same (by simpa only [Hn.out] using isName_same s.1[k].1 _ hsz)))
          by_cases hv1 : s.1[k].2.1 < 1
          · have Hs : Hid (itmsAt s.2 s.1 k = false) := Lib.hid (itmsAt_bad hlt (.inl (by rw [Hi.out]; simp [inR]; omega)))
            go_wp2_with fail
            go_ret
            exact ⟨by simp [Hb.out, Hr.out, Hs.out], (by repeat (first | with_reducible exact Ext.refl _ _ | with_reducible refine Ext.trans ?_ (by assumption) | with_reducible refine Ext.drew ?_ | with_reducible refine Ext.drewN ?_ _ | with_reducible refine Ext.alloc ?_ _ | with_reducible refine Ext.setNew ?_ (by simp; done) _ | with_reducible refine Ext.setNew ?_ (by simp; omega) _))⟩
          by_cases hv2 : s.2 < s.1[k].2.1
          · have Hs : Hid (itmsAt s.2 s.1 k = false) := Lib.hid (itmsAt_bad hlt (.inl (by rw [Hi.out]; simp [inR]; omega)))
            go_wp2_with fail
            go_ret
            exact ⟨by simp [Hb.out, Hr.out, Hs.out], (by repeat (first | with_reducible exact Ext.refl _ _ | with_reducible refine Ext.trans ?_ (by assumption) | with_reducible refine Ext.drew ?_ | with_reducible refine Ext.drewN ?_ _ | with_reducible refine Ext.alloc ?_ _ | with_reducible refine Ext.setNew ?_ (by simp; done) _ | with_reducible refine Ext.setNew ?_ (by simp; omega) _))⟩
          cases hvb : validB s.1[k].2.2
          · have Hs : Hid (itmsAt s.2 s.1 k = false) := Lib.hid (itmsAt_bad hlt (.inl (by rw [Hi.out, hvb]; simp)))
            have Hv := Lib.hid hvb
            clear hvb
            go_wp2_with fail
            refine (ValidNode_ok s.1[k].2.2 _ _ ⟨_, _, _, _, rfl, H0.out.grow' (by repeat (first | with_reducible exact Ext.refl _ _ | with_reducible refine Ext.trans ?_ (by assumption) | with_reducible refine Ext.drew ?_ | with_reducible refine Ext.drewN ?_ _ | with_reducible refine Ext.alloc ?_ _ | with_reducible refine Ext.setNew ?_ (by simp; done) _ | with_reducible refine Ext.setNew ?_ (by simp; omega) _))⟩).mono ?_
            rintro e w3 ⟨rfl, hg3⟩
            simp only [Hv.out]
            go_wp2_with fail
            go_ret
            exact ⟨by simp [Hb.out, Hr.out, Hs.out], (by repeat (first | with_reducible exact Ext.refl _ _ | with_reducible refine Ext.trans ?_ (by assumption) | with_reducible refine Ext.drew ?_ | with_reducible refine Ext.drewN ?_ _ | with_reducible refine Ext.alloc ?_ _ | with_reducible refine Ext.setNew ?_ (by simp; done) _ | with_reducible refine Ext.setNew ?_ (by simp; omega) _))⟩
          · have Hs : Hid (itmsAt s.2 s.1 k = itmsAt s.2 s.1 (k + 1)) := Lib.hid (itmsAt_good hlt (by rw [Hi.out, hvb]; simp [inR]; omega) Hord.out)
            have Hv := Lib.hid hvb
            clear hvb
            go_wp2_with fail
            refine (ValidNode_ok s.1[k].2.2 _ _ ⟨_, _, _, _, rfl, H0.out.grow' (by repeat (first | with_reducible exact Ext.refl _ _ | with_reducible refine Ext.trans ?_ (by assumption) | with_reducible refine Ext.drew ?_ | with_reducible refine Ext.drewN ?_ _ | with_reducible refine Ext.alloc ?_ _ | with_reducible refine Ext.setNew ?_ (by simp; done) _ | with_reducible refine Ext.setNew ?_ (by simp; omega) _))⟩).mono ?_
            rintro e w3 ⟨rfl, hg3⟩
            simp only [Hv.out]
            have hgr : Grow wr w3 := (by repeat (first | with_reducible exact Ext.refl _ _ | with_reducible refine Ext.trans ?_ (by assumption) | with_reducible refine Ext.drew ?_ | with_reducible refine Ext.drewN ?_ _ | with_reducible refine Ext.alloc ?_ _ | with_reducible refine Ext.setNew ?_ (by simp; done) _ | with_reducible refine Ext.setNew ?_ (by simp; omega) _))
            go_wp2_with fail
            go_roundw
            case rel => exact ⟨rfl, hg.trans hgr, HB.out.grow hgr, k + 1, by omega, by go_num, Lib.hid (by rw [Hr.out, Hs.out])⟩
            case measure => simp [intOf]; omega
    · have He := Lib.hid (itmsAt_end s.2 s.1 k hlt)
      go_wp2_with fail
      go_ret
      exact ⟨by simp [Hb.out, Hr.out, He.out], hg⟩
end Go.Proofs.YtoedpagdklagdaaDoor
namespace Go.Proofs.YtoedpagdklagdaaDoor
open Go.RowKit
theorem validName_same (x : ByteArray) (w : World) (hs : x.size ≤ big) : Calls Tryd.prog 71 #[.string x] w fun e w' => e = .returned (.bool (nameB x)) ∧ w' = w :=
  (validName_ok x w hs).mono fun _ _ ⟨h1, h2⟩ => ⟨h1, h2.symm⟩
theorem validStore_ok (s : Sto) (v : Value) (w : World) (h : RV stoRep packA w any s v) :
    Calls Tryd.prog 51 #[v] w fun e w' => e = .returned (.bool (storeB s)) ∧ Grow w w' := by
  obtain ⟨a, c, rfl, hs⟩ := sto_open h
  have hbig : s.1.length ≤ 9223372036854775807 := hs.2.1
  have Hs := Lib.hid hs
  clear h hs
  unfold stoV
  have Hb : Hid (storeB s = (decide (s.1.length ≤ 10) && inR s.2 0 999 && itmsB s.2 s.1)) := Lib.hid rfl
  have HB := Lib.hid (BoxN.new w [.slice a s.1.length c, .int .i64 s.2] 47)
  go_enter Tryd.func51, Tryd.ntmps51
  go_wp2_with fail
  go_loopw [2, 3, 4] (fun n i _ wr => n = .bool false ∧ Grow w wr ∧ BoxN wr w.heap.size [.slice a s.1.length c, .int .i64 s.2] ∧ ∃ k : Nat, k ≤ s.1.length ∧ i = .int .i64 k ∧ Hid (itmsB s.2 s.1 = itmsAt s.2 s.1 k)) (fun _ i _ _ => s.1.length - (intOf i).toNat)
  case atStart => exact ⟨rfl, (by repeat (first | with_reducible exact Ext.refl _ _ | with_reducible refine Ext.trans ?_ (by assumption) | with_reducible refine Ext.drew ?_ | with_reducible refine Ext.drewN ?_ _ | with_reducible refine Ext.alloc ?_ _ | with_reducible refine Ext.setNew ?_ (by simp; done) _ | with_reducible refine Ext.setNew ?_ (by simp; omega) _)), HB.out, 0, Nat.zero_le _, rfl, Lib.hid (itmsAt_zero _ _).symm⟩
  case round =>
    obtain ⟨rfl, hg, hB, k, hk, rfl, Hr⟩ := hrel
    have HB := Lib.hid hB
    have zB := hB.lt
    clear hB
    have q0 := HB.out.cell 0 _ rfl
    have q1 := HB.out.cell 1 _ rfl
    by_cases hlt : k < s.1.length
    · obtain ⟨_, _, hks⟩ := (Hs.out).grow hg
      rcases hks with hks | ⟨bk, ok, rfl, _, hkr⟩
      · simp [hks] at hlt
      obtain ⟨cs, hcs, hx⟩ := hkr k hlt
      obtain ⟨na0, nc0, ka0, kc0, rfl, hsz, h0⟩ := itmRep_open hx
      rw [itmRep_n] at hcs
      have x0 : wr.cell? ⟨bk, ok + k * 7, none⟩ = _ := hcs 0 _ rfl
      have x1 := hcs 1 _ rfl
      have x2 := hcs 2 _ rfl
      have x3 := hcs 3 _ rfl
      have x4 := hcs 4 _ rfl
      have x5 := hcs 5 _ rfl
      have x6 := hcs 6 _ rfl
      have zb : bk < wr.heap.size := lt_of_cell x0
      have H0 := Lib.hid h0
      have prev : ∀ h0 : 0 < k, wr.cell? ⟨bk, ok + (k - 1) * 7, none⟩ = some (.string (s.1[k - 1]'(by omega)).1) := fun h0 => by
        obtain ⟨cs', hcs', hx'⟩ := hkr (k - 1) (by omega)
        obtain ⟨_, _, _, _, rfl, _, _⟩ := itmRep_open hx'
        rw [itmRep_n] at hcs'
        exact hcs' 0 _ rfl
      have Prev := Lib.hid prev
      have HVc : Hid (∀ w', Grow wr w' → Calls Tryd.prog 36 #[.agg #[.int .i64 s.1[k].2.2.kind, .int .i64 s.1[k].2.2.num, .string s.1[k].2.2.text, .slice na0 s.1[k].2.2.names.length nc0, .slice ka0 s.1[k].2.2.kids.length kc0]] w' fun e w'' => e = .returned (.bool (validB s.1[k].2.2)) ∧ Grow w' w'') := Lib.hid (fun w' hg => validNode_ok s.1[k].2.2 _ _ ⟨_, _, _, _, rfl, H0.out.grow' hg⟩)
      clear hkr hcs hx h0 prev
      by_cases hbad : itmB s.2 s.1[k] = false ∨ (0 < k ∧ lt (s.1[k - 1]'(by omega)).1 s.1[k].1 = false)
      · have Hs' : Hid (itmsAt s.2 s.1 k = false) := Lib.hid (itmsAt_bad hlt hbad)
        have Hsb : Hid (storeB s = false) := Lib.hid (by rw [Hb.out, Hr.out, Hs'.out]; simp)
        cases hn : nameB s.1[k].1
        · have Hn := Lib.hid hn
          clear hn hbad
          go_wp2_with fail
          (refine wp_region_later (by kernel_rfl) (by kernel_rfl) ?_; (repeat (first | go_big_quiet_step ((first | (go_at_call 71; exact later_call_same (v := .bool false) (by simpa only [Hn.out] using validName_same s.1[k].1 _ hsz)) | (go_at_call 36; exact later_call (v := .bool false) (by simpa only [Hv.out] using HVc.out _ (((Ext.refl nil _).alloc _).trans (later_grow _ _)))) | (go_at_call 72; exact later_call_same (v := .bool false) (by simpa only [Hi.out] using inRange_ok s.1[k].2.1 1 s.2 _)))) | quiet_step ((first | (go_at_call 71; exact later_call_same (v := .bool false) (by simpa only [Hn.out] using validName_same s.1[k].1 _ hsz)) | (go_at_call 36; exact later_call (v := .bool false) (by simpa only [Hv.out] using HVc.out _ (((Ext.refl nil _).alloc _).trans (later_grow _ _)))) | (go_at_call 72; exact later_call_same (v := .bool false) (by simpa only [Hi.out] using inRange_ok s.1[k].2.1 1 s.2 _)))))); refine wpQuiet_nil ?_; rintro _ ⟨x_w2, rfl⟩; have hg_w2 := later_grow _ x_w2; generalize later _ x_w2 = w2 at hg_w2 ⊢)
          go_wp2_with fail
          go_ret
          exact ⟨by simp [Hsb.out], (by repeat (first | with_reducible exact Ext.refl _ _ | with_reducible refine Ext.trans ?_ (by assumption) | with_reducible refine Ext.drew ?_ | with_reducible refine Ext.drewN ?_ _ | with_reducible refine Ext.alloc ?_ _ | with_reducible refine Ext.setNew ?_ (by simp; done) _ | with_reducible refine Ext.setNew ?_ (by simp; omega) _))⟩
        have Hn := Lib.hid hn
        cases hv : validB s.1[k].2.2
        · have Hv := Lib.hid hv
          clear hv hn hbad
          go_wp2_with fail
          (refine wp_region_later (by kernel_rfl) (by kernel_rfl) ?_; (repeat (first | go_big_quiet_step ((first | (go_at_call 71; exact later_call_same (v := .bool true) (by simpa only [Hn.out] using validName_same s.1[k].1 _ hsz)) | (go_at_call 36; exact later_call (v := .bool false) (by simpa only [Hv.out] using HVc.out _ (((Ext.refl nil _).alloc _).trans (later_grow _ _)))) | (go_at_call 72; exact later_call_same (v := .bool false) (by simpa only [Hi.out] using inRange_ok s.1[k].2.1 1 s.2 _)))) | quiet_step ((first | (go_at_call 71; exact later_call_same (v := .bool true) (by simpa only [Hn.out] using validName_same s.1[k].1 _ hsz)) | (go_at_call 36; exact later_call (v := .bool false) (by simpa only [Hv.out] using HVc.out _ (((Ext.refl nil _).alloc _).trans (later_grow _ _)))) | (go_at_call 72; exact later_call_same (v := .bool false) (by simpa only [Hi.out] using inRange_ok s.1[k].2.1 1 s.2 _)))))); refine wpQuiet_nil ?_; rintro _ ⟨x_w2, rfl⟩; have hg_w2 := later_grow _ x_w2; generalize later _ x_w2 = w2 at hg_w2 ⊢)
          go_wp2_with fail
          go_ret
          exact ⟨by simp [Hsb.out], (by repeat (first | with_reducible exact Ext.refl _ _ | with_reducible refine Ext.trans ?_ (by assumption) | with_reducible refine Ext.drew ?_ | with_reducible refine Ext.drewN ?_ _ | with_reducible refine Ext.alloc ?_ _ | with_reducible refine Ext.setNew ?_ (by simp; done) _ | with_reducible refine Ext.setNew ?_ (by simp; omega) _))⟩
        have Hv := Lib.hid hv
        cases hi : inR s.1[k].2.1 1 s.2
        · have Hi := Lib.hid hi
          clear hi hv hn hbad
          go_wp2_with fail
          (refine wp_region_later (by kernel_rfl) (by kernel_rfl) ?_; (repeat (first | go_big_quiet_step ((first | (go_at_call 71; exact later_call_same (v := .bool true) (by simpa only [Hn.out] using validName_same s.1[k].1 _ hsz)) | (go_at_call 36; exact later_call (v := .bool true) (by simpa only [Hv.out] using HVc.out _ (((Ext.refl nil _).alloc _).trans (later_grow _ _)))) | (go_at_call 72; exact later_call_same (v := .bool false) (by simpa only [Hi.out] using inRange_ok s.1[k].2.1 1 s.2 _)))) | quiet_step ((first | (go_at_call 71; exact later_call_same (v := .bool true) (by simpa only [Hn.out] using validName_same s.1[k].1 _ hsz)) | (go_at_call 36; exact later_call (v := .bool true) (by simpa only [Hv.out] using HVc.out _ (((Ext.refl nil _).alloc _).trans (later_grow _ _)))) | (go_at_call 72; exact later_call_same (v := .bool false) (by simpa only [Hi.out] using inRange_ok s.1[k].2.1 1 s.2 _)))))); refine wpQuiet_nil ?_; rintro _ ⟨x_w2, rfl⟩; have hg_w2 := later_grow _ x_w2; generalize later _ x_w2 = w2 at hg_w2 ⊢)
          go_wp2_with fail
          go_ret
          exact ⟨by simp [Hsb.out], (by repeat (first | with_reducible exact Ext.refl _ _ | with_reducible refine Ext.trans ?_ (by assumption) | with_reducible refine Ext.drew ?_ | with_reducible refine Ext.drewN ?_ _ | with_reducible refine Ext.alloc ?_ _ | with_reducible refine Ext.setNew ?_ (by simp; done) _ | with_reducible refine Ext.setNew ?_ (by simp; omega) _))⟩
        have Hi := Lib.hid hi
        obtain ⟨hk0, hlt'⟩ := hbad.resolve_left (by simp [itmB, hn, hv, hi])
        have hki : (0 : Int) < (k : Int) := by omega
        have y0 := Prev.out hk0
        have k1 : ((k : Int) - 1).toNat = k - 1 := by omega
        have k2 : (0 : Int) ≤ (k : Int) - 1 := by omega
        have k3 : (k : Int) - 1 < (s.1.length : Int) := by omega
        clear hn hv hi
        rcases bl_cases (s.1[k - 1]'(by omega)).1 s.1[k].1 with ⟨l1, l2, l3, l4, _⟩ | ⟨l1, l2, l3, l4, _⟩ | l0
        · have := hlt'.symm.trans l1; cases this
        · clear hlt'
          go_wp2_with fail
          (refine wp_region_later (by kernel_rfl) (by kernel_rfl) ?_; (repeat (first | go_big_quiet_step ((first | (go_at_call 71; exact later_call_same (v := .bool true) (by simpa only [Hn.out] using validName_same s.1[k].1 _ hsz)) | (go_at_call 36; exact later_call (v := .bool true) (by simpa only [Hv.out] using HVc.out _ (((Ext.refl nil _).alloc _).trans (later_grow _ _)))) | (go_at_call 72; exact later_call_same (v := .bool true) (by simpa only [Hi.out] using inRange_ok s.1[k].2.1 1 s.2 _)))) | quiet_step ((first | (go_at_call 71; exact later_call_same (v := .bool true) (by simpa only [Hn.out] using validName_same s.1[k].1 _ hsz)) | (go_at_call 36; exact later_call (v := .bool true) (by simpa only [Hv.out] using HVc.out _ (((Ext.refl nil _).alloc _).trans (later_grow _ _)))) | (go_at_call 72; exact later_call_same (v := .bool true) (by simpa only [Hi.out] using inRange_ok s.1[k].2.1 1 s.2 _)))))); refine wpQuiet_nil ?_; rintro _ ⟨x_w2, rfl⟩; have hg_w2 := later_grow _ x_w2; generalize later _ x_w2 = w2 at hg_w2 ⊢)
          go_wp2_with fail
          go_ret
          exact ⟨by simp [Hsb.out], (by repeat (first | with_reducible exact Ext.refl _ _ | with_reducible refine Ext.trans ?_ (by assumption) | with_reducible refine Ext.drew ?_ | with_reducible refine Ext.drewN ?_ _ | with_reducible refine Ext.alloc ?_ _ | with_reducible refine Ext.setNew ?_ (by simp; done) _ | with_reducible refine Ext.setNew ?_ (by simp; omega) _))⟩
        · rw [l0] at y0
          clear l0 hlt'
          have l1 := blF_irrefl s.1[k].1
          go_wp2_with fail
          (refine wp_region_later (by kernel_rfl) (by kernel_rfl) ?_; (repeat (first | go_big_quiet_step ((first | (go_at_call 71; exact later_call_same (v := .bool true) (by simpa only [Hn.out] using validName_same s.1[k].1 _ hsz)) | (go_at_call 36; exact later_call (v := .bool true) (by simpa only [Hv.out] using HVc.out _ (((Ext.refl nil _).alloc _).trans (later_grow _ _)))) | (go_at_call 72; exact later_call_same (v := .bool true) (by simpa only [Hi.out] using inRange_ok s.1[k].2.1 1 s.2 _)))) | quiet_step ((first | (go_at_call 71; exact later_call_same (v := .bool true) (by simpa only [Hn.out] using validName_same s.1[k].1 _ hsz)) | (go_at_call 36; exact later_call (v := .bool true) (by simpa only [Hv.out] using HVc.out _ (((Ext.refl nil _).alloc _).trans (later_grow _ _)))) | (go_at_call 72; exact later_call_same (v := .bool true) (by simpa only [Hi.out] using inRange_ok s.1[k].2.1 1 s.2 _)))))); refine wpQuiet_nil ?_; rintro _ ⟨x_w2, rfl⟩; have hg_w2 := later_grow _ x_w2; generalize later _ x_w2 = w2 at hg_w2 ⊢)
          go_wp2_with fail
          go_ret
          exact ⟨by simp [Hsb.out], (by repeat (first | with_reducible exact Ext.refl _ _ | with_reducible refine Ext.trans ?_ (by assumption) | with_reducible refine Ext.drew ?_ | with_reducible refine Ext.drewN ?_ _ | with_reducible refine Ext.alloc ?_ _ | with_reducible refine Ext.setNew ?_ (by simp; done) _ | with_reducible refine Ext.setNew ?_ (by simp; omega) _))⟩
      · have hgood : itmB s.2 s.1[k] = true := by
          cases h : itmB s.2 s.1[k]
          · exact absurd (.inl h) hbad
          · rfl
        have hord : ∀ h0 : 0 < k, lt (s.1[k - 1]'(by omega)).1 s.1[k].1 = true := fun h0 => by
          cases h : lt (s.1[k - 1]'(by omega)).1 s.1[k].1
          · exact absurd (.inr ⟨h0, h⟩) hbad
          · rfl
        have Hord := Lib.hid hord
        have Hs' : Hid (itmsAt s.2 s.1 k = itmsAt s.2 s.1 (k + 1)) := Lib.hid (itmsAt_good hlt hgood hord)
        unfold itmB at hgood
        simp only [Bool.and_eq_true] at hgood
        have Hn := Lib.hid hgood.1.1
        have Hi := Lib.hid hgood.1.2
        have Hv := Lib.hid hgood.2
        clear hbad hgood hord
        by_cases hk0 : 0 < k
        · have hki : (0 : Int) < (k : Int) := by omega
          have y0 := Prev.out hk0
          have k1 : ((k : Int) - 1).toNat = k - 1 := by omega
          have k2 : (0 : Int) ≤ (k : Int) - 1 := by omega
          have k3 : (k : Int) - 1 < (s.1.length : Int) := by omega
          have l1 : lt (s.1[k - 1]'(by omega)).1 s.1[k].1 = true := Hord.out hk0
          have l2 : Op.bytesLess s.1[k].1.toList (s.1[k - 1]'(by omega)).1.toList = false := bl_asymm _ _ l1
          have l3 : ((s.1[k - 1]'(by omega)).1.toList == s.1[k].1.toList) = false := bl_ne l1
          have l4 : (s.1[k].1.toList == (s.1[k - 1]'(by omega)).1.toList) = false := by rw [beq_toList] at l3 ⊢; simp only [decide_eq_false_iff_not] at l3 ⊢; exact fun e => l3 e.symm
          go_wp2_with fail
          (refine wp_region_later (by kernel_rfl) (by kernel_rfl) ?_; (repeat (first | go_big_quiet_step ((first | (go_at_call 71; exact later_call_same (v := .bool true) (by simpa only [Hn.out] using validName_same s.1[k].1 _ hsz)) | (go_at_call 36; exact later_call (v := .bool true) (by simpa only [Hv.out] using HVc.out _ (((Ext.refl nil _).alloc _).trans (later_grow _ _)))) | (go_at_call 72; exact later_call_same (v := .bool true) (by simpa only [Hi.out] using inRange_ok s.1[k].2.1 1 s.2 _)))) | quiet_step ((first | (go_at_call 71; exact later_call_same (v := .bool true) (by simpa only [Hn.out] using validName_same s.1[k].1 _ hsz)) | (go_at_call 36; exact later_call (v := .bool true) (by simpa only [Hv.out] using HVc.out _ (((Ext.refl nil _).alloc _).trans (later_grow _ _)))) | (go_at_call 72; exact later_call_same (v := .bool true) (by simpa only [Hi.out] using inRange_ok s.1[k].2.1 1 s.2 _)))))); refine wpQuiet_nil ?_; rintro _ ⟨x_w2, rfl⟩; have hg_w2 := later_grow _ x_w2; generalize later _ x_w2 = w2 at hg_w2 ⊢)
          have hgr : Grow wr w2 := (by repeat (first | with_reducible exact Ext.refl _ _ | with_reducible refine Ext.trans ?_ (by assumption) | with_reducible refine Ext.drew ?_ | with_reducible refine Ext.drewN ?_ _ | with_reducible refine Ext.alloc ?_ _ | with_reducible refine Ext.setNew ?_ (by simp; done) _ | with_reducible refine Ext.setNew ?_ (by simp; omega) _))
          go_wp2_with fail
          go_roundw
          case rel => exact ⟨rfl, hg.trans hgr, HB.out.grow hgr, k + 1, by omega, by go_num, Lib.hid (by rw [Hr.out, Hs'.out])⟩
          case measure => simp [intOf]; omega
        · have hki : ¬ (0 : Int) < (k : Int) := by omega
          go_wp2_with fail
          (refine wp_region_later (by kernel_rfl) (by kernel_rfl) ?_; (repeat (first | go_big_quiet_step ((first | (go_at_call 71; exact later_call_same (v := .bool true) (by simpa only [Hn.out] using validName_same s.1[k].1 _ hsz)) | (go_at_call 36; exact later_call (v := .bool true) (by simpa only [Hv.out] using HVc.out _ (((Ext.refl nil _).alloc _).trans (later_grow _ _)))) | (go_at_call 72; exact later_call_same (v := .bool true) (by simpa only [Hi.out] using inRange_ok s.1[k].2.1 1 s.2 _)))) | quiet_step ((first | (go_at_call 71; exact later_call_same (v := .bool true) (by simpa only [Hn.out] using validName_same s.1[k].1 _ hsz)) | (go_at_call 36; exact later_call (v := .bool true) (by simpa only [Hv.out] using HVc.out _ (((Ext.refl nil _).alloc _).trans (later_grow _ _)))) | (go_at_call 72; exact later_call_same (v := .bool true) (by simpa only [Hi.out] using inRange_ok s.1[k].2.1 1 s.2 _)))))); refine wpQuiet_nil ?_; rintro _ ⟨x_w2, rfl⟩; have hg_w2 := later_grow _ x_w2; generalize later _ x_w2 = w2 at hg_w2 ⊢)
          have hgr : Grow wr w2 := (by repeat (first | with_reducible exact Ext.refl _ _ | with_reducible refine Ext.trans ?_ (by assumption) | with_reducible refine Ext.drew ?_ | with_reducible refine Ext.drewN ?_ _ | with_reducible refine Ext.alloc ?_ _ | with_reducible refine Ext.setNew ?_ (by simp; done) _ | with_reducible refine Ext.setNew ?_ (by simp; omega) _))
          go_wp2_with fail
          go_roundw
          case rel => exact ⟨rfl, hg.trans hgr, HB.out.grow hgr, k + 1, by omega, by go_num, Lib.hid (by rw [Hr.out, Hs'.out])⟩
          case measure => simp [intOf]; omega
    · have He := Lib.hid (itmsAt_end s.2 s.1 k hlt)
      by_cases hl : s.1.length ≤ 10
      · have Hf : Hid (storeB s = inR s.2 0 999) := Lib.hid (by rw [Hb.out, Hr.out, He.out]; simp [hl])
        go_wp2_with (go_at_call 72; refine (inRange_ok _ _ _ _).mono ?_; rintro e w' ⟨rfl, rfl⟩)
        go_ret
        exact ⟨by simp [Hf.out], hg⟩
      · have Hf : Hid (storeB s = false) := Lib.hid (by rw [Hb.out]; simp [hl])
        go_wp2_with fail
        go_ret
        exact ⟨by simp [Hf.out], hg⟩
end Go.Proofs.YtoedpagdklagdaaDoor
namespace Go.Proofs.YtoedpagdklagdaaDoor
open Go.RowKit
end Go.Proofs.YtoedpagdklagdaaDoor
namespace Go.Proofs.YtoedpagdklagdaaDoor
open Go.RowKit
end Go.Proofs.YtoedpagdklagdaaDoor
-- EV: store
namespace Go.Proofs.YtoedpagdklagdaaDoor.Eng
open Go Go.RowKit
theorem itmRep_shutE {w : World} {S : Nat → Prop} {x : Itm} {na : Option Addr} {nc : Nat} {ka : Option Addr} {kc : Nat} (h1 : x.1.size ≤ big) (h2 : NodeC w S x.2.2 na nc ka kc) : itmRep.R w S x (itmL x na nc ka kc) :=
  ⟨[.string x.1], _, rfl, ⟨rfl, h1⟩, [.int .i64 x.2.1], _, rfl, rfl, na, nc, ka, kc, rfl, h2⟩
theorem items_of_rep {w : World} {ρ : Cx} {t : VC} {l : List Itm} {v : Value} (h : Rep w ρ (.view t 7 (l.map itemL)) v) : ∃ a c, v = .slice a l.length c ∧ SlR itmRep w any a c l := by
  obtain ⟨a, c, rfl, _, h3, h4, h5, h6⟩ := rep_view.1 h
  simp only [List.length_map] at *
  refine ⟨a, c, rfl, h3, h4, ?_⟩
  rcases h6 with h6 | ⟨b, o, ha, _, he⟩
  · exact .inl (List.map_eq_nil_iff.1 h6)
  · refine .inr ⟨b, o, ha, trivial, fun i hi => ?_⟩
    have e := he.get h5 (i := i) (e := itemL l[i]) (by rw [List.getElem?_map, List.getElem?_eq_getElem hi]; rfl)
    rw [itemL_eq] at e
    generalize l[i] = x at *
    obtain ⟨v0, p0, _, q0⟩ := e.get (i := 0) rfl
    obtain ⟨v1, p1, _, q1⟩ := e.get (i := 1) rfl
    obtain ⟨v2, p2, _, q2⟩ := e.get (i := 2) rfl
    obtain ⟨v3, p3, _, q3⟩ := e.get (i := 3) rfl
    obtain ⟨v4, p4, _, q4⟩ := e.get (i := 4) rfl
    obtain ⟨v5, p5, _, q5⟩ := e.get (i := 5) rfl
    obtain ⟨v6, p6, _, q6⟩ := e.get (i := 6) rfl
    rw [rep_str] at q0
    rw [rep_int] at q1 q2 q3
    have q4' := q4
    rw [rep_str] at q4'
    obtain ⟨na, nc, r5, _⟩ := rep_view.1 q5
    obtain ⟨ka, kc, r6, _⟩ := rep_view.1 q6
    rw [strsE_len] at r5
    rw [List.length_map] at r6
    obtain ⟨rfl, hsz⟩ := q0
    obtain ⟨rfl, _⟩ := q4'
    subst q1 q2 q3 r5 r6
    refine ⟨_, ?_, itmRep_shutE hsz (nodeC_of_rep _ ρ na nc ka kc q4 q5 q6)⟩
    intro j u hj
    rw [show itmRep.n = 7 from rfl]
    unfold itmL at hj
    rcases j with _ | _ | _ | _ | _ | _ | _ | j
    · cases hj; exact p0
    · cases hj; exact p1
    · cases hj; exact p2
    · cases hj; exact p3
    · cases hj; exact p4
    · cases hj; exact p5
    · cases hj; exact p6
    · simp at hj
theorem store_of_rep {w : World} {ρ : Cx} {t : VC} {s : Sto} {v : Value} (h : Rep w ρ (storeT t s) v) : RV stoRep packA w any s v := by
  obtain ⟨vs, rfl, _, h2⟩ := rep_agg.1 h
  obtain ⟨v0, v1, rfl, q0, q1⟩ := repL2_inv h2
  rw [rep_int] at q1
  subst q1
  obtain ⟨a, c, rfl, hs⟩ := items_of_rep q0
  exact sto_shut hs
theorem validStore_AC (s : Sto) (t : VC) : AC Tryd.prog 51 [storeT t s] 0 (fun r => r = .bool (storeB s)) := by
  refine AC.ofGrow (enters_of Tryd.func51 (by kernel_rfl) (by kernel_rfl)) (fun w L S rb vs h => ?_)
  obtain ⟨v, rfl, h1⟩ := repL1_inv h
  refine (validStore_ok s v w (store_of_rep h1)).mono ?_
  rintro e w' ⟨rfl, hg⟩
  exact ⟨_, _, rfl, hg, rep_bool.2 rfl, rfl⟩
end Go.Proofs.YtoedpagdklagdaaDoor.Eng
namespace Go.Proofs.YtoedpagdklagdaaDoor
open Go.RowKit
abbrev TB : TypeId := 57
abbrev TU : TypeId := 5
abbrev Bl := Lib.BuilderAtF TB TU
structure Kp (B b : Nat) (w w' : World) : Prop where
  below : Below B w w'
  others : Lib.OthersKept TU (some b) w w'
theorem Kp.refl (B b : Nat) (w : World) : Kp B b w w := ⟨Below.refl _ _, Lib.OthersKept.refl _ _ _⟩
theorem Kp.trans {B b : Nat} {u v w : World} (h : Kp B b u v) (k : Kp B b v w) : Kp B b u w := ⟨h.below.trans k.below, h.others.trans k.others⟩
theorem copyCheck_ok (B b : Nat) (bs : List Value) (w : World) (h : Lib.IsBuilderF TB TU B b bs w) :
    Calls Tryd.prog 79 #[.pointer (some ⟨b, 0, none⟩)] w fun e w' => e = .returned (.tuple #[]) ∧ Bl B b (.pointer (some ⟨b, 0, none⟩)) bs w' ∧ Kp B b w w' := by
  obtain ⟨j, hj, hjs⟩ : ∃ j, Tryd.prog.info? TB = some j ∧ j.size = 2 := Option.map_eq_some_iff.1 (show (Tryd.prog.info? TB).map (·.size) = some 2 by kernel_rfl)
  have hlie : liesAt Tryd.prog Tryd.prog.depth TB (2 / Tryd.prog.cellsOf TB) 0 TB 1 = true := by kernel_rfl
  rcases h with h | h
  · have h0 := h.cell0
    have hsh := h.shape
    have hfz := h.frozen0
    go_enter Tryd.func79, Tryd.ntmps79
    go_wp2
    rw [Lib.run_to_unsafe w ⟨b, 0, none⟩ Tryd.underlying55 Tryd.underlying101 hj (by rw [hjs]; decide) hsh (Nat.zero_lt_succ 1)]
    simp only [Result.andThen]
    rw [Oper.upon_value]
    go_wp2
    rw [run_callFunc_extern Tryd.func85 (by kernel_rfl) (by kernel_rfl) (by kernel_rfl) (e := Extern.AbiNoEscape.same) (by kernel_rfl)]
    rw [Lib.run_noEscape]
    simp only [Result.andThen]
    rw [Oper.upon_value]
    go_wp2
    rw [Lib.run_from_unsafe w ⟨b, 0, none⟩ Tryd.underlying101 Tryd.underlying55 hj hsh hlie]
    simp only [Result.andThen]
    rw [Oper.upon_value]
    go_wp2
    go_end0
    exact ⟨rfl, h.used _, (Below.refl B w).setCell (p := ⟨b, 0, none⟩) h.1 _, (Lib.OthersKept.refl _ _ w).setCell ⟨b, 0, none⟩ rfl _⟩
  · have h0 := h.cell0
    go_enter Tryd.func79, Tryd.ntmps79
    go_wp2
    rw [Lib.run_neq_ptr_same w ⟨b, 0, none⟩ Tryd.underlying55 hj]
    simp only [Result.andThen]
    rw [Oper.upon_value]
    go_wp2
    go_end0
    exact ⟨rfl, h, Kp.refl _ _ _⟩
theorem writeByte_ok (B b : Nat) (bs : List Value) (c : Int) (w : World) (h : Lib.IsBuilderF TB TU B b bs w) (hlen : bs.length + 1 ≤ 1000000) (hBw : B ≤ w.heap.size) :
    Calls Tryd.prog 64 #[.pointer (some ⟨b, 0, none⟩), .int .u8 c] w fun e w' => e = .returned .nilIface ∧ Bl B b (.pointer (some ⟨b, 0, none⟩)) (bs ++ [.int .u8 c]) w' ∧ Kp B b w w' := by
  obtain ⟨i0, hi, hz0, hz1, hz2⟩ : ∃ i, Tryd.prog.info? TU = some i ∧ i.zero = some (.int .u8 0) ∧ i.size = 1 ∧ i.bytes = 1 := info_parts (show (Tryd.prog.info? TU).map (fun i => (i.zero, i.size, i.bytes)) = some (some (.int .u8 0), 1, 1) by kernel_rfl)
  go_enter Tryd.func64, Tryd.ntmps64
  go_wp2_with (go_at_call 79; refine (copyCheck_ok B b bs _ h).mono ?_)
  rintro e w1 ⟨rfl, h1, hb1, hk1⟩
  obtain ⟨hB, v, hbk, hown, hne⟩ := h1
  have c0 : w1.cell? ⟨b, 0, none⟩ = some (.pointer (some ⟨b, 0, none⟩)) := by rw [Lib.cell_of_heap hbk]; rfl
  have c1 : w1.cell? ⟨b, 1, none⟩ = some v := by rw [Lib.cell_of_heap hbk]; rfl
  go_wp2_with (at_builtin; refine wpList_append_ownF _ rfl _ _ 35 rfl B TU i0 (.int .u8 0) 1 1 Tryd.underlying35 hi hz0 hz1 hz2 rfl (by decide) _ _ _ rfl (hown.alloc _) ⟨w1.heap.size, 0, none⟩ 1 1 [.int .u8 c] rfl rfl ?c1 ?c2 ?c3 ?c4 ?c5 ?_)
  case c1 =>
    intro j u hj
    match j, hj with
    | 0, hj => simp at hj; subst hj; simp [Addr.add]
  case c2 => intro u hu; simp at hu; subst hu; rfl
  case c3 => unfold maxLen; omega
  case c4 => omega
  case c5 => have := hb1.size; simp; omega
  intro v' w2 hown' hgrow _
  have hlt : b < w1.heap.size := Lib.BuilderAtF.lt ⟨hB, v, hbk, hown, hne⟩
  have hb2 : w2.heap[b]? = some (.cells #[.pointer (some ⟨b, 0, none⟩), v] TB (0, 0)) := by
    rw [hgrow.block b (by simp; omega) (fun e => hne e.symm), Lib.alloc_old w1 _ b hlt]
    exact hbk
  have d0 : w2.cell? ⟨b, 0, none⟩ = some (.pointer (some ⟨b, 0, none⟩)) := by rw [Lib.cell_of_heap hb2]; rfl
  have d1 : w2.cell? ⟨b, 1, none⟩ = some v := by rw [Lib.cell_of_heap hb2]; rfl
  have f1 : w2.frozen? ⟨b, 1, none⟩ = false := Lib.frozen_of_heap hb2 1
  obtain ⟨g, cap, rfl⟩ : ∃ g cap, v' = .slice (some ⟨g, 0, none⟩) (bs.length + 1) cap := by
    rcases hown'.2 with ⟨_, h0⟩ | ⟨g, cap, cur, fz, hv, _⟩
    · omega
    · exact ⟨g, cap, hv⟩
  go_wp2
  go_ret
  refine ⟨rfl, ?_, ?_, ((hk1.alloc _).grown hgrow (Lib.ownsRowF_kind (hown.alloc _))).setCell ⟨b, 1, none⟩ rfl _⟩
  · exact Lib.BuilderAtF.put (T := TB) (e := TU) hB hb2 (bs' := bs ++ [.int .u8 c]) (by simpa using hown') (by decide)
  · exact ((hb1.alloc (by have := hb1.size; omega) _).grown hgrow (by have := hb1.size; simp; omega) (fun k hk => (hown.lt k hk).1)).setCell (p := ⟨b, 1, none⟩) hB _
theorem writeString_ok (B b : Nat) (bs : List Value) (s : ByteArray) (w : World) (h : Lib.IsBuilderF TB TU B b bs w) (hlen : bs.length + s.size ≤ 1000000) (hBw : B ≤ w.heap.size) :
    Calls Tryd.prog 61 #[.pointer (some ⟨b, 0, none⟩), .string s] w fun e w' => e = .returned (.tuple #[.int .i64 s.size, .nilIface]) ∧ Bl B b (.pointer (some ⟨b, 0, none⟩)) (bs ++ Lib.strCells s) w' ∧ Kp B b w w' := by
  obtain ⟨i0, hi, hz0, hz1, hz2⟩ : ∃ i, Tryd.prog.info? TU = some i ∧ i.zero = some (.int .u8 0) ∧ i.size = 1 ∧ i.bytes = 1 := info_parts (show (Tryd.prog.info? TU).map (fun i => (i.zero, i.size, i.bytes)) = some (some (.int .u8 0), 1, 1) by kernel_rfl)
  go_enter Tryd.func61, Tryd.ntmps61
  go_wp2_with (go_at_call 79; refine (copyCheck_ok B b bs _ h).mono ?_)
  rintro e w1 ⟨rfl, h1, hb1, hk1⟩
  obtain ⟨hB, v, hbk, hown, hne⟩ := h1
  have c0 : w1.cell? ⟨b, 0, none⟩ = some (.pointer (some ⟨b, 0, none⟩)) := by rw [Lib.cell_of_heap hbk]; rfl
  have c1 : w1.cell? ⟨b, 1, none⟩ = some v := by rw [Lib.cell_of_heap hbk]; rfl
  go_wp2_with (at_builtin; refine Lib.wpList_append_own_stringF _ rfl _ _ 35 9 rfl B TU i0 Tryd.underlying35 Tryd.underlying9 hi hz0 hz1 hz2 _ _ _ rfl hown s rfl ?c3 ?c4 ?c5 ?_)
  case c3 => unfold maxLen; omega
  case c4 => omega
  case c5 => have := hb1.size; omega
  intro v' w2 hown' hgrow _
  have hlt : b < w1.heap.size := Lib.BuilderAtF.lt ⟨hB, v, hbk, hown, hne⟩
  have hb2 : w2.heap[b]? = some (.cells #[.pointer (some ⟨b, 0, none⟩), v] TB (0, 0)) := by
    rw [hgrow.block b hlt (fun e => hne e.symm)]
    exact hbk
  have d0 : w2.cell? ⟨b, 0, none⟩ = some (.pointer (some ⟨b, 0, none⟩)) := by rw [Lib.cell_of_heap hb2]; rfl
  have d1 : w2.cell? ⟨b, 1, none⟩ = some v := by rw [Lib.cell_of_heap hb2]; rfl
  have f1 : w2.frozen? ⟨b, 1, none⟩ = false := Lib.frozen_of_heap hb2 1
  obtain ⟨ao, n', cap, rfl⟩ : ∃ ao n' cap, v' = .slice ao n' cap := by
    rcases hown'.2 with ⟨hv, _⟩ | ⟨g, cap, cur, fz, hv, _⟩
    · exact ⟨_, _, _, hv⟩
    · exact ⟨_, _, _, hv⟩
  go_wp2
  go_ret2
  refine ⟨rfl, ?_, ?_, (hk1.grown hgrow (Lib.ownsRowF_kind hown)).setCell ⟨b, 1, none⟩ rfl _⟩
  · exact Lib.BuilderAtF.put (T := TB) (e := TU) hB hb2 (bs' := bs ++ Lib.strCells s) (by simpa [Lib.strCells_length] using hown') (by decide)
  · exact (hb1.grown hgrow (by have := hb1.size; omega) (fun k hk => (hown.lt k hk).1)).setCell (p := ⟨b, 1, none⟩) hB _
end Go.Proofs.YtoedpagdklagdaaDoor
namespace Go.Proofs.YtoedpagdklagdaaDoor
open Go.RowKit
def escT (c : UInt8) : List UInt8 := if c = 34 ∨ c = 92 then [92, c] else [c]
def quoT (l : List UInt8) : List UInt8 := 34 :: l.flatMap escT ++ [34]
mutual
def fmtT : Nd → List UInt8
  | ⟨k, m, t, ns, ks⟩ => if k = 0 then [110, 117, 108, 108] else if k = 1 then Lib.itoa m else if k = 2 then quoT t.data.toList else if k = 3 then 91 :: fmtL false ns ks 0 ++ [93] else 123 :: fmtL true ns ks 0 ++ [125]
def fmtL (map : Bool) (ns : List ByteArray) : List Nd → Nat → List UInt8
  | [], _ => []
  | x :: xs, i => (if 0 < i then [44] else []) ++ (if map then quoT ((ns[i]?).getD ⟨#[]⟩).data.toList ++ [58] else []) ++ fmtT x ++ fmtL map ns xs (i + 1)
end
theorem fmtT_eq (n : Nd) : fmtT n = if n.kind = 0 then [110, 117, 108, 108] else if n.kind = 1 then Lib.itoa n.num else if n.kind = 2 then quoT n.text.data.toList else if n.kind = 3 then 91 :: fmtL false n.names n.kids 0 ++ [93] else 123 :: fmtL true n.names n.kids 0 ++ [125] := by
  cases n; rw [fmtT]
theorem esc_len (l : List UInt8) : (l.flatMap escT).length ≤ 2 * l.length := by
  induction l with
  | nil => simp
  | cons a l ih =>
    rw [List.flatMap_cons, List.length_append, List.length_cons]
    have : (escT a).length ≤ 2 := by unfold escT; split <;> simp
    omega
theorem quo_len (l : List UInt8) : (quoT l).length ≤ 2 * l.length + 2 := by
  unfold quoT
  have := esc_len l
  simp only [List.cons_append, List.length_cons, List.length_append, List.length_nil]
  omega
inductive Wr : Nd → Prop where
  | mk (n : Nd) (h0 : 0 ≤ n.kind ∧ n.kind ≤ 4) (h1 : -999999 ≤ n.num ∧ n.num ≤ 999999) (h2 : n.text.size ≤ 12) (h3 : ∀ x ∈ n.names, x.size ≤ 12) (h4 : n.kids.length ≤ 6) (h5 : n.kind = 4 → n.kids.length = n.names.length) (h6 : ∀ k ∈ n.kids, Wr k) : Wr n
theorem Wr.kind {n : Nd} : Wr n → 0 ≤ n.kind ∧ n.kind ≤ 4 | .mk _ h _ _ _ _ _ _ => h
theorem Wr.num {n : Nd} : Wr n → -999999 ≤ n.num ∧ n.num ≤ 999999 | .mk _ _ h _ _ _ _ _ => h
theorem Wr.text {n : Nd} : Wr n → n.text.size ≤ 12 | .mk _ _ _ h _ _ _ _ => h
theorem Wr.names {n : Nd} : Wr n → ∀ x ∈ n.names, x.size ≤ 12 | .mk _ _ _ _ h _ _ _ => h
theorem Wr.kids {n : Nd} : Wr n → n.kids.length ≤ 6 | .mk _ _ _ _ _ h _ _ => h
theorem Wr.map {n : Nd} : Wr n → n.kind = 4 → n.kids.length = n.names.length | .mk _ _ _ _ _ _ h _ => h
theorem Wr.kid {n : Nd} : Wr n → ∀ k ∈ n.kids, Wr k | .mk _ _ _ _ _ _ _ h => h
theorem digs_len : ∀ k u, u < 10 ^ (k + 1) → (Lib.decDigits u).length ≤ k + 1 := by
  intro k
  induction k with
  | zero => intro u h; rw [Lib.decDigits]; rw [dif_pos (by omega)]; simp
  | succ k ih =>
    intro u h
    rw [Lib.decDigits]
    split
    · simp
    · have := ih (u / 10) (by rw [Nat.pow_succ] at h; omega)
      simp only [List.length_append, List.length_cons, List.length_nil]
      omega
theorem itoa_len {m : Int} (h : -999999 ≤ m ∧ m ≤ 999999) : (Lib.itoa m).length ≤ 7 := by
  unfold Lib.itoa
  split
  · have := digs_len 5 m.natAbs (by omega)
    simp only [List.length_cons]; omega
  · have := digs_len 5 m.toNat (by omega)
    omega
theorem fmt_len28 : ∀ n, Wr n → (fmtT n).length + 28 ≤ 70 * n.count := Nd.ind' _ (fun n ih h => by
  have key : ∀ (map : Bool) (ks : List Nd) (i : Nat), (∀ x ∈ ks, (fmtT x).length + 28 ≤ 70 * x.count) → (map = true → i + ks.length ≤ n.names.length) → (fmtL map n.names ks i).length ≤ 70 * countL ks := by
    intro map ks
    induction ks with
    | nil => intro i _ _; rw [fmtL, countL]; simp
    | cons x xs ihx =>
      intro i hx hm
      rw [fmtL, countL]
      have h1 := ihx (i + 1) (fun y hy => hx y (by simp [hy])) (fun hh => by have := hm hh; simp only [List.length_cons] at this; omega)
      have h2 := hx x (by simp)
      have h3 : (if 0 < i then [(44 : UInt8)] else []).length ≤ 1 := by split <;> simp
      have h4 : (if map = true then quoT ((n.names[i]?).getD ⟨#[]⟩).data.toList ++ [58] else []).length ≤ 27 := by
        split
        · rename_i hmm
          have hb := hm hmm
          simp only [List.length_cons] at hb
          have hi : i < n.names.length := by omega
          rw [List.getElem?_eq_getElem hi]
          have h5 := quo_len n.names[i].data.toList
          have h6 := h.names _ (List.getElem_mem hi)
          have h7 : n.names[i].data.toList.length = n.names[i].size := by simp
          simp only [Option.getD_some, List.length_append, List.length_cons, List.length_nil]
          omega
        · simp
      simp only [List.length_append]
      omega
  have hc : countL n.kids + 1 = n.count := by have := n.count_eq; omega
  have hih := fun x hx => ih x hx (h.kid x hx)
  rw [fmtT_eq]
  by_cases h0 : n.kind = 0
  · rw [if_pos h0]; simp only [List.length_cons, List.length_nil]; omega
  rw [if_neg h0]
  by_cases h1 : n.kind = 1
  · rw [if_pos h1]; have := itoa_len h.num; omega
  rw [if_neg h1]
  by_cases h2 : n.kind = 2
  · rw [if_pos h2]
    have h5 := quo_len n.text.data.toList
    have h6 := h.text
    have h7 : n.text.data.toList.length = n.text.size := by simp
    omega
  rw [if_neg h2]
  by_cases h3 : n.kind = 3
  · rw [if_pos h3]
    have := key false n.kids 0 hih (fun hh => by cases hh)
    simp only [List.cons_append, List.length_cons, List.length_append, List.length_nil]
    omega
  · rw [if_neg h3]
    have hk := h.kind
    have := key true n.kids 0 hih (fun _ => by have := h.map (by omega); omega)
    simp only [List.cons_append, List.length_cons, List.length_append, List.length_nil]
    omega)
theorem fmt_len {n : Nd} (h : Wr n) : (fmtT n).length ≤ 70 * n.count := by have := fmt_len28 n h; omega
theorem fmtL_split (map : Bool) (ns : List ByteArray) : ∀ (ks : List Nd) (i j : Nat), fmtL map ns ks j = fmtL map ns (ks.take i) j ++ fmtL map ns (ks.drop i) (j + min i ks.length)
  | [], i, j => by simp [fmtL]
  | x :: xs, 0, j => by simp [fmtL]
  | x :: xs, i + 1, j => by
    rw [fmtL, List.take_succ_cons, List.drop_succ_cons, fmtL, fmtL_split map ns xs i (j + 1), List.length_cons, Nat.add_min_add_right, show j + 1 + min i xs.length = j + (min i xs.length + 1) by omega]
    simp [List.append_assoc]
theorem fmtL_succ (map : Bool) (ns : List ByteArray) {ks : List Nd} {j : Nat} (h : j < ks.length) : fmtL map ns (ks.take (j + 1)) 0 = fmtL map ns (ks.take j) 0 ++ ((if 0 < j then [44] else []) ++ (if map then quoT ((ns[j]?).getD ⟨#[]⟩).data.toList ++ [58] else []) ++ fmtT ks[j]) := by
  rw [fmtL_split map ns (ks.take (j + 1)) j 0, List.take_take, Nat.min_eq_left (Nat.le_succ j), List.length_take, Nat.min_eq_left (show j + 1 ≤ ks.length by omega), Nat.min_eq_left (Nat.le_succ j), Nat.zero_add]
  congr 1
  have : (ks.take (j + 1)).drop j = [ks[j]] := by
    rw [take_snoc' _ _ h, List.drop_append_of_le_length (by rw [List.length_take]; omega), List.drop_eq_nil_of_le (by rw [List.length_take]; omega)]
    rfl
  rw [this, fmtL, fmtL, List.append_nil]
theorem fmtL_le (map : Bool) (ns : List ByteArray) (ks : List Nd) (j : Nat) : (fmtL map ns (ks.take j) 0).length ≤ (fmtL map ns ks 0).length := by
  rw [fmtL_split map ns ks j 0, List.length_append]; omega
theorem shape_wr : ∀ n : Nd, ∀ d, shapeB n d = true → Wr n := Nd.ind' _ (fun n ih d h => by
  rw [shapeB_eq] at h
  simp only [Bool.and_eq_true] at h
  have hp := h.1.2
  have hk6 := partsB_kids hp
  have hkids : ∀ k ∈ n.kids, Wr k := fun k hk => ih k hk (d - 1) (by
    have h2 := h.2
    rw [shapeL_all, List.all_eq_true] at h2
    exact h2 k hk)
  unfold partsB at hp
  simp only [Bool.and_eq_true] at hp
  obtain ⟨⟨⟨q1, q2⟩, q3⟩, q4⟩ := hp
  simp only [Bool.or_eq_true, decide_eq_true_eq, List.isEmpty_iff] at q1 q2 q3
  have hnum : -999999 ≤ n.num ∧ n.num ≤ 999999 := by
    rcases q1 with q1 | q1
    · rw [q1] at q4; simp at q4; omega
    · omega
  have htext : n.text.size ≤ 12 := by
    rcases q2 with q2 | q2
    · rw [q2] at q4; simp [plainT] at q4; omega
    · have : n.text.data.toList.length = n.text.size := by simp
      rw [ByteArray.toList_eq] at q2
      rw [q2] at this
      simp only [List.length_nil] at this; omega
  have hkind : 0 ≤ n.kind ∧ n.kind ≤ 4 := by
    by_cases e0 : n.kind = 0; · omega
    by_cases e1 : n.kind = 1; · omega
    by_cases e2 : n.kind = 2; · omega
    by_cases e3 : n.kind = 3; · omega
    by_cases e4 : n.kind = 4; · omega
    simp [e0, e1, e2, e3, e4] at q4
  have hnames : (∀ x ∈ n.names, x.size ≤ 12) ∧ (n.kind = 4 → n.kids.length = n.names.length) := by
    rcases q3 with q3 | q3
    · rw [q3] at q4
      simp [areNamesB] at q4
      refine ⟨?_, fun _ => q4.2⟩
      have : ∀ (q : Option ByteArray) (xs : List ByteArray), namesFrom q xs = true → ∀ x ∈ xs, x.size ≤ 12 := by
        intro q xs
        induction xs generalizing q with
        | nil => intro _ x hx; cases hx
        | cons y ys ihy =>
          intro hh x hx
          simp only [namesFrom, Bool.and_eq_true] at hh
          rcases List.mem_cons.1 hx with rfl | hx
          · have := hh.1.1
            simp [plainT] at this
            exact this.1
          · exact ihy _ hh.2 x hx
      exact this none n.names q4.1.2
    · refine ⟨fun x hx => ?_, fun e4 => ?_⟩
      · have := List.length_pos_of_mem hx; omega
      · rw [e4] at q4; simp at q4; omega
  exact .mk n hkind hnum htext hnames.1 hk6 hnames.2 hkids)
theorem valid_wr {n : Nd} (h : shapeB n 5 = true) : Wr n := shape_wr n 5 h
end Go.Proofs.YtoedpagdklagdaaDoor
namespace Go.Proofs.YtoedpagdklagdaaDoor
open Go.RowKit
abbrev Bd (B b : Nat) (l : List UInt8) (w : World) : Prop := Lib.IsBuilderF TB TU B b (Lib.byteCells l) w
theorem Bd.of {B b : Nat} {l : List UInt8} {bs : List Value} {w : World} (h : Bl B b (.pointer (some ⟨b, 0, none⟩)) bs w) (he : bs = Lib.byteCells l) : Bd B b l w := by subst he; exact .inr h
theorem wByte (B b : Nat) (l : List UInt8) (c : UInt8) (v : Int) (hv : v = (c.toNat : Int)) (w : World) (h : Bd B b l w) (hlen : l.length + 1 ≤ 1000000) (hBw : B ≤ w.heap.size) :
    Calls Tryd.prog 64 #[.pointer (some ⟨b, 0, none⟩), .int .u8 v] w fun e w' => e = .returned .nilIface ∧ Bd B b (l ++ [c]) w' ∧ Kp B b w w' := by
  subst hv
  refine (writeByte_ok B b _ _ w h (by rw [Lib.byteCells_length]; exact hlen) hBw).mono ?_
  rintro e w' ⟨rfl, h1, h2⟩
  exact ⟨rfl, .inr (by rw [Lib.byteCells_append]; exact h1), h2⟩
theorem wString (B b : Nat) (l : List UInt8) (s : ByteArray) (w : World) (h : Bd B b l w) (hlen : l.length + s.size ≤ 1000000) (hBw : B ≤ w.heap.size) :
    Calls Tryd.prog 61 #[.pointer (some ⟨b, 0, none⟩), .string s] w fun e w' => e = .returned (.tuple #[.int .i64 s.size, .nilIface]) ∧ Bd B b (l ++ s.data.toList) w' ∧ Kp B b w w' := by
  refine (writeString_ok B b _ s w h (by rw [Lib.byteCells_length]; exact hlen) hBw).mono ?_
  rintro e w' ⟨rfl, h1, h2⟩
  exact ⟨rfl, .inr (by rw [Lib.byteCells_append]; exact h1), h2⟩
theorem esc_yes {c : UInt8} (h : ((c.toNat : Int) == 34) = true ∨ ((c.toNat : Int) == 92) = true) : escT c = [92, c] := by
  unfold escT
  rw [if_pos]
  rcases h with h | h
  · left
    have : c.toNat = 34 := by have := eq_of_beq h; omega
    exact UInt8.toNat_inj.1 this
  · right
    have : c.toNat = 92 := by have := eq_of_beq h; omega
    exact UInt8.toNat_inj.1 this
theorem esc_no {c : UInt8} (h : ((c.toNat : Int) == 34) = false) (h2 : ((c.toNat : Int) == 92) = false) : escT c = [c] := by
  unfold escT
  rw [if_neg]
  rintro (rfl | rfl)
  · cases h
  · cases h2
theorem writeText_ok (B b : Nat) (l : List UInt8) (s : ByteArray) (w : World) (h : Bd B b l w) (hs : s.size ≤ 12) (hlen : l.length ≤ 900000) (hBw : B ≤ w.heap.size) :
    Calls Tryd.prog 63 #[.pointer (some ⟨b, 0, none⟩), .string s] w fun e w' => e = .returned (.tuple #[]) ∧ Bd B b (l ++ quoT s.data.toList) w' ∧ Kp B b w w' := by
  have hsl : s.data.toList.length = s.size := by simp
  have H := Lib.hid h
  clear h
  go_enter Tryd.func63, Tryd.ntmps63
  go_wp2_with (go_at_call 64; refine (wByte B b l 34 _ rfl _ H.out (by omega) hBw).mono ?_)
  rintro e w1 ⟨rfl, h1, k1⟩
  have K1 := Lib.hid k1
  have H1 := Lib.hid h1
  have hB1 : B ≤ w1.heap.size := by have := k1.below.size; omega
  clear k1 h1
  go_wp2
  go_loopw [4] (fun i wr => ∃ k : Nat, k ≤ s.size ∧ i = .int .i64 k ∧ Hid (Bd B b ((l ++ [34]) ++ (s.data.toList.take k).flatMap escT) wr) ∧ Hid (Kp B b w wr) ∧ B ≤ wr.heap.size) (fun i _ => s.size - (intOf i).toNat)
  case atStart => exact ⟨0, Nat.zero_le _, rfl, by simpa using H1, K1, hB1⟩
  case round =>
    obtain ⟨k, hk, rfl, Hr, Kr, hBr⟩ := hrel
    clear H H1 K1
    have hel := esc_len (s.data.toList.take k)
    have htl : (s.data.toList.take k).length ≤ 12 := by rw [List.length_take]; omega
    by_cases hlt : k < s.size
    · have hst : (s.data.toList.take (k + 1)).flatMap escT = (s.data.toList.take k).flatMap escT ++ escT s[k] := by
        rw [take_snoc' _ k (by omega), List.flatMap_append]; simp; rfl
      have hgo : ∀ (w2 : World), Bd B b ((l ++ [34]) ++ (s.data.toList.take (k + 1)).flatMap escT) w2 → Kp B b wr w2 → Bd B b ((l ++ [34]) ++ (s.data.toList.take (k + 1)).flatMap escT) w2 ∧ Kp B b w w2 ∧ B ≤ w2.heap.size :=
        fun w2 h2 k2 => ⟨h2, Kr.out.trans k2, by have := k2.below.size; omega⟩
      have Hgo := Lib.hid hgo
      have Hst := Lib.hid hst
      clear hgo hst
      cases a1 : ((s[k].toNat : Int) == 34) <;> cases a2 : ((s[k].toNat : Int) == 92)
      · have He := Lib.hid (esc_no a1 a2)
        go_wp2_with (go_at_call 64; refine (wByte B b _ s[k] _ rfl _ Hr.out (by simp only [List.length_append, List.length_cons, List.length_nil]; omega) hBr).mono ?_)
        rintro e w2 ⟨rfl, h2, k2⟩
        have h3 := Hgo.out w2 (by rw [Hst.out, He.out, ← List.append_assoc]; exact h2) k2
        have H3 := Lib.hid h3.1
        have K3 := Lib.hid h3.2.1
        have B3 := h3.2.2
        clear h2 k2 h3
        go_wp2
        go_round
        case rel => exact ⟨k + 1, by omega, by go_num, H3, K3, B3⟩
        case measure => simp [intOf]; omega
      all_goals
        have He := Lib.hid (esc_yes (c := s[k]) (by simp [a1, a2]))
        go_wp2_with (go_at_call 64; refine (wByte B b _ 92 _ rfl _ Hr.out (by simp only [List.length_append, List.length_cons, List.length_nil]; omega) hBr).mono ?_)
        rintro e w2 ⟨rfl, h2, k2⟩
        have H2 := Lib.hid h2
        have K2 := Lib.hid k2
        have B2 : B ≤ w2.heap.size := by have := k2.below.size; omega
        clear h2 k2
        go_wp2_with (go_at_call 64; refine (wByte B b _ s[k] _ rfl _ H2.out (by simp only [List.length_append, List.length_cons, List.length_nil]; omega) B2).mono ?_)
        rintro e w3 ⟨rfl, h3, k3⟩
        have h4 := Hgo.out w3 (by rw [Hst.out, He.out]; simpa [List.append_assoc] using h3) (K2.out.trans k3)
        have H3 := Lib.hid h4.1
        have K3 := Lib.hid h4.2.1
        have B3 := h4.2.2
        clear h3 k3 h4
        go_wp2
        go_round
        case rel => exact ⟨k + 1, by omega, by go_num, H3, K3, B3⟩
        case measure => simp [intOf]; omega
    · have hall : s.data.toList.take k = s.data.toList := List.take_of_length_le (by omega)
      rw [hall] at Hr hel
      go_wp2_with (go_at_call 64; refine (wByte B b _ 34 _ rfl _ Hr.out (by simp only [List.length_append, List.length_cons, List.length_nil]; rw [hall] at htl; omega) hBr).mono ?_)
      rintro e w2 ⟨rfl, h2, k2⟩
      have H2 := Lib.hid h2
      have K2 := Lib.hid k2
      clear h2 k2
      go_wp2
      go_end0
      refine ⟨rfl, ?_, Kr.out.trans K2.out⟩
      have := H2.out
      unfold quoT
      simpa [List.append_assoc] using this
end Go.Proofs.YtoedpagdklagdaaDoor
namespace Go.Proofs
open Go.Shelf
def Tryd.lays169_ren : Go.Shelf.Ren := ⟨fun | 169 => 41 | n => n, fun | 70 => 55 | 9 => 9 | 0 => 0 | 72 => 57 | 37 => 35 | 127 => 84 | 3 => 3 | 5 => 5 | n => n, fun | n => n⟩
theorem Tryd.lays169 : Go.Proofs.Lays.n169 Tryd.prog Tryd.lays169_ren := {
  mixed := by kernel_rfl
  f169 := Tryd.func41.trans (congrArg some (by kernel_rfl))
  t0 := Tryd.underlying0
  a0 := Tryd.isAgg0
  z0 := Tryd.sizeOf0
  v0 := Tryd.zeroValue0
  t3 := Tryd.underlying3
  a3 := Tryd.isAgg3
  z3 := Tryd.sizeOf3
  v3 := Tryd.zeroValue3
  t9 := Tryd.underlying9
  a9 := Tryd.isAgg9
  z9 := Tryd.sizeOf9
  v9 := Tryd.zeroValue9
  t37 := Tryd.underlying35
  a37 := Tryd.isAgg35
  z37 := Tryd.sizeOf35
  v37 := Tryd.zeroValue35
  t70 := Tryd.underlying55
  a70 := Tryd.isAgg55
  z70 := Tryd.sizeOf55
  v70 := Tryd.zeroValue55
  t72 := Tryd.underlying57
  a72 := Tryd.isAgg57
  z72 := Tryd.sizeOf57
  v72 := Tryd.zeroValue57
  t127 := Tryd.underlying84
  a127 := Tryd.isAgg84
  z127 := Tryd.sizeOf84
  v127 := Tryd.zeroValue84 }
theorem Tryd.Builder_Extra_169 : Builder.Extra Tryd.prog Tryd.lays169_ren := {
  sizeBuilder := by kernel_rfl
  liesBuilder := by kernel_rfl
  t5 := Tryd.underlying5
  a5 := Tryd.isAgg5
  z5 := Tryd.sizeOf5
  v5 := Tryd.zeroValue5
  infoByte := by kernel_rfl
  cellsByte := by kernel_rfl
  sizeByte := by kernel_rfl
  neB5 := by decide }
open Go.RowKit in
theorem Tryd.Builder_String_any_k (B b : Nat) (l : List UInt8) (w : World) (h : Lib.IsBuilderF 57 5 B b (Lib.byteCells l) w) (hBw : B ≤ w.heap.size) :
    Calls Tryd.prog 41 #[.pointer (some ⟨b, 0, none⟩)] w fun e w' => e = .returned (.string ⟨l.toArray⟩) ∧ (Lib.IsBuilderF 57 5 B b (Lib.byteCells l) w' ∧ Below B w w' ∧ Lib.OthersKept 5 (some b) w w') := Any.Builder_String_any_k Tryd.lays169 Tryd.Builder_Extra_169 B b l w h hBw
def Tryd.laysM171_ren : Go.Shelf.Ren := ⟨fun | 171 => 62 | 243 => 80 | 246 => 86 | 283 => 91 | 284 => 92 | 285 => 93 | 286 => 94 | 129 => 99 | 317 => 98 | 318 => 100 | 319 => 101 | 320 => 102 | 337 => 103 | 338 => 104 | n => n, fun | 3 => 3 | 9 => 9 | 2 => 2 | 4 => 4 | 171 => 108 | 0 => 0 | 53 => 109 | 37 => 35 | 5 => 5 | 173 => 112 | 212 => 119 | 51 => 120 | 20 => 20 | 213 => 121 | 46 => 123 | 232 => 126 | 233 => 127 | n => n, fun | 17 => 0 | 18 => 1 | 19 => 2 | n => n⟩
theorem Tryd.laysM171 : Go.Proofs.LaysM.n171 Tryd.prog Tryd.laysM171_ren := {
  mixed := by kernel_rfl
  f129 := Tryd.func99.trans (congrArg some (by kernel_rfl))
  f171 := Tryd.func62.trans (congrArg some (by kernel_rfl))
  f243 := Tryd.func80.trans (congrArg some (by kernel_rfl))
  f246 := Tryd.func86.trans (congrArg some (by kernel_rfl))
  f283 := Tryd.func91.trans (congrArg some (by kernel_rfl))
  f284 := Tryd.func92.trans (congrArg some (by kernel_rfl))
  f285 := Tryd.func93.trans (congrArg some (by kernel_rfl))
  f286 := Tryd.func94.trans (congrArg some (by kernel_rfl))
  f317 := Tryd.func98.trans (congrArg some (by kernel_rfl))
  f318 := Tryd.func100.trans (congrArg some (by kernel_rfl))
  f319 := Tryd.func101.trans (congrArg some (by kernel_rfl))
  f320 := Tryd.func102.trans (congrArg some (by kernel_rfl))
  f337 := Tryd.func103.trans (congrArg some (by kernel_rfl))
  f338 := Tryd.func104.trans (congrArg some (by kernel_rfl))
  t0 := Tryd.underlying0
  a0 := Tryd.isAgg0
  z0 := Tryd.sizeOf0
  v0 := Tryd.zeroValue0
  t2 := Tryd.underlying2
  a2 := Tryd.isAgg2
  z2 := Tryd.sizeOf2
  v2 := Tryd.zeroValue2
  t3 := Tryd.underlying3
  a3 := Tryd.isAgg3
  z3 := Tryd.sizeOf3
  v3 := Tryd.zeroValue3
  t4 := Tryd.underlying4
  a4 := Tryd.isAgg4
  z4 := Tryd.sizeOf4
  v4 := Tryd.zeroValue4
  t5 := Tryd.underlying5
  a5 := Tryd.isAgg5
  z5 := Tryd.sizeOf5
  v5 := Tryd.zeroValue5
  t9 := Tryd.underlying9
  a9 := Tryd.isAgg9
  z9 := Tryd.sizeOf9
  v9 := Tryd.zeroValue9
  t20 := Tryd.underlying20
  a20 := Tryd.isAgg20
  z20 := Tryd.sizeOf20
  v20 := Tryd.zeroValue20
  t37 := Tryd.underlying35
  a37 := Tryd.isAgg35
  z37 := Tryd.sizeOf35
  v37 := Tryd.zeroValue35
  t46 := Tryd.underlying123
  a46 := Tryd.isAgg123
  z46 := Tryd.sizeOf123
  v46 := Tryd.zeroValue123
  t51 := Tryd.underlying120
  a51 := Tryd.isAgg120
  z51 := Tryd.sizeOf120
  v51 := Tryd.zeroValue120
  t53 := Tryd.underlying109
  a53 := Tryd.isAgg109
  z53 := Tryd.sizeOf109
  v53 := Tryd.zeroValue109
  t171 := Tryd.underlying108
  a171 := Tryd.isAgg108
  z171 := Tryd.sizeOf108
  v171 := Tryd.zeroValue108
  t173 := Tryd.underlying112
  a173 := Tryd.isAgg112
  z173 := Tryd.sizeOf112
  v173 := Tryd.zeroValue112
  t212 := Tryd.underlying119
  a212 := Tryd.isAgg119
  z212 := Tryd.sizeOf119
  v212 := Tryd.zeroValue119
  t213 := Tryd.underlying121
  a213 := Tryd.isAgg121
  z213 := Tryd.sizeOf121
  t232 := Tryd.underlying126
  a232 := Tryd.isAgg126
  z232 := Tryd.sizeOf126
  v232 := Tryd.zeroValue126
  t233 := Tryd.underlying127
  a233 := Tryd.isAgg127
  z233 := Tryd.sizeOf127
  v233 := Tryd.zeroValue127
  g17 := by kernel_rfl
  g18 := by kernel_rfl
  g19 := by kernel_rfl
  i0 := by kernel_rfl
  i2 := by kernel_rfl
  i3 := by kernel_rfl
  i4 := by kernel_rfl
  i5 := by kernel_rfl
  i9 := by kernel_rfl
  i20 := by kernel_rfl
  i37 := by kernel_rfl
  i46 := by kernel_rfl
  i51 := by kernel_rfl
  i53 := by kernel_rfl
  i171 := by kernel_rfl
  i173 := by kernel_rfl
  i212 := by kernel_rfl
  i232 := by kernel_rfl
  i233 := by kernel_rfl
  m17 := by kernel_rfl
  m18 := by kernel_rfl
  m19 := by kernel_rfl }
open Go.RowKit Go.Sort Go.Lib in
theorem Tryd.strconv_Itoa (n : Int) (h0 : -9223372036854775808 ≤ n) (h1 : n ≤ 9223372036854775807) (w : World) (htab : Lib.TabIs Tryd.prog w "internal/strconv.uint64pow10" .u64 Lib.pow10Tab) :
    Calls Tryd.prog 62 #[.int .i64 n] w fun e w' => e = .returned (.string ⟨(Lib.itoa n).toArray⟩) ∧ ∃ k os, w' = grow (w.drewN k) os := Any.strconv_Itoa Tryd.laysM171 n h0 h1 w htab
end Go.Proofs
