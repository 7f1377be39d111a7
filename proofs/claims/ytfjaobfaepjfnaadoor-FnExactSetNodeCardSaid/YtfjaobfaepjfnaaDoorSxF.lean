/-
  Texts of this claim, joined.
-/
import Derived.Lib.Bytealg
import Derived.Laws.CopyRow
import Derived.Laws.CopyOwn
import Derived.Laws.IdiomCopy
import Derived.Laws.AppendOwn
import Derived.Lib.AppendZerosOnto
import Derived.Lib.Overlaps
import Derived.Deep.RegionLaw
import Derived.Shelf.RegionOpenPlain
import Derived.Test.YtfjaobfaepjfnaaDoorSxE

set_option linter.unusedSimpArgs false
set_option linter.unusedVariables false
set_option linter.unnecessarySimpa false
set_option maxRecDepth 100000
set_option maxHeartbeats 16000000
namespace Go.Proofs.YtfjaobfaepjfnaaDoor
open Go.RowKit
theorem markNode_ok (n : Nd) (na : Option Addr) (nc : Nat) (ka : Option Addr) (kc : Nat) (fp : List Nat) (B k : Nat) (i : Int) (w : World) (hi : i = (k : Int)) (hF : NodeF w n na nc ka kc fp) (hfr : Free B w fp) (h1 : 0 < k) (h2 : k + cntT n ≤ 1000000000) :
    Calls Tryd.prog 27 #[nodeV n na nc ka kc, .int .i64 i] w fun e w' => e = .returned (.int .i64 ((k + cntT n : Nat) : Int)) ∧ Ext (inl fp) w w' ∧ Free B w' fp ∧ NodeF w' (mkT k n) na nc ka kc fp := by
  subst hi
  obtain ⟨f1, f2, rfl, htx, hs, hk⟩ := hF.parts
  have hct : cntT n = n.names.length + cntL n.kids := rfl
  have hnd := List.nodup_append.1 hfr.1
  have hf1 : Free B w f1 := ⟨hnd.1, fun y hy => hfr.2 y (by simp [hy])⟩
  have hf2 : Free B w f2 := ⟨hnd.2.1, fun y hy => hfr.2 y (by simp [hy])⟩
  have hd : ∀ y, y ∈ f1 → y ∈ f2 → False := fun y h1 h2 => hnd.2.2 y h1 y h2 rfl
  have Hct := Lib.hid hct
  have Hs := Lib.hid hs
  have Hk := Lib.hid hk
  have Htx := Lib.hid htx
  have Hf1 := Lib.hid hf1
  have Hf2 := Lib.hid hf2
  have Hd := Lib.hid hd
  have Hfr := Lib.hid hfr
  clear hct hs hk htx hf1 hf2 hd hnd hF hfr
  unfold nodeV
  go_enter Tryd.func27, Tryd.ntmps27
  go_wp2_with fail
  have hga : Grow w (w.alloc (.cells #[.int .i64 n.kind, .int .i64 n.num, .string n.text, .slice na n.names.length nc, .slice ka n.kids.length kc] 26)) := (Ext.refl nil w).alloc _
  have hB0 := BoxN.new w (nodeL n na nc ka kc) 26
  have hlt : ∀ y ∈ f1 ++ f2, y < w.heap.size := fun y hy => (Hfr.out.2 y hy).2.1
  have Hlt := Lib.hid hlt
  have HB0 := Lib.hid hB0
  clear hlt hB0
  refine (markStringS_i na nc n.names f1 B k _ _ rfl (Hs.out.keep (hga.keeps Hf1.out (fun _ _ h => h))) (Hf1.out.ext hga (fun _ _ h => h)) (by omega) (by have := Hct.out; omega)).mono ?_
  rintro e w2 ⟨rfl, hx2, hfr2, hF2⟩
  have B2 := HB0.out.ext hx2 (fun h => by have := Hlt.out _ (List.mem_append_left f2 h); omega)
  have p4 := B2.cell 4 _ rfl
  have hk2 := Hk.out.keep' (w' := w2) (fun y hy o => by rw [hx2.cell (p := ⟨y, o, none⟩) (by have := Hlt.out y (by simp [hy]); simp; omega) (fun h => Hd.out y h hy)]; exact hga.cell (p := ⟨y, o, none⟩) (Hlt.out y (by simp [hy])) (fun h => h))
  have hf22 := (Hf2.out.ext hga (fun _ _ h => h)).ext hx2 (fun y hy h => Hd.out y h hy)
  have Hx2 := Lib.hid (hga.toX'.trans (hx2.mono (Y := inl (f1 ++ f2)) (fun y hy => List.mem_append_left f2 hy)))
  have Hk2 := Lib.hid hk2
  have Hf22 := Lib.hid hf22
  have Hfr2 := Lib.hid hfr2
  have HF2 := Lib.hid hF2
  clear hx2 hfr2 hF2 hk2 hf22 B2 hga
  go_wp2_with fail
  refine (markNodeS_ok n.kids ka kc f2 B (k + n.names.length) _ _ (by omega) Hk2.out Hf22.out (by omega) (by have := Hct.out; omega)).mono ?_
  rintro e w3 ⟨rfl, hx3, hfr3, hF3⟩
  have hs3 := HF2.out.keep (w' := w3) (fun y hy o => hx3.cell (p := ⟨y, o, none⟩) (Hfr2.out.2 y hy).2.1 (fun h => Hd.out y hy h))
  have hfr13 := Hfr2.out.ext hx3 (fun y hy h => Hd.out y hy h)
  have Hres : Hid (Ext (inl (f1 ++ f2)) w w3 ∧ Free B w3 (f1 ++ f2) ∧ NodeF w3 (mkT k n) na nc ka kc (f1 ++ f2)) := Lib.hid ⟨Hx2.out.trans (hx3.mono (fun y hy => List.mem_append_right f1 hy)), hfr13.app2 hfr3 Hd.out, by
    unfold mkT NodeF
    obtain ⟨q1, q2, q3⟩ := hF3
    refine ⟨f1, f2, rfl, Htx.out, hs3, q1, q2, ?_⟩
    rcases q3 with ⟨h, h'⟩ | ⟨b, o, f3, q4, q5, q6, q7⟩
    · exact .inl ⟨h, h'⟩
    · exact .inr ⟨b, o, f3, q4, q5, q6, q7⟩⟩
  clear hx3 hfr3 hF3 hs3 hfr13
  go_wp2_with fail
  go_ret
  exact ⟨by rw [Hct.out]; simp; omega, Hres.out⟩
theorem heldNode_ok (n : Nd) (na : Option Addr) (nc : Nat) (ka : Option Addr) (kc : Nat) (k : Nat) (i : Int) (w : World) (hi : i = (k : Int)) (hn : NodeR w any (mkT k n) (nodeV (mkT k n) na nc ka kc)) (h1 : 0 < k) (h2 : k + cntT n ≤ 1000000000) :
    Calls Tryd.prog 36 #[nodeV (mkT k n) na nc ka kc, .int .i64 i] w fun e w' => e = .returned (.int .i64 ((k + cntT n : Nat) : Int)) ∧ Grow w w' := by
  subst hi
  obtain ⟨a1, c1, a2, c2, he, hc⟩ := hn
  obtain ⟨_, hs, hk⟩ := hc.parts
  have hct : cntT n = n.names.length + cntL n.kids := rfl
  simp only [nodeV, Value.agg.injEq, Array.mk.injEq, List.cons.injEq, Value.slice.injEq, true_and, and_true] at he
  obtain ⟨⟨rfl, rfl⟩, rfl, rfl⟩ := he
  unfold mkT at hs hk
  simp only at hs hk
  have Hct := Lib.hid hct
  have Hs := Lib.hid hs
  have Hk := Lib.hid hk
  clear hct hs hk hc
  have hl : (mkL (k + n.names.length) n.kids).length = n.kids.length := mkL_len _ _
  unfold nodeV mkT
  simp only [mkS_len, hl]
  go_enter Tryd.func36, Tryd.ntmps36
  go_wp2_with fail
  refine (heldStringS_i na nc n.names.length k _ _ rfl (Hs.out.grow (by repeat (first | with_reducible exact Ext.refl _ _ | with_reducible refine Ext.trans ?_ (by assumption) | with_reducible refine Ext.drew ?_ | with_reducible refine Ext.drewN ?_ _ | with_reducible refine Ext.alloc ?_ _ | with_reducible refine Ext.setNew ?_ (by simp; done) _ | with_reducible refine Ext.setNew ?_ (by simp; omega) _))) (by omega) (by have := Hct.out; omega)).mono ?_
  rintro e w2 ⟨rfl, hg2⟩
  have hcc := bcell hg2
  go_wp2_with fail
  have hh := heldNodeS_ok n.kids ka kc (k + n.names.length) ((k + n.names.length : Nat) : Int) w2 rfl (Hk.out.grow (by repeat (first | with_reducible exact Ext.refl _ _ | with_reducible refine Ext.trans ?_ (by assumption) | with_reducible refine Ext.drew ?_ | with_reducible refine Ext.drewN ?_ _ | with_reducible refine Ext.alloc ?_ _ | with_reducible refine Ext.setNew ?_ (by simp; done) _ | with_reducible refine Ext.setNew ?_ (by simp; omega) _))) (by omega) (by have := Hct.out; omega)
  refine hh.mono ?_
  rintro e w3 ⟨rfl, hg3⟩
  go_wp2_with fail
  go_ret
  exact ⟨by rw [Hct.out]; simp; omega, (by repeat (first | with_reducible exact Ext.refl _ _ | with_reducible refine Ext.trans ?_ (by assumption) | with_reducible refine Ext.drew ?_ | with_reducible refine Ext.drewN ?_ _ | with_reducible refine Ext.alloc ?_ _ | with_reducible refine Ext.setNew ?_ (by simp; done) _ | with_reducible refine Ext.setNew ?_ (by simp; omega) _))⟩
end Go.Proofs.YtfjaobfaepjfnaaDoor
namespace Go.Proofs.YtfjaobfaepjfnaaDoor
open Go.RowKit
abbrev Ent := Nd × ByteArray
end Go.Proofs.YtfjaobfaepjfnaaDoor
namespace Go.Proofs.YtfjaobfaepjfnaaDoor
open Go.RowKit
end Go.Proofs.YtfjaobfaepjfnaaDoor
namespace Go.Proofs.YtfjaobfaepjfnaaDoor
open Go.RowKit
end Go.Proofs.YtfjaobfaepjfnaaDoor
namespace Go.Proofs.YtfjaobfaepjfnaaDoor
open Go.RowKit
def sgnI (a b : Int) : Int := if a < b then -1 else if b < a then 1 else 0
def sgnT (a b : ByteArray) : Int := if lt a b then -1 else if lt b a then 1 else 0
end Go.Proofs.YtfjaobfaepjfnaaDoor
namespace Go.Proofs.YtfjaobfaepjfnaaDoor
open Go.RowKit
mutual
def cmpN : Nd → Nd → Int
  | ⟨kind, num, text, names, kids⟩, b =>
    if sgnI kind b.kind ≠ 0 then sgnI kind b.kind else if sgnI num b.num ≠ 0 then sgnI num b.num else if sgnT text b.text ≠ 0 then sgnT text b.text
    else cmpKs (decide (kind = 4)) names b.names kids b.kids
def cmpKs : Bool → List ByteArray → List ByteArray → List Nd → List Nd → Int
  | m, ns, ms, k :: ks, j :: js =>
    if m = true ∧ sgnT (ns.headD ⟨#[]⟩) (ms.headD ⟨#[]⟩) ≠ 0 then sgnT (ns.headD ⟨#[]⟩) (ms.headD ⟨#[]⟩) else if cmpN k j ≠ 0 then cmpN k j else cmpKs m ns.tail ms.tail ks js
  | _, _, _, [], js => sgnI 0 js.length
  | _, _, _, ks, [] => sgnI ks.length 0
end
end Go.Proofs.YtfjaobfaepjfnaaDoor
namespace Go.Proofs.YtfjaobfaepjfnaaDoor
open Go.RowKit
end Go.Proofs.YtfjaobfaepjfnaaDoor
namespace Go.Proofs.YtfjaobfaepjfnaaDoor
open Go.RowKit
def frB (lo hi : Nd) (e : Ent) : Bool := decide (cmpN lo e.1 ≤ 0) && decide (cmpN e.1 hi ≤ 0)
def OwnS (w w' : World) (xs : List ByteArray) (v : Value) : Prop := ∃ a c fp, v = .slice a xs.length c ∧ StrsF w' a c xs fp ∧ Free w.heap.size w' fp
theorem OwnS.nil (w w' : World) : OwnS w w' [] (.slice none 0 0) := ⟨none, 0, [], rfl, ⟨Nat.le_refl _, Nat.zero_le _, by simp, .inl ⟨rfl, rfl⟩⟩, Free.nil _ _⟩
theorem OwnS.grow {w w' w'' : World} {xs : List ByteArray} {v : Value} (h : OwnS w w' xs v) (hg : Grow w' w'') : OwnS w w'' xs v := by
  obtain ⟨a, c, fp, hv, h1, h2⟩ := h
  exact ⟨a, c, fp, hv, h1.keep (hg.keeps h2 (fun _ _ h => h)), h2.ext hg (fun _ _ h => h)⟩
theorem Free.down {B B' : Nat} {w : World} {fp : List Nat} (h : Free B w fp) (hb : B' ≤ B) : Free B' w fp := ⟨h.1, fun y hy => ⟨Nat.le_trans hb (h.2 y hy).1, (h.2 y hy).2⟩⟩
theorem OwnS.row {w w' : World} {B : Nat} {T : TypeId} {v : Value} {n : Nat} {xs : List ByteArray} (hB : w.heap.size ≤ B) (h : w'.ownsRow B T 1 v n (xs.map Value.string)) (hx : ∀ x ∈ xs, x.size ≤ big) : OwnS w w' xs v := by
  obtain ⟨a, c, fp, hv, h1, h2, _⟩ := strs_of_row h hx
  exact ⟨a, c, fp, hv, h1, h2.down hB⟩
end Go.Proofs.YtfjaobfaepjfnaaDoor
namespace Go.Proofs.YtfjaobfaepjfnaaDoor
open Go.RowKit
mutual
theorem cntK_le : ∀ n : Nd, cntK n ≤ 3 + 3 * costN n
  | ⟨_, _, text, names, kids⟩ => by
    have h := cntL_le kids
    have h2 : names.length ≤ costS names := by simp [costS]
    simp only [cntK, costN]; omega
theorem cntL_le : ∀ l : List Nd, cntL l ≤ 3 * costL l
  | [] => by simp [cntL]
  | k :: ks => by
    have h1 := cntK_le k
    have h2 := cntL_le ks
    simp only [cntL, costL]; omega
end
theorem cntT_le (n : Nd) : cntT n ≤ 3 * costN n := by
  have := cntK_le n
  rw [cntK_eq] at this; unfold cntT; omega
def Seg (A Z : Nat) (w : World) (fp : List Nat) : Prop := Free A w fp ∧ ∀ y ∈ fp, y < Z
theorem Seg.of {A : Nat} {w : World} {fp : List Nat} (h : Free A w fp) : Seg A w.heap.size w fp := ⟨h, fun y hy => (h.2 y hy).2.1⟩
theorem Seg.grow {A Z : Nat} {w w' : World} {fp : List Nat} (h : Seg A Z w fp) (hg : Grow w w') : Seg A Z w' fp := ⟨h.1.ext hg (fun _ _ h => h), h.2⟩
theorem Seg.off {A Z A' Z' : Nat} {w w0 : World} {fp fx : List Nat} (h : Seg A Z w fp) (hx : Seg A' Z' w0 fx) (hd : Z ≤ A' ∨ Z' ≤ A) : ∀ y ∈ fp, ¬ inl fx y := fun y hy h2 => by
  have h3 := h.2 y hy
  have h4 := (h.1.2 y hy).1
  have h5 := hx.2 y h2
  have h6 := (hx.1.2 y h2).1
  omega
theorem Seg.ext {A Z A' Z' : Nat} {w w' w0 : World} {fp fx : List Nat} (h : Seg A Z w fp) (hx : Seg A' Z' w0 fx) (hd : Z ≤ A' ∨ Z' ≤ A) (he : Ext (inl fx) w w') : Seg A Z w' fp := ⟨h.1.ext he (h.off hx hd), h.2⟩
theorem Seg.keeps {A Z A' Z' : Nat} {w w' w0 : World} {fp fx : List Nat} (h : Seg A Z w fp) (hx : Seg A' Z' w0 fx) (hd : Z ≤ A' ∨ Z' ≤ A) (he : Ext (inl fx) w w') : ∀ b ∈ fp, ∀ o, w'.cell? ⟨b, o, none⟩ = w.cell? ⟨b, o, none⟩ := he.keeps h.1 (h.off hx hd)
theorem Seg.marked {A Z : Nat} {w w' : World} {fp : List Nat} (h : Seg A Z w fp) (h' : Free A w' fp) : Seg A Z w' fp := ⟨h', h.2⟩
theorem Seg.inner {A Z : Nat} {w0 w w' : World} {fp : List Nat} (h : Seg A Z w fp) (hg : Grow w0 w) (he : Ext (inl fp) w w') (hA : w0.heap.size ≤ A) : Grow w0 w' :=
  hg.inner he (fun i hi => Nat.le_trans hA (h.1.2 i hi).1)
theorem Seg.box {A Z b : Nat} {w0 w w' : World} {fp : List Nat} {cs : List Value} (h : Seg A Z w0 fp) (hB : BoxN w b cs) (he : Ext (inl fp) w w') (hd : b < A ∨ Z ≤ b) : BoxN w' b cs :=
  hB.ext he (fun hi => by have h3 := h.2 b hi; have h4 := (h.1.2 b hi).1; omega)
theorem Seg.below {A Z : Nat} {w0 w w' : World} {fp : List Nat} {a : Option Addr} {c Y : Nat} {xs : List ByteArray} (h : Seg A Z w0 fp) (hs : StrsR w (fun k => k < Y) a c xs) (he : Ext (inl fp) w w') (hd : Y ≤ A) : StrsR w' (fun k => k < Y) a c xs :=
  hs.ext he (fun k hk hi => by have h4 := (h.1.2 k hi).1; omega)
theorem StrsR.under {S : Nat → Prop} {w : World} {a : Option Addr} {c : Nat} {xs : List ByteArray} (h : StrsR w S a c xs) : StrsR w (fun k => k < w.heap.size) a c xs := h.lt.mono (fun _ h => h.2)
end Go.Proofs.YtfjaobfaepjfnaaDoor
namespace Go.Proofs.YtfjaobfaepjfnaaDoor
open Go.RowKit
def packA (cs : List Value) : Value := .agg cs.toArray
def packO (cs : List Value) : Value := cs.headD undef
def RV {α : Type} (E : Rep α) (pk : List Value → Value) (w : World) (S : Nat → Prop) (x : α) (v : Value) : Prop := ∃ cs, v = pk cs ∧ E.R w S x cs
def FV {α : Type} (E : Rep α) (pk : List Value → Value) (w : World) (x : α) (v : Value) (fp : List Nat) : Prop := ∃ cs, v = pk cs ∧ E.F w x cs fp
section
variable {α : Type} {E : Rep α} {pk : List Value → Value}
theorem RV.ext {X S : Nat → Prop} {w w' : World} {x : α} {v : Value} (h : RV E pk w S x v) (he : Ext X w w') (hS : ∀ k, S k → ¬ X k) : RV E pk w' S x v := by
  obtain ⟨cs, hv, hc⟩ := h; exact ⟨cs, hv, E.ext he hS hc⟩
theorem RV.grow {S : Nat → Prop} {w w' : World} {x : α} {v : Value} (h : RV E pk w S x v) (hg : Grow w w') : RV E pk w' S x v := h.ext hg (fun _ _ h => h)
theorem RV.mono {S T : Nat → Prop} {w : World} {x : α} {v : Value} (h : RV E pk w S x v) (hS : ∀ k, S k → T k) : RV E pk w T x v := by
  obtain ⟨cs, hv, hc⟩ := h; exact ⟨cs, hv, E.mono hS hc⟩
theorem RV.any {S : Nat → Prop} {w : World} {x : α} {v : Value} (h : RV E pk w S x v) : RV E pk w any x v := h.mono (fun _ _ => trivial)
theorem RV.under {S : Nat → Prop} {w : World} {x : α} {v : Value} (h : RV E pk w S x v) : RV E pk w (fun k => k < w.heap.size) x v := by
  obtain ⟨cs, hv, hc⟩ := h; exact ⟨cs, hv, E.mono (fun _ h => h.2) (E.lt hc)⟩
theorem FV.keep {w w' : World} {x : α} {v : Value} {fp : List Nat} (h : FV E pk w x v fp) (hk : ∀ b ∈ fp, ∀ o, w'.cell? ⟨b, o, none⟩ = w.cell? ⟨b, o, none⟩) : FV E pk w' x v fp := by
  obtain ⟨cs, hv, hc⟩ := h; exact ⟨cs, hv, E.keep hc hk⟩
theorem FV.rv {w : World} {x : α} {v : Value} {fp : List Nat} (h : FV E pk w x v fp) : RV E pk w Go.Proofs.YtfjaobfaepjfnaaDoor.any x v := by
  obtain ⟨cs, hv, hc⟩ := h; exact ⟨cs, hv, E.toR hc (fun _ _ => trivial)⟩
theorem FV.grow {w w' : World} {x : α} {v : Value} {fp : List Nat} {A Z : Nat} (h : FV E pk w x v fp) (hs : Seg A Z w fp) (hg : Grow w w') : FV E pk w' x v fp := h.keep (hg.keeps hs.1 (fun _ _ h => h))
theorem Seg.rv {A Z Y : Nat} {w0 w w' : World} {fp : List Nat} {x : α} {v : Value} (h : Seg A Z w0 fp) (hs : RV E pk w (fun k => k < Y) x v) (he : Ext (inl fp) w w') (hd : Y ≤ A) : RV E pk w' (fun k => k < Y) x v :=
  hs.ext he (fun k hk hi => by have h4 := (h.1.2 k hi).1; omega)
end
theorem strs_open {w : World} {S : Nat → Prop} {x : List ByteArray} {v : Value} (h : RV strsRep packO w S x v) : ∃ a c, v = .slice a x.length c ∧ StrsR w S a c x := by
  obtain ⟨cs, rfl, a, c, rfl, hs⟩ := h; exact ⟨a, c, rfl, hs⟩
theorem strs_shut {w : World} {S : Nat → Prop} {x : List ByteArray} {a : Option Addr} {c : Nat} (h : StrsR w S a c x) : RV strsRep packO w S x (.slice a x.length c) := ⟨_, rfl, a, c, rfl, h⟩
theorem strs_shutF {w : World} {x : List ByteArray} {a : Option Addr} {c : Nat} {fp : List Nat} (h : StrsF w a c x fp) : FV strsRep packO w x (.slice a x.length c) fp := ⟨_, rfl, a, c, rfl, h⟩
def cntS (x : List ByteArray) : Nat := x.length
def mkSS (k : Nat) (x : List ByteArray) : List ByteArray := mkS k x.length
theorem uSzS (x : List ByteArray) (v : Value) (left : Int) (w : World) (h0 : 0 ≤ left) (h1 : left ≤ 1048576) (h : RV strsRep packO w any x v) :
    Calls Tryd.prog 30 #[v, .int .i64 left] w fun e w' => e = .returned (.int .i64 (szR (costS x) left)) ∧ Grow w w' := by
  obtain ⟨a, c, rfl, hs⟩ := strs_open h
  exact szStringS_ok a c x left w hs h0 h1
theorem uToS (x : List ByteArray) (v : Value) (w : World) (hc : costS x ≤ 1048576) (h : RV strsRep packO w any x v) :
    Calls Tryd.prog 32 #[v] w fun e w' => ∃ v' fp, e = .returned v' ∧ Grow w w' ∧ FV strsRep packO w' x v' fp ∧ Free w.heap.size w' fp := by
  obtain ⟨a, c, rfl, hs⟩ := strs_open h
  exact (toStringS_ok a c x w hs (by unfold costS at hc; omega)).mono fun e w' ⟨a', c', fp, he, hg, hF, hfr⟩ => ⟨_, fp, he, hg, strs_shutF hF, hfr⟩
theorem uEqS (x : List ByteArray) (v u : Value) (w : World) (h : RV strsRep packO w any x v) (h' : RV strsRep packO w any x u) :
    Calls Tryd.prog 34 #[v, u] w fun e w' => e = .returned (.bool true) ∧ Grow w w' := by
  obtain ⟨a, c, rfl, hs⟩ := strs_open h
  obtain ⟨a', c', rfl, hs'⟩ := strs_open h'
  exact (eqStringS_ok _ _ _ _ x x w hs hs').mono fun e w' ⟨he, hg⟩ => ⟨by rw [he]; simp [eqS], hg⟩
theorem uMarkS (x : List ByteArray) (v : Value) (fp : List Nat) (B k : Nat) (i : Int) (w : World) (hi : i = (k : Int)) (hF : FV strsRep packO w x v fp) (hfr : Free B w fp) (h1 : 0 < k) (h2 : k + cntS x ≤ 1000000000) :
    Calls Tryd.prog 35 #[v, .int .i64 i] w fun e w' => e = .returned (.int .i64 ((k + cntS x : Nat) : Int)) ∧ Ext (inl fp) w w' ∧ Free B w' fp ∧ FV strsRep packO w' (mkSS k x) v fp := by
  obtain ⟨cs, rfl, a, c, rfl, hs⟩ := hF
  exact (markStringS_i a c x fp B k i w hi hs hfr h1 h2).mono fun e w' ⟨he, hx, hf, hF⟩ => ⟨he, hx, hf, by
    have := strs_shutF hF
    unfold mkSS
    rw [mkS_len] at this
    exact this⟩
theorem node_open {w : World} {S : Nat → Prop} {x : Nd} {v : Value} (h : RV nodeRep packA w S x v) : NodeR w S x v := by
  obtain ⟨cs, rfl, na, nc, ka, kc, rfl, hs⟩ := h; exact ⟨na, nc, ka, kc, rfl, hs⟩
theorem node_shut {w : World} {S : Nat → Prop} {x : Nd} {v : Value} (h : NodeR w S x v) : RV nodeRep packA w S x v := by
  obtain ⟨na, nc, ka, kc, rfl, hs⟩ := h; exact ⟨_, rfl, na, nc, ka, kc, rfl, hs⟩
theorem uSzN (x : Nd) (v : Value) (left : Int) (w : World) (h0 : 0 ≤ left) (h1 : left ≤ 1048576) (h : RV nodeRep packA w any x v) :
    Calls Tryd.prog 21 #[v, .int .i64 left] w fun e w' => e = .returned (.int .i64 (szR (costN x) left)) ∧ Grow w w' := szNode_ok x v left w h0 h1 (node_open h)
theorem uToN (x : Nd) (v : Value) (w : World) (hc : costN x ≤ 1048576) (h : RV nodeRep packA w any x v) :
    Calls Tryd.prog 23 #[v] w fun e w' => ∃ v' fp, e = .returned v' ∧ Grow w w' ∧ FV nodeRep packA w' x v' fp ∧ Free w.heap.size w' fp :=
  (toNode_ok x v w hc (node_open h)).mono fun e w' ⟨v', fp, he, hg, ⟨na, nc, ka, kc, hv, hF⟩, hfr⟩ => ⟨v', fp, he, hg, ⟨_, hv, na, nc, ka, kc, rfl, hF⟩, hfr⟩
theorem uEqN (x : Nd) (v u : Value) (w : World) (h : RV nodeRep packA w any x v) (h' : RV nodeRep packA w any x u) :
    Calls Tryd.prog 26 #[v, u] w fun e w' => e = .returned (.bool true) ∧ Grow w w' :=
  (eqNode_ok x x v u w (node_open h) (node_open h')).mono fun e w' ⟨he, hg⟩ => ⟨by rw [he, eqN_refl], hg⟩
theorem uMarkN (x : Nd) (v : Value) (fp : List Nat) (B k : Nat) (i : Int) (w : World) (hi : i = (k : Int)) (hF : FV nodeRep packA w x v fp) (hfr : Free B w fp) (h1 : 0 < k) (h2 : k + cntT x ≤ 1000000000) :
    Calls Tryd.prog 27 #[v, .int .i64 i] w fun e w' => e = .returned (.int .i64 ((k + cntT x : Nat) : Int)) ∧ Ext (inl fp) w w' ∧ Free B w' fp ∧ FV nodeRep packA w' (mkT k x) v fp := by
  obtain ⟨cs, rfl, na, nc, ka, kc, rfl, hs⟩ := hF
  refine (markNode_ok x na nc ka kc fp B k i w hi hs hfr h1 h2).mono fun e w' ⟨he, hx, hf, hF⟩ => ⟨he, hx, hf, _, rfl, na, nc, ka, kc, ?_, hF⟩
  unfold nodeL mkT
  simp only [mkS_len, mkL_len]
theorem uHeldN (x : Nd) (v : Value) (k : Nat) (i : Int) (w : World) (hi : i = (k : Int)) (h : RV nodeRep packA w any (mkT k x) v) (h1 : 0 < k) (h2 : k + cntT x ≤ 1000000000) :
    Calls Tryd.prog 36 #[v, .int .i64 i] w fun e w' => e = .returned (.int .i64 ((k + cntT x : Nat) : Int)) ∧ Grow w w' := by
  obtain ⟨na, nc, ka, kc, rfl, hs⟩ := node_open h
  exact heldNode_ok x na nc ka kc k i w hi ⟨na, nc, ka, kc, rfl, hs⟩ h1 h2
end Go.Proofs.YtfjaobfaepjfnaaDoor
namespace Go.Proofs.YtfjaobfaepjfnaaDoor.Eng
open Go Go.RowKit
structure Lb where
  kind : Int
  num : Int
  text : ByteArray
  names : List ByteArray
  nb : Nat
  kids : List Lb
  kb : Nat
theorem Lb.ind' (P : Lb → Prop) (h : ∀ n : Lb, (∀ k ∈ n.kids, P k) → P n) : ∀ n, P n := by
  intro n
  refine Lb.rec (motive_1 := P) (motive_2 := fun l => ∀ k ∈ l, P k) ?_ ?_ ?_ n
  · intro kind num text names nb kids kb ih
    exact h _ ih
  · intro k hk; cases hk
  · intro k ks h1 h2 x hx
    rcases List.mem_cons.1 hx with rfl | hx
    · exact h1
    · exact h2 _ hx
mutual
def Lb.nd : Lb → Nd
  | ⟨kind, num, text, names, _, kids, _⟩ => ⟨kind, num, text, names, Lb.nds kids⟩
def Lb.nds : List Lb → List Nd
  | [] => []
  | k :: ks => Lb.nd k :: Lb.nds ks
end
theorem nds_map : ∀ (ks : List Lb), Lb.nds ks = ks.map Lb.nd
  | [] => by unfold Lb.nds; rfl
  | k :: ks => by unfold Lb.nds; rw [nds_map ks]; rfl
theorem nd_eq (n : Lb) : n.nd = ⟨n.kind, n.num, n.text, n.names, n.kids.map Lb.nd⟩ := by cases n; unfold Lb.nd; rw [nds_map]
mutual
def labL : Lb → List AV
  | ⟨kind, num, text, names, nb, kids, kb⟩ => [.int .i64 kind, .int .i64 num, .str text, .view (.fr nb) 1 (strsE names), .view (.fr kb) 5 (labsL kids)]
def labsL : List Lb → List (List AV)
  | [] => []
  | k :: ks => labL k :: labsL ks
end
def labA (n : Lb) : AV := .agg (labL n)
theorem labsL_map : ∀ (ks : List Lb), labsL ks = ks.map labL
  | [] => by unfold labsL; rfl
  | k :: ks => by unfold labsL; rw [labsL_map ks]; rfl
theorem labL_eq (n : Lb) : labL n = [.int .i64 n.kind, .int .i64 n.num, .str n.text, .view (.fr n.nb) 1 (strsE n.names), .view (.fr n.kb) 5 (n.kids.map labL)] := by
  cases n; unfold labL; rw [labsL_map]
theorem labL_len (n : Lb) : (labL n).length = 5 := by rw [labL_eq]; rfl
theorem labL_pur : ∀ (n : Lb), ∀ c ∈ labL n, Pur c := Lb.ind' _ (fun n ih c hc => by
  rw [labL_eq] at hc
  simp only [List.mem_cons, List.not_mem_nil, or_false] at hc
  rcases hc with rfl | rfl | rfl | rfl | rfl
  · exact pur_int
  · exact pur_int
  · exact pur_str
  · exact pur_view (by simp) (strsE_pur _)
  · refine pur_view (by simp) (fun e he c hc => ?_)
    rw [List.mem_map] at he
    obtain ⟨k, hk, rfl⟩ := he
    exact ih k hk c hc)
theorem lab_pur (n : Lb) : Pur (labA n) := pur_agg (labL_pur n)
theorem lab_clo (n : Lb) : Clo (labA n) := (lab_pur n).clo
theorem labsE_pur (ks : List Lb) : ∀ e ∈ ks.map labL, ∀ c ∈ e, Pur c := fun e he c hc => by
  rw [List.mem_map] at he
  obtain ⟨k, hk, rfl⟩ := he
  exact labL_pur k c hc
theorem labL_in {U : Nat → Bool} : ∀ (n : Lb), ∀ c ∈ labL n, AV.In U c := Lb.ind' _ (fun n ih c hc => by
  rw [labL_eq] at hc
  simp only [List.mem_cons, List.not_mem_nil, or_false] at hc
  rcases hc with rfl | rfl | rfl | rfl | rfl
  · exact in_int
  · exact in_int
  · exact in_str
  · exact in_view.2 (strsE_in _)
  · refine in_view.2 (fun e he c hc => ?_)
    rw [List.mem_map] at he
    obtain ⟨k, hk, rfl⟩ := he
    exact ih k hk c hc)
theorem lab_in {U : Nat → Bool} (n : Lb) : AV.In U (labA n) := in_agg.2 (labL_in n)
theorem labsE_in {U : Nat → Bool} (ks : List Lb) : ∀ e ∈ ks.map labL, ∀ c ∈ e, AV.In U c := fun e he c hc => by
  rw [List.mem_map] at he
  obtain ⟨k, hk, rfl⟩ := he
  exact labL_in k c hc
theorem labL_sub {id m : Nat} {c : AV} (n : Lb) : AV.subL id m c (labL n) = labL n := by rw [labL_eq]; simp [AV.subL, AV.sub]
theorem labsE_sub {id m : Nat} {c : AV} (ks : List Lb) : (ks.map labL).map (AV.subL id m c) = ks.map labL := by
  rw [List.map_map]; exact List.map_congr_left (fun k _ => labL_sub k)
def Lb.fp (n : Lb) : List Nat := atL (labL n)
theorem at_strsE : ∀ (xs : List ByteArray), atE (strsE xs) = []
  | [] => by unfold strsE; rw [List.map_nil, atE_nil]
  | x :: xs => by
    have := at_strsE xs
    unfold strsE at this ⊢
    rw [List.map_cons, atE_cons, this, atL_cons, at_str, atL_nil]; rfl
theorem atE_labs : ∀ (ks : List Lb), atE (ks.map labL) = ks.flatMap Lb.fp
  | [] => by rw [List.map_nil, atE_nil]; rfl
  | k :: ks => by rw [List.map_cons, atE_cons, atE_labs ks]; rfl
theorem fp_eq (n : Lb) : n.fp = frB (.fr n.nb) n.names.isEmpty ++ (frB (.fr n.kb) n.kids.isEmpty ++ n.kids.flatMap Lb.fp) := by
  have e1 : (strsE n.names).isEmpty = n.names.isEmpty := by unfold strsE; cases n.names <;> rfl
  have e2 : (n.kids.map labL).isEmpty = n.kids.isEmpty := by cases n.kids <;> rfl
  show atL (labL n) = _
  rw [labL_eq, atL_cons, atL_cons, atL_cons, atL_cons, atL_cons, atL_nil, at_int, at_int, at_str, at_view, at_view, at_strsE, atE_labs, e1, e2]
  simp
theorem at_lab (n : Lb) : atB (labA n) = n.fp := by unfold labA Lb.fp; rw [at_agg]
theorem labL_wk : ∀ (n : Lb), WkL (labL n) (nodeL n.nd) := Lb.ind' _ (fun n ih => by
  rw [labL_eq, nd_eq, nodeL_eq]
  dsimp only
  refine .cons (Wk.refl _) (.cons (Wk.refl _) (.cons (Wk.refl _) (.cons (Wk.loose (by simp)) (.cons (Wk.view (by simp) ?_) .nil))))
  have aux : ∀ ks : List Lb, (∀ k ∈ ks, WkL (labL k) (nodeL k.nd)) → WkE (ks.map labL) ((ks.map Lb.nd).map nodeL) := fun ks h => by
    induction ks with
    | nil => exact .nil
    | cons k ks ih2 => exact .cons (h k (by simp)) (ih2 (fun x hx => h x (by simp [hx])))
  exact aux _ (fun k hk => ih k hk))
section
variable {w : World} {ρ : Cx}
theorem strsF_of_rep {g : Nat} {xs : List ByteArray} {a : Option Addr} {c : Nat} (h : Rep w ρ (.view (.fr g) 1 (strsE xs)) (.slice a xs.length c)) : StrsF w a c xs (frB (.fr g) xs.isEmpty) := by
  obtain ⟨a', c', h1, _, h3, h4, h5, h6⟩ := rep_view.1 h
  rw [strsE_len] at *
  cases h1
  have hsz : ∀ x ∈ xs, x.size ≤ big := by
    rcases h6 with h6 | ⟨b, o, ha, hb, he⟩
    · unfold strsE at h6
      rw [List.map_eq_nil_iff.1 h6]
      exact fun x hx => by cases hx
    · intro x hx
      obtain ⟨i, hi, rfl⟩ := List.getElem_of_mem hx
      obtain ⟨u, q1, _, q3⟩ := (he.get h5 (i := i) (e := [.str xs[i]]) (by rw [strsE_get, List.getElem?_eq_getElem hi]; rfl)).get (i := 0) rfl
      exact (rep_str.1 q3).2
  refine ⟨h3, h4, hsz, ?_⟩
  by_cases hne : xs = []
  · subst hne; exact .inl ⟨rfl, rfl⟩
  · rcases h6 with h6 | ⟨b, o, ha, hb, he⟩
    · unfold strsE at h6
      exact absurd (List.map_eq_nil_iff.1 h6) hne
    · obtain ⟨_, rfl, _⟩ := hb
      refine .inr ⟨b, o, hne, ha, ?_, fun i hi => ?_⟩
      · cases xs with
        | nil => exact absurd rfl hne
        | cons x xs => rfl
      · obtain ⟨u, q1, _, q3⟩ := (he.get h5 (i := i) (e := [.str xs[i]]) (by rw [strsE_get, List.getElem?_eq_getElem hi]; rfl)).get (i := 0) rfl
        rw [(rep_str.1 q3).1] at q1
        simpa using q1
theorem kidsF_of_rep {b : Nat} : ∀ {ks : List Lb} {o : Nat}, (∀ k ∈ ks, ∀ (ρ : Cx) na nc ka kc, k.text.size ≤ big → Rep w ρ (.view (.fr k.nb) 1 (strsE k.names)) (.slice na k.names.length nc) → Rep w ρ (.view (.fr k.kb) 5 (k.kids.map labL)) (.slice ka k.kids.length kc) → NodeF w k.nd na nc ka kc k.fp) →
    RepE w ρ b o (ks.map labL) → KidsF w b o (ks.map Lb.nd) (ks.flatMap Lb.fp)
  | [], _, _, _ => by unfold KidsF; rfl
  | k :: ks, o, ih, h => by
    rw [List.map_cons] at h
    unfold RepE at h
    obtain ⟨h1, h2⟩ := h
    rw [labL_len] at h2
    rw [labL_eq] at h1
    obtain ⟨v0, p0, _, q0⟩ := h1.get (i := 0) rfl
    obtain ⟨v1, p1, _, q1⟩ := h1.get (i := 1) rfl
    obtain ⟨v2, p2, _, q2⟩ := h1.get (i := 2) rfl
    obtain ⟨v3, p3, _, q3⟩ := h1.get (i := 3) rfl
    obtain ⟨v4, p4, _, q4⟩ := h1.get (i := 4) rfl
    rw [rep_int] at q0 q1
    obtain ⟨q2, q2'⟩ := rep_str.1 q2
    obtain ⟨na, nc, r3, _⟩ := rep_view.1 q3
    obtain ⟨ka, kc, r4, _⟩ := rep_view.1 q4
    rw [strsE_len] at r3
    rw [List.length_map] at r4
    subst q0 q1 q2 r3 r4
    rw [List.map_cons, List.flatMap_cons]
    unfold KidsF
    have e := nd_eq k
    refine ⟨k.fp, ks.flatMap Lb.fp, rfl, ⟨na, nc, ka, kc, ?_, ?_, ?_, ?_, ?_, ih k (by simp) ρ na nc ka kc q2' q3 q4⟩, kidsF_of_rep (fun x hx => ih x (by simp [hx])) h2⟩
    · rw [e]; exact p0
    · rw [e]; exact p1
    · rw [e]; exact p2
    · rw [e]; exact p3
    · rw [e]; dsimp only; rw [List.length_map]; exact p4
theorem nodeF_of_rep : ∀ (n : Lb) (ρ : Cx) na nc ka kc, n.text.size ≤ big → Rep w ρ (.view (.fr n.nb) 1 (strsE n.names)) (.slice na n.names.length nc) → Rep w ρ (.view (.fr n.kb) 5 (n.kids.map labL)) (.slice ka n.kids.length kc) → NodeF w n.nd na nc ka kc n.fp :=
  Lb.ind' _ (fun n ih ρ na nc ka kc h0 h1 h2 => by
    have s1 := strsF_of_rep h1
    obtain ⟨a', c', g1, _, g3, g4, g5, g6⟩ := rep_view.1 h2
    rw [List.length_map] at *
    cases g1
    rw [nd_eq, fp_eq]
    refine NodeF.mk h0 s1 ⟨by rw [List.length_map]; exact g3, by rw [List.length_map]; exact g4, ?_⟩
    by_cases hne : n.kids = []
    · left
      rw [hne]
      exact ⟨rfl, rfl⟩
    · right
      rcases g6 with g6 | ⟨b, o, ha, hb, he⟩
      · exact absurd (List.map_eq_nil_iff.1 g6) hne
      · obtain ⟨_, rfl, _⟩ := hb
        refine ⟨n.kb, o, n.kids.flatMap Lb.fp, fun h => hne (List.map_eq_nil_iff.1 h), ha, ?_, kidsF_of_rep ih he⟩
        cases hk : n.kids with
        | nil => exact absurd hk hne
        | cons x xs => rfl)
theorem fv_of_rep {n : Lb} {v : Value} (h : Rep w ρ (labA n) v) : FV nodeRep packA w n.nd v n.fp := by
  unfold labA at h
  rw [labL_eq] at h
  obtain ⟨vs, rfl, _, h2⟩ := rep_agg.1 h
  obtain ⟨v0, p0, q0⟩ := h2.get (i := 0) rfl
  obtain ⟨v1, p1, q1⟩ := h2.get (i := 1) rfl
  obtain ⟨v2, p2, q2⟩ := h2.get (i := 2) rfl
  obtain ⟨v3, p3, q3⟩ := h2.get (i := 3) rfl
  obtain ⟨v4, p4, q4⟩ := h2.get (i := 4) rfl
  rw [rep_int] at q0 q1
  obtain ⟨q2, q2'⟩ := rep_str.1 q2
  obtain ⟨na, nc, r3, _⟩ := rep_view.1 q3
  obtain ⟨ka, kc, r4, _⟩ := rep_view.1 q4
  rw [strsE_len] at r3
  rw [List.length_map] at r4
  subst q0 q1 q2 r3 r4
  have hl := h2.length
  simp only [List.length_cons, List.length_nil] at hl
  refine ⟨vs, rfl, na, nc, ka, kc, ?_, nodeF_of_rep n ρ na nc ka kc q2' q3 q4⟩
  rw [nd_eq]
  unfold Go.Proofs.YtfjaobfaepjfnaaDoor.nodeL
  dsimp only
  rw [List.length_map]
  apply List.ext_getElem?
  intro i
  rcases i with _ | _ | _ | _ | _ | i
  · exact p0
  · exact p1
  · exact p2
  · exact p3
  · exact p4
  · rw [List.getElem?_eq_none (by omega), List.getElem?_eq_none (by simp)]
end
end Go.Proofs.YtfjaobfaepjfnaaDoor.Eng
-- EV: fresh
namespace Go.Proofs.YtfjaobfaepjfnaaDoor.Eng
open Go Go.RowKit
attribute [local simp] big size_mk ASt.pay Option.map_map Function.comp_def awant aop acall ado aev ofVal ofVal0 ASt.put ASt.add ASt.turn ASt.kill abox aalloc astore aload aloadD astoreD idOf ASt.at cellsTo afieldAddr afield aindexAddr aindex alen abin aint acmp astr aun apick aextract anil aslice abound abuild afill abuildSlice asCells aps avCells over upd aappend asrc amax amin aconv mkSt slots rowsOf_cons rowsOf_nil usedOf_cons usedOf_nil ZK.av List.replicate ASt.back ASt.addL ASt.killL nodeA nodeT nodeTL_eq nodeL_eq strsE_get strsE_len intsE_get intsE_len strsE_at intsE_at tab2 tab3 tab4 tab5 tab6 tab7 tab8 tab9 tab10 tab11 tab12 tab13 tab14 tab15 tab16 tab17 tab18 tab19 tab21 tab22 tab23 tab24 tab25 tab26 tab28 tab29 tab30 tab31 tab42 tab43 tab44 tab46 tab63 tab64 tab67 tab68 tab75 tab98 tab100 tab101 tab105 tab106 tab107 tab122 tab123 tab125 tab128 tab138 tab144 tab151 tab152 tab157 tab158 tab160 tab161 tab162
def labsR (ks : List Lb) : Row := ⟨false, 26, 5, ks.map labL⟩
def rLab (n : Nd) (r : AV) : Prop := ∃ l : Lb, l.nd = n ∧ l.fp.Nodup ∧ r = labA l
def rLabX (n : Nd) (r : AV) : Prop := ∃ l : Lb, l.nd = n ∧ l.fp.Nodup ∧ r = .agg [.int .i64 l.kind, .int .i64 l.num, .str l.text, .view (.fr l.nb) 1 (strsE l.names), .view (.fr l.kb) 5 (l.kids.map labL)]
theorem rLab_X {n : Nd} {r : AV} (h : rLab n r) : rLabX n r := by
  obtain ⟨l, h1, h2, rfl⟩ := h
  exact ⟨l, h1, h2, by unfold labA; rw [labL_eq]⟩
def partF (ls : List Lb) (m : Nat) : List (List AV) := ls.map labL ++ List.replicate (m - ls.length) zeroN
theorem partF_len (ls : List Lb) (m : Nat) (h : ls.length ≤ m) : (partF ls m).length = m := by unfold partF; simp; omega
theorem partF_get (ls : List Lb) (m : Nat) (h : ls.length < m) : (partF ls m)[ls.length]? = some [.int .i64 0, .int .i64 0, .str ⟨#[]⟩, .view .tight 0 [], .view .tight 0 []] := by
  unfold partF
  rw [List.getElem?_append_right (by simp), List.length_map, Nat.sub_self, List.getElem?_replicate, if_pos (by omega)]
  rfl
theorem partF_set (ls : List Lb) (m : Nat) (h : ls.length < m) (l : Lb) : (partF ls m).set ls.length (labL l) = partF (ls ++ [l]) m := by
  unfold partF
  rw [List.set_append_right _ _ (by simp), List.length_map, Nat.sub_self]
  have : m - ls.length = (m - (ls ++ [l]).length) + 1 := by rw [List.length_append, List.length_singleton]; omega
  rw [this, List.replicate_succ, List.set_cons_zero, List.map_append, List.append_assoc]
  rfl
theorem partF_in {U : Nat → Bool} (ls : List Lb) (m : Nat) : ∀ e ∈ partF ls m, ∀ c ∈ e, AV.In U c := by
  intro e he c hc
  unfold partF at he
  rcases List.mem_append.1 he with he | he
  · exact labsE_in ls e he c hc
  · rw [List.eq_of_mem_replicate he] at hc
    simp only [zeroN, List.mem_cons, List.not_mem_nil, or_false] at hc
    rcases hc with rfl | rfl | rfl | rfl | rfl
    · exact in_int
    · exact in_int
    · exact in_str
    · exact in_vnil
    · exact in_vnil
theorem at_zeroN : atL zeroN = [] := by
  unfold zeroN
  simp only [atL_cons, atL_nil, at_int, at_str, at_view, atE_nil, frB_tight, List.append_nil]
theorem at_partF (ls : List Lb) (m : Nat) : atE (partF ls m) = ls.flatMap Lb.fp := by
  unfold partF
  rw [atE_app, atE_labs]
  have : ∀ k, atE (List.replicate k zeroN) = [] := fun k => by
    induction k with
    | zero => rw [List.replicate_zero, atE_nil]
    | succ k ih => rw [List.replicate_succ, atE_cons, ih, at_zeroN]; rfl
  rw [this, List.append_nil]
theorem fp_nodup {l : Lb} (h : (l.kids.flatMap Lb.fp).Nodup) (f1 : ∀ b ∈ l.kids.flatMap Lb.fp, l.nb ≠ b) (f2 : ∀ b ∈ l.kids.flatMap Lb.fp, l.kb ≠ b) (f3 : l.names ≠ [] → l.kids ≠ [] → l.kb ≠ l.nb) : l.fp.Nodup := by
  rw [fp_eq, frB_fr, frB_fr]
  refine List.nodup_append.2 ⟨by split <;> simp, List.nodup_append.2 ⟨by split <;> simp, h, fun a ha b hb e => ?_⟩, fun a ha b hb e => ?_⟩
  · split at ha <;> simp at ha
    exact f2 b hb (by rw [← ha, e])
  · rcases List.mem_append.1 hb with hb | hb
    · split at ha <;> split at hb <;> simp at ha hb
      rename_i q1 q2
      exact f3 (fun h => by rw [h] at q1; simp at q1) (fun h => by rw [h] at q2; simp at q2) (by rw [← ha, ← hb, e])
    · split at ha <;> simp at ha
      exact f1 b hb (by rw [← ha, e])
theorem fp_ge {l : Lb} {B : Nat} (h : ∀ b ∈ l.kids.flatMap Lb.fp, B ≤ b) (g1 : B ≤ l.nb) (g2 : B ≤ l.kb) : ∀ b ∈ l.fp, B ≤ b := by
  intro b hb
  rw [fp_eq, frB_fr, frB_fr] at hb
  rcases List.mem_append.1 hb with hb | hb
  · split at hb <;> simp at hb
    rw [hb]; exact g1
  · rcases List.mem_append.1 hb with hb | hb
    · split at hb <;> simp at hb
      rw [hb]; exact g2
    · exact h b hb
theorem lab_ex : ∀ (n : Nd) (N : Nat), ∃ (l : Lb) (M : Nat), l.nd = n ∧ l.fp.Nodup ∧ N ≤ M ∧ ∀ b ∈ l.fp, N ≤ b ∧ b < M := Nd.ind' _ (fun n ih N => by
  have aux : ∀ (ks : List Nd), (∀ k ∈ ks, ∀ N, ∃ (l : Lb) (M : Nat), l.nd = k ∧ l.fp.Nodup ∧ N ≤ M ∧ ∀ b ∈ l.fp, N ≤ b ∧ b < M) → ∀ N, ∃ (ls : List Lb) (M : Nat), ls.map Lb.nd = ks ∧ (ls.flatMap Lb.fp).Nodup ∧ N ≤ M ∧ ∀ b ∈ ls.flatMap Lb.fp, N ≤ b ∧ b < M := by
    intro ks
    induction ks with
    | nil => exact fun _ N => ⟨[], N, rfl, by simp, Nat.le_refl _, by simp⟩
    | cons k ks ih2 =>
      intro h N
      obtain ⟨l, M, h1, h2, h3, h4⟩ := h k (by simp) N
      obtain ⟨ls, M', g1, g2, g3, g4⟩ := ih2 (fun x hx => h x (by simp [hx])) M
      refine ⟨l :: ls, M', by rw [List.map_cons, h1, g1], ?_, by omega, ?_⟩
      · rw [List.flatMap_cons]
        exact List.nodup_append.2 ⟨h2, g2, fun a ha b hb e => by have := (h4 a ha).2; have := (g4 b hb).1; omega⟩
      · intro b hb
        rw [List.flatMap_cons] at hb
        rcases List.mem_append.1 hb with hb | hb
        · have := h4 b hb; omega
        · have := g4 b hb; omega
  obtain ⟨ls, M, h1, h2, h3, h4⟩ := aux n.kids ih (N + 2)
  refine ⟨⟨n.kind, n.num, n.text, n.names, N, ls, N + 1⟩, M, by rw [nd_eq]; dsimp only; rw [h1]; cases n; rfl, ?_, by omega, ?_⟩
  · rw [fp_eq, frB_fr, frB_fr]
    dsimp only
    refine List.nodup_append.2 ⟨by split <;> simp, List.nodup_append.2 ⟨by split <;> simp, h2, fun a ha b hb e => ?_⟩, fun a ha b hb e => ?_⟩
    · have := (h4 b hb).1
      split at ha <;> simp at ha
      omega
    · rcases List.mem_append.1 hb with hb | hb
      · split at ha <;> split at hb <;> simp at ha hb
        omega
      · have := (h4 b hb).1
        split at ha <;> simp at ha
        omega
  · intro b hb
    rw [fp_eq, frB_fr, frB_fr] at hb
    dsimp only at hb
    rcases List.mem_append.1 hb with hb | hb
    · split at hb <;> simp at hb
      omega
    · rcases List.mem_append.1 hb with hb | hb
      · split at hb <;> simp at hb
        omega
      · have := h4 b hb; omega)
theorem rLabX_ex (n : Nd) {A : Nat → Prop} {N : Nat} (hN : ∀ b, A b → b < N) : ∃ r, (rLabX n r ∧ ∀ b ∈ atB r, ¬ A b) ∧ NoId r := by
  obtain ⟨l, M, h1, h2, _, h4⟩ := lab_ex n N
  have hr : rLab n (labA l) := ⟨l, h1, h2, rfl⟩
  exact ⟨labA l, ⟨rLab_X hr, fun b hb ha => by rw [at_lab] at hb; have := (h4 b hb).1; have := hN b ha; omega⟩, lab_in l⟩
theorem nodup_snoc {ls : List Lb} {l : Lb} (h : (ls.flatMap Lb.fp).Nodup) (k : l.fp.Nodup) (ha : ∀ b ∈ l.fp, ¬ b ∈ ls.flatMap Lb.fp) : ((ls ++ [l]).flatMap Lb.fp).Nodup := by
  rw [List.flatMap_append, List.flatMap_cons, List.flatMap_nil, List.append_nil]
  exact List.nodup_append.2 ⟨h, k, fun a h1 b h2 e => ha b h2 (e ▸ h1)⟩
theorem implCopyF_step (n : Nd) (hs : Sml n) (ih : ∀ k ∈ n.kids, ACF Tryd.prog 60 [nodeA k] 0 (rLabX k)) : ACM Tryd.prog 60 [nodeA n] 0 (fun r l => ∃ ks : List Lb, ks.map Lb.nd = n.kids ∧ (ks.flatMap Lb.fp).Nodup ∧ r = nodeRR n 20 34 ∧ l = [(20, namesR n.names), (34, labsR ks)]) := by
  have hs1 := hs.names
  have hs2 := hs.kids
  unfold nodeA at ih ⊢
  rw [nodeL_eq]
  refine ACM.of tab_ok mixed_ok Tryd.func60 (by rfl) (by kernel_rfl) ?_; rintro ⟨P, T, hT, hm, w0, S0, rd0, k0⟩ hP hTT hN; dsimp only at hP hTT hN; subst hP hTT; dsimp only; unfold initStG; rw [Tryd.ntmps60]
  refine AW.seq ?_
  (refine AW.regionK [] (fun K hK => ?_); (repeat (refine arun_ks 4 rfl (fun C hC => ?_); (repeat ((conv => whnf); simp)); refine hC _ ?_; clear hC C; simp only [List.drop_succ_cons, List.drop_zero, List.drop_nil])); refine arun_nil ?_; refine hK _ ?_; clear hK K; simp only [thenA_normal, inBlockA_normal, endQ_normal, endR_normal])
  refine AW.seq ?_
  (refine AW.regionK [] (fun K hK => ?_); (repeat (refine arun_ks 4 rfl (fun C hC => ?_); (repeat ((conv => whnf); simp)); refine hC _ ?_; clear hC C; simp only [List.drop_succ_cons, List.drop_zero, List.drop_nil])); refine arun_nil ?_; refine hK _ ?_; clear hK K; simp only [thenA_normal, inBlockA_normal, endQ_normal, endR_normal])
  refine AW.seq ?_
  refine AW.cutN (fun (_ : Unit) => mkSt (slots 0 52 [(1, .ptr true 5 1 1 0 0), (2, .ptr true 5 1 2 0 0), (3, .ptr true 5 1 3 0 0)]) [(1, ⟨true, 26, 5, [[.int .i64 n.kind, .int .i64 n.num, .str n.text, .view .loose 1 (strsE n.names), .view .loose 5 (n.kids.map nodeL)]]⟩), (2, ⟨true, 26, 5, [zeroN]⟩), (3, ⟨true, 26, 5, [[.int .i64 n.kind, .int .i64 n.num, .str n.text, .own 20 n.names.length, .view .tight 0 []]]⟩), (20, namesR n.names)] [1, 2, 3, 20] (rd0.map fun _ => 0)) (fun _ => True) ?_ ?_
  · by_cases hn0 : 0 < n.names.length
    · (repeat (first | with_reducible refine AW.seq ?_ | ((first | refine arun_kn 4 rfl (fun C hC => ?_) | refine arunD_kn 4 rfl (fun C hC => ?_)); (repeat ((conv => whnf); simp [hn0])); refine hC _ ?_; clear hC C; simp only [List.drop, Nat.reduceAdd]) | ((first | refine arun_kn 1 rfl (fun C hC => ?_) | refine arunD_kn 1 rfl (fun C hC => ?_)); (repeat ((conv => whnf); simp [hn0])); refine hC _ ?_; clear hC C; simp only [List.drop, Nat.reduceAdd]) | (refine arun_skip ?_ ?_; (focus (simp [awant, hn0]; done))) | (refine AW.regionK [] (fun K hK => ?_)) | (refine AW.regionDK [] (pcs [] []) (by kernel_rfl) (by kernel_rfl) (fun K hK => ?_)) | (refine AW.condT ?_ ?_; (focus (simp [aev, hn0]; done))) | (refine AW.condF ?_ ?_; (focus (simp [aev, hn0]; done))) | with_reducible refine AW.block ?_ | ((first | ((first | refine arun_nil ?_ | refine arunD_nil ?_); refine hK _ ?_; clear hK K) | refine AW.skip ?_ | refine AW.exit ?_ | refine AW.ret ?_); simp only [thenA_exit, inBlockA_exit, if_true, if_false, Nat.reduceEqDiff, thenA_normal, inBlockA_normal, reduceIte, thenA_ret, inBlockA_ret, endQ_ret, endR_ret, endG_ret, endQ_normal, endR_normal, endG_normal, endF_ret, endF_normal])))
      refine arun_make 20 rfl (by simp [awant]) rfl tab23 tab9 (by decide) rfl (by dsimp only; omega) (by unfold maxLen; omega) (by simp [upd]) ?_
      (repeat (first | with_reducible refine AW.seq ?_ | ((first | refine arun_kn 4 rfl (fun C hC => ?_) | refine arunD_kn 4 rfl (fun C hC => ?_)); (repeat ((conv => whnf); simp [hn0])); refine hC _ ?_; clear hC C; simp only [List.drop, Nat.reduceAdd]) | ((first | refine arun_kn 1 rfl (fun C hC => ?_) | refine arunD_kn 1 rfl (fun C hC => ?_)); (repeat ((conv => whnf); simp [hn0])); refine hC _ ?_; clear hC C; simp only [List.drop, Nat.reduceAdd]) | (refine arun_skip ?_ ?_; (focus (simp [awant, hn0]; done))) | (refine AW.regionK [] (fun K hK => ?_)) | (refine AW.regionDK [] (pcs [] []) (by kernel_rfl) (by kernel_rfl) (fun K hK => ?_)) | (refine AW.condT ?_ ?_; (focus (simp [aev, hn0]; done))) | (refine AW.condF ?_ ?_; (focus (simp [aev, hn0]; done))) | with_reducible refine AW.block ?_ | ((first | ((first | refine arun_nil ?_ | refine arunD_nil ?_); refine hK _ ?_; clear hK K) | refine AW.skip ?_ | refine AW.exit ?_ | refine AW.ret ?_); simp only [thenA_exit, inBlockA_exit, if_true, if_false, Nat.reduceEqDiff, thenA_normal, inBlockA_normal, reduceIte, thenA_ret, inBlockA_ret, endQ_ret, endR_ret, endG_ret, endQ_normal, endR_normal, endG_normal, endF_ret, endF_normal])))
      refine arun_copyAll (r := ⟨false, 9, 1, List.replicate n.names.length [AV.str ⟨#[]⟩]⟩) rfl (by simp [awant]) rfl (by simp [upd]) rfl rfl List.length_replicate rfl (strsE_len _) tab23 tab9 rfl ?_
      (repeat (first | with_reducible refine AW.seq ?_ | ((first | refine arun_kn 4 rfl (fun C hC => ?_) | refine arunD_kn 4 rfl (fun C hC => ?_)); (repeat ((conv => whnf); simp [hn0])); refine hC _ ?_; clear hC C; simp only [List.drop, Nat.reduceAdd]) | ((first | refine arun_kn 1 rfl (fun C hC => ?_) | refine arunD_kn 1 rfl (fun C hC => ?_)); (repeat ((conv => whnf); simp [hn0])); refine hC _ ?_; clear hC C; simp only [List.drop, Nat.reduceAdd]) | (refine arun_skip ?_ ?_; (focus (simp [awant, hn0]; done))) | (refine AW.regionK [] (fun K hK => ?_)) | (refine AW.regionDK [] (pcs [] []) (by kernel_rfl) (by kernel_rfl) (fun K hK => ?_)) | (refine AW.condT ?_ ?_; (focus (simp [aev, hn0]; done))) | (refine AW.condF ?_ ?_; (focus (simp [aev, hn0]; done))) | with_reducible refine AW.block ?_ | ((first | ((first | refine arun_nil ?_ | refine arunD_nil ?_); refine hK _ ?_; clear hK K) | refine AW.skip ?_ | refine AW.exit ?_ | refine AW.ret ?_); simp only [thenA_exit, inBlockA_exit, if_true, if_false, Nat.reduceEqDiff, thenA_normal, inBlockA_normal, reduceIte, thenA_ret, inBlockA_ret, endQ_ret, endR_ret, endG_ret, endQ_normal, endR_normal, endG_normal, endF_ret, endF_normal])))
      exact ⟨(), trivial, (less_of (by simp [lessL, mkSt, slots, namesR, zeroN]) (by simp [upd, mkSt, rowsOf_cons, namesR, zeroN]) (by simp [upd, mkSt, usedOf_cons, namesR, zeroN]) (by first | exact rd_less (by omega) | simp [mkSt, namesR, zeroN]) (by simp [slots, in_any, in_int, in_bool, in_str, in_ptr, in_own, in_agg, in_vnil, in_rdr, usedOf_cons, usedOf_nil, strs_in, ints_in, nodes_in, in_tup, namesR, zeroN]) (by simp only [List.forall_mem_cons, List.not_mem_nil, false_implies, implies_true, and_true, true_and, namesR, zeroN]; (repeat (first | with_reducible exact trivial | with_reducible refine And.intro ?_ ?_ | with_reducible exact in_int | with_reducible exact in_str | with_reducible exact in_bool | with_reducible exact strs_in _ | with_reducible exact nodes_in _ | with_reducible exact items_in _ | with_reducible exact in_vnil | with_reducible exact in_any | exact hin _ | with_reducible refine take_in ?_ | with_reducible exact strsE_in _ | with_reducible exact nodesE_in _ | with_reducible exact nodeL_in _ | with_reducible exact itemsE_in _ | with_reducible exact itemL_in _ | with_reducible refine app_in ?_ ?_ | with_reducible refine sing_in ?_ | (focus (simp [in_any, in_int, in_bool, in_str, in_ptr, in_own, in_agg, in_vnil, in_rdr, usedOf_cons, usedOf_nil, strs_in, ints_in, nodes_in, namesR, zeroN]; done)))); done))⟩
    · have hl0 : n.names.length = 0 := by omega
      have he0 : n.names = [] := List.length_eq_zero_iff.1 hl0
      refine AW.adoptB 3 3 20 9 1 ⟨_, tab9, rfl⟩ (by simp [upd]; rfl) rfl rfl (by simp [upd]) ?_
      simp only [ASt.adoptB]
      (repeat (first | with_reducible refine AW.seq ?_ | ((first | refine arun_kn 4 rfl (fun C hC => ?_) | refine arunD_kn 4 rfl (fun C hC => ?_)); (repeat ((conv => whnf); simp [hl0])); refine hC _ ?_; clear hC C; simp only [List.drop, Nat.reduceAdd]) | ((first | refine arun_kn 1 rfl (fun C hC => ?_) | refine arunD_kn 1 rfl (fun C hC => ?_)); (repeat ((conv => whnf); simp [hl0])); refine hC _ ?_; clear hC C; simp only [List.drop, Nat.reduceAdd]) | (refine arun_skip ?_ ?_; (focus (simp [awant, hl0]; done))) | (refine AW.regionK [] (fun K hK => ?_)) | (refine AW.regionDK [] (pcs [] []) (by kernel_rfl) (by kernel_rfl) (fun K hK => ?_)) | (refine AW.condT ?_ ?_; (focus (simp [aev, hl0]; done))) | (refine AW.condF ?_ ?_; (focus (simp [aev, hl0]; done))) | with_reducible refine AW.block ?_ | ((first | ((first | refine arun_nil ?_ | refine arunD_nil ?_); refine hK _ ?_; clear hK K) | refine AW.skip ?_ | refine AW.exit ?_ | refine AW.ret ?_); simp only [thenA_exit, inBlockA_exit, if_true, if_false, Nat.reduceEqDiff, thenA_normal, inBlockA_normal, reduceIte, thenA_ret, inBlockA_ret, endQ_ret, endR_ret, endG_ret, endQ_normal, endR_normal, endG_normal, endF_ret, endF_normal])))
      exact ⟨(), trivial, (less_of (by simp [lessL, mkSt, slots, namesR, zeroN, he0, strsE]) (by simp [upd, mkSt, rowsOf_cons, namesR, zeroN, he0, strsE]) (by simp [upd, mkSt, usedOf_cons, namesR, zeroN, he0, strsE]) (by first | exact rd_less (by omega) | simp [mkSt, namesR, zeroN, he0, strsE]) (by simp [slots, in_any, in_int, in_bool, in_str, in_ptr, in_own, in_agg, in_vnil, in_rdr, usedOf_cons, usedOf_nil, strs_in, ints_in, nodes_in, in_tup, namesR, zeroN, he0, strsE]) (by simp only [List.forall_mem_cons, List.not_mem_nil, false_implies, implies_true, and_true, true_and, namesR, zeroN, he0, strsE]; (repeat (first | with_reducible exact trivial | with_reducible refine And.intro ?_ ?_ | with_reducible exact in_int | with_reducible exact in_str | with_reducible exact in_bool | with_reducible exact strs_in _ | with_reducible exact nodes_in _ | with_reducible exact items_in _ | with_reducible exact in_vnil | with_reducible exact in_any | exact hin _ | with_reducible refine take_in ?_ | with_reducible exact strsE_in _ | with_reducible exact nodesE_in _ | with_reducible exact nodeL_in _ | with_reducible exact itemsE_in _ | with_reducible exact itemL_in _ | with_reducible refine app_in ?_ ?_ | with_reducible refine sing_in ?_ | (focus (simp [in_any, in_int, in_bool, in_str, in_ptr, in_own, in_agg, in_vnil, in_rdr, usedOf_cons, usedOf_nil, strs_in, ints_in, nodes_in, namesR, zeroN, he0, strsE]; done)))); done))⟩
  rintro ⟨⟩ s' - hls
  refine AW.less _ hls ?_
  clear hls s'
  refine AW.seq ?_
  refine AW.cutN (fun (ks : List Lb) => mkSt (slots 0 52 [(2, .ptr true 5 1 2 0 0), (3, .ptr true 5 1 3 0 0)]) [(2, ⟨true, 26, 5, [zeroN]⟩), (3, ⟨true, 26, 5, [[.int .i64 n.kind, .int .i64 n.num, .str n.text, .own 20 n.names.length, .own 34 n.kids.length]]⟩), (20, namesR n.names), (34, labsR ks)] [2, 3, 20, 34] (rd0.map fun _ => 0)) (fun ks => ks.map Lb.nd = n.kids ∧ (ks.flatMap Lb.fp).Nodup ∧ ∀ b ∈ ks.flatMap Lb.fp, w0.wd.heap.size ≤ b) ?_ ?_
  · by_cases hn0 : 0 < n.kids.length
    · (repeat (first | with_reducible refine AW.seq ?_ | ((first | refine arun_kn 4 rfl (fun C hC => ?_) | refine arunD_kn 4 rfl (fun C hC => ?_)); (repeat ((conv => whnf); simp [hn0])); refine hC _ ?_; clear hC C; simp only [List.drop, Nat.reduceAdd]) | ((first | refine arun_kn 1 rfl (fun C hC => ?_) | refine arunD_kn 1 rfl (fun C hC => ?_)); (repeat ((conv => whnf); simp [hn0])); refine hC _ ?_; clear hC C; simp only [List.drop, Nat.reduceAdd]) | (refine arun_skip ?_ ?_; (focus (simp [awant, hn0]; done))) | (refine AW.regionK [] (fun K hK => ?_)) | (refine AW.regionDK [] (pcs [] []) (by kernel_rfl) (by kernel_rfl) (fun K hK => ?_)) | (refine AW.condT ?_ ?_; (focus (simp [aev, hn0]; done))) | (refine AW.condF ?_ ?_; (focus (simp [aev, hn0]; done))) | with_reducible refine AW.block ?_ | ((first | ((first | refine arun_nil ?_ | refine arunD_nil ?_); refine hK _ ?_; clear hK K) | refine AW.skip ?_ | refine AW.exit ?_ | refine AW.ret ?_); simp only [thenA_exit, inBlockA_exit, if_true, if_false, Nat.reduceEqDiff, thenA_normal, inBlockA_normal, reduceIte, thenA_ret, inBlockA_ret, endQ_ret, endR_ret, endG_ret, endQ_normal, endR_normal, endG_normal, endF_ret, endF_normal])))
      refine arun_make 34 rfl (by simp [awant]) rfl tab24 tab26 (by decide) rfl (by dsimp only; omega) (by unfold maxLen; omega) (by simp [upd]) ?_
      (repeat (first | with_reducible refine AW.seq ?_ | ((first | refine arun_kn 4 rfl (fun C hC => ?_) | refine arunD_kn 4 rfl (fun C hC => ?_)); (repeat ((conv => whnf); simp [hn0])); refine hC _ ?_; clear hC C; simp only [List.drop, Nat.reduceAdd]) | ((first | refine arun_kn 1 rfl (fun C hC => ?_) | refine arunD_kn 1 rfl (fun C hC => ?_)); (repeat ((conv => whnf); simp [hn0])); refine hC _ ?_; clear hC C; simp only [List.drop, Nat.reduceAdd]) | (refine arun_skip ?_ ?_; (focus (simp [awant, hn0]; done))) | (refine AW.regionK [] (fun K hK => ?_)) | (refine AW.regionDK [] (pcs [] []) (by kernel_rfl) (by kernel_rfl) (fun K hK => ?_)) | (refine AW.condT ?_ ?_; (focus (simp [aev, hn0]; done))) | (refine AW.condF ?_ ?_; (focus (simp [aev, hn0]; done))) | with_reducible refine AW.block ?_ | ((first | ((first | refine arun_nil ?_ | refine arunD_nil ?_); refine hK _ ?_; clear hK K) | refine AW.skip ?_ | refine AW.exit ?_ | refine AW.ret ?_); simp only [thenA_exit, inBlockA_exit, if_true, if_false, Nat.reduceEqDiff, thenA_normal, inBlockA_normal, reduceIte, thenA_ret, inBlockA_ret, endQ_ret, endR_ret, endG_ret, endQ_normal, endR_normal, endG_normal, endF_ret, endF_normal])))
      refine AW.loopS (fun (ls : List Lb) => mkSt (slots 0 52 [(1, .ptr true 5 1 1 0 0), (2, .ptr true 5 1 2 0 0), (3, .ptr true 5 1 3 0 0), (37, .view .loose 5 (n.kids.map nodeL)), (38, .int .i64 n.kids.length), (39, .int .i64 ls.length)]) [(1, ⟨true, 26, 5, [[.int .i64 n.kind, .int .i64 n.num, .str n.text, .view .loose 1 (strsE n.names), .view .loose 5 (n.kids.map nodeL)]]⟩), (2, ⟨true, 26, 5, [zeroN]⟩), (3, ⟨true, 26, 5, [[.int .i64 n.kind, .int .i64 n.num, .str n.text, .own 20 n.names.length, .own 34 n.kids.length]]⟩), (20, namesR n.names), (34, ⟨false, 26, 5, partF ls n.kids.length⟩)] [1, 2, 3, 20, 34] (rd0.map fun _ => 0)) (fun ls => n.kids.length - ls.length) (fun ls => ls.map Lb.nd = n.kids.take ls.length ∧ ls.length ≤ n.kids.length ∧ (ls.flatMap Lb.fp).Nodup ∧ ∀ b ∈ ls.flatMap Lb.fp, w0.wd.heap.size ≤ b) [] ?_ ⟨rfl, Nat.zero_le _, List.nodup_nil, fun b hb => by cases hb⟩ ?_
      · have hin : ∀ U : Nat → Bool, ∀ e ∈ partF [] n.kids.length, ∀ c ∈ e, AV.In U c := fun U => partF_in _ _
        have e0 : partF [] n.kids.length = List.replicate n.kids.length zeroN := rfl
        rw [e0] at hin ⊢
        exact (less_of (by simp [lessL, mkSt, slots, namesR, zeroN]) (by simp [upd, mkSt, rowsOf_cons, namesR, zeroN]) (by simp [upd, mkSt, usedOf_cons, namesR, zeroN]) (by first | exact rd_less (by omega) | simp [mkSt, namesR, zeroN]) (by simp [slots, in_any, in_int, in_bool, in_str, in_ptr, in_own, in_agg, in_vnil, in_rdr, usedOf_cons, usedOf_nil, strs_in, ints_in, nodes_in, in_tup, namesR, zeroN]) (by simp only [List.forall_mem_cons, List.not_mem_nil, false_implies, implies_true, and_true, true_and, namesR, zeroN]; (repeat (first | with_reducible exact trivial | with_reducible refine And.intro ?_ ?_ | with_reducible exact in_int | with_reducible exact in_str | with_reducible exact in_bool | with_reducible exact strs_in _ | with_reducible exact nodes_in _ | with_reducible exact items_in _ | with_reducible exact in_vnil | with_reducible exact in_any | exact hin _ | with_reducible refine take_in ?_ | with_reducible exact strsE_in _ | with_reducible exact nodesE_in _ | with_reducible exact nodeL_in _ | with_reducible exact itemsE_in _ | with_reducible exact itemL_in _ | with_reducible refine app_in ?_ ?_ | with_reducible refine sing_in ?_ | (focus (simp [in_any, in_int, in_bool, in_str, in_ptr, in_own, in_agg, in_vnil, in_rdr, usedOf_cons, usedOf_nil, strs_in, ints_in, nodes_in, namesR, zeroN]; done)))); done))
      · rintro ls ⟨hnd, hi, hnp, hge⟩
        have hpl := partF_len ls n.kids.length hi
        by_cases hlt : ls.length < n.kids.length
        · have hw : IntKind.i64.wrap ((ls.length : Int) + 1) = ((ls.length + 1 : Nat) : Int) := by rw [i64_nat (by omega) (by omega)]; simp
          have hg := partF_get ls n.kids.length hlt
          have hgd : ∀ h, (partF ls n.kids.length)[ls.length]'h = [.int .i64 0, .int .i64 0, .str ⟨#[]⟩, .view .tight 0 [], .view .tight 0 []] := fun h => by
            rw [List.getElem?_eq_getElem h] at hg; exact Option.some.inj hg
          have hik := ih n.kids[ls.length] (List.getElem_mem hlt)
          have hck := node_clo n.kids[ls.length]
          unfold nodeA at hck
          rw [nodeL_eq n.kids[ls.length]] at hik hck
          have x1 : (n.kids.map nodeL)[ls.length]? = some [.int .i64 n.kids[ls.length].kind, .int .i64 n.kids[ls.length].num, .str n.kids[ls.length].text, .view .loose 1 (strsE n.kids[ls.length].names), .view .loose 5 (n.kids[ls.length].kids.map nodeL)] := by rw [List.getElem?_map, List.getElem?_eq_getElem hlt, ← nodeL_eq]; rfl
          refine AW.noteR 34 (r := ⟨false, 26, 5, partF ls n.kids.length⟩) (by simp [mkSt, rowsOf_cons]) ?_
          have hN' := hN.note (atE (partF ls n.kids.length))
          refine AW.bound (fun N hNb => ?_)
          (repeat (first | with_reducible refine AW.seq ?_ | ((first | refine arun_kn 4 rfl (fun C hC => ?_) | refine arunD_kn 4 rfl (fun C hC => ?_)); (repeat ((conv => whnf); simp [hlt, hw, hpl, hg, hgd, x1])); refine hC _ ?_; clear hC C; simp only [List.drop, Nat.reduceAdd]) | ((first | refine arun_kn 1 rfl (fun C hC => ?_) | refine arunD_kn 1 rfl (fun C hC => ?_)); (repeat ((conv => whnf); simp [hlt, hw, hpl, hg, hgd, x1])); refine hC _ ?_; clear hC C; simp only [List.drop, Nat.reduceAdd]) | (refine arun_skip ?_ ?_; (focus (simp [awant, hlt, hw, hpl, hg, hgd, x1]; done))) | (refine AW.regionK [] (fun K hK => ?_)) | (refine AW.condT ?_ ?_; (focus (simp [aev, hlt, hw, hpl, hg, hgd, x1]; done))) | (refine AW.condF ?_ ?_; (focus (simp [aev, hlt, hw, hpl, hg, hgd, x1]; done))) | with_reducible refine AW.block ?_ | ((first | ((first | refine arun_nil ?_ | refine arunD_nil ?_); refine hK _ ?_; clear hK K) | refine AW.skip ?_ | refine AW.exit ?_ | refine AW.ret ?_); simp only [thenA_exit, inBlockA_exit, if_true, if_false, Nat.reduceEqDiff, thenA_normal, inBlockA_normal, reduceIte, thenA_ret, inBlockA_ret, endQ_ret, endR_ret, endG_ret, endQ_normal, endR_normal, endG_normal, endF_ret, endF_normal])))
          refine AW.regionDK [] (pcs [(4, 0, fun r => rLabX n.kids[ls.length] r ∧ ∀ b ∈ atB r, ¬ (w0.note (atE (partF ls n.kids.length))).A b)] []) (by kernel_rfl) (by kernel_rfl) (fun K hK => ?_)
          (repeat (first | with_reducible refine AW.seq ?_ | ((first | refine arun_kn 4 rfl (fun C hC => ?_) | refine arunD_kn 4 rfl (fun C hC => ?_)); (repeat ((conv => whnf); simp [hlt, hw, hpl, hg, hgd, x1])); refine hC _ ?_; clear hC C; simp only [List.drop, Nat.reduceAdd]) | ((first | refine arun_kn 1 rfl (fun C hC => ?_) | refine arunD_kn 1 rfl (fun C hC => ?_)); (repeat ((conv => whnf); simp [hlt, hw, hpl, hg, hgd, x1])); refine hC _ ?_; clear hC C; simp only [List.drop, Nat.reduceAdd]) | (refine arun_skip ?_ ?_; (focus (simp [awant, hlt, hw, hpl, hg, hgd, x1]; done))) | (refine arun_cF (0) (hik) ?_; (rintro _ ⟨l, hl, hlp, rfl⟩ hA)) | (refine arunD_cF (0) (hik) (by exact rLabX_ex _ hNb) ?_; (rintro _ ⟨l, hl, hlp, rfl⟩ hA); intro _) | (refine AW.regionK [] (fun K hK => ?_)) | (refine AW.regionDK [] (pcs [] []) (by kernel_rfl) (by kernel_rfl) (fun K hK => ?_)) | (refine AW.condT ?_ ?_; (focus (simp [aev, hlt, hw, hpl, hg, hgd, x1]; done))) | (refine AW.condF ?_ ?_; (focus (simp [aev, hlt, hw, hpl, hg, hgd, x1]; done))) | with_reducible refine AW.block ?_ | ((first | ((first | refine arun_nil ?_ | refine arunD_nil ?_); refine hK _ ?_; clear hK K) | refine AW.skip ?_ | refine AW.exit ?_ | refine AW.ret ?_); simp only [thenA_exit, inBlockA_exit, if_true, if_false, Nat.reduceEqDiff, thenA_normal, inBlockA_normal, reduceIte, thenA_ret, inBlockA_ret, endQ_ret, endR_ret, endG_ret, endQ_normal, endR_normal, endG_normal, endF_ret, endF_normal])))
          have hA' : ∀ b ∈ l.fp, ¬ (w0.A b ∨ b ∈ atE (partF ls n.kids.length)) := fun b hb => hA b (by rw [at_agg, ← labL_eq]; exact hb)
          have hset := partF_set ls n.kids.length hlt l
          rw [labL_eq] at hset
          have hin : ∀ U : Nat → Bool, ∀ e ∈ partF (ls ++ [l]) n.kids.length, ∀ c ∈ e, AV.In U c := fun U => partF_in _ _
          have hll : (ls ++ [l]).length = ls.length + 1 := by rw [List.length_append]; rfl
          refine ⟨ls ++ [l], by rw [hll]; omega, ⟨?_, by rw [hll]; omega, nodup_snoc hnp hlp (fun b hb hm => hA' b hb (.inr (by rw [at_partF]; exact hm))), fun b hb => ?_⟩, ?_⟩
          · rw [hll, List.take_add_one, List.getElem?_eq_getElem hlt, List.map_append, hnd, List.map_cons, List.map_nil, hl]; rfl
          · rw [List.flatMap_append, List.flatMap_cons, List.flatMap_nil, List.append_nil] at hb
            rcases List.mem_append.1 hb with hb | hb
            · exact hge b hb
            · rcases Nat.lt_or_ge b w0.wd.heap.size with h | h
              · exact absurd (.inl (hN.A b h)) (hA' b hb)
              · exact h
          · rw [hll]
            exact (less_of (by simp [lessL, mkSt, slots, namesR, zeroN, hset]) (by simp [upd, mkSt, rowsOf_cons, namesR, zeroN, hset]) (by simp [upd, mkSt, usedOf_cons, namesR, zeroN, hset]) (by first | exact rd_less (by omega) | simp [mkSt, namesR, zeroN, hset]) (by simp [slots, in_any, in_int, in_bool, in_str, in_ptr, in_own, in_agg, in_vnil, in_rdr, usedOf_cons, usedOf_nil, strs_in, ints_in, nodes_in, in_tup, namesR, zeroN, hset]) (by simp only [List.forall_mem_cons, List.not_mem_nil, false_implies, implies_true, and_true, true_and, namesR, zeroN, hset]; (repeat (first | with_reducible exact trivial | with_reducible refine And.intro ?_ ?_ | with_reducible exact in_int | with_reducible exact in_str | with_reducible exact in_bool | with_reducible exact strs_in _ | with_reducible exact nodes_in _ | with_reducible exact items_in _ | with_reducible exact in_vnil | with_reducible exact in_any | exact hin _ | with_reducible refine take_in ?_ | with_reducible exact strsE_in _ | with_reducible exact nodesE_in _ | with_reducible exact nodeL_in _ | with_reducible exact itemsE_in _ | with_reducible exact itemL_in _ | with_reducible refine app_in ?_ ?_ | with_reducible refine sing_in ?_ | (focus (simp [in_any, in_int, in_bool, in_str, in_ptr, in_own, in_agg, in_vnil, in_rdr, usedOf_cons, usedOf_nil, strs_in, ints_in, nodes_in, namesR, zeroN, hset]; done)))); done))
        · have hl : ls.length = n.kids.length := by omega
          have hpa : partF ls n.kids.length = ls.map labL := by unfold partF; rw [hl, Nat.sub_self]; simp
          rw [hpa, hl]
          (repeat (first | with_reducible refine AW.seq ?_ | ((first | refine arun_kn 4 rfl (fun C hC => ?_) | refine arunD_kn 4 rfl (fun C hC => ?_)); (repeat ((conv => whnf); simp)); refine hC _ ?_; clear hC C; simp only [List.drop, Nat.reduceAdd]) | ((first | refine arun_kn 1 rfl (fun C hC => ?_) | refine arunD_kn 1 rfl (fun C hC => ?_)); (repeat ((conv => whnf); simp)); refine hC _ ?_; clear hC C; simp only [List.drop, Nat.reduceAdd]) | (refine arun_skip ?_ ?_; (focus (simp [awant]; done))) | (refine AW.regionK [] (fun K hK => ?_)) | (refine AW.regionDK [] (pcs [] []) (by kernel_rfl) (by kernel_rfl) (fun K hK => ?_)) | (refine AW.condT ?_ ?_; (focus (simp [aev]; done))) | (refine AW.condF ?_ ?_; (focus (simp [aev]; done))) | with_reducible refine AW.block ?_ | ((first | ((first | refine arun_nil ?_ | refine arunD_nil ?_); refine hK _ ?_; clear hK K) | refine AW.skip ?_ | refine AW.exit ?_ | refine AW.ret ?_); simp only [thenA_exit, inBlockA_exit, if_true, if_false, Nat.reduceEqDiff, thenA_normal, inBlockA_normal, reduceIte, thenA_ret, inBlockA_ret, endQ_ret, endR_ret, endG_ret, endQ_normal, endR_normal, endG_normal, endF_ret, endF_normal])))
          refine ⟨ls, ⟨by rw [hnd, hl, List.take_of_length_le (Nat.le_refl _)], hnp, hge⟩, ?_⟩
          have hin : ∀ U : Nat → Bool, ∀ e ∈ ls.map labL, ∀ c ∈ e, AV.In U c := fun U => labsE_in _
          exact (less_of (by simp [lessL, mkSt, slots, namesR, labsR, zeroN]) (by simp [upd, mkSt, rowsOf_cons, namesR, labsR, zeroN]) (by simp [upd, mkSt, usedOf_cons, namesR, labsR, zeroN]) (by first | exact rd_less (by omega) | simp [mkSt, namesR, labsR, zeroN]) (by simp [slots, in_any, in_int, in_bool, in_str, in_ptr, in_own, in_agg, in_vnil, in_rdr, usedOf_cons, usedOf_nil, strs_in, ints_in, nodes_in, in_tup, namesR, labsR, zeroN]) (by simp only [List.forall_mem_cons, List.not_mem_nil, false_implies, implies_true, and_true, true_and, namesR, labsR, zeroN]; (repeat (first | with_reducible exact trivial | with_reducible refine And.intro ?_ ?_ | with_reducible exact in_int | with_reducible exact in_str | with_reducible exact in_bool | with_reducible exact strs_in _ | with_reducible exact nodes_in _ | with_reducible exact items_in _ | with_reducible exact in_vnil | with_reducible exact in_any | exact hin _ | with_reducible refine take_in ?_ | with_reducible exact strsE_in _ | with_reducible exact nodesE_in _ | with_reducible exact nodeL_in _ | with_reducible exact itemsE_in _ | with_reducible exact itemL_in _ | with_reducible refine app_in ?_ ?_ | with_reducible refine sing_in ?_ | (focus (simp [in_any, in_int, in_bool, in_str, in_ptr, in_own, in_agg, in_vnil, in_rdr, usedOf_cons, usedOf_nil, strs_in, ints_in, nodes_in, namesR, labsR, zeroN]; done)))); done))
    · have hl0 : n.kids.length = 0 := by omega
      have he0 : n.kids = [] := List.length_eq_zero_iff.1 hl0
      refine AW.adoptB 3 4 34 26 5 ⟨_, tab26, rfl⟩ (by simp [mkSt, rowsOf_cons]; rfl) rfl rfl (by simp [mkSt, usedOf_cons, usedOf_nil]) ?_
      simp only [ASt.adoptB]
      (repeat (first | with_reducible refine AW.seq ?_ | ((first | refine arun_kn 4 rfl (fun C hC => ?_) | refine arunD_kn 4 rfl (fun C hC => ?_)); (repeat ((conv => whnf); simp [hl0])); refine hC _ ?_; clear hC C; simp only [List.drop, Nat.reduceAdd]) | ((first | refine arun_kn 1 rfl (fun C hC => ?_) | refine arunD_kn 1 rfl (fun C hC => ?_)); (repeat ((conv => whnf); simp [hl0])); refine hC _ ?_; clear hC C; simp only [List.drop, Nat.reduceAdd]) | (refine arun_skip ?_ ?_; (focus (simp [awant, hl0]; done))) | (refine AW.regionK [] (fun K hK => ?_)) | (refine AW.regionDK [] (pcs [] []) (by kernel_rfl) (by kernel_rfl) (fun K hK => ?_)) | (refine AW.condT ?_ ?_; (focus (simp [aev, hl0]; done))) | (refine AW.condF ?_ ?_; (focus (simp [aev, hl0]; done))) | with_reducible refine AW.block ?_ | ((first | ((first | refine arun_nil ?_ | refine arunD_nil ?_); refine hK _ ?_; clear hK K) | refine AW.skip ?_ | refine AW.exit ?_ | refine AW.ret ?_); simp only [thenA_exit, inBlockA_exit, if_true, if_false, Nat.reduceEqDiff, thenA_normal, inBlockA_normal, reduceIte, thenA_ret, inBlockA_ret, endQ_ret, endR_ret, endG_ret, endQ_normal, endR_normal, endG_normal, endF_ret, endF_normal])))
      refine ⟨[], ⟨by rw [he0]; rfl, List.nodup_nil, fun b hb => by cases hb⟩, ?_⟩
      exact (less_of (by simp [lessL, mkSt, slots, namesR, labsR, zeroN, he0]) (by simp [upd, mkSt, rowsOf_cons, namesR, labsR, zeroN, he0]) (by simp [upd, mkSt, usedOf_cons, namesR, labsR, zeroN, he0]) (by first | exact rd_less (by omega) | simp [mkSt, namesR, labsR, zeroN, he0]) (by simp [slots, in_any, in_int, in_bool, in_str, in_ptr, in_own, in_agg, in_vnil, in_rdr, usedOf_cons, usedOf_nil, strs_in, ints_in, nodes_in, in_tup, namesR, labsR, zeroN, he0]) (by simp only [List.forall_mem_cons, List.not_mem_nil, false_implies, implies_true, and_true, true_and, namesR, labsR, zeroN, he0]; (repeat (first | with_reducible exact trivial | with_reducible refine And.intro ?_ ?_ | with_reducible exact in_int | with_reducible exact in_str | with_reducible exact in_bool | with_reducible exact strs_in _ | with_reducible exact nodes_in _ | with_reducible exact items_in _ | with_reducible exact in_vnil | with_reducible exact in_any | exact hin _ | with_reducible refine take_in ?_ | with_reducible exact strsE_in _ | with_reducible exact nodesE_in _ | with_reducible exact nodeL_in _ | with_reducible exact itemsE_in _ | with_reducible exact itemL_in _ | with_reducible refine app_in ?_ ?_ | with_reducible refine sing_in ?_ | (focus (simp [in_any, in_int, in_bool, in_str, in_ptr, in_own, in_agg, in_vnil, in_rdr, usedOf_cons, usedOf_nil, strs_in, ints_in, nodes_in, namesR, labsR, zeroN, he0]; done)))); done))
  rintro ks s' ⟨hk1, hk2, hk3⟩ hls
  refine AW.less _ hls ?_
  clear hls s'
  have hlk : ks.length = n.kids.length := by rw [← hk1, List.length_map]
  (repeat (first | with_reducible refine AW.seq ?_ | ((first | refine arun_kn 4 rfl (fun C hC => ?_) | refine arunD_kn 4 rfl (fun C hC => ?_)); (repeat ((conv => whnf); simp [zeroN])); refine hC _ ?_; clear hC C; simp only [List.drop, Nat.reduceAdd]) | ((first | refine arun_kn 1 rfl (fun C hC => ?_) | refine arunD_kn 1 rfl (fun C hC => ?_)); (repeat ((conv => whnf); simp [zeroN])); refine hC _ ?_; clear hC C; simp only [List.drop, Nat.reduceAdd]) | (refine arun_skip ?_ ?_; (focus (simp [awant, zeroN]; done))) | (refine AW.regionK [] (fun K hK => ?_)) | (refine AW.regionDK [] (pcs [] []) (by kernel_rfl) (by kernel_rfl) (fun K hK => ?_)) | (refine AW.condT ?_ ?_; (focus (simp [aev, zeroN]; done))) | (refine AW.condF ?_ ?_; (focus (simp [aev, zeroN]; done))) | with_reducible refine AW.block ?_ | ((first | ((first | refine arun_nil ?_ | refine arunD_nil ?_); refine hK _ ?_; clear hK K) | refine AW.skip ?_ | refine AW.exit ?_ | refine AW.ret ?_); simp only [thenA_exit, inBlockA_exit, if_true, if_false, Nat.reduceEqDiff, thenA_normal, inBlockA_normal, reduceIte, thenA_ret, inBlockA_ret, endQ_ret, endR_ret, endG_ret, endQ_normal, endR_normal, endG_normal, endF_ret, endF_normal])))
  refine ⟨nodeRR n 20 34, [(20, namesR n.names), (34, labsR ks)], by simp [ares, aresL, upd, rowsOf_cons, nodeRR], by simp [mkSt, rowsOf_cons, upd], ?_, ?_, ?_, ⟨ks, hk1, hk2, rfl, rfl⟩, ?_⟩
  · refine purR_agg ?_
    simp only [List.forall_mem_cons, List.not_mem_nil, false_implies, implies_true, and_true]
    exact ⟨pur_int.purR, pur_int.purR, pur_str.purR, purR_own, purR_own⟩
  · simp only [List.forall_mem_cons, List.not_mem_nil, false_implies, implies_true, and_true]
    exact ⟨fun e he c hc => (strsE_pur _ e he c hc).purR, fun e he c hc => (labsE_pur _ e he c hc).purR⟩
  · refine ⟨by simp [nodeRR, in_agg, in_int, in_str, in_own, rowsOf_cons], ?_⟩
    simp only [List.forall_mem_cons, List.not_mem_nil, false_implies, implies_true, and_true]
    exact ⟨fun e he c hc => strsE_in _ e he c hc, fun e he c hc => labsE_in _ e he c hc⟩
  · intro b hb
    rcases hb with hb | ⟨p, hp, hb⟩
    · simp [nodeRR, at_agg, atL_cons, atL_nil, at_int, at_str, at_own] at hb
    · simp only [List.mem_cons, List.not_mem_nil, or_false] at hp
      rcases hp with rfl | rfl
      · simp [namesR, at_strsE] at hb
      · refine hk3 b ?_
        rw [← atE_labs]; exact hb
theorem implCopyF_hold (n : Nd) (hs : Sml n) (ih : ∀ k ∈ n.kids, ACF Tryd.prog 60 [nodeA k] 0 (rLabX k)) : ACF Tryd.prog 60 [nodeA n] 0 (rLabX n) := by
  have hs1 := hs.names
  have hs2 := hs.kids
  unfold nodeA at ih ⊢
  rw [nodeL_eq]
  refine ACF.of tab_ok mixed_ok Tryd.func60 (by rfl) (by kernel_rfl) ?_; rintro ⟨P, T, hT, hm, w0, S0, rd0, k0⟩ hP hTT hN; dsimp only at hP hTT hN; subst hP hTT; dsimp only; unfold initSt; rw [Tryd.ntmps60]
  refine AW.seq ?_
  (refine AW.regionK [] (fun K hK => ?_); (repeat (refine arun_ks 4 rfl (fun C hC => ?_); (repeat ((conv => whnf); simp)); refine hC _ ?_; clear hC C; simp only [List.drop_succ_cons, List.drop_zero, List.drop_nil])); refine arun_nil ?_; refine hK _ ?_; clear hK K; simp only [thenA_normal, inBlockA_normal, endQ_normal, endR_normal])
  refine AW.seq ?_
  (refine AW.regionK [] (fun K hK => ?_); (repeat (refine arun_ks 4 rfl (fun C hC => ?_); (repeat ((conv => whnf); simp)); refine hC _ ?_; clear hC C; simp only [List.drop_succ_cons, List.drop_zero, List.drop_nil])); refine arun_nil ?_; refine hK _ ?_; clear hK K; simp only [thenA_normal, inBlockA_normal, endQ_normal, endR_normal])
  refine AW.seq ?_
  refine AW.cutN (fun (_ : Unit) => mkSt (slots 0 52 [(1, .ptr true 5 1 1 0 0), (2, .ptr true 5 1 2 0 0), (3, .ptr true 5 1 3 0 0)]) [(1, ⟨true, 26, 5, [[.int .i64 n.kind, .int .i64 n.num, .str n.text, .view .loose 1 (strsE n.names), .view .loose 5 (n.kids.map nodeL)]]⟩), (2, ⟨true, 26, 5, [zeroN]⟩), (3, ⟨true, 26, 5, [[.int .i64 n.kind, .int .i64 n.num, .str n.text, .own 20 n.names.length, .view .tight 0 []]]⟩), (20, namesR n.names)] [1, 2, 3, 20] (rd0.map fun _ => 0)) (fun _ => True) ?_ ?_
  · by_cases hn0 : 0 < n.names.length
    · (repeat (first | with_reducible refine AW.seq ?_ | ((first | refine arun_kn 4 rfl (fun C hC => ?_) | refine arunD_kn 4 rfl (fun C hC => ?_)); (repeat ((conv => whnf); simp [hn0])); refine hC _ ?_; clear hC C; simp only [List.drop, Nat.reduceAdd]) | ((first | refine arun_kn 1 rfl (fun C hC => ?_) | refine arunD_kn 1 rfl (fun C hC => ?_)); (repeat ((conv => whnf); simp [hn0])); refine hC _ ?_; clear hC C; simp only [List.drop, Nat.reduceAdd]) | (refine arun_skip ?_ ?_; (focus (simp [awant, hn0]; done))) | (refine AW.regionK [] (fun K hK => ?_)) | (refine AW.regionDK [] (pcs [] []) (by kernel_rfl) (by kernel_rfl) (fun K hK => ?_)) | (refine AW.condT ?_ ?_; (focus (simp [aev, hn0]; done))) | (refine AW.condF ?_ ?_; (focus (simp [aev, hn0]; done))) | with_reducible refine AW.block ?_ | ((first | ((first | refine arun_nil ?_ | refine arunD_nil ?_); refine hK _ ?_; clear hK K) | refine AW.skip ?_ | refine AW.exit ?_ | refine AW.ret ?_); simp only [thenA_exit, inBlockA_exit, if_true, if_false, Nat.reduceEqDiff, thenA_normal, inBlockA_normal, reduceIte, thenA_ret, inBlockA_ret, endQ_ret, endR_ret, endG_ret, endQ_normal, endR_normal, endG_normal, endF_ret, endF_normal])))
      refine arun_make 20 rfl (by simp [awant]) rfl tab23 tab9 (by decide) rfl (by dsimp only; omega) (by unfold maxLen; omega) (by simp [upd]) ?_
      (repeat (first | with_reducible refine AW.seq ?_ | ((first | refine arun_kn 4 rfl (fun C hC => ?_) | refine arunD_kn 4 rfl (fun C hC => ?_)); (repeat ((conv => whnf); simp [hn0])); refine hC _ ?_; clear hC C; simp only [List.drop, Nat.reduceAdd]) | ((first | refine arun_kn 1 rfl (fun C hC => ?_) | refine arunD_kn 1 rfl (fun C hC => ?_)); (repeat ((conv => whnf); simp [hn0])); refine hC _ ?_; clear hC C; simp only [List.drop, Nat.reduceAdd]) | (refine arun_skip ?_ ?_; (focus (simp [awant, hn0]; done))) | (refine AW.regionK [] (fun K hK => ?_)) | (refine AW.regionDK [] (pcs [] []) (by kernel_rfl) (by kernel_rfl) (fun K hK => ?_)) | (refine AW.condT ?_ ?_; (focus (simp [aev, hn0]; done))) | (refine AW.condF ?_ ?_; (focus (simp [aev, hn0]; done))) | with_reducible refine AW.block ?_ | ((first | ((first | refine arun_nil ?_ | refine arunD_nil ?_); refine hK _ ?_; clear hK K) | refine AW.skip ?_ | refine AW.exit ?_ | refine AW.ret ?_); simp only [thenA_exit, inBlockA_exit, if_true, if_false, Nat.reduceEqDiff, thenA_normal, inBlockA_normal, reduceIte, thenA_ret, inBlockA_ret, endQ_ret, endR_ret, endG_ret, endQ_normal, endR_normal, endG_normal, endF_ret, endF_normal])))
      refine arun_copyAll (r := ⟨false, 9, 1, List.replicate n.names.length [AV.str ⟨#[]⟩]⟩) rfl (by simp [awant]) rfl (by simp [upd]) rfl rfl List.length_replicate rfl (strsE_len _) tab23 tab9 rfl ?_
      (repeat (first | with_reducible refine AW.seq ?_ | ((first | refine arun_kn 4 rfl (fun C hC => ?_) | refine arunD_kn 4 rfl (fun C hC => ?_)); (repeat ((conv => whnf); simp [hn0])); refine hC _ ?_; clear hC C; simp only [List.drop, Nat.reduceAdd]) | ((first | refine arun_kn 1 rfl (fun C hC => ?_) | refine arunD_kn 1 rfl (fun C hC => ?_)); (repeat ((conv => whnf); simp [hn0])); refine hC _ ?_; clear hC C; simp only [List.drop, Nat.reduceAdd]) | (refine arun_skip ?_ ?_; (focus (simp [awant, hn0]; done))) | (refine AW.regionK [] (fun K hK => ?_)) | (refine AW.regionDK [] (pcs [] []) (by kernel_rfl) (by kernel_rfl) (fun K hK => ?_)) | (refine AW.condT ?_ ?_; (focus (simp [aev, hn0]; done))) | (refine AW.condF ?_ ?_; (focus (simp [aev, hn0]; done))) | with_reducible refine AW.block ?_ | ((first | ((first | refine arun_nil ?_ | refine arunD_nil ?_); refine hK _ ?_; clear hK K) | refine AW.skip ?_ | refine AW.exit ?_ | refine AW.ret ?_); simp only [thenA_exit, inBlockA_exit, if_true, if_false, Nat.reduceEqDiff, thenA_normal, inBlockA_normal, reduceIte, thenA_ret, inBlockA_ret, endQ_ret, endR_ret, endG_ret, endQ_normal, endR_normal, endG_normal, endF_ret, endF_normal])))
      exact ⟨(), trivial, (less_of (by simp [lessL, mkSt, slots, namesR, zeroN]) (by simp [upd, mkSt, rowsOf_cons, namesR, zeroN]) (by simp [upd, mkSt, usedOf_cons, namesR, zeroN]) (by first | exact rd_less (by omega) | simp [mkSt, namesR, zeroN]) (by simp [slots, in_any, in_int, in_bool, in_str, in_ptr, in_own, in_agg, in_vnil, in_rdr, usedOf_cons, usedOf_nil, strs_in, ints_in, nodes_in, in_tup, namesR, zeroN]) (by simp only [List.forall_mem_cons, List.not_mem_nil, false_implies, implies_true, and_true, true_and, namesR, zeroN]; (repeat (first | with_reducible exact trivial | with_reducible refine And.intro ?_ ?_ | with_reducible exact in_int | with_reducible exact in_str | with_reducible exact in_bool | with_reducible exact strs_in _ | with_reducible exact nodes_in _ | with_reducible exact items_in _ | with_reducible exact in_vnil | with_reducible exact in_any | exact hin _ | with_reducible refine take_in ?_ | with_reducible exact strsE_in _ | with_reducible exact nodesE_in _ | with_reducible exact nodeL_in _ | with_reducible exact itemsE_in _ | with_reducible exact itemL_in _ | with_reducible refine app_in ?_ ?_ | with_reducible refine sing_in ?_ | (focus (simp [in_any, in_int, in_bool, in_str, in_ptr, in_own, in_agg, in_vnil, in_rdr, usedOf_cons, usedOf_nil, strs_in, ints_in, nodes_in, namesR, zeroN]; done)))); done))⟩
    · have hl0 : n.names.length = 0 := by omega
      have he0 : n.names = [] := List.length_eq_zero_iff.1 hl0
      refine AW.adoptB 3 3 20 9 1 ⟨_, tab9, rfl⟩ (by simp [upd]; rfl) rfl rfl (by simp [upd]) ?_
      simp only [ASt.adoptB]
      (repeat (first | with_reducible refine AW.seq ?_ | ((first | refine arun_kn 4 rfl (fun C hC => ?_) | refine arunD_kn 4 rfl (fun C hC => ?_)); (repeat ((conv => whnf); simp [hl0])); refine hC _ ?_; clear hC C; simp only [List.drop, Nat.reduceAdd]) | ((first | refine arun_kn 1 rfl (fun C hC => ?_) | refine arunD_kn 1 rfl (fun C hC => ?_)); (repeat ((conv => whnf); simp [hl0])); refine hC _ ?_; clear hC C; simp only [List.drop, Nat.reduceAdd]) | (refine arun_skip ?_ ?_; (focus (simp [awant, hl0]; done))) | (refine AW.regionK [] (fun K hK => ?_)) | (refine AW.regionDK [] (pcs [] []) (by kernel_rfl) (by kernel_rfl) (fun K hK => ?_)) | (refine AW.condT ?_ ?_; (focus (simp [aev, hl0]; done))) | (refine AW.condF ?_ ?_; (focus (simp [aev, hl0]; done))) | with_reducible refine AW.block ?_ | ((first | ((first | refine arun_nil ?_ | refine arunD_nil ?_); refine hK _ ?_; clear hK K) | refine AW.skip ?_ | refine AW.exit ?_ | refine AW.ret ?_); simp only [thenA_exit, inBlockA_exit, if_true, if_false, Nat.reduceEqDiff, thenA_normal, inBlockA_normal, reduceIte, thenA_ret, inBlockA_ret, endQ_ret, endR_ret, endG_ret, endQ_normal, endR_normal, endG_normal, endF_ret, endF_normal])))
      exact ⟨(), trivial, (less_of (by simp [lessL, mkSt, slots, namesR, zeroN, he0, strsE]) (by simp [upd, mkSt, rowsOf_cons, namesR, zeroN, he0, strsE]) (by simp [upd, mkSt, usedOf_cons, namesR, zeroN, he0, strsE]) (by first | exact rd_less (by omega) | simp [mkSt, namesR, zeroN, he0, strsE]) (by simp [slots, in_any, in_int, in_bool, in_str, in_ptr, in_own, in_agg, in_vnil, in_rdr, usedOf_cons, usedOf_nil, strs_in, ints_in, nodes_in, in_tup, namesR, zeroN, he0, strsE]) (by simp only [List.forall_mem_cons, List.not_mem_nil, false_implies, implies_true, and_true, true_and, namesR, zeroN, he0, strsE]; (repeat (first | with_reducible exact trivial | with_reducible refine And.intro ?_ ?_ | with_reducible exact in_int | with_reducible exact in_str | with_reducible exact in_bool | with_reducible exact strs_in _ | with_reducible exact nodes_in _ | with_reducible exact items_in _ | with_reducible exact in_vnil | with_reducible exact in_any | exact hin _ | with_reducible refine take_in ?_ | with_reducible exact strsE_in _ | with_reducible exact nodesE_in _ | with_reducible exact nodeL_in _ | with_reducible exact itemsE_in _ | with_reducible exact itemL_in _ | with_reducible refine app_in ?_ ?_ | with_reducible refine sing_in ?_ | (focus (simp [in_any, in_int, in_bool, in_str, in_ptr, in_own, in_agg, in_vnil, in_rdr, usedOf_cons, usedOf_nil, strs_in, ints_in, nodes_in, namesR, zeroN, he0, strsE]; done)))); done))⟩
  rintro ⟨⟩ s' - hls
  refine AW.less _ hls ?_
  clear hls s'
  refine AW.seq ?_
  refine AW.cutN (fun (ks : List Lb) => mkSt (slots 0 52 [(2, .ptr true 5 1 2 0 0), (3, .ptr true 5 1 3 0 0)]) [(2, ⟨true, 26, 5, [zeroN]⟩), (3, ⟨true, 26, 5, [[.int .i64 n.kind, .int .i64 n.num, .str n.text, .own 20 n.names.length, .own 34 n.kids.length]]⟩), (20, namesR n.names), (34, labsR ks)] [2, 3, 20, 34] (rd0.map fun _ => 0)) (fun ks => ks.map Lb.nd = n.kids ∧ (ks.flatMap Lb.fp).Nodup ∧ ∀ b ∈ ks.flatMap Lb.fp, w0.wd.heap.size ≤ b) ?_ ?_
  · by_cases hn0 : 0 < n.kids.length
    · (repeat (first | with_reducible refine AW.seq ?_ | ((first | refine arun_kn 4 rfl (fun C hC => ?_) | refine arunD_kn 4 rfl (fun C hC => ?_)); (repeat ((conv => whnf); simp [hn0])); refine hC _ ?_; clear hC C; simp only [List.drop, Nat.reduceAdd]) | ((first | refine arun_kn 1 rfl (fun C hC => ?_) | refine arunD_kn 1 rfl (fun C hC => ?_)); (repeat ((conv => whnf); simp [hn0])); refine hC _ ?_; clear hC C; simp only [List.drop, Nat.reduceAdd]) | (refine arun_skip ?_ ?_; (focus (simp [awant, hn0]; done))) | (refine AW.regionK [] (fun K hK => ?_)) | (refine AW.regionDK [] (pcs [] []) (by kernel_rfl) (by kernel_rfl) (fun K hK => ?_)) | (refine AW.condT ?_ ?_; (focus (simp [aev, hn0]; done))) | (refine AW.condF ?_ ?_; (focus (simp [aev, hn0]; done))) | with_reducible refine AW.block ?_ | ((first | ((first | refine arun_nil ?_ | refine arunD_nil ?_); refine hK _ ?_; clear hK K) | refine AW.skip ?_ | refine AW.exit ?_ | refine AW.ret ?_); simp only [thenA_exit, inBlockA_exit, if_true, if_false, Nat.reduceEqDiff, thenA_normal, inBlockA_normal, reduceIte, thenA_ret, inBlockA_ret, endQ_ret, endR_ret, endG_ret, endQ_normal, endR_normal, endG_normal, endF_ret, endF_normal])))
      refine arun_make 34 rfl (by simp [awant]) rfl tab24 tab26 (by decide) rfl (by dsimp only; omega) (by unfold maxLen; omega) (by simp [upd]) ?_
      (repeat (first | with_reducible refine AW.seq ?_ | ((first | refine arun_kn 4 rfl (fun C hC => ?_) | refine arunD_kn 4 rfl (fun C hC => ?_)); (repeat ((conv => whnf); simp [hn0])); refine hC _ ?_; clear hC C; simp only [List.drop, Nat.reduceAdd]) | ((first | refine arun_kn 1 rfl (fun C hC => ?_) | refine arunD_kn 1 rfl (fun C hC => ?_)); (repeat ((conv => whnf); simp [hn0])); refine hC _ ?_; clear hC C; simp only [List.drop, Nat.reduceAdd]) | (refine arun_skip ?_ ?_; (focus (simp [awant, hn0]; done))) | (refine AW.regionK [] (fun K hK => ?_)) | (refine AW.regionDK [] (pcs [] []) (by kernel_rfl) (by kernel_rfl) (fun K hK => ?_)) | (refine AW.condT ?_ ?_; (focus (simp [aev, hn0]; done))) | (refine AW.condF ?_ ?_; (focus (simp [aev, hn0]; done))) | with_reducible refine AW.block ?_ | ((first | ((first | refine arun_nil ?_ | refine arunD_nil ?_); refine hK _ ?_; clear hK K) | refine AW.skip ?_ | refine AW.exit ?_ | refine AW.ret ?_); simp only [thenA_exit, inBlockA_exit, if_true, if_false, Nat.reduceEqDiff, thenA_normal, inBlockA_normal, reduceIte, thenA_ret, inBlockA_ret, endQ_ret, endR_ret, endG_ret, endQ_normal, endR_normal, endG_normal, endF_ret, endF_normal])))
      refine AW.loopS (fun (ls : List Lb) => mkSt (slots 0 52 [(1, .ptr true 5 1 1 0 0), (2, .ptr true 5 1 2 0 0), (3, .ptr true 5 1 3 0 0), (37, .view .loose 5 (n.kids.map nodeL)), (38, .int .i64 n.kids.length), (39, .int .i64 ls.length)]) [(1, ⟨true, 26, 5, [[.int .i64 n.kind, .int .i64 n.num, .str n.text, .view .loose 1 (strsE n.names), .view .loose 5 (n.kids.map nodeL)]]⟩), (2, ⟨true, 26, 5, [zeroN]⟩), (3, ⟨true, 26, 5, [[.int .i64 n.kind, .int .i64 n.num, .str n.text, .own 20 n.names.length, .own 34 n.kids.length]]⟩), (20, namesR n.names), (34, ⟨false, 26, 5, partF ls n.kids.length⟩)] [1, 2, 3, 20, 34] (rd0.map fun _ => 0)) (fun ls => n.kids.length - ls.length) (fun ls => ls.map Lb.nd = n.kids.take ls.length ∧ ls.length ≤ n.kids.length ∧ (ls.flatMap Lb.fp).Nodup ∧ ∀ b ∈ ls.flatMap Lb.fp, w0.wd.heap.size ≤ b) [] ?_ ⟨rfl, Nat.zero_le _, List.nodup_nil, fun b hb => by cases hb⟩ ?_
      · have hin : ∀ U : Nat → Bool, ∀ e ∈ partF [] n.kids.length, ∀ c ∈ e, AV.In U c := fun U => partF_in _ _
        have e0 : partF [] n.kids.length = List.replicate n.kids.length zeroN := rfl
        rw [e0] at hin ⊢
        exact (less_of (by simp [lessL, mkSt, slots, namesR, zeroN]) (by simp [upd, mkSt, rowsOf_cons, namesR, zeroN]) (by simp [upd, mkSt, usedOf_cons, namesR, zeroN]) (by first | exact rd_less (by omega) | simp [mkSt, namesR, zeroN]) (by simp [slots, in_any, in_int, in_bool, in_str, in_ptr, in_own, in_agg, in_vnil, in_rdr, usedOf_cons, usedOf_nil, strs_in, ints_in, nodes_in, in_tup, namesR, zeroN]) (by simp only [List.forall_mem_cons, List.not_mem_nil, false_implies, implies_true, and_true, true_and, namesR, zeroN]; (repeat (first | with_reducible exact trivial | with_reducible refine And.intro ?_ ?_ | with_reducible exact in_int | with_reducible exact in_str | with_reducible exact in_bool | with_reducible exact strs_in _ | with_reducible exact nodes_in _ | with_reducible exact items_in _ | with_reducible exact in_vnil | with_reducible exact in_any | exact hin _ | with_reducible refine take_in ?_ | with_reducible exact strsE_in _ | with_reducible exact nodesE_in _ | with_reducible exact nodeL_in _ | with_reducible exact itemsE_in _ | with_reducible exact itemL_in _ | with_reducible refine app_in ?_ ?_ | with_reducible refine sing_in ?_ | (focus (simp [in_any, in_int, in_bool, in_str, in_ptr, in_own, in_agg, in_vnil, in_rdr, usedOf_cons, usedOf_nil, strs_in, ints_in, nodes_in, namesR, zeroN]; done)))); done))
      · rintro ls ⟨hnd, hi, hnp, hge⟩
        have hpl := partF_len ls n.kids.length hi
        by_cases hlt : ls.length < n.kids.length
        · have hw : IntKind.i64.wrap ((ls.length : Int) + 1) = ((ls.length + 1 : Nat) : Int) := by rw [i64_nat (by omega) (by omega)]; simp
          have hg := partF_get ls n.kids.length hlt
          have hgd : ∀ h, (partF ls n.kids.length)[ls.length]'h = [.int .i64 0, .int .i64 0, .str ⟨#[]⟩, .view .tight 0 [], .view .tight 0 []] := fun h => by
            rw [List.getElem?_eq_getElem h] at hg; exact Option.some.inj hg
          have hik := ih n.kids[ls.length] (List.getElem_mem hlt)
          have hck := node_clo n.kids[ls.length]
          unfold nodeA at hck
          rw [nodeL_eq n.kids[ls.length]] at hik hck
          have x1 : (n.kids.map nodeL)[ls.length]? = some [.int .i64 n.kids[ls.length].kind, .int .i64 n.kids[ls.length].num, .str n.kids[ls.length].text, .view .loose 1 (strsE n.kids[ls.length].names), .view .loose 5 (n.kids[ls.length].kids.map nodeL)] := by rw [List.getElem?_map, List.getElem?_eq_getElem hlt, ← nodeL_eq]; rfl
          refine AW.noteR 34 (r := ⟨false, 26, 5, partF ls n.kids.length⟩) (by simp [mkSt, rowsOf_cons]) ?_
          have hN' := hN.note (atE (partF ls n.kids.length))
          refine AW.bound (fun N hNb => ?_)
          (repeat (first | with_reducible refine AW.seq ?_ | ((first | refine arun_kn 4 rfl (fun C hC => ?_) | refine arunD_kn 4 rfl (fun C hC => ?_)); (repeat ((conv => whnf); simp [hlt, hw, hpl, hg, hgd, x1])); refine hC _ ?_; clear hC C; simp only [List.drop, Nat.reduceAdd]) | ((first | refine arun_kn 1 rfl (fun C hC => ?_) | refine arunD_kn 1 rfl (fun C hC => ?_)); (repeat ((conv => whnf); simp [hlt, hw, hpl, hg, hgd, x1])); refine hC _ ?_; clear hC C; simp only [List.drop, Nat.reduceAdd]) | (refine arun_skip ?_ ?_; (focus (simp [awant, hlt, hw, hpl, hg, hgd, x1]; done))) | (refine AW.regionK [] (fun K hK => ?_)) | (refine AW.condT ?_ ?_; (focus (simp [aev, hlt, hw, hpl, hg, hgd, x1]; done))) | (refine AW.condF ?_ ?_; (focus (simp [aev, hlt, hw, hpl, hg, hgd, x1]; done))) | with_reducible refine AW.block ?_ | ((first | ((first | refine arun_nil ?_ | refine arunD_nil ?_); refine hK _ ?_; clear hK K) | refine AW.skip ?_ | refine AW.exit ?_ | refine AW.ret ?_); simp only [thenA_exit, inBlockA_exit, if_true, if_false, Nat.reduceEqDiff, thenA_normal, inBlockA_normal, reduceIte, thenA_ret, inBlockA_ret, endQ_ret, endR_ret, endG_ret, endQ_normal, endR_normal, endG_normal, endF_ret, endF_normal])))
          refine AW.regionDK [] (pcs [(4, 0, fun r => rLabX n.kids[ls.length] r ∧ ∀ b ∈ atB r, ¬ (w0.note (atE (partF ls n.kids.length))).A b)] []) (by kernel_rfl) (by kernel_rfl) (fun K hK => ?_)
          (repeat (first | with_reducible refine AW.seq ?_ | ((first | refine arun_kn 4 rfl (fun C hC => ?_) | refine arunD_kn 4 rfl (fun C hC => ?_)); (repeat ((conv => whnf); simp [hlt, hw, hpl, hg, hgd, x1])); refine hC _ ?_; clear hC C; simp only [List.drop, Nat.reduceAdd]) | ((first | refine arun_kn 1 rfl (fun C hC => ?_) | refine arunD_kn 1 rfl (fun C hC => ?_)); (repeat ((conv => whnf); simp [hlt, hw, hpl, hg, hgd, x1])); refine hC _ ?_; clear hC C; simp only [List.drop, Nat.reduceAdd]) | (refine arun_skip ?_ ?_; (focus (simp [awant, hlt, hw, hpl, hg, hgd, x1]; done))) | (refine arun_cF (0) (hik) ?_; (rintro _ ⟨l, hl, hlp, rfl⟩ hA)) | (refine arunD_cF (0) (hik) (by exact rLabX_ex _ hNb) ?_; (rintro _ ⟨l, hl, hlp, rfl⟩ hA); intro _) | (refine AW.regionK [] (fun K hK => ?_)) | (refine AW.regionDK [] (pcs [] []) (by kernel_rfl) (by kernel_rfl) (fun K hK => ?_)) | (refine AW.condT ?_ ?_; (focus (simp [aev, hlt, hw, hpl, hg, hgd, x1]; done))) | (refine AW.condF ?_ ?_; (focus (simp [aev, hlt, hw, hpl, hg, hgd, x1]; done))) | with_reducible refine AW.block ?_ | ((first | ((first | refine arun_nil ?_ | refine arunD_nil ?_); refine hK _ ?_; clear hK K) | refine AW.skip ?_ | refine AW.exit ?_ | refine AW.ret ?_); simp only [thenA_exit, inBlockA_exit, if_true, if_false, Nat.reduceEqDiff, thenA_normal, inBlockA_normal, reduceIte, thenA_ret, inBlockA_ret, endQ_ret, endR_ret, endG_ret, endQ_normal, endR_normal, endG_normal, endF_ret, endF_normal])))
          have hA' : ∀ b ∈ l.fp, ¬ (w0.A b ∨ b ∈ atE (partF ls n.kids.length)) := fun b hb => hA b (by rw [at_agg, ← labL_eq]; exact hb)
          have hset := partF_set ls n.kids.length hlt l
          rw [labL_eq] at hset
          have hin : ∀ U : Nat → Bool, ∀ e ∈ partF (ls ++ [l]) n.kids.length, ∀ c ∈ e, AV.In U c := fun U => partF_in _ _
          have hll : (ls ++ [l]).length = ls.length + 1 := by rw [List.length_append]; rfl
          refine ⟨ls ++ [l], by rw [hll]; omega, ⟨?_, by rw [hll]; omega, nodup_snoc hnp hlp (fun b hb hm => hA' b hb (.inr (by rw [at_partF]; exact hm))), fun b hb => ?_⟩, ?_⟩
          · rw [hll, List.take_add_one, List.getElem?_eq_getElem hlt, List.map_append, hnd, List.map_cons, List.map_nil, hl]; rfl
          · rw [List.flatMap_append, List.flatMap_cons, List.flatMap_nil, List.append_nil] at hb
            rcases List.mem_append.1 hb with hb | hb
            · exact hge b hb
            · rcases Nat.lt_or_ge b w0.wd.heap.size with h | h
              · exact absurd (.inl (hN.A b h)) (hA' b hb)
              · exact h
          · rw [hll]
            exact (less_of (by simp [lessL, mkSt, slots, namesR, zeroN, hset]) (by simp [upd, mkSt, rowsOf_cons, namesR, zeroN, hset]) (by simp [upd, mkSt, usedOf_cons, namesR, zeroN, hset]) (by first | exact rd_less (by omega) | simp [mkSt, namesR, zeroN, hset]) (by simp [slots, in_any, in_int, in_bool, in_str, in_ptr, in_own, in_agg, in_vnil, in_rdr, usedOf_cons, usedOf_nil, strs_in, ints_in, nodes_in, in_tup, namesR, zeroN, hset]) (by simp only [List.forall_mem_cons, List.not_mem_nil, false_implies, implies_true, and_true, true_and, namesR, zeroN, hset]; (repeat (first | with_reducible exact trivial | with_reducible refine And.intro ?_ ?_ | with_reducible exact in_int | with_reducible exact in_str | with_reducible exact in_bool | with_reducible exact strs_in _ | with_reducible exact nodes_in _ | with_reducible exact items_in _ | with_reducible exact in_vnil | with_reducible exact in_any | exact hin _ | with_reducible refine take_in ?_ | with_reducible exact strsE_in _ | with_reducible exact nodesE_in _ | with_reducible exact nodeL_in _ | with_reducible exact itemsE_in _ | with_reducible exact itemL_in _ | with_reducible refine app_in ?_ ?_ | with_reducible refine sing_in ?_ | (focus (simp [in_any, in_int, in_bool, in_str, in_ptr, in_own, in_agg, in_vnil, in_rdr, usedOf_cons, usedOf_nil, strs_in, ints_in, nodes_in, namesR, zeroN, hset]; done)))); done))
        · have hl : ls.length = n.kids.length := by omega
          have hpa : partF ls n.kids.length = ls.map labL := by unfold partF; rw [hl, Nat.sub_self]; simp
          rw [hpa, hl]
          (repeat (first | with_reducible refine AW.seq ?_ | ((first | refine arun_kn 4 rfl (fun C hC => ?_) | refine arunD_kn 4 rfl (fun C hC => ?_)); (repeat ((conv => whnf); simp)); refine hC _ ?_; clear hC C; simp only [List.drop, Nat.reduceAdd]) | ((first | refine arun_kn 1 rfl (fun C hC => ?_) | refine arunD_kn 1 rfl (fun C hC => ?_)); (repeat ((conv => whnf); simp)); refine hC _ ?_; clear hC C; simp only [List.drop, Nat.reduceAdd]) | (refine arun_skip ?_ ?_; (focus (simp [awant]; done))) | (refine AW.regionK [] (fun K hK => ?_)) | (refine AW.regionDK [] (pcs [] []) (by kernel_rfl) (by kernel_rfl) (fun K hK => ?_)) | (refine AW.condT ?_ ?_; (focus (simp [aev]; done))) | (refine AW.condF ?_ ?_; (focus (simp [aev]; done))) | with_reducible refine AW.block ?_ | ((first | ((first | refine arun_nil ?_ | refine arunD_nil ?_); refine hK _ ?_; clear hK K) | refine AW.skip ?_ | refine AW.exit ?_ | refine AW.ret ?_); simp only [thenA_exit, inBlockA_exit, if_true, if_false, Nat.reduceEqDiff, thenA_normal, inBlockA_normal, reduceIte, thenA_ret, inBlockA_ret, endQ_ret, endR_ret, endG_ret, endQ_normal, endR_normal, endG_normal, endF_ret, endF_normal])))
          refine ⟨ls, ⟨by rw [hnd, hl, List.take_of_length_le (Nat.le_refl _)], hnp, hge⟩, ?_⟩
          have hin : ∀ U : Nat → Bool, ∀ e ∈ ls.map labL, ∀ c ∈ e, AV.In U c := fun U => labsE_in _
          exact (less_of (by simp [lessL, mkSt, slots, namesR, labsR, zeroN]) (by simp [upd, mkSt, rowsOf_cons, namesR, labsR, zeroN]) (by simp [upd, mkSt, usedOf_cons, namesR, labsR, zeroN]) (by first | exact rd_less (by omega) | simp [mkSt, namesR, labsR, zeroN]) (by simp [slots, in_any, in_int, in_bool, in_str, in_ptr, in_own, in_agg, in_vnil, in_rdr, usedOf_cons, usedOf_nil, strs_in, ints_in, nodes_in, in_tup, namesR, labsR, zeroN]) (by simp only [List.forall_mem_cons, List.not_mem_nil, false_implies, implies_true, and_true, true_and, namesR, labsR, zeroN]; (repeat (first | with_reducible exact trivial | with_reducible refine And.intro ?_ ?_ | with_reducible exact in_int | with_reducible exact in_str | with_reducible exact in_bool | with_reducible exact strs_in _ | with_reducible exact nodes_in _ | with_reducible exact items_in _ | with_reducible exact in_vnil | with_reducible exact in_any | exact hin _ | with_reducible refine take_in ?_ | with_reducible exact strsE_in _ | with_reducible exact nodesE_in _ | with_reducible exact nodeL_in _ | with_reducible exact itemsE_in _ | with_reducible exact itemL_in _ | with_reducible refine app_in ?_ ?_ | with_reducible refine sing_in ?_ | (focus (simp [in_any, in_int, in_bool, in_str, in_ptr, in_own, in_agg, in_vnil, in_rdr, usedOf_cons, usedOf_nil, strs_in, ints_in, nodes_in, namesR, labsR, zeroN]; done)))); done))
    · have hl0 : n.kids.length = 0 := by omega
      have he0 : n.kids = [] := List.length_eq_zero_iff.1 hl0
      refine AW.adoptB 3 4 34 26 5 ⟨_, tab26, rfl⟩ (by simp [mkSt, rowsOf_cons]; rfl) rfl rfl (by simp [mkSt, usedOf_cons, usedOf_nil]) ?_
      simp only [ASt.adoptB]
      (repeat (first | with_reducible refine AW.seq ?_ | ((first | refine arun_kn 4 rfl (fun C hC => ?_) | refine arunD_kn 4 rfl (fun C hC => ?_)); (repeat ((conv => whnf); simp [hl0])); refine hC _ ?_; clear hC C; simp only [List.drop, Nat.reduceAdd]) | ((first | refine arun_kn 1 rfl (fun C hC => ?_) | refine arunD_kn 1 rfl (fun C hC => ?_)); (repeat ((conv => whnf); simp [hl0])); refine hC _ ?_; clear hC C; simp only [List.drop, Nat.reduceAdd]) | (refine arun_skip ?_ ?_; (focus (simp [awant, hl0]; done))) | (refine AW.regionK [] (fun K hK => ?_)) | (refine AW.regionDK [] (pcs [] []) (by kernel_rfl) (by kernel_rfl) (fun K hK => ?_)) | (refine AW.condT ?_ ?_; (focus (simp [aev, hl0]; done))) | (refine AW.condF ?_ ?_; (focus (simp [aev, hl0]; done))) | with_reducible refine AW.block ?_ | ((first | ((first | refine arun_nil ?_ | refine arunD_nil ?_); refine hK _ ?_; clear hK K) | refine AW.skip ?_ | refine AW.exit ?_ | refine AW.ret ?_); simp only [thenA_exit, inBlockA_exit, if_true, if_false, Nat.reduceEqDiff, thenA_normal, inBlockA_normal, reduceIte, thenA_ret, inBlockA_ret, endQ_ret, endR_ret, endG_ret, endQ_normal, endR_normal, endG_normal, endF_ret, endF_normal])))
      refine ⟨[], ⟨by rw [he0]; rfl, List.nodup_nil, fun b hb => by cases hb⟩, ?_⟩
      exact (less_of (by simp [lessL, mkSt, slots, namesR, labsR, zeroN, he0]) (by simp [upd, mkSt, rowsOf_cons, namesR, labsR, zeroN, he0]) (by simp [upd, mkSt, usedOf_cons, namesR, labsR, zeroN, he0]) (by first | exact rd_less (by omega) | simp [mkSt, namesR, labsR, zeroN, he0]) (by simp [slots, in_any, in_int, in_bool, in_str, in_ptr, in_own, in_agg, in_vnil, in_rdr, usedOf_cons, usedOf_nil, strs_in, ints_in, nodes_in, in_tup, namesR, labsR, zeroN, he0]) (by simp only [List.forall_mem_cons, List.not_mem_nil, false_implies, implies_true, and_true, true_and, namesR, labsR, zeroN, he0]; (repeat (first | with_reducible exact trivial | with_reducible refine And.intro ?_ ?_ | with_reducible exact in_int | with_reducible exact in_str | with_reducible exact in_bool | with_reducible exact strs_in _ | with_reducible exact nodes_in _ | with_reducible exact items_in _ | with_reducible exact in_vnil | with_reducible exact in_any | exact hin _ | with_reducible refine take_in ?_ | with_reducible exact strsE_in _ | with_reducible exact nodesE_in _ | with_reducible exact nodeL_in _ | with_reducible exact itemsE_in _ | with_reducible exact itemL_in _ | with_reducible refine app_in ?_ ?_ | with_reducible refine sing_in ?_ | (focus (simp [in_any, in_int, in_bool, in_str, in_ptr, in_own, in_agg, in_vnil, in_rdr, usedOf_cons, usedOf_nil, strs_in, ints_in, nodes_in, namesR, labsR, zeroN, he0]; done)))); done))
  rintro ks s' ⟨hk1, hk2, hk3⟩ hls
  refine AW.less _ hls ?_
  clear hls s'
  have hlk : ks.length = n.kids.length := by rw [← hk1, List.length_map]
  refine AW.holdF 20 hN (fun g1 hg1 ht1 hr1 => ?_)
  have f1 := hr1 34 (labsR ks) (by simp [mkSt, rowsOf_cons])
  refine AW.holdF 34 hN (fun g2 hg2 ht2 hr2 => ?_)
  have f2 := hr2 34 (labsR ks) (by simp [mkSt, ASt.holdF, rowsOf_cons, upd, namesR, labsR, Row.sub, labsE_sub]; exact fun a _ => labL_sub a)
  have f3 := hr2 3 ⟨true, 26, 5, [[.int .i64 n.kind, .int .i64 n.num, .str n.text, .view (.fr g1) 1 (strsE n.names), .own 34 n.kids.length]]⟩ (by simp [mkSt, ASt.holdF, rowsOf_cons, upd, namesR, AV.subL, AV.sub, Row.sub, strsE_len])
  clear ht1 hr1 ht2 hr2
  (repeat (first | with_reducible refine AW.seq ?_ | ((first | refine arun_kn 4 rfl (fun C hC => ?_) | refine arunD_kn 4 rfl (fun C hC => ?_)); (repeat ((conv => whnf); simp [zeroN, ASt.holdF, namesR, labsR, AV.subL, AV.sub, Row.sub, rowsOf_cons, upd, labsE_sub, strsE_len, hlk])); refine hC _ ?_; clear hC C; simp only [List.drop, Nat.reduceAdd]) | ((first | refine arun_kn 1 rfl (fun C hC => ?_) | refine arunD_kn 1 rfl (fun C hC => ?_)); (repeat ((conv => whnf); simp [zeroN, ASt.holdF, namesR, labsR, AV.subL, AV.sub, Row.sub, rowsOf_cons, upd, labsE_sub, strsE_len, hlk])); refine hC _ ?_; clear hC C; simp only [List.drop, Nat.reduceAdd]) | (refine arun_skip ?_ ?_; (focus (simp [awant, zeroN, ASt.holdF, namesR, labsR, AV.subL, AV.sub, Row.sub, rowsOf_cons, upd, labsE_sub, strsE_len, hlk]; done))) | (refine AW.regionK [] (fun K hK => ?_)) | (refine AW.regionDK [] (pcs [] []) (by kernel_rfl) (by kernel_rfl) (fun K hK => ?_)) | (refine AW.condT ?_ ?_; (focus (simp [aev, zeroN, ASt.holdF, namesR, labsR, AV.subL, AV.sub, Row.sub, rowsOf_cons, upd, labsE_sub, strsE_len, hlk]; done))) | (refine AW.condF ?_ ?_; (focus (simp [aev, zeroN, ASt.holdF, namesR, labsR, AV.subL, AV.sub, Row.sub, rowsOf_cons, upd, labsE_sub, strsE_len, hlk]; done))) | with_reducible refine AW.block ?_ | ((first | ((first | refine arun_nil ?_ | refine arunD_nil ?_); refine hK _ ?_; clear hK K) | refine AW.skip ?_ | refine AW.exit ?_ | refine AW.ret ?_); simp only [thenA_exit, inBlockA_exit, if_true, if_false, Nat.reduceEqDiff, thenA_normal, inBlockA_normal, reduceIte, thenA_ret, inBlockA_ret, endQ_ret, endR_ret, endG_ret, endQ_normal, endR_normal, endG_normal, endF_ret, endF_normal])))
  have e2 : atE (labsR ks).es = ks.flatMap Lb.fp := atE_labs ks
  rw [e2] at f1 f2
  refine ⟨labA ⟨n.kind, n.num, n.text, n.names, g1, ks, g2⟩, by unfold labA; rw [labL_eq]; simp [ares, aresL, upd, rowsOf_cons, labL_sub], lab_pur _, fun b hb => ?_, rLab_X ⟨_, ?_, fp_nodup hk2 f1 f2 (fun h1 _ => f3 g1 ?_), rfl⟩⟩
  · rw [at_lab] at hb
    exact fp_ge (l := ⟨n.kind, n.num, n.text, n.names, g1, ks, g2⟩) hk3 hg1 hg2 b hb
  · rw [nd_eq]; dsimp only; rw [hk1]; cases n; rfl
  · dsimp only at h1
    have : (strsE n.names).isEmpty = false := by unfold strsE; cases hh : n.names with | nil => exact absurd hh h1 | cons _ _ => rfl
    simp [atE_cons, atE_nil, atL_cons, atL_nil, at_int, at_str, at_own, at_view, frB_fr, this]
theorem implCopyF_ACF : ∀ n, Sml n → ACF Tryd.prog 60 [nodeA n] 0 (rLabX n) :=
  sml_ind fun n hs ih => implCopyF_hold n hs ih
theorem implCopyF_ACM (n : Nd) (hs : Sml n) : ACM Tryd.prog 60 [nodeA n] 0 (fun r l => ∃ ks : List Lb, ks.map Lb.nd = n.kids ∧ (ks.flatMap Lb.fp).Nodup ∧ r = nodeRR n 20 34 ∧ l = [(20, namesR n.names), (34, labsR ks)]) :=
  implCopyF_step n hs (fun k hk => implCopyF_ACF k (hs.kid hk))
end Go.Proofs.YtfjaobfaepjfnaaDoor.Eng
-- EV: fresh
namespace Go.Proofs.YtfjaobfaepjfnaaDoor
open Go.RowKit
theorem openV_node {w : World} {S : Nat → Prop} {x : Nd} {v : Value} (h : RV nodeRep packA w S x v) : ∃ na nc ka kc, v = nodeV x na nc ka kc := by
  obtain ⟨na, nc, ka, kc, hv, _⟩ := node_open h
  exact ⟨na, nc, ka, kc, hv⟩
theorem cntS_le (x : List ByteArray) : cntS x ≤ costS x := by unfold cntS costS; omega
theorem cntT_zero : cntT Nd.zero = 0 := by unfold cntT Nd.zero; simp [cntL]
namespace Eng
def rNB (m : Nd) (b : Bool) (r : AV) : Prop := ∃ l : Lb, l.nd = m ∧ l.fp.Nodup ∧ r = .tup [labA l, .bool b]
theorem rNB_none {r : AV} (h : r = .tup [node0 0 0 ⟨#[]⟩, .bool false]) : Pur r ∧ (∀ B : Nat, ∀ b ∈ atB r, B ≤ b) ∧ ∃ r', Wk r r' ∧ (∀ b ∈ atB r', b ∈ atB r) ∧ rNB Nd.zero false r' := by
  subst h
  refine ⟨tup2_pur (node0_pur _ _ _) pur_bool, ?_, .tup [labA ⟨0, 0, ⟨#[]⟩, [], 0, [], 0⟩, .bool false], Wk.tup (.cons ?_ (.cons (Wk.refl _) .nil)), ?_, ⟨0, 0, ⟨#[]⟩, [], 0, [], 0⟩, by rw [nd_eq]; rfl, by rw [fp_eq]; simp [frB_fr], rfl⟩
  · intro B b hb
    simp [node0, at_tup, at_agg, atL_cons, atL_nil, at_int, at_str, at_bool, at_view, atE_nil, frB_tight] at hb
  · unfold node0 labA
    rw [labL_eq]
    exact .agg (.cons (Wk.refl _) (.cons (Wk.refl _) (.cons (Wk.refl _) (.cons (Wk.nil (fun h => by cases h)) (.cons (Wk.nil (fun h => by cases h)) .nil)))))
  · intro b hb
    rw [at_tup, atL_cons, at_lab, fp_eq] at hb
    simp [frB_fr, atL_cons, atL_nil, at_bool] at hb
theorem ACF.weak {P : Program} {f : FuncId} {args : List AV} {c : Nat} {Q : AV → Prop} (h : ACF P f args c (fun r => ∃ r', Wk r r' ∧ (∀ b ∈ atB r', b ∈ atB r) ∧ Q r')) : ACF P f args c Q :=
  ⟨h.1, fun w L S rb k vs h0 h1 h2 h3 => (h.2 w L S rb k vs h0 h1 h2 h3).mono fun e w' ⟨v, r, S', k1, k2, k3, k4, k5, k6, ⟨r', q1, q2, q3⟩, k8⟩ => ⟨v, r', S', k1, k2, k3, k4, k5, q1 _ _ _ k6, q3, fun b hb => k8 b (q2 b hb)⟩⟩
theorem at_tup2 (l : Lb) (b : Bool) : atB (.tup [labA l, .bool b]) = l.fp := by
  rw [at_tup, atL_cons, atL_cons, atL_nil, at_lab, at_bool]; simp
theorem acf_nb {P : Program} {f : FuncId} {args : List AV} {m : Nd} {b : Bool} (h : ACF P f args 0 (rNB m b)) (w : World) (vs : List Value) (hargs : RepL w (pureC nil (fun k => k < w.heap.size) none) args vs) :
    Calls P f vs.toArray w fun e w' => ∃ v fp, e = .returned (.tuple #[v, .bool b]) ∧ Grow w w' ∧ FV nodeRep packA w' m v fp ∧ Free w.heap.size w' fp := by
  refine (h.2 w nil (fun k => k < w.heap.size) none 0 vs (fun _ h => h.elim) (fun _ h => h) (fun _ h => by cases h) hargs).mono ?_
  rintro e w' ⟨v, r, S', rfl, hx, hS1, hS2, _, hr, ⟨l, rfl, hnp, rfl⟩, hb⟩
  rw [at_tup2] at hb
  obtain ⟨us, rfl, h2⟩ := rep_tup.1 hr
  obtain ⟨v0, p0, q0⟩ := h2.get (i := 0) rfl
  obtain ⟨v1, p1, q1⟩ := h2.get (i := 1) rfl
  have hl := h2.length
  simp only [List.length_cons, List.length_nil] at hl
  have hus : us = [v0, v1] := by
    apply List.ext_getElem?
    intro i
    rcases i with _ | _ | i
    · exact p0
    · exact p1
    · rw [List.getElem?_eq_none (by omega), List.getElem?_eq_none (by simp)]
  subst hus
  rw [rep_bool] at q1
  subst q1
  have hg := Grow.ofNone hx
  refine ⟨v0, l.fp, rfl, hg, fv_of_rep q0, hnp, fun k hk => ?_⟩
  have hat := q0.at k (by rw [at_lab]; exact hk)
  refine ⟨hb k hk, ?_, hat.2⟩
  rcases hS2 k hat.1 with h | h
  · exact Nat.lt_of_lt_of_le h hg.size
  · exact h.2
theorem arg_node {w : World} {n : Nd} {v : Value} (h : RV nodeRep packA w Go.Proofs.YtfjaobfaepjfnaaDoor.any n v) : Rep w (pureC nil (fun k => k < w.heap.size) none) (nodeA n) v := rep_of_node (node_open h.under)
theorem arg_strs {w : World} {p : List ByteArray} {v : Value} (h : RV strsRep packO w Go.Proofs.YtfjaobfaepjfnaaDoor.any p v) : Rep w (pureC nil (fun k => k < w.heap.size) none) (.view .loose 1 (strsE p)) v := by
  obtain ⟨a, c, rfl, hs⟩ := strs_open h.under
  exact strs_to_rep hs
theorem args1 {w : World} {ρ : Cx} {a : AV} {v : Value} (h : Rep w ρ a v) : RepL w ρ [a] [v] := by unfold RepL; exact ⟨_, _, rfl, h, by unfold RepL; rfl⟩
theorem args2 {w : World} {ρ : Cx} {a b : AV} {v u : Value} (h : Rep w ρ a v) (k : Rep w ρ b u) : RepL w ρ [a, b] [v, u] := by unfold RepL; exact ⟨_, _, rfl, h, args1 k⟩
theorem args3 {w : World} {ρ : Cx} {a b c : AV} {v u x : Value} (h : Rep w ρ a v) (k : Rep w ρ b u) (j : Rep w ρ c x) : RepL w ρ [a, b, c] [v, u, x] := by unfold RepL; exact ⟨_, _, rfl, h, args2 k j⟩
end Eng
end Go.Proofs.YtfjaobfaepjfnaaDoor
namespace Go.Proofs.YtfjaobfaepjfnaaDoor.Eng
open Go Go.RowKit
attribute [local simp] big size_mk ASt.pay Option.map_map Function.comp_def awant aop acall ado aev ofVal ofVal0 ASt.put ASt.add ASt.turn ASt.kill abox aalloc astore aload aloadD astoreD idOf ASt.at cellsTo afieldAddr afield aindexAddr aindex alen abin aint acmp astr aun apick aextract anil aslice abound abuild afill abuildSlice asCells aps avCells over upd aappend asrc amax amin aconv mkSt slots rowsOf_cons rowsOf_nil usedOf_cons usedOf_nil ZK.av List.replicate ASt.back ASt.addL ASt.killL nodeA nodeT nodeTL_eq nodeL_eq strsE_get strsE_len intsE_get intsE_len strsE_at intsE_at tab2 tab3 tab4 tab5 tab6 tab7 tab8 tab9 tab10 tab11 tab12 tab13 tab14 tab15 tab16 tab17 tab18 tab19 tab21 tab22 tab23 tab24 tab25 tab26 tab28 tab29 tab30 tab31 tab42 tab43 tab44 tab46 tab63 tab64 tab67 tab68 tab75 tab98 tab100 tab101 tab105 tab106 tab107 tab122 tab123 tab125 tab128 tab138 tab144 tab151 tab152 tab157 tab158 tab160 tab161 tab162
theorem dig_cut (k : Nat) (h : k < 10) : (⟨#[48, 49, 50, 51, 52, 53, 54, 55, 56, 57, 97, 98, 99, 100, 101, 102, 103, 104, 105, 106, 107, 108, 109, 110, 111, 112, 113, 114, 115, 116, 117, 118, 119, 120, 121, 122]⟩ : ByteArray).extract k (k + 1) = txt (dig1 k) := by
  have : ∀ k, k < 10 → (⟨#[48, 49, 50, 51, 52, 53, 54, 55, 56, 57, 97, 98, 99, 100, 101, 102, 103, 104, 105, 106, 107, 108, 109, 110, 111, 112, 113, 114, 115, 116, 117, 118, 119, 120, 121, 122]⟩ : ByteArray).extract k (k + 1) = txt (dig1 k) := by decide +kernel
  exact this k h
theorem small_AC (k : Nat) (hk : k < 10) : AC Tryd.prog 145 [.int .i64 (k : Int)] 0 (fun r => r = .str (txt (dig1 k))) := by
  have h10 : (k : Int) < 10 := by omega
  have hw : IntKind.i64.wrap ((k : Int) + 1) = (k : Int) + 1 := i64_nat (by omega) (by omega)
  have h1 : (0 : Int) ≤ (k : Int) + 1 := by omega
  have h2 : (k : Int) + 1 ≤ 36 := by omega
  have h3 : (k : Int) ≤ (k : Int) + 1 := by omega
  have h4 : ((k : Int) + 1).toNat = k + 1 := by omega
  have h5 : (0 : Int) ≤ (k : Int) := by omega
  refine AC.of tab_ok mixed_ok Tryd.func145 (by rfl) (by kernel_rfl) ?_; rintro ⟨P, T, hT, hm, w0, S0, rd0, k0⟩ hP hTT; dsimp only at hP hTT; subst hP hTT; unfold initSt; rw [Tryd.ntmps145]
  (repeat (first | with_reducible refine AW.seq ?_ | ((first | refine arun_kn 4 rfl (fun C hC => ?_) | refine arunD_kn 4 rfl (fun C hC => ?_)); (repeat ((conv => whnf); simp [h10, hw, h1, h2, h3, h4, h5, dig_cut k hk])); refine hC _ ?_; clear hC C; simp only [List.drop, Nat.reduceAdd]) | ((first | refine arun_kn 1 rfl (fun C hC => ?_) | refine arunD_kn 1 rfl (fun C hC => ?_)); (repeat ((conv => whnf); simp [h10, hw, h1, h2, h3, h4, h5, dig_cut k hk])); refine hC _ ?_; clear hC C; simp only [List.drop, Nat.reduceAdd]) | (refine arun_skip ?_ ?_; (focus (simp [awant, h10, hw, h1, h2, h3, h4, h5, dig_cut k hk]; done))) | (refine AW.regionK [] (fun K hK => ?_)) | (refine AW.regionDK [] (pcs [] []) (by kernel_rfl) (by kernel_rfl) (fun K hK => ?_)) | (refine AW.condT ?_ ?_; (focus (simp [aev, h10, hw, h1, h2, h3, h4, h5, dig_cut k hk]; done))) | (refine AW.condF ?_ ?_; (focus (simp [aev, h10, hw, h1, h2, h3, h4, h5, dig_cut k hk]; done))) | with_reducible refine AW.block ?_ | ((first | ((first | refine arun_nil ?_ | refine arunD_nil ?_); refine hK _ ?_; clear hK K) | refine AW.skip ?_ | refine AW.exit ?_ | refine AW.ret ?_); simp only [thenA_exit, inBlockA_exit, if_true, if_false, Nat.reduceEqDiff, thenA_normal, inBlockA_normal, reduceIte, thenA_ret, inBlockA_ret, endQ_ret, endR_ret, endG_ret, endQ_normal, endR_normal, endG_normal])))
  exact ⟨.str (txt (dig1 k)), by simp [ares, aresL], pur_str, rfl⟩
theorem FormatInt_AC (k : Nat) (hk : k < 10) : AC Tryd.prog 141 [.int .i64 (k : Int), .int .i64 10] 0 (fun r => r = .str (txt (dig1 k))) := by
  have h10 : (k : Int) < 100 := by omega
  have h5 : (0 : Int) ≤ (k : Int) := by omega
  refine AC.of tab_ok mixed_ok Tryd.func141 (by rfl) (by kernel_rfl) ?_; rintro ⟨P, T, hT, hm, w0, S0, rd0, k0⟩ hP hTT; dsimp only at hP hTT; subst hP hTT; unfold initSt; rw [Tryd.ntmps141]
  (repeat (first | with_reducible refine AW.seq ?_ | ((first | refine arun_kn 4 rfl (fun C hC => ?_) | refine arunD_kn 4 rfl (fun C hC => ?_)); (repeat ((conv => whnf); simp [h10, h5])); refine hC _ ?_; clear hC C; simp only [List.drop, Nat.reduceAdd]) | ((first | refine arun_kn 1 rfl (fun C hC => ?_) | refine arunD_kn 1 rfl (fun C hC => ?_)); (repeat ((conv => whnf); simp [h10, h5])); refine hC _ ?_; clear hC C; simp only [List.drop, Nat.reduceAdd]) | (refine arun_skip ?_ ?_; (focus (simp [awant, h10, h5]; done))) | (refine arun_c0 (small_AC k hk) ?_; rintro _ rfl) | (refine AW.regionK [] (fun K hK => ?_)) | (refine AW.regionDK [] (pcs [] []) (by kernel_rfl) (by kernel_rfl) (fun K hK => ?_)) | (refine AW.condT ?_ ?_; (focus (simp [aev, h10, h5]; done))) | (refine AW.condF ?_ ?_; (focus (simp [aev, h10, h5]; done))) | with_reducible refine AW.block ?_ | ((first | ((first | refine arun_nil ?_ | refine arunD_nil ?_); refine hK _ ?_; clear hK K) | refine AW.skip ?_ | refine AW.exit ?_ | refine AW.ret ?_); simp only [thenA_exit, inBlockA_exit, if_true, if_false, Nat.reduceEqDiff, thenA_normal, inBlockA_normal, reduceIte, thenA_ret, inBlockA_ret, endQ_ret, endR_ret, endG_ret, endQ_normal, endR_normal, endG_normal])))
  exact ⟨.str (txt (dig1 k)), by simp [ares, aresL], pur_str, rfl⟩
theorem Itoa0_AC (k : Nat) (hk : k < 10) : AC Tryd.prog 129 [.int .i64 (k : Int)] 0 (fun r => r = .str (txt (dig1 k))) := by
  refine AC.of tab_ok mixed_ok Tryd.func129 (by rfl) (by kernel_rfl) ?_; rintro ⟨P, T, hT, hm, w0, S0, rd0, k0⟩ hP hTT; dsimp only at hP hTT; subst hP hTT; unfold initSt; rw [Tryd.ntmps129]
  (repeat (first | with_reducible refine AW.seq ?_ | ((first | refine arun_kn 4 rfl (fun C hC => ?_) | refine arunD_kn 4 rfl (fun C hC => ?_)); (repeat ((conv => whnf); simp)); refine hC _ ?_; clear hC C; simp only [List.drop, Nat.reduceAdd]) | ((first | refine arun_kn 1 rfl (fun C hC => ?_) | refine arunD_kn 1 rfl (fun C hC => ?_)); (repeat ((conv => whnf); simp)); refine hC _ ?_; clear hC C; simp only [List.drop, Nat.reduceAdd]) | (refine arun_skip ?_ ?_; (focus (simp [awant]; done))) | (refine arun_c0 (FormatInt_AC k hk) ?_; rintro _ rfl) | (refine AW.regionK [] (fun K hK => ?_)) | (refine AW.regionDK [] (pcs [] []) (by kernel_rfl) (by kernel_rfl) (fun K hK => ?_)) | (refine AW.condT ?_ ?_; (focus (simp [aev]; done))) | (refine AW.condF ?_ ?_; (focus (simp [aev]; done))) | with_reducible refine AW.block ?_ | ((first | ((first | refine arun_nil ?_ | refine arunD_nil ?_); refine hK _ ?_; clear hK K) | refine AW.skip ?_ | refine AW.exit ?_ | refine AW.ret ?_); simp only [thenA_exit, inBlockA_exit, if_true, if_false, Nat.reduceEqDiff, thenA_normal, inBlockA_normal, reduceIte, thenA_ret, inBlockA_ret, endQ_ret, endR_ret, endG_ret, endQ_normal, endR_normal, endG_normal])))
  exact ⟨.str (txt (dig1 k)), by simp [ares, aresL], pur_str, rfl⟩
theorem Itoa_AC (k : Nat) (hk : k < 10) : AC Tryd.prog 100 [.int .i64 (k : Int)] 0 (fun r => r = .str (txt (dig1 k))) := by
  refine AC.of tab_ok mixed_ok Tryd.func100 (by rfl) (by kernel_rfl) ?_; rintro ⟨P, T, hT, hm, w0, S0, rd0, k0⟩ hP hTT; dsimp only at hP hTT; subst hP hTT; unfold initSt; rw [Tryd.ntmps100]
  (repeat (first | with_reducible refine AW.seq ?_ | ((first | refine arun_kn 4 rfl (fun C hC => ?_) | refine arunD_kn 4 rfl (fun C hC => ?_)); (repeat ((conv => whnf); simp)); refine hC _ ?_; clear hC C; simp only [List.drop, Nat.reduceAdd]) | ((first | refine arun_kn 1 rfl (fun C hC => ?_) | refine arunD_kn 1 rfl (fun C hC => ?_)); (repeat ((conv => whnf); simp)); refine hC _ ?_; clear hC C; simp only [List.drop, Nat.reduceAdd]) | (refine arun_skip ?_ ?_; (focus (simp [awant]; done))) | (refine arun_c0 (Itoa0_AC k hk) ?_; rintro _ rfl) | (refine AW.regionK [] (fun K hK => ?_)) | (refine AW.regionDK [] (pcs [] []) (by kernel_rfl) (by kernel_rfl) (fun K hK => ?_)) | (refine AW.condT ?_ ?_; (focus (simp [aev]; done))) | (refine AW.condF ?_ ?_; (focus (simp [aev]; done))) | with_reducible refine AW.block ?_ | ((first | ((first | refine arun_nil ?_ | refine arunD_nil ?_); refine hK _ ?_; clear hK K) | refine AW.skip ?_ | refine AW.exit ?_ | refine AW.ret ?_); simp only [thenA_exit, inBlockA_exit, if_true, if_false, Nat.reduceEqDiff, thenA_normal, inBlockA_normal, reduceIte, thenA_ret, inBlockA_ret, endQ_ret, endR_ret, endG_ret, endQ_normal, endR_normal, endG_normal])))
  exact ⟨.str (txt (dig1 k)), by simp [ares, aresL], pur_str, rfl⟩
end Go.Proofs.YtfjaobfaepjfnaaDoor.Eng
namespace Go.Proofs.YtfjaobfaepjfnaaDoor.Eng
open Go Go.RowKit
def stp (kind : Int) (names : List ByteArray) (i : Nat) : ByteArray := if kind = 4 then (names[i]?).getD ⟨#[]⟩ else txt (dig1 i)
inductive Way : Nd → Prop where
  | mk (n : Nd) (h1 : n.kind = 4 → n.kids.length ≤ n.names.length) (h2 : n.kids.length ≤ 6) (h3 : ∀ k ∈ n.kids, Way k) : Way n
theorem Way.names {n : Nd} : Way n → n.kind = 4 → n.kids.length ≤ n.names.length | .mk _ h _ _ => h
theorem Way.kids {n : Nd} : Way n → n.kids.length ≤ 6 | .mk _ _ h _ => h
theorem Way.kid {n : Nd} : Way n → ∀ k ∈ n.kids, Way k | .mk _ _ _ h => h
end Go.Proofs.YtfjaobfaepjfnaaDoor.Eng
namespace Go.Proofs.YtfjaobfaepjfnaaDoor.Eng
open Go Go.RowKit
attribute [local simp] big size_mk ASt.pay Option.map_map Function.comp_def awant aop acall ado aev ofVal ofVal0 ASt.put ASt.add ASt.turn ASt.kill abox aalloc astore aload aloadD astoreD idOf ASt.at cellsTo afieldAddr afield aindexAddr aindex alen abin aint acmp astr aun apick aextract anil aslice abound abuild afill abuildSlice asCells aps avCells over upd aappend asrc amax amin aconv mkSt slots rowsOf_cons rowsOf_nil usedOf_cons usedOf_nil ZK.av List.replicate ASt.back ASt.addL ASt.killL nodeA nodeT nodeTL_eq nodeL_eq strsE_get strsE_len intsE_get intsE_len strsE_at intsE_at tab2 tab3 tab4 tab5 tab6 tab7 tab8 tab9 tab10 tab11 tab12 tab13 tab14 tab15 tab16 tab17 tab18 tab19 tab21 tab22 tab23 tab24 tab25 tab26 tab28 tab29 tab30 tab31 tab42 tab43 tab44 tab46 tab63 tab64 tab67 tab68 tab75 tab98 tab100 tab101 tab105 tab106 tab107 tab122 tab123 tab125 tab128 tab138 tab144 tab151 tab152 tab157 tab158 tab160 tab161 tab162
theorem AC.args {P : Program} {f : FuncId} {args args' : List AV} {c : Nat} {Post : AV → Prop} (h : AC P f args c Post) (hw : ∀ w ρ vs, RepL w ρ args' vs → RepL w ρ args vs) : AC P f args' c Post :=
  ⟨h.1, fun w L S rb k vs h0 h1 h2 h3 => h.2 w L S rb k vs h0 h1 h2 (hw w _ vs h3)⟩
theorem ACR.args {P : Program} {f : FuncId} {args args' : List AV} {c : Nat} {Post0 : AV → Prop} {Post : (Nat → AV) → Row → Prop} (h : ACR P f args c Post0 Post) (hw : ∀ w ρ vs, RepL w ρ args' vs → RepL w ρ args vs) : ACR P f args' c Post0 Post :=
  ⟨h.1, fun w L S rb k vs h0 h1 h2 h3 => h.2 w L S rb k vs h0 h1 h2 (hw w _ vs h3)⟩
theorem Less.hold {s : ASt} (id : Nat) : Less s (s.hold id) := fun _ _ _ _ _ _ _ _ hs => by
  obtain ⟨ρ', h, _⟩ := SR.held hs id
  exact ⟨ρ', h⟩
end Go.Proofs.YtfjaobfaepjfnaaDoor.Eng
namespace Go.Proofs.YtfjaobfaepjfnaaDoor.Eng
open Go Go.RowKit
inductive Dst : Nd → Prop where
  | mk (n : Nd) (h1 : ∀ i j, i < j → j < n.kids.length → stp n.kind n.names i ≠ stp n.kind n.names j) (h2 : ∀ k ∈ n.kids, Dst k) : Dst n
theorem Dst.step {n : Nd} : Dst n → ∀ i j, i < j → j < n.kids.length → stp n.kind n.names i ≠ stp n.kind n.names j | .mk _ h _ => h
theorem Dst.kid {n : Nd} : Dst n → ∀ k ∈ n.kids, Dst k | .mk _ _ h => h
end Go.Proofs.YtfjaobfaepjfnaaDoor.Eng
namespace Go.Proofs.YtfjaobfaepjfnaaDoor
open Go.RowKit
def pathB (p : List ByteArray) : Bool := decide (p.length ≤ 5) && p.all plainT
theorem allD_step {α : Type} {p : α → Bool} (xs : List α) (k : Nat) (h : k < xs.length) : (xs.drop k).all p = (p xs[k] && (xs.drop (k + 1)).all p) := by
  rw [drop_cons xs k h, List.all_cons]
theorem allD_end {α : Type} {p : α → Bool} (xs : List α) (k : Nat) (h : ¬ k < xs.length) : (xs.drop k).all p = true := by
  rw [List.drop_eq_nil_of_le (by omega)]; rfl
theorem isPath_ok (a : Option Addr) (c : Nat) (xs : List ByteArray) (w : World) (ha : StrsR w any a c xs) :
    Calls Tryd.prog 56 #[.slice a xs.length c] w fun e w' => e = .returned (.bool (pathB xs)) ∧ w = w' := by
  have hbig : xs.length ≤ 9223372036854775807 := ha.2.1
  have Ha := Lib.hid ha
  clear ha
  by_cases hl : 5 < xs.length
  · go_enter Tryd.func56, Tryd.ntmps56
    go_wp2
    go_ret
    exact ⟨by simp [pathB]; omega, rfl⟩
  · go_enter Tryd.func56, Tryd.ntmps56
    go_wp2
    go_loop [2, 4, 10] (fun n _ i => n = .bool false ∧ ∃ k : Nat, k ≤ xs.length ∧ i = .int .i64 k ∧ Hid (xs.all plainT = (xs.drop k).all plainT)) (fun _ _ i => xs.length - (intOf i).toNat)
    case atStart => exact ⟨rfl, 0, Nat.zero_le _, rfl, Lib.hid rfl⟩
    case round =>
      obtain ⟨rfl, k, hk, rfl, Hr⟩ := hrel
      by_cases hlt : k < xs.length
      · obtain ⟨_, _, hxs, ha4⟩ := Ha.out
        rcases ha4 with rfl | ⟨ba, oa, rfl, _, hca⟩
        · simp at hlt
        have hx := hca k hlt
        have hsz := hxs _ (List.getElem_mem hlt)
        have Hs := Lib.hid (allD_step (p := plainT) xs k hlt)
        clear hca Ha hxs
        cases hp : plainT xs[k]
        all_goals
          go_wp2_with (go_at_call 98; refine (isPlainText_ok _ _ hsz).mono ?_; rintro e w' ⟨rfl, rfl⟩)
        · go_ret
          exact ⟨by simp [pathB, Hr.out, Hs.out, hp], rfl⟩
        · go_round
          case rel => exact ⟨rfl, k + 1, by omega, by go_num, Lib.hid (by rw [Hr.out, Hs.out, hp, Bool.true_and])⟩
          case measure => simp [intOf]; omega
      · have Hs := Lib.hid (allD_end (p := plainT) xs k hlt)
        go_wp2
        go_ret
        exact ⟨by simp [pathB, Hr.out, Hs.out]; omega, rfl⟩
theorem validPath_ok (a : Option Addr) (c : Nat) (xs : List ByteArray) (w : World) (ha : StrsR w any a c xs) :
    Calls Tryd.prog 72 #[.slice a xs.length c] w fun e w' => e = .returned (.bool (pathB xs)) ∧ w = w' := by
  have hbig : xs.length ≤ 9223372036854775807 := ha.2.1
  have Ha := Lib.hid ha
  clear ha
  go_enter Tryd.func72, Tryd.ntmps72
  go_wp2
  go_loop [2, 3] (fun n i => n = .bool false ∧ ∃ k : Nat, k ≤ xs.length ∧ i = .int .i64 k ∧ Hid (xs.all plainT = (xs.drop k).all plainT)) (fun _ i => xs.length - (intOf i).toNat)
  case atStart => exact ⟨rfl, 0, Nat.zero_le _, rfl, Lib.hid rfl⟩
  case round =>
    obtain ⟨rfl, k, hk, rfl, Hr⟩ := hrel
    by_cases hlt : k < xs.length
    · obtain ⟨_, _, hxs, ha4⟩ := Ha.out
      rcases ha4 with rfl | ⟨ba, oa, rfl, _, hca⟩
      · simp at hlt
      have hx := hca k hlt
      have hsz := hxs _ (List.getElem_mem hlt)
      have Hs := Lib.hid (allD_step (p := plainT) xs k hlt)
      clear hca Ha hxs
      cases hp : plainT xs[k]
      all_goals
        go_wp2_with (go_at_call 106; refine (validText_ok _ _ hsz).mono ?_; rintro e w' ⟨rfl, rfl⟩)
      · go_ret
        exact ⟨by simp [pathB, Hr.out, Hs.out, hp], rfl⟩
      · go_round
        case rel => exact ⟨rfl, k + 1, by omega, by go_num, Lib.hid (by rw [Hr.out, Hs.out, hp, Bool.true_and])⟩
        case measure => simp [intOf]; omega
    · have Hs := Lib.hid (allD_end (p := plainT) xs k hlt)
      go_wp2
      go_ret
      exact ⟨by simp [pathB, Hr.out, Hs.out]; omega, rfl⟩
end Go.Proofs.YtfjaobfaepjfnaaDoor
namespace Go.Proofs.YtfjaobfaepjfnaaDoor.Eng
open Go Go.RowKit
theorem placeF_cases (n : Nd) (st : ByteArray) : ∀ f k, (placeF n st f k = -1 ∧ ∀ j, k ≤ j → j < k + f → hitP n st j = false) ∨ (∃ j, k ≤ j ∧ j < k + f ∧ placeF n st f k = (j : Int) ∧ hitP n st j = true)
  | 0, k => .inl ⟨rfl, fun j h1 h2 => by omega⟩
  | f + 1, k => by
    rw [placeF]
    cases hb : hitP n st k
    · rcases placeF_cases n st f (k + 1) with ⟨h1, h2⟩ | ⟨j, h1, h2, h3, h4⟩
      · refine .inl ⟨by simpa using h1, fun j h3 h4 => ?_⟩
        rcases Nat.eq_or_lt_of_le h3 with rfl | h5
        · exact hb
        · exact h2 j (by omega) (by omega)
      · exact .inr ⟨j, by omega, by omega, by simpa using h3, h4⟩
    · exact .inr ⟨k, Nat.le_refl _, by omega, by simp, hb⟩
theorem placeI_cases (n : Nd) (st : ByteArray) : (placeI n st = -1 ∧ ∀ j, j < n.kids.length → hitP n st j = false) ∨ (∃ j, j < n.kids.length ∧ placeI n st = (j : Int) ∧ hitP n st j = true) := by
  rcases placeF_cases n st n.kids.length 0 with ⟨h1, h2⟩ | ⟨j, h1, h2, h3, h4⟩
  · exact .inl ⟨h1, fun j hj => h2 j (Nat.zero_le _) (by omega)⟩
  · exact .inr ⟨j, by omega, h3, h4⟩
def Shp (n : Nd) : Prop := ∃ d, shapeB n d = true
theorem Shp.kid {n : Nd} (h : Shp n) {k : Nd} (hk : k ∈ n.kids) : Shp k := by
  obtain ⟨d, h⟩ := h
  rw [shapeB_eq] at h
  simp only [Bool.and_eq_true] at h
  exact ⟨d - 1, shapeL_mem h.2 k hk⟩
theorem Shp.parts {n : Nd} (h : Shp n) : partsB n = true := by
  obtain ⟨d, h⟩ := h
  rw [shapeB_eq] at h
  simp only [Bool.and_eq_true] at h
  exact h.1.2
theorem Shp.kids {n : Nd} (h : Shp n) : n.kids.length ≤ 6 := partsB_kids h.parts
theorem Shp.map {n : Nd} (h : Shp n) (h4 : n.kind = 4) : areNamesB n.names = true ∧ n.kids.length = n.names.length := by
  have hp := h.parts
  unfold partsB at hp
  simp only [Bool.and_eq_true] at hp
  have hp := hp.2
  rw [h4] at hp
  simp at hp
  exact hp
theorem Shp.leaf {n : Nd} (h : Shp n) (h4 : n.kind ≠ 4) (h3 : n.kind ≠ 3) : n.kids.length = 0 := by
  have hp := h.parts
  unfold partsB at hp
  simp only [Bool.and_eq_true] at hp
  have hp := hp.2
  split at hp
  · simpa using hp
  · split at hp
    · simp at hp; simp [hp]
    · split at hp
      · simp at hp; simp [hp]
      · simp [h3, h4] at hp
theorem Shp.asc {n : Nd} (h : Shp n) (h4 : n.kind = 4) : Asc n.names := by
  have := (h.map h4).1
  simp only [areNamesB, Bool.and_eq_true] at this
  exact namesB_asc this.2
theorem Shp.plc {n : Nd} (h : Shp n) : Plc n := ⟨fun h4 => by have := (h.map h4).2; omega, fun _ => by have := h.kids; omega⟩
theorem Shp.of {n : Nd} (h : validB n = true) : Shp n := by
  unfold validB at h
  rw [Bool.and_eq_true] at h
  exact ⟨5, h.1⟩
theorem Shp.sml {n : Nd} (h : Shp n) : Sml n := shape_sml n _ h.choose_spec
theorem lb_at {xs : List ByteArray} (ha : Asc xs) {j : Nat} (hj : j < xs.length) : lbound xs xs[j] = j :=
  lb_of (Nat.le_of_lt hj) (fun t ht htj => ha t j ht hj htj) (fun t ht hjt => by
    rcases Nat.eq_or_lt_of_le hjt with rfl | h
    · exact lt_irr _
    · exact bl_asymm _ _ (ha j t hj ht h))
theorem hit_map {n : Nd} {st : ByteArray} (h4 : n.kind = 4) {j : Nat} (hj : j < n.names.length) : hitP n st j = eqs n.names[j] st := by
  simp [hitP, h4, List.getElem?_eq_getElem hj]
theorem hit_list {n : Nd} {st : ByteArray} (h3 : n.kind = 3) {j : Nat} : hitP n st j = eqs (txt (dig1 j)) st := by
  simp [hitP, h3]
theorem place_map {n : Nd} (h : Shp n) (h4 : n.kind = 4) (st : ByteArray) : placeI n st = if mem n.names st then (lbound n.names st : Int) else -1 := by
  have hl := (h.map h4).2
  have ha := h.asc h4
  rcases placeI_cases n st with ⟨h1, h2⟩ | ⟨j, h1, h2, h3⟩
  · have : mem n.names st = false := mem_no (fun hm => by
      obtain ⟨i, hi, rfl⟩ := List.getElem_of_mem hm
      have := h2 i (by omega)
      rw [hit_map h4 hi, eqs_iff.2 rfl] at this
      cases this)
    rw [this, h1]; rfl
  · have hj : j < n.names.length := by omega
    rw [hit_map h4 hj, eqs_iff] at h3
    subst h3
    rw [lb_at ha hj, mem_iff.2 (List.getElem_mem hj), h2]; rfl
def kidI (n : Nd) (st : ByteArray) : Int := if n.kind = 4 then (lbound n.names st : Int) else if 0 ≤ placeI n st then placeI n st else 0
theorem kidI_eq {n : Nd} (h : Shp n) {st : ByteArray} (hp : 0 ≤ placeI n st) : kidI n st = placeI n st := by
  unfold kidI
  by_cases h4 : n.kind = 4
  · rw [if_pos h4]
    rw [place_map h h4] at hp ⊢
    split at hp
    · rename_i hm; rw [if_pos hm]
    · omega
  · rw [if_neg h4, if_pos hp]
theorem place_leaf {n : Nd} (h : Shp n) (h4 : n.kind ≠ 4) (h3 : n.kind ≠ 3) (st : ByteArray) : placeI n st = -1 := by
  unfold placeI; rw [h.leaf h4 h3]; rfl
def getS : Nd → List ByteArray → Option Nd
  | n, [] => some n
  | n, s :: p => if 0 ≤ placeI n s then getS ((n.kids[(placeI n s).toNat]?).getD Nd.zero) p else none
theorem getS_yes {n : Nd} {s : ByteArray} (p : List ByteArray) {k : Nat} (hk : k < n.kids.length) (h : placeI n s = (k : Int)) : getS n (s :: p) = getS n.kids[k] p := by
  rw [getS, h, if_pos (by omega)]
  simp [hk]
end Go.Proofs.YtfjaobfaepjfnaaDoor.Eng
namespace Go.Proofs.YtfjaobfaepjfnaaDoor.Eng
open Go Go.RowKit
attribute [local simp] big size_mk ASt.pay Option.map_map Function.comp_def awant aop acall ado aev ofVal ofVal0 ASt.put ASt.add ASt.turn ASt.kill abox aalloc astore aload aloadD astoreD idOf ASt.at cellsTo afieldAddr afield aindexAddr aindex alen abin aint acmp astr aun apick aextract anil aslice abound abuild afill abuildSlice asCells aps avCells over upd aappend asrc amax amin aconv mkSt slots rowsOf_cons rowsOf_nil usedOf_cons usedOf_nil ZK.av List.replicate ASt.back ASt.addL ASt.killL nodeA nodeT nodeTL_eq nodeL_eq strsE_get strsE_len intsE_get intsE_len strsE_at intsE_at tab2 tab3 tab4 tab5 tab6 tab7 tab8 tab9 tab10 tab11 tab12 tab13 tab14 tab15 tab16 tab17 tab18 tab19 tab21 tab22 tab23 tab24 tab25 tab26 tab28 tab29 tab30 tab31 tab42 tab43 tab44 tab46 tab63 tab64 tab67 tab68 tab75 tab98 tab100 tab101 tab105 tab106 tab107 tab122 tab123 tab125 tab128 tab138 tab144 tab151 tab152 tab157 tab158 tab160 tab161 tab162
theorem isPath_AC (p : List ByteArray) (t : VC) : AC Tryd.prog 56 [.view t 1 (strsE p)] 0 (fun r => r = .bool (pathB p)) := by
  refine AC.ofGrow (enters_of Tryd.func56 (by kernel_rfl) (by kernel_rfl)) (fun w L S rb vs h => ?_)
  obtain ⟨v, rfl, h1⟩ := repL1_inv h
  obtain ⟨a, c, rfl, h2⟩ := strs_of_rep h1
  refine (isPath_ok a c p w h2).mono ?_
  rintro e w' ⟨rfl, rfl⟩
  exact ⟨_, _, rfl, Ext.refl _ _, rep_bool.2 rfl, rfl⟩
theorem validPath_AC (p : List ByteArray) (t : VC) : AC Tryd.prog 72 [.view t 1 (strsE p)] 0 (fun r => r = .bool (pathB p)) := by
  refine AC.ofGrow (enters_of Tryd.func72 (by kernel_rfl) (by kernel_rfl)) (fun w L S rb vs h => ?_)
  obtain ⟨v, rfl, h1⟩ := repL1_inv h
  obtain ⟨a, c, rfl, h2⟩ := strs_of_rep h1
  refine (validPath_ok a c p w h2).mono ?_
  rintro e w' ⟨rfl, rfl⟩
  exact ⟨_, _, rfl, Ext.refl _ _, rep_bool.2 rfl, rfl⟩
theorem bsearch_AC (xs : List ByteArray) (s : ByteArray) (t : VC) (ha : Asc xs) (hl : xs.length ≤ 1000) : AC Tryd.prog 99 [.view t 1 (strsE xs), .str s] 0 (fun r => r = .tup [.int .i64 (lbound xs s : Nat), .bool (mem xs s)]) := by
  refine AC.ofGrow (enters_of Tryd.func99 (by kernel_rfl) (by kernel_rfl)) (fun w L S rb vs h => ?_)
  obtain ⟨v, u, rfl, h1, h2⟩ := repL2_inv h
  obtain ⟨a, c, rfl, h3⟩ := strs_of_rep h1
  rw [rep_str] at h2
  obtain ⟨rfl, _⟩ := h2
  refine (bsearch_ok a c xs s w h3 ha (by omega)).mono ?_
  rintro e w' ⟨rfl, hg⟩
  exact ⟨_, .tup [.int .i64 (lbound xs s : Nat), .bool (mem xs s)], rfl, hg, rep_tup.2 ⟨[_, _], rfl, repL2 (rep_int.2 rfl) (rep_bool.2 rfl)⟩, rfl⟩
theorem kidIndex_AC (n : Nd) (st : ByteArray) (h : Shp n) : AC Tryd.prog 59 [nodeA n, .str st] 0 (fun r => r = .tup [.int .i64 (kidI n st), .bool (decide (0 ≤ placeI n st))]) := by
  have h6 := h.kids
  unfold nodeA
  rw [nodeL_eq]
  refine AC.of tab_ok mixed_ok Tryd.func59 (by rfl) (by kernel_rfl) ?_; rintro ⟨P, T, hT, hm, w0, S0, rd0, k0⟩ hP hTT; dsimp only at hP hTT; subst hP hTT; unfold initSt; rw [Tryd.ntmps59]
  by_cases h4 : n.kind = 4
  · have hm := h.map h4
    have hp := place_map h h4 st
    have pb := bsearch_AC n.names st .loose (h.asc h4) (by omega)
    (repeat (first | with_reducible refine AW.seq ?_ | ((first | refine arun_kn 4 rfl (fun C hC => ?_) | refine arunD_kn 4 rfl (fun C hC => ?_)); (repeat ((conv => whnf); simp [h4])); refine hC _ ?_; clear hC C; simp only [List.drop, Nat.reduceAdd]) | ((first | refine arun_kn 1 rfl (fun C hC => ?_) | refine arunD_kn 1 rfl (fun C hC => ?_)); (repeat ((conv => whnf); simp [h4])); refine hC _ ?_; clear hC C; simp only [List.drop, Nat.reduceAdd]) | (refine arun_skip ?_ ?_; (focus (simp [awant, h4]; done))) | (refine arun_c0 (pb) ?_; rintro _ rfl) | (refine AW.regionK [] (fun K hK => ?_)) | (refine AW.regionDK [] (pcs [] []) (by kernel_rfl) (by kernel_rfl) (fun K hK => ?_)) | (refine AW.condT ?_ ?_; (focus (simp [aev, h4]; done))) | (refine AW.condF ?_ ?_; (focus (simp [aev, h4]; done))) | with_reducible refine AW.block ?_ | ((first | ((first | refine arun_nil ?_ | refine arunD_nil ?_); refine hK _ ?_; clear hK K) | refine AW.skip ?_ | refine AW.exit ?_ | refine AW.ret ?_); simp only [thenA_exit, inBlockA_exit, if_true, if_false, Nat.reduceEqDiff, thenA_normal, inBlockA_normal, reduceIte, thenA_ret, inBlockA_ret, endQ_ret, endR_ret, endG_ret, endQ_normal, endR_normal, endG_normal])))
    refine ⟨.tup [.int .i64 (lbound n.names st : Nat), .bool (mem n.names st)], by simp [ares, aresL], tup2_pur pur_int pur_bool, ?_⟩
    unfold kidI
    rw [if_pos h4, hp]
    cases mem n.names st <;> simp
  · by_cases h3 : n.kind = 3
    · have e4 : (n.kind == 4) = false := by simpa using h4
      (repeat (first | with_reducible refine AW.seq ?_ | ((first | refine arun_kn 4 rfl (fun C hC => ?_) | refine arunD_kn 4 rfl (fun C hC => ?_)); (repeat ((conv => whnf); simp [h3, e4])); refine hC _ ?_; clear hC C; simp only [List.drop, Nat.reduceAdd]) | ((first | refine arun_kn 1 rfl (fun C hC => ?_) | refine arunD_kn 1 rfl (fun C hC => ?_)); (repeat ((conv => whnf); simp [h3, e4])); refine hC _ ?_; clear hC C; simp only [List.drop, Nat.reduceAdd]) | (refine arun_skip ?_ ?_; (focus (simp [awant, h3, e4]; done))) | (refine AW.regionK [] (fun K hK => ?_)) | (refine AW.regionDK [] (pcs [] []) (by kernel_rfl) (by kernel_rfl) (fun K hK => ?_)) | (refine AW.condT ?_ ?_; (focus (simp [aev, h3, e4]; done))) | (refine AW.condF ?_ ?_; (focus (simp [aev, h3, e4]; done))) | with_reducible refine AW.block ?_ | ((first | ((first | refine arun_nil ?_ | refine arunD_nil ?_); refine hK _ ?_; clear hK K) | refine AW.skip ?_ | refine AW.exit ?_ | refine AW.ret ?_); simp only [thenA_exit, inBlockA_exit, if_true, if_false, Nat.reduceEqDiff, thenA_normal, inBlockA_normal, reduceIte, thenA_ret, inBlockA_ret, endQ_ret, endR_ret, endG_ret, endQ_normal, endR_normal, endG_normal])))
      refine AW.loopS (fun (i : Nat) => mkSt (slots 0 31 [(1, .str st), (2, .ptr true 5 1 2 0 0), (4, .int .i64 0), (5, .bool false), (21, .int .i64 n.kids.length), (22, .int .i64 i)]) [(2, ⟨true, 26, 5, [nodeL n]⟩)] [2] (rd0.map fun _ => 0)) (fun i => n.kids.length - i) (fun i => i ≤ n.kids.length ∧ placeI n st = placeF n st (n.kids.length - i) i) 0 ?_ ⟨Nat.zero_le _, rfl⟩ ?_
      · rw [nodeL_eq]
        exact (less_of (by simp [lessL, mkSt, slots, h3]) (by simp [upd, mkSt, rowsOf_cons, h3]) (by simp [upd, mkSt, usedOf_cons, h3]) (by first | exact rd_less (by omega) | simp [mkSt, h3]) (by simp [slots, in_any, in_int, in_bool, in_str, in_ptr, in_own, in_agg, in_vnil, in_rdr, usedOf_cons, usedOf_nil, strs_in, ints_in, nodes_in, in_tup, h3]) (by simp only [List.forall_mem_cons, List.not_mem_nil, false_implies, implies_true, and_true, true_and, h3]; (repeat (first | with_reducible exact trivial | with_reducible refine And.intro ?_ ?_ | with_reducible exact in_int | with_reducible exact in_str | with_reducible exact in_bool | with_reducible exact strs_in _ | with_reducible exact nodes_in _ | with_reducible exact items_in _ | with_reducible exact in_vnil | with_reducible exact in_any | exact hin _ | with_reducible refine take_in ?_ | with_reducible exact strsE_in _ | with_reducible exact nodesE_in _ | with_reducible exact nodeL_in _ | with_reducible exact itemsE_in _ | with_reducible exact itemL_in _ | with_reducible refine app_in ?_ ?_ | with_reducible refine sing_in ?_ | (focus (simp [in_any, in_int, in_bool, in_str, in_ptr, in_own, in_agg, in_vnil, in_rdr, usedOf_cons, usedOf_nil, strs_in, ints_in, nodes_in, h3]; done)))); done))
      · rintro i ⟨hi, hf⟩
        rw [nodeL_eq]
        by_cases hlt : i < n.kids.length
        · have hw : IntKind.i64.wrap ((i : Int) + 1) = (i : Int) + 1 := i64_nat (by omega) (by omega)
          have hsub : n.kids.length - i = (n.kids.length - (i + 1)) + 1 := by omega
          rw [hsub, placeF, hit_list h3] at hf
          cases hb : eqs (txt (dig1 i)) st
          · rw [hb] at hf
            (repeat (first | with_reducible refine AW.seq ?_ | ((first | refine arun_kn 4 rfl (fun C hC => ?_) | refine arunD_kn 4 rfl (fun C hC => ?_)); (repeat ((conv => whnf); simp [hlt, hw, hb])); refine hC _ ?_; clear hC C; simp only [List.drop, Nat.reduceAdd]) | ((first | refine arun_kn 1 rfl (fun C hC => ?_) | refine arunD_kn 1 rfl (fun C hC => ?_)); (repeat ((conv => whnf); simp [hlt, hw, hb])); refine hC _ ?_; clear hC C; simp only [List.drop, Nat.reduceAdd]) | (refine arun_skip ?_ ?_; (focus (simp [awant, hlt, hw, hb]; done))) | (refine arun_c0 (Itoa_AC i (by omega)) ?_; rintro _ rfl) | (refine AW.regionK [] (fun K hK => ?_)) | (refine AW.regionDK [] (pcs [] []) (by kernel_rfl) (by kernel_rfl) (fun K hK => ?_)) | (refine AW.condT ?_ ?_; (focus (simp [aev, hlt, hw, hb]; done))) | (refine AW.condF ?_ ?_; (focus (simp [aev, hlt, hw, hb]; done))) | with_reducible refine AW.block ?_ | ((first | ((first | refine arun_nil ?_ | refine arunD_nil ?_); refine hK _ ?_; clear hK K) | refine AW.skip ?_ | refine AW.exit ?_ | refine AW.ret ?_); simp only [thenA_exit, inBlockA_exit, if_true, if_false, Nat.reduceEqDiff, thenA_normal, inBlockA_normal, reduceIte, thenA_ret, inBlockA_ret, endQ_ret, endR_ret, endG_ret, endQ_normal, endR_normal, endG_normal])))
            exact ⟨i + 1, by omega, ⟨by omega, by simpa using hf⟩, (less_of (by simp [lessL, mkSt, slots, h3]) (by simp [upd, mkSt, rowsOf_cons, h3]) (by simp [upd, mkSt, usedOf_cons, h3]) (by first | exact rd_less (by omega) | simp [mkSt, h3]) (by simp [slots, in_any, in_int, in_bool, in_str, in_ptr, in_own, in_agg, in_vnil, in_rdr, usedOf_cons, usedOf_nil, strs_in, ints_in, nodes_in, in_tup, h3]) (by simp only [List.forall_mem_cons, List.not_mem_nil, false_implies, implies_true, and_true, true_and, h3]; (repeat (first | with_reducible exact trivial | with_reducible refine And.intro ?_ ?_ | with_reducible exact in_int | with_reducible exact in_str | with_reducible exact in_bool | with_reducible exact strs_in _ | with_reducible exact nodes_in _ | with_reducible exact items_in _ | with_reducible exact in_vnil | with_reducible exact in_any | exact hin _ | with_reducible refine take_in ?_ | with_reducible exact strsE_in _ | with_reducible exact nodesE_in _ | with_reducible exact nodeL_in _ | with_reducible exact itemsE_in _ | with_reducible exact itemL_in _ | with_reducible refine app_in ?_ ?_ | with_reducible refine sing_in ?_ | (focus (simp [in_any, in_int, in_bool, in_str, in_ptr, in_own, in_agg, in_vnil, in_rdr, usedOf_cons, usedOf_nil, strs_in, ints_in, nodes_in, h3]; done)))); done))⟩
          · rw [hb] at hf
            have hf' : placeI n st = (i : Int) := by simpa using hf
            (repeat (first | with_reducible refine AW.seq ?_ | ((first | refine arun_kn 4 rfl (fun C hC => ?_) | refine arunD_kn 4 rfl (fun C hC => ?_)); (repeat ((conv => whnf); simp [hlt, hw, hb])); refine hC _ ?_; clear hC C; simp only [List.drop, Nat.reduceAdd]) | ((first | refine arun_kn 1 rfl (fun C hC => ?_) | refine arunD_kn 1 rfl (fun C hC => ?_)); (repeat ((conv => whnf); simp [hlt, hw, hb])); refine hC _ ?_; clear hC C; simp only [List.drop, Nat.reduceAdd]) | (refine arun_skip ?_ ?_; (focus (simp [awant, hlt, hw, hb]; done))) | (refine arun_c0 (Itoa_AC i (by omega)) ?_; rintro _ rfl) | (refine AW.regionK [] (fun K hK => ?_)) | (refine AW.regionDK [] (pcs [] []) (by kernel_rfl) (by kernel_rfl) (fun K hK => ?_)) | (refine AW.condT ?_ ?_; (focus (simp [aev, hlt, hw, hb]; done))) | (refine AW.condF ?_ ?_; (focus (simp [aev, hlt, hw, hb]; done))) | with_reducible refine AW.block ?_ | ((first | ((first | refine arun_nil ?_ | refine arunD_nil ?_); refine hK _ ?_; clear hK K) | refine AW.skip ?_ | refine AW.exit ?_ | refine AW.ret ?_); simp only [thenA_exit, inBlockA_exit, if_true, if_false, Nat.reduceEqDiff, thenA_normal, inBlockA_normal, reduceIte, thenA_ret, inBlockA_ret, endQ_ret, endR_ret, endG_ret, endQ_normal, endR_normal, endG_normal])))
            refine ⟨.tup [.int .i64 i, .bool true], by simp [ares, aresL], tup2_pur pur_int pur_bool, ?_⟩
            unfold kidI
            rw [if_neg h4, hf', if_pos (by omega)]
            simp
        · have hz : n.kids.length - i = 0 := by omega
          rw [hz, placeF] at hf
          (repeat (first | with_reducible refine AW.seq ?_ | ((first | refine arun_kn 4 rfl (fun C hC => ?_) | refine arunD_kn 4 rfl (fun C hC => ?_)); (repeat ((conv => whnf); simp [hlt])); refine hC _ ?_; clear hC C; simp only [List.drop, Nat.reduceAdd]) | ((first | refine arun_kn 1 rfl (fun C hC => ?_) | refine arunD_kn 1 rfl (fun C hC => ?_)); (repeat ((conv => whnf); simp [hlt])); refine hC _ ?_; clear hC C; simp only [List.drop, Nat.reduceAdd]) | (refine arun_skip ?_ ?_; (focus (simp [awant, hlt]; done))) | (refine AW.regionK [] (fun K hK => ?_)) | (refine AW.regionDK [] (pcs [] []) (by kernel_rfl) (by kernel_rfl) (fun K hK => ?_)) | (refine AW.condT ?_ ?_; (focus (simp [aev, hlt]; done))) | (refine AW.condF ?_ ?_; (focus (simp [aev, hlt]; done))) | with_reducible refine AW.block ?_ | ((first | ((first | refine arun_nil ?_ | refine arunD_nil ?_); refine hK _ ?_; clear hK K) | refine AW.skip ?_ | refine AW.exit ?_ | refine AW.ret ?_); simp only [thenA_exit, inBlockA_exit, if_true, if_false, Nat.reduceEqDiff, thenA_normal, inBlockA_normal, reduceIte, thenA_ret, inBlockA_ret, endQ_ret, endR_ret, endG_ret, endQ_normal, endR_normal, endG_normal])))
          refine ⟨.tup [.int .i64 0, .bool false], by simp [ares, aresL], tup2_pur pur_int pur_bool, ?_⟩
          unfold kidI
          rw [if_neg h4, hf]
          simp
    · have e4 : (n.kind == 4) = false := by simpa using h4
      have e3 : (n.kind == 3) = false := by simpa using h3
      (repeat (first | with_reducible refine AW.seq ?_ | ((first | refine arun_kn 4 rfl (fun C hC => ?_) | refine arunD_kn 4 rfl (fun C hC => ?_)); (repeat ((conv => whnf); simp [e3, e4])); refine hC _ ?_; clear hC C; simp only [List.drop, Nat.reduceAdd]) | ((first | refine arun_kn 1 rfl (fun C hC => ?_) | refine arunD_kn 1 rfl (fun C hC => ?_)); (repeat ((conv => whnf); simp [e3, e4])); refine hC _ ?_; clear hC C; simp only [List.drop, Nat.reduceAdd]) | (refine arun_skip ?_ ?_; (focus (simp [awant, e3, e4]; done))) | (refine AW.regionK [] (fun K hK => ?_)) | (refine AW.regionDK [] (pcs [] []) (by kernel_rfl) (by kernel_rfl) (fun K hK => ?_)) | (refine AW.condT ?_ ?_; (focus (simp [aev, e3, e4]; done))) | (refine AW.condF ?_ ?_; (focus (simp [aev, e3, e4]; done))) | with_reducible refine AW.block ?_ | ((first | ((first | refine arun_nil ?_ | refine arunD_nil ?_); refine hK _ ?_; clear hK K) | refine AW.skip ?_ | refine AW.exit ?_ | refine AW.ret ?_); simp only [thenA_exit, inBlockA_exit, if_true, if_false, Nat.reduceEqDiff, thenA_normal, inBlockA_normal, reduceIte, thenA_ret, inBlockA_ret, endQ_ret, endR_ret, endG_ret, endQ_normal, endR_normal, endG_normal])))
      refine ⟨.tup [.int .i64 0, .bool false], by simp [ares, aresL], tup2_pur pur_int pur_bool, ?_⟩
      unfold kidI
      rw [if_neg h4, place_leaf h h4 h3]
      simp
def optA (o : Option Nd) : AV := .tup [nodeA (o.getD Nd.zero), .bool o.isSome]
theorem zero_wk : Wk (node0 0 0 ⟨#[]⟩) (nodeA Nd.zero) := by
  unfold node0 nodeA
  rw [nodeL_eq]
  exact Wk.agg (.cons (Wk.refl _) (.cons (Wk.refl _) (.cons (Wk.refl _) (.cons (Wk.nil (fun h => by cases h)) (.cons (Wk.nil (fun h => by cases h)) .nil)))))
theorem tup2_wk' {a b a' b' : AV} (h1 : Wk a a') (h2 : Wk b b') : Wk (.tup [a, b]) (.tup [a', b']) := Wk.tup (.cons h1 (.cons h2 .nil))
theorem none_end : Pur (.tup [node0 0 0 ⟨#[]⟩, .bool false]) ∧ Wk (.tup [node0 0 0 ⟨#[]⟩, .bool false]) (.tup [nodeA Nd.zero, .bool false]) := ⟨tup2_pur (node0_pur 0 0 ⟨#[]⟩) pur_bool, tup2_wk' zero_wk (Wk.refl _)⟩
theorem zeroA : nodeL Nd.zero = [.int .i64 0, .int .i64 0, .str ⟨#[]⟩, .view .loose 1 [], .view .loose 5 []] := by rw [nodeL_eq]; rfl
end Go.Proofs.YtfjaobfaepjfnaaDoor.Eng
namespace Go.Proofs.YtfjaobfaepjfnaaDoor.Eng
open Go Go.RowKit
def setK (n : Nd) (k : Nat) (v : Nd) : Nd := ⟨n.kind, n.num, n.text, n.names, n.kids.set k v⟩
def setS : Nd → List ByteArray → Nd → Option Nd
  | _, [], v => some v
  | n, s :: p, v => if 0 ≤ placeI n s then (setS ((n.kids[(placeI n s).toNat]?).getD Nd.zero) p v).map (setK n (placeI n s).toNat) else none
theorem setS_no {n v : Nd} {s : ByteArray} (p : List ByteArray) (h : placeI n s = -1) : setS n (s :: p) v = none := by
  rw [setS, if_neg (by omega)]
theorem setS_yes {n v : Nd} {s : ByteArray} (p : List ByteArray) {k : Nat} (hk : k < n.kids.length) (h : placeI n s = (k : Int)) : setS n (s :: p) v = (setS n.kids[k] p v).map (setK n k) := by
  rw [setS, h, if_pos (by omega)]
  simp [hk]
theorem setK_sml {n v : Nd} {k : Nat} (hn : Sml n) (hv : Sml v) : Sml (setK n k v) :=
  .mk _ hn.names (by simp only [setK, List.length_set]; exact hn.kids) (fun x hx => by
    rcases List.mem_or_eq_of_mem_set hx with h | rfl
    · exact hn.kid h
    · exact hv)
theorem setS_sml : ∀ (p : List ByteArray) (n v m : Nd), Shp n → Sml v → setS n p v = some m → Sml m
  | [], n, v, m, _, hv, h => by rw [setS] at h; cases h; exact hv
  | s :: p, n, v, m, hn, hv, h => by
    rcases placeI_cases n s with ⟨h1, _⟩ | ⟨k, h1, h2, _⟩
    · rw [setS_no p h1] at h; cases h
    · rw [setS_yes p h1 h2] at h
      obtain ⟨x, hx, rfl⟩ := Option.map_eq_some_iff.1 h
      exact setK_sml hn.sml (setS_sml p _ v x (hn.kid (List.getElem_mem h1)) hv hx)
structure Slt (n : Nd) : Prop where
  map : n.kind = 4 → n.names.length = n.kids.length
  lst : n.kind = 3 → n.kids.length ≤ 6
  sml : Sml n
theorem Slt.plc {n : Nd} (h : Slt n) : Plc n := ⟨fun h4 => by have := h.map h4; omega, fun h3 => by have := h.lst h3; omega⟩
end Go.Proofs.YtfjaobfaepjfnaaDoor.Eng
-- EV: fresh
namespace Go.Proofs.YtfjaobfaepjfnaaDoor.Eng
open Go Go.RowKit
attribute [local simp] big size_mk ASt.pay Option.map_map Function.comp_def awant aop acall ado aev ofVal ofVal0 ASt.put ASt.add ASt.turn ASt.kill abox aalloc astore aload aloadD astoreD idOf ASt.at cellsTo afieldAddr afield aindexAddr aindex alen abin aint acmp astr aun apick aextract anil aslice abound abuild afill abuildSlice asCells aps avCells over upd aappend asrc amax amin aconv mkSt slots rowsOf_cons rowsOf_nil usedOf_cons usedOf_nil ZK.av List.replicate ASt.back ASt.addL ASt.killL nodeA nodeT nodeTL_eq nodeL_eq strsE_get strsE_len intsE_get intsE_len strsE_at intsE_at tab2 tab3 tab4 tab5 tab6 tab7 tab8 tab9 tab10 tab11 tab12 tab13 tab14 tab15 tab16 tab17 tab18 tab19 tab21 tab22 tab23 tab24 tab25 tab26 tab28 tab29 tab30 tab31 tab42 tab43 tab44 tab46 tab63 tab64 tab67 tab68 tab75 tab98 tab100 tab101 tab105 tab106 tab107 tab122 tab123 tab125 tab128 tab138 tab144 tab151 tab152 tab157 tab158 tab160 tab161 tab162
def chgS : Nd → List ByteArray → (Nd → Option Nd) → Option Nd
  | n, [], g => g n
  | n, s :: p, g => if 0 ≤ placeI n s then (chgS ((n.kids[(placeI n s).toNat]?).getD Nd.zero) p g).map (setK n (placeI n s).toNat) else none
theorem chgS_no {n : Nd} {s : ByteArray} (p : List ByteArray) (g : Nd → Option Nd) (h : placeI n s = -1) : chgS n (s :: p) g = none := by
  rw [chgS, if_neg (by omega)]
theorem chgS_yes {n : Nd} {s : ByteArray} (p : List ByteArray) (g : Nd → Option Nd) {k : Nat} (hk : k < n.kids.length) (h : placeI n s = (k : Int)) : chgS n (s :: p) g = (chgS n.kids[k] p g).map (setK n k) := by
  rw [chgS, h, if_pos (by omega)]
  simp [hk]
theorem chgS_set : ∀ (p : List ByteArray) (n v : Nd), chgS n p (fun _ => some v) = setS n p v
  | [], n, v => by rw [chgS, setS]
  | s :: p, n, v => by
    rw [chgS, setS]
    split
    · rw [chgS_set p]
    · rfl
theorem cloL_mem : ∀ {l : List AV}, cloL l → ∀ x ∈ l, Clo x
  | [], _, x, hx => by cases hx
  | y :: l, h, x, hx => by
    rcases List.mem_cons.1 hx with rfl | hx
    · exact h.1
    · exact cloL_mem h.2 x hx
def rNBX (m : Nd) (b : Bool) (r : AV) : Prop := ∃ l : Lb, l.nd = m ∧ l.fp.Nodup ∧ r = .tup [.agg [.int .i64 l.kind, .int .i64 l.num, .str l.text, .view (.fr l.nb) 1 (strsE l.names), .view (.fr l.kb) 5 (l.kids.map labL)], .bool b]
theorem rNB_X {m : Nd} {b : Bool} {r : AV} (h : rNB m b r) : rNBX m b r := by
  obtain ⟨l, h1, h2, rfl⟩ := h
  exact ⟨l, h1, h2, by unfold labA; rw [labL_eq]⟩
theorem rNBX_ex (m : Nd) (b : Bool) {A : Nat → Prop} {N : Nat} (hN : ∀ b, A b → b < N) : ∃ r, (rNBX m b r ∧ ∀ b ∈ atB r, ¬ A b) ∧ NoId r := by
  obtain ⟨l, M, h1, h2, _, h4⟩ := lab_ex m N
  have hr : rNB m b (.tup [labA l, .bool b]) := ⟨l, h1, h2, rfl⟩
  exact ⟨_, ⟨rNB_X hr, fun b hb ha => by rw [at_tup2] at hb; have := (h4 b hb).1; have := hN b ha; omega⟩, in_tup.2 (by
    simp only [List.forall_mem_cons, List.not_mem_nil, false_implies, implies_true, and_true]
    exact ⟨lab_in l, in_bool⟩)⟩
theorem back_copyF {s : ASt} {n : Nd} {ks : List Lb} {A B : Nat} (hAB : A ≠ B) (uA : s.used A = false) (uB : s.used B = false) : Back s [] (fun _ => 0) (fun k => if k = 20 then A else B) [(20, namesR n.names), (34, labsR ks)] [(A, namesR n.names), (B, labsR ks)] (nodeRR n 20 34) (nodeRR n A B) := by
  refine ⟨?_, ?_, ?_, ?_⟩
  · intro k hk k' hk'
    simp only [List.map_cons, List.map_nil, List.mem_cons, List.not_mem_nil, or_false] at hk hk'
    rcases hk with rfl | rfl <;> rcases hk' with rfl | rfl <;> simp <;> intro h <;> first | exact absurd h hAB | exact absurd h.symm hAB
  · intro k R hk
    right
    show s.used (if k = 20 then A else B) = false
    split
    · exact uA
    · exact uB
  · exact .cons (es := (namesR n.names).es) rfl (.refl (strsE_pur _)) (.cons (es := (labsR ks).es) rfl (.refl (labsE_pur _)) .nil)
  · exact .base (.agg (.cons (.pur pur_int) (.cons (.pur pur_int) (.cons (.pur pur_str) (.cons (.own (by simp) rfl) (.cons (.own (by simp) rfl) .nil))))))
theorem fp_set {ks : List Lb} {l : Lb} (k : Nat) (h : (ks.flatMap Lb.fp).Nodup) (hl : l.fp.Nodup) (ha : ∀ b ∈ l.fp, ¬ b ∈ ks.flatMap Lb.fp) : ((ks.set k l).flatMap Lb.fp).Nodup := by
  induction ks generalizing k with
  | nil => simp
  | cons x ks ih =>
    rw [List.flatMap_cons] at h ha
    obtain ⟨h1, h2, h3⟩ := List.nodup_append.1 h
    cases k with
    | zero =>
      rw [List.set_cons_zero, List.flatMap_cons]
      exact List.nodup_append.2 ⟨hl, h2, fun a ha1 b hb e => ha a ha1 (List.mem_append_right _ (e ▸ hb))⟩
    | succ k =>
      rw [List.set_cons_succ, List.flatMap_cons]
      refine List.nodup_append.2 ⟨h1, ih k h2 (fun b hb hm => ha b hb (List.mem_append_right _ hm)), fun a ha1 b hb e => ?_⟩
      subst e
      obtain ⟨y, hy, hb⟩ := List.mem_flatMap.1 hb
      rcases List.mem_or_eq_of_mem_set hy with hy | hy
      · exact h3 a ha1 a (List.mem_flatMap.2 ⟨y, hy, hb⟩) rfl
      · exact ha a (hy ▸ hb) (List.mem_append_left _ ha1)
theorem fp_set_mem {ks : List Lb} {l : Lb} {k b : Nat} (h : b ∈ (ks.set k l).flatMap Lb.fp) : b ∈ ks.flatMap Lb.fp ∨ b ∈ l.fp := by
  obtain ⟨y, hy, hb⟩ := List.mem_flatMap.1 h
  rcases List.mem_or_eq_of_mem_set hy with hy | rfl
  · exact .inl (List.mem_flatMap.2 ⟨y, hy, hb⟩)
  · exact .inr hb
theorem changeAt_ACF (f : FuncId) (cs : List AV) (hcs : cloL cs) (hci : ∀ c ∈ cs, NoId c) (g : Nd → Option Nd) : ∀ (p : List ByteArray) (n : Nd) (t : VC), Shp n → (∀ m, getS n p = some m → ACF Tryd.prog f (nodeA m :: cs) 0 (rNB ((g m).getD Nd.zero) (g m).isSome)) →
    ACF Tryd.prog 57 [nodeA n, .view t 1 (strsE p), .fn f cs] 0 (rNB ((chgS n p g).getD Nd.zero) (chgS n p g).isSome)
  | [], n, t, hn, hg => by
    have hgn := (hg n rfl).mono (fun r h => rNB_X h)
    have hcn := node_clo n
    refine ACF.weak ?_
    unfold nodeA at hgn hcn ⊢
    rw [nodeL_eq] at hgn hcn ⊢
    refine ACF.of tab_ok mixed_ok Tryd.func57 (by rfl) (by kernel_rfl) ?_; rintro ⟨P, T, hT, hm, w0, S0, rd0, k0⟩ hP hTT hN; dsimp only at hP hTT hN; subst hP hTT; dsimp only; unfold initSt; rw [Tryd.ntmps57]
    (repeat (first | with_reducible refine AW.seq ?_ | ((first | refine arun_kn 4 rfl (fun C hC => ?_) | refine arunD_kn 4 rfl (fun C hC => ?_)); (repeat ((conv => whnf); simp [strsE_len])); refine hC _ ?_; clear hC C; simp only [List.drop, Nat.reduceAdd]) | ((first | refine arun_kn 1 rfl (fun C hC => ?_) | refine arunD_kn 1 rfl (fun C hC => ?_)); (repeat ((conv => whnf); simp [strsE_len])); refine hC _ ?_; clear hC C; simp only [List.drop, Nat.reduceAdd]) | (refine arun_skip ?_ ?_; (focus (simp [awant, strsE_len]; done))) | (refine AW.regionK [] (fun K hK => ?_)) | (refine AW.regionDK [] (pcs [] []) (by kernel_rfl) (by kernel_rfl) (fun K hK => ?_)) | (refine AW.condT ?_ ?_; (focus (simp [aev, strsE_len]; done))) | (refine AW.condF ?_ ?_; (focus (simp [aev, strsE_len]; done))) | with_reducible refine AW.block ?_ | ((first | ((first | refine arun_nil ?_ | refine arunD_nil ?_); refine hK _ ?_; clear hK K) | refine AW.skip ?_ | refine AW.exit ?_ | refine AW.ret ?_); simp only [thenA_exit, inBlockA_exit, if_true, if_false, Nat.reduceEqDiff, thenA_normal, inBlockA_normal, reduceIte, thenA_ret, inBlockA_ret, endQ_ret, endR_ret, endG_ret, endQ_normal, endR_normal, endG_normal, endF_ret, endF_normal])))
    refine arun_callFn rfl (by rfl) (by simp [awant]) (by simp [aev]) hgn ⟨hcn, hcs⟩ (can_of (Nat.le_refl _)) ?_
    rintro _ ⟨l, hl, hlp, rfl⟩ hA
    (repeat (first | with_reducible refine AW.seq ?_ | ((first | refine arun_kn 4 rfl (fun C hC => ?_) | refine arunD_kn 4 rfl (fun C hC => ?_)); (repeat ((conv => whnf); simp [strsE_len])); refine hC _ ?_; clear hC C; simp only [List.drop, Nat.reduceAdd]) | ((first | refine arun_kn 1 rfl (fun C hC => ?_) | refine arunD_kn 1 rfl (fun C hC => ?_)); (repeat ((conv => whnf); simp [strsE_len])); refine hC _ ?_; clear hC C; simp only [List.drop, Nat.reduceAdd]) | (refine arun_skip ?_ ?_; (focus (simp [awant, strsE_len]; done))) | (refine AW.regionK [] (fun K hK => ?_)) | (refine AW.regionDK [] (pcs [] []) (by kernel_rfl) (by kernel_rfl) (fun K hK => ?_)) | (refine AW.condT ?_ ?_; (focus (simp [aev, strsE_len]; done))) | (refine AW.condF ?_ ?_; (focus (simp [aev, strsE_len]; done))) | with_reducible refine AW.block ?_ | ((first | ((first | refine arun_nil ?_ | refine arunD_nil ?_); refine hK _ ?_; clear hK K) | refine AW.skip ?_ | refine AW.exit ?_ | refine AW.ret ?_); simp only [thenA_exit, inBlockA_exit, if_true, if_false, Nat.reduceEqDiff, thenA_normal, inBlockA_normal, reduceIte, thenA_ret, inBlockA_ret, endQ_ret, endR_ret, endG_ret, endQ_normal, endR_normal, endG_normal, endF_ret, endF_normal])))
    have hA' : ∀ b ∈ l.fp, ¬ w0.A b := fun b hb => hA b (by rw [at_tup, atL_cons, at_agg, ← labL_eq]; exact List.mem_append_left _ hb)
    rw [chgS]
    exact ⟨.tup [labA l, .bool (g n).isSome], by simp [labA, labL_eq, ares, aresL, upd, rowsOf_cons], tup2_pur (lab_pur l) pur_bool, fun b hb => by rw [at_tup2] at hb; exact hN.ge (hA' b hb), _, Wk.refl _, fun _ h => h, l, hl, hlp, rfl⟩
  | s :: q, n, t, hn, hg => by
    have e1 : strsE (s :: q) = [.str s] :: strsE q := rfl
    have pk := kidIndex_AC n s hn
    have hki := kidI_eq (st := s) hn
    have hcf : Clo (.fn f cs) := clo_fn (cloL_mem hcs)
    have p5 := implCopyF_ACM n hn.sml
    have hcn := node_clo n
    refine ACF.weak ?_
    unfold nodeA at pk p5 hcn ⊢
    rw [nodeL_eq] at pk p5 hcn ⊢
    rw [e1]
    have hlz : ((q.length + 1 : Nat) : Int) ≠ 0 := by omega
    have htk : (strsE q).take q.length = strsE q := List.take_of_length_le (by rw [strsE_len]; exact Nat.le_refl _)
    have hlo1 : ¬ (q.length : Int) + 1 < 1 := by omega
    have hlo2 : 1 ≤ q.length + 1 := by omega
    have hlo3 : (1 : Int) ≤ (q.length : Int) + 1 := by omega
    have hlz' : (((q.length : Int) + 1) == 0) = false := beq_false_of_ne (by omega)
    refine ACF.of tab_ok mixed_ok Tryd.func57 (by rfl) (by kernel_rfl) ?_; rintro ⟨P, T, hT, hm, w0, S0, rd0, k0⟩ hP hTT hN; dsimp only at hP hTT hN; subst hP hTT; dsimp only; unfold initSt; rw [Tryd.ntmps57]
    rcases placeI_cases n s with ⟨h1, _⟩ | ⟨k, h1, h2, _⟩
    · have hd : decide (0 ≤ placeI n s) = false := by rw [h1]; rfl
      rw [hd] at pk
      rw [chgS_no q g h1]
      generalize kidI n s = ki at pk
      (repeat (first | with_reducible refine AW.seq ?_ | ((first | refine arun_kn 4 rfl (fun C hC => ?_) | refine arunD_kn 4 rfl (fun C hC => ?_)); (repeat ((conv => whnf); simp [strsE_len, hlz, hlz'])); refine hC _ ?_; clear hC C; simp only [List.drop, Nat.reduceAdd]) | ((first | refine arun_kn 1 rfl (fun C hC => ?_) | refine arunD_kn 1 rfl (fun C hC => ?_)); (repeat ((conv => whnf); simp [strsE_len, hlz, hlz'])); refine hC _ ?_; clear hC C; simp only [List.drop, Nat.reduceAdd]) | (refine arun_skip ?_ ?_; (focus (simp [awant, strsE_len, hlz, hlz']; done))) | (refine arun_c0 (pk) ?_; rintro _ rfl) | (refine arunD_c (0) (pk) ?_; rintro _ rfl; intro _) | (refine AW.regionK [] (fun K hK => ?_)) | (refine AW.regionDK [] (pcs [(4, 0, fun r => r = .tup [.int .i64 ki, .bool false])] []) (by kernel_rfl) (by kernel_rfl) (fun K hK => ?_)) | (refine AW.condT ?_ ?_; (focus (simp [aev, strsE_len, hlz, hlz']; done))) | (refine AW.condF ?_ ?_; (focus (simp [aev, strsE_len, hlz, hlz']; done))) | with_reducible refine AW.block ?_ | ((first | ((first | refine arun_nil ?_ | refine arunD_nil ?_); refine hK _ ?_; clear hK K) | refine AW.skip ?_ | refine AW.exit ?_ | refine AW.ret ?_); simp only [thenA_exit, inBlockA_exit, if_true, if_false, Nat.reduceEqDiff, thenA_normal, inBlockA_normal, reduceIte, thenA_ret, inBlockA_ret, endQ_ret, endR_ret, endG_ret, endQ_normal, endR_normal, endG_normal, endF_ret, endF_normal])))
      obtain ⟨z1, z2, z3⟩ := rNB_none (r := .tup [node0 0 0 ⟨#[]⟩, .bool false]) rfl
      exact ⟨.tup [node0 0 0 ⟨#[]⟩, .bool false], by simp [node0, ares, aresL, upd, rowsOf_cons], z1, z2 _, z3⟩
    · have hd : decide (0 ≤ placeI n s) = true := by rw [h2]; simp
      rw [hd, hki (by omega), h2] at pk
      rw [chgS_yes q g h1 h2]
      have hk0 : ¬ ((k : Int) < 0) := by omega
      have hkid := hn.kid (List.getElem_mem h1)
      have ih := (changeAt_ACF f cs hcs hci g q n.kids[k] t.cut hkid (fun m hm => hg m (by rw [getS_yes q h1 h2]; exact hm))).mono (fun r h => rNB_X h)
      unfold nodeA at ih
      rw [nodeL_eq] at ih
      generalize chgS n.kids[k] q g = o at ih ⊢
      obtain ⟨bb, hbb⟩ : ∃ bb, bb = o.isSome := ⟨_, rfl⟩
      rw [← hbb] at ih
      refine AW.bound (fun N hNb => ?_)
      (repeat (first | with_reducible refine AW.seq ?_ | ((first | refine arun_kn 4 rfl (fun C hC => ?_) | refine arunD_kn 4 rfl (fun C hC => ?_)); (repeat ((conv => whnf); simp [strsE_len, hlz, hlz', h1, hk0, hlo1, hlo2, hlo3, htk])); refine hC _ ?_; clear hC C; simp only [List.drop, Nat.reduceAdd]) | ((first | refine arun_kn 1 rfl (fun C hC => ?_) | refine arunD_kn 1 rfl (fun C hC => ?_)); (repeat ((conv => whnf); simp [strsE_len, hlz, hlz', h1, hk0, hlo1, hlo2, hlo3, htk])); refine hC _ ?_; clear hC C; simp only [List.drop, Nat.reduceAdd]) | (refine arun_skip ?_ ?_; (focus (simp [awant, strsE_len, hlz, hlz', h1, hk0, hlo1, hlo2, hlo3, htk]; done))) | (refine arun_c0 (pk) ?_; rintro _ rfl) | (refine arun_cF (0) (ih) ?_; (rintro _ ⟨l, hl, hlp, rfl⟩ hA)) | (refine arunD_c (0) (pk) ?_; rintro _ rfl; intro _) | (refine arunD_cF (0) (ih) (by exact rNBX_ex _ _ hNb) ?_; (rintro _ ⟨l, hl, hlp, rfl⟩ hA); intro _) | (refine AW.regionK [] (fun K hK => ?_)) | (refine AW.regionDK [] (pcs [(4, 0, fun r => r = .tup [.int .i64 (k : Int), .bool true]), (8, 0, fun r => rNBX (o.getD Nd.zero) bb r ∧ ∀ b ∈ atB r, ¬ w0.A b)] []) (by kernel_rfl) (by kernel_rfl) (fun K hK => ?_)) | (refine AW.condT ?_ ?_; (focus (simp [aev, strsE_len, hlz, hlz', h1, hk0, hlo1, hlo2, hlo3, htk]; done))) | (refine AW.condF ?_ ?_; (focus (simp [aev, strsE_len, hlz, hlz', h1, hk0, hlo1, hlo2, hlo3, htk]; done))) | with_reducible refine AW.block ?_ | ((first | ((first | refine arun_nil ?_ | refine arunD_nil ?_); refine hK _ ?_; clear hK K) | refine AW.skip ?_ | refine AW.exit ?_ | refine AW.ret ?_); simp only [thenA_exit, inBlockA_exit, if_true, if_false, Nat.reduceEqDiff, thenA_normal, inBlockA_normal, reduceIte, thenA_ret, inBlockA_ret, endQ_ret, endR_ret, endG_ret, endQ_normal, endR_normal, endG_normal, endF_ret, endF_normal])))
      cases o with
      | none =>
        rw [Option.isSome_none] at hbb
        subst hbb
        (repeat (first | with_reducible refine AW.seq ?_ | ((first | refine arun_kn 4 rfl (fun C hC => ?_) | refine arunD_kn 4 rfl (fun C hC => ?_)); (repeat ((conv => whnf); simp)); refine hC _ ?_; clear hC C; simp only [List.drop, Nat.reduceAdd]) | ((first | refine arun_kn 1 rfl (fun C hC => ?_) | refine arunD_kn 1 rfl (fun C hC => ?_)); (repeat ((conv => whnf); simp)); refine hC _ ?_; clear hC C; simp only [List.drop, Nat.reduceAdd]) | (refine arun_skip ?_ ?_; (focus (simp [awant]; done))) | (refine AW.regionK [] (fun K hK => ?_)) | (refine AW.regionDK [] (pcs [] []) (by kernel_rfl) (by kernel_rfl) (fun K hK => ?_)) | (refine AW.condT ?_ ?_; (focus (simp [aev]; done))) | (refine AW.condF ?_ ?_; (focus (simp [aev]; done))) | with_reducible refine AW.block ?_ | ((first | ((first | refine arun_nil ?_ | refine arunD_nil ?_); refine hK _ ?_; clear hK K) | refine AW.skip ?_ | refine AW.exit ?_ | refine AW.ret ?_); simp only [thenA_exit, inBlockA_exit, if_true, if_false, Nat.reduceEqDiff, thenA_normal, inBlockA_normal, reduceIte, thenA_ret, inBlockA_ret, endQ_ret, endR_ret, endG_ret, endQ_normal, endR_normal, endG_normal, endF_ret, endF_normal])))
        obtain ⟨z1, z2, z3⟩ := rNB_none (r := .tup [node0 0 0 ⟨#[]⟩, .bool false]) rfl
        exact ⟨.tup [node0 0 0 ⟨#[]⟩, .bool false], by simp [node0, ares, aresL, upd, rowsOf_cons], z1, z2 _, z3⟩
      | some m =>
        rw [Option.isSome_some] at hbb
        subst hbb
        have hA' : ∀ b ∈ l.fp, ¬ w0.A b := fun b hb => hA b (by rw [at_tup, atL_cons, at_agg, ← labL_eq]; exact List.mem_append_left _ hb)
        (repeat (first | with_reducible refine AW.seq ?_ | ((first | refine arun_kn 4 rfl (fun C hC => ?_) | refine arunD_kn 4 rfl (fun C hC => ?_)); (repeat ((conv => whnf); simp)); refine hC _ ?_; clear hC C; simp only [List.drop, Nat.reduceAdd]) | ((first | refine arun_kn 1 rfl (fun C hC => ?_) | refine arunD_kn 1 rfl (fun C hC => ?_)); (repeat ((conv => whnf); simp)); refine hC _ ?_; clear hC C; simp only [List.drop, Nat.reduceAdd]) | (refine arun_skip ?_ ?_; (focus (simp [awant]; done))) | (refine AW.condT ?_ ?_; (focus (simp [aev]; done))) | (refine AW.condF ?_ ?_; (focus (simp [aev]; done))) | with_reducible refine AW.block ?_ | ((first | ((first | refine arun_nil ?_ | refine arunD_nil ?_); refine hK _ ?_; clear hK K) | refine AW.skip ?_ | refine AW.exit ?_ | refine AW.ret ?_); simp only [thenA_exit, inBlockA_exit, if_true, if_false, Nat.reduceEqDiff, thenA_normal, inBlockA_normal, reduceIte, thenA_ret, inBlockA_ret, endQ_ret, endR_ret, endG_ret, endQ_normal, endR_normal, endG_normal, endF_ret, endF_normal])))
        refine AW.noteR 10 (r := ⟨true, 26, 5, [[.int .i64 l.kind, .int .i64 l.num, .str l.text, .view (.fr l.nb) 1 (strsE l.names), .view (.fr l.kb) 5 (l.kids.map labL)]]⟩) (by simp [upd, rowsOf_cons]) ?_
        refine AW.regionK [] (fun K hK => ?_)
        (repeat (first | with_reducible refine AW.seq ?_ | ((first | refine arun_kn 4 rfl (fun C hC => ?_) | refine arunD_kn 4 rfl (fun C hC => ?_)); (repeat ((conv => whnf); simp)); refine hC _ ?_; clear hC C; simp only [List.drop, Nat.reduceAdd]) | ((first | refine arun_kn 1 rfl (fun C hC => ?_) | refine arunD_kn 1 rfl (fun C hC => ?_)); (repeat ((conv => whnf); simp)); refine hC _ ?_; clear hC C; simp only [List.drop, Nat.reduceAdd]) | (refine arun_skip ?_ ?_; (focus (simp [awant]; done))) | (refine AW.regionK [] (fun K hK => ?_)) | (refine AW.regionDK [] (pcs [] []) (by kernel_rfl) (by kernel_rfl) (fun K hK => ?_)) | (refine AW.condT ?_ ?_; (focus (simp [aev]; done))) | (refine AW.condF ?_ ?_; (focus (simp [aev]; done))) | with_reducible refine AW.block ?_ | ((first | ((first | refine arun_nil ?_ | refine arunD_nil ?_); refine hK _ ?_; clear hK K) | refine AW.skip ?_ | refine AW.exit ?_ | refine AW.ret ?_); simp only [thenA_exit, inBlockA_exit, if_true, if_false, Nat.reduceEqDiff, thenA_normal, inBlockA_normal, reduceIte, thenA_ret, inBlockA_ret, endQ_ret, endR_ret, endG_ret, endQ_normal, endR_normal, endG_normal, endF_ret, endF_normal])))
        refine arun_callM (hw := by simp [awant]) (ha := rfl) p5 (hargs := .cons (.base (.clo hcn.cloTo)) .nil) (hcan := can_of (Nat.le_refl _)) ?_
        rintro r l' ⟨ks, hks, hkn, rfl, rfl⟩ hA2
        refine ⟨_, _, _, back_copyF (A := 100) (B := 101) (by decide) (by simp [usedOf_cons, usedOf_nil, upd]) (by simp [usedOf_cons, usedOf_nil, upd]), ?_⟩
        have hlk : ks.length = n.kids.length := by rw [← hks, List.length_map]
        have hA3 : ∀ b ∈ l.fp, ¬ b ∈ ks.flatMap Lb.fp := fun b hb hm => hA2 b (.inr ⟨(34, labsR ks), by simp, by rw [show (labsR ks).es = ks.map labL from rfl, atE_labs]; exact hm⟩) (.inr (by rw [atE_cons, atE_nil, List.append_nil, ← labL_eq]; exact hb))
        have hA4 : ∀ b ∈ ks.flatMap Lb.fp, w0.wd.heap.size ≤ b := fun b hb => hN.ge (fun h => hA2 b (.inr ⟨(34, labsR ks), by simp, by rw [show (labsR ks).es = ks.map labL from rfl, atE_labs]; exact hb⟩) (.inl h))
        (repeat (first | with_reducible refine AW.seq ?_ | ((first | refine arun_kn 4 rfl (fun C hC => ?_) | refine arunD_kn 4 rfl (fun C hC => ?_)); (repeat ((conv => whnf); simp [nodeRR])); refine hC _ ?_; clear hC C; simp only [List.drop, Nat.reduceAdd]) | ((first | refine arun_kn 1 rfl (fun C hC => ?_) | refine arunD_kn 1 rfl (fun C hC => ?_)); (repeat ((conv => whnf); simp [nodeRR])); refine hC _ ?_; clear hC C; simp only [List.drop, Nat.reduceAdd]) | (refine arun_skip ?_ ?_; (focus (simp [awant, nodeRR]; done))) | (refine AW.condT ?_ ?_; (focus (simp [aev, nodeRR]; done))) | (refine AW.condF ?_ ?_; (focus (simp [aev, nodeRR]; done))) | with_reducible refine AW.block ?_ | ((first | ((first | refine arun_nil ?_ | refine arunD_nil ?_); refine hK _ ?_; clear hK K) | refine AW.skip ?_ | refine AW.exit ?_ | refine AW.ret ?_); simp only [thenA_exit, inBlockA_exit, if_true, if_false, Nat.reduceEqDiff, thenA_normal, inBlockA_normal, reduceIte, thenA_ret, inBlockA_ret, endQ_ret, endR_ret, endG_ret, endQ_normal, endR_normal, endG_normal, endF_ret, endF_normal])))
        refine AW.regionK [] (fun K hK => ?_)
        obtain ⟨ks', hks'⟩ : ∃ ks', ks' = ks.set k l := ⟨_, rfl⟩
        have hset : (ks.map labL).set k [.int .i64 l.kind, .int .i64 l.num, .str l.text, .view (.fr l.nb) 1 (strsE l.names), .view (.fr l.kb) 5 (l.kids.map labL)] = ks'.map labL := by rw [hks', List.map_set, labL_eq l]
        have hlk2 : ks'.length = n.kids.length := by rw [hks', List.length_set, hlk]
        have hdr : ∀ x : Lb, (labL x).drop 5 = [] := fun x => List.drop_of_length_le (by rw [labL_len]; exact Nat.le_refl _)
        (repeat (first | with_reducible refine AW.seq ?_ | ((first | refine arun_kn 4 rfl (fun C hC => ?_) | refine arunD_kn 4 rfl (fun C hC => ?_)); (repeat ((conv => whnf); simp [hlk, h1, hk0, labsR, namesR, hlo1, hdr, hset])); refine hC _ ?_; clear hC C; simp only [List.drop, Nat.reduceAdd]) | ((first | refine arun_kn 1 rfl (fun C hC => ?_) | refine arunD_kn 1 rfl (fun C hC => ?_)); (repeat ((conv => whnf); simp [hlk, h1, hk0, labsR, namesR, hlo1, hdr, hset])); refine hC _ ?_; clear hC C; simp only [List.drop, Nat.reduceAdd]) | (refine arun_skip ?_ ?_; (focus (simp [awant, hlk, h1, hk0, labsR, namesR, hlo1, hdr, hset]; done))) | (refine AW.condT ?_ ?_; (focus (simp [aev, hlk, h1, hk0, labsR, namesR, hlo1, hdr, hset]; done))) | (refine AW.condF ?_ ?_; (focus (simp [aev, hlk, h1, hk0, labsR, namesR, hlo1, hdr, hset]; done))) | with_reducible refine AW.block ?_ | ((first | ((first | refine arun_nil ?_ | refine arunD_nil ?_); refine hK _ ?_; clear hK K) | refine AW.skip ?_ | refine AW.exit ?_ | refine AW.ret ?_); simp only [thenA_exit, inBlockA_exit, if_true, if_false, Nat.reduceEqDiff, thenA_normal, inBlockA_normal, reduceIte, thenA_ret, inBlockA_ret, endQ_ret, endR_ret, endG_ret, endQ_normal, endR_normal, endG_normal, endF_ret, endF_normal])))
        refine AW.holdF 100 hN (fun g1 hg1 ht1 hr1 => ?_)
        have f1 := hr1 101 ⟨false, 26, 5, ks'.map labL⟩ (by simp [hset, upd, rowsOf_cons])
        refine AW.holdF 101 hN (fun g2 hg2 ht2 hr2 => ?_)
        have f2 := hr2 101 ⟨false, 26, 5, ks'.map labL⟩ (by simp [hset, ASt.holdF, rowsOf_cons, upd, Row.sub, labsE_sub]; exact fun a _ => labL_sub a)
        have f3 := hr2 11 ⟨true, 26, 5, [[.int .i64 n.kind, .int .i64 n.num, .str n.text, .view (.fr g1) 1 (strsE n.names), .own 101 n.kids.length]]⟩ (by simp [ASt.holdF, rowsOf_cons, upd, AV.subL, AV.sub, Row.sub, strsE_len])
        clear ht1 hr1 ht2 hr2
        (repeat (first | with_reducible refine AW.seq ?_ | ((first | refine arun_kn 4 rfl (fun C hC => ?_) | refine arunD_kn 4 rfl (fun C hC => ?_)); (repeat ((conv => whnf); simp [hset, ASt.holdF, AV.subL, AV.sub, Row.sub, rowsOf_cons, upd, labsE_sub, strsE_len, hlk2, hlk])); refine hC _ ?_; clear hC C; simp only [List.drop, Nat.reduceAdd]) | ((first | refine arun_kn 1 rfl (fun C hC => ?_) | refine arunD_kn 1 rfl (fun C hC => ?_)); (repeat ((conv => whnf); simp [hset, ASt.holdF, AV.subL, AV.sub, Row.sub, rowsOf_cons, upd, labsE_sub, strsE_len, hlk2, hlk])); refine hC _ ?_; clear hC C; simp only [List.drop, Nat.reduceAdd]) | (refine arun_skip ?_ ?_; (focus (simp [awant, hset, ASt.holdF, AV.subL, AV.sub, Row.sub, rowsOf_cons, upd, labsE_sub, strsE_len, hlk2, hlk]; done))) | (refine AW.regionK [] (fun K hK => ?_)) | (refine AW.regionDK [] (pcs [] []) (by kernel_rfl) (by kernel_rfl) (fun K hK => ?_)) | (refine AW.condT ?_ ?_; (focus (simp [aev, hset, ASt.holdF, AV.subL, AV.sub, Row.sub, rowsOf_cons, upd, labsE_sub, strsE_len, hlk2, hlk]; done))) | (refine AW.condF ?_ ?_; (focus (simp [aev, hset, ASt.holdF, AV.subL, AV.sub, Row.sub, rowsOf_cons, upd, labsE_sub, strsE_len, hlk2, hlk]; done))) | with_reducible refine AW.block ?_ | ((first | ((first | refine arun_nil ?_ | refine arunD_nil ?_); refine hK _ ?_; clear hK K) | refine AW.skip ?_ | refine AW.exit ?_ | refine AW.ret ?_); simp only [thenA_exit, inBlockA_exit, if_true, if_false, Nat.reduceEqDiff, thenA_normal, inBlockA_normal, reduceIte, thenA_ret, inBlockA_ret, endQ_ret, endR_ret, endG_ret, endQ_normal, endR_normal, endG_normal, endF_ret, endF_normal])))
        rw [atE_labs] at f1 f2
        refine ⟨.tup [labA ⟨n.kind, n.num, n.text, n.names, g1, ks', g2⟩, .bool true], by unfold labA; rw [labL_eq]; simp [ares, aresL, upd, rowsOf_cons, labL_sub], tup2_pur (lab_pur _) pur_bool, fun b hb => ?_, _, Wk.refl _, fun _ h => h, ⟨_, _, _, _, _, _, _⟩, ?_, fp_nodup (by dsimp only; rw [hks']; exact fp_set k hkn hlp hA3) f1 f2 (fun h1 _ => f3 g1 ?_), rfl⟩
        · rw [at_tup2] at hb
          refine fp_ge (l := ⟨n.kind, n.num, n.text, n.names, g1, ks', g2⟩) (fun b hb => ?_) hg1 hg2 b hb
          rw [hks'] at hb
          rcases fp_set_mem hb with hb | hb
          · exact hA4 b hb
          · exact hN.ge (hA' b hb)
        · rw [nd_eq]; dsimp only; rw [hks', List.map_set, hks, hl]; rfl
        · dsimp only at h1
          have : (strsE n.names).isEmpty = false := by unfold strsE; cases hh : n.names with | nil => exact absurd hh h1 | cons _ _ => rfl
          simp [atE_cons, atE_nil, atL_cons, atL_nil, at_int, at_str, at_own, at_view, frB_fr, this]
end Go.Proofs.YtfjaobfaepjfnaaDoor.Eng
-- EV: rows
namespace Go.Proofs.YtfjaobfaepjfnaaDoor.Eng
open Go Go.RowKit
attribute [local simp] big size_mk ASt.pay Option.map_map Function.comp_def awant aop acall ado aev ofVal ofVal0 ASt.put ASt.add ASt.turn ASt.kill abox aalloc astore aload aloadD astoreD idOf ASt.at cellsTo afieldAddr afield aindexAddr aindex alen abin aint acmp astr aun apick aextract anil aslice abound abuild afill abuildSlice asCells aps avCells over upd aappend asrc amax amin aconv mkSt slots rowsOf_cons rowsOf_nil usedOf_cons usedOf_nil ZK.av List.replicate ASt.back ASt.addL ASt.killL nodeA nodeT nodeTL_eq nodeL_eq strsE_get strsE_len intsE_get intsE_len strsE_at intsE_at nodeN namesRow nodeO kidsRow tab2 tab3 tab4 tab5 tab6 tab7 tab8 tab9 tab10 tab11 tab12 tab13 tab14 tab15 tab16 tab17 tab18 tab19 tab21 tab22 tab23 tab24 tab25 tab26 tab28 tab29 tab30 tab31 tab42 tab43 tab44 tab46 tab63 tab64 tab67 tab68 tab75 tab98 tab100 tab101 tab105 tab106 tab107 tab122 tab123 tab125 tab128 tab138 tab144 tab151 tab152 tab157 tab158 tab160 tab161 tab162
theorem nodeO_res (n : Nd) (id0 : Nat) : Res1 id0 (nodeO n) := Res1.agg [fun _ => .int .i64 n.kind, fun _ => .int .i64 n.num, fun _ => .str n.text, fun _ => .view .loose 1 (strsE n.names), fun id => .own id n.kids.length] (by
  simp only [List.forall_mem_cons, List.not_mem_nil, false_implies, implies_true, and_true]
  exact ⟨Res1.pur _ pur_int, Res1.pur _ pur_int, Res1.pur _ pur_str, Res1.pur _ (strs_pur _ (by decide)), Res1.own _ _⟩)
theorem optA_in (o : Option Nd) : NoId (optA o) := by
  unfold optA NoId
  have h := node_in (U := fun _ => false) (o.getD Nd.zero)
  unfold nodeA at h
  rw [nodeL_eq] at h
  simp [in_tup, in_bool]
  exact h
def optL (o : Option Nd) : AV := .tup [.agg [.int .i64 (o.getD Nd.zero).kind, .int .i64 (o.getD Nd.zero).num, .str (o.getD Nd.zero).text, .view .loose 1 (strsE (o.getD Nd.zero).names), .view .loose 5 ((o.getD Nd.zero).kids.map nodeL)], .bool o.isSome]
theorem optA_eq (o : Option Nd) : optA o = optL o := by unfold optA optL nodeA; rw [nodeL_eq]
theorem optA_pur (o : Option Nd) : Pur (optA o) := tup2_pur (node_pur _) pur_bool
theorem optN_in : NoId (.tup [.agg [.int .i64 0, .int .i64 0, .str ⟨#[]⟩, .view .loose 1 [], .view .loose 5 []], .bool false]) := by
  have h := optA_in none
  unfold optA nodeA at h
  rw [show nodeL ((none : Option Nd).getD Nd.zero) = nodeL Nd.zero from rfl, zeroA] at h
  exact h
theorem optS_in (m : Nd) : NoId (.tup [.agg [.int .i64 m.kind, .int .i64 m.num, .str m.text, .view .loose 1 (strsE m.names), .view .loose 5 (m.kids.map nodeL)], .bool true]) := by
  have h := optA_in (some m)
  unfold optA nodeA at h
  rw [show nodeL ((some m : Option Nd).getD Nd.zero) = nodeL m from rfl, nodeL_eq] at h
  exact h
theorem kids_set (n v : Nd) (k : Nat) : (setK n k v).kids.map nodeL = (n.kids.map nodeL).set k (nodeL v) := by simp [setK, List.map_set]
theorem withKid_ACR (n v : Nd) (k : Nat) (hn : Sml n) (hv : Sml v) (hk : k < n.kids.length) : ACR Tryd.prog 108 [nodeA n, .int .i64 k, nodeA v] 0 (fun _ => False) (fun f R => f = nodeO (setK n k v) ∧ R = kidsRow (setK n k v)) := by
  unfold nodeA
  rw [nodeL_eq n, nodeL_eq v]
  refine ACR.of tab_ok mixed_ok Tryd.func108 (by rfl) (by kernel_rfl) ?_; rintro ⟨P, T, hT, hm, w0, S0, rd0, k0⟩ hP hTT; dsimp only at hP hTT; subst hP hTT; unfold initSt; rw [Tryd.ntmps108]
  (repeat (first | with_reducible refine AW.seq ?_ | ((first | refine arun_kn 4 rfl (fun C hC => ?_) | refine arunD_kn 4 rfl (fun C hC => ?_)); (repeat ((conv => whnf); simp [hk])); refine hC _ ?_; clear hC C; simp only [List.drop, Nat.reduceAdd]) | ((first | refine arun_kn 1 rfl (fun C hC => ?_) | refine arunD_kn 1 rfl (fun C hC => ?_)); (repeat ((conv => whnf); simp [hk])); refine hC _ ?_; clear hC C; simp only [List.drop, Nat.reduceAdd]) | (refine arun_skip ?_ ?_; (focus (simp [awant, hk]; done))) | (refine arun_cR (0) 30 (copyNode_ACR n hn .loose) ?_; (rintro _ _ ⟨rfl, rfl⟩; unfold nodeO kidsRow)) | (refine arun_c0 (copyNode_AC v hv .loose) ?_; rintro _ rfl) | (refine arunD_c (0) (copyNode_AC v hv .loose) ?_; rintro _ rfl; intro _) | (refine AW.regionK [] (fun K hK => ?_)) | (refine AW.regionDK [] (pcs [(4, 0, fun r => r = nodeA v)] []) (by kernel_rfl) (by kernel_rfl) (fun K hK => ?_)) | (refine AW.condT ?_ ?_; (focus (simp [aev, hk]; done))) | (refine AW.condF ?_ ?_; (focus (simp [aev, hk]; done))) | with_reducible refine AW.block ?_ | ((first | ((first | refine arun_nil ?_ | refine arunD_nil ?_); refine hK _ ?_; clear hK K) | refine AW.skip ?_ | refine AW.exit ?_ | refine AW.ret ?_); simp only [thenA_exit, inBlockA_exit, if_true, if_false, Nat.reduceEqDiff, thenA_normal, inBlockA_normal, reduceIte, thenA_ret, inBlockA_ret, endQ_ret, endR_ret, endG_ret, endQ_normal, endR_normal, endG_normal])))
  exact ⟨nodeO (setK n k v) 30, by simp [nodeO, setK, ares, aresL, upd, rowsOf_cons], .inr ⟨nodeO (setK n k v), 30, kidsRow (setK n k v), rfl, by unfold kidsRow; rw [kids_set]; simp [upd, kidsRow, nodeL_eq], nodeO_res _ 30, nodesE_pur _, rfl, rfl⟩⟩
theorem withKid_AC (n v : Nd) (k : Nat) (hn : Sml n) (hv : Sml v) (hk : k < n.kids.length) : AC Tryd.prog 108 [nodeA n, .int .i64 k, nodeA v] 0 (fun r => r = nodeA (setK n k v)) := by
  refine (AC.ofR (withKid_ACR n v k hn hv hk) ?_).mono ?_
  · rintro r R ⟨rfl, rfl⟩
    rw [nodeO_sub]
    exact node_in _
  · rintro r (h | ⟨f, R, ⟨rfl, rfl⟩, rfl⟩)
    · exact h.elim
    · exact nodeO_sub _
theorem setAt_AC (t' : VC) : ∀ (p : List ByteArray) (n v : Nd) (t : VC), Shp n → Sml v → AC Tryd.prog 78 [nodeA n, .view t 1 (strsE p), nodeT t' v] 0 (fun r => r = optA (setS n p v))
  | [], n, v, t, hn, hv => by
    have p1 := copyNode_AC v hv t'
    refine AC.weak ?_
    unfold nodeA
    unfold nodeT at p1 ⊢
    rw [nodeTL_eq] at p1 ⊢
    rw [nodeL_eq]
    refine AC.of tab_ok mixed_ok Tryd.func78 (by rfl) (by kernel_rfl) ?_; rintro ⟨P, T, hT, hm, w0, S0, rd0, k0⟩ hP hTT; dsimp only at hP hTT; subst hP hTT; unfold initSt; rw [Tryd.ntmps78]
    (repeat (first | with_reducible refine AW.seq ?_ | ((first | refine arun_kn 4 rfl (fun C hC => ?_) | refine arunD_kn 4 rfl (fun C hC => ?_)); (repeat ((conv => whnf); simp [strsE_len])); refine hC _ ?_; clear hC C; simp only [List.drop, Nat.reduceAdd]) | ((first | refine arun_kn 1 rfl (fun C hC => ?_) | refine arunD_kn 1 rfl (fun C hC => ?_)); (repeat ((conv => whnf); simp [strsE_len])); refine hC _ ?_; clear hC C; simp only [List.drop, Nat.reduceAdd]) | (refine arun_skip ?_ ?_; (focus (simp [awant, strsE_len]; done))) | (refine arun_c0 (p1) ?_; rintro _ rfl) | (refine AW.regionK [] (fun K hK => ?_)) | (refine AW.regionDK [] (pcs [] []) (by kernel_rfl) (by kernel_rfl) (fun K hK => ?_)) | (refine AW.condT ?_ ?_; (focus (simp [aev, strsE_len]; done))) | (refine AW.condF ?_ ?_; (focus (simp [aev, strsE_len]; done))) | with_reducible refine AW.block ?_ | ((first | ((first | refine arun_nil ?_ | refine arunD_nil ?_); refine hK _ ?_; clear hK K) | refine AW.skip ?_ | refine AW.exit ?_ | refine AW.ret ?_); simp only [thenA_exit, inBlockA_exit, if_true, if_false, Nat.reduceEqDiff, thenA_normal, inBlockA_normal, reduceIte, thenA_ret, inBlockA_ret, endQ_ret, endR_ret, endG_ret, endQ_normal, endR_normal, endG_normal])))
    exact ⟨.tup [nodeA v, .bool true], by simp [ares, aresL, upd, rowsOf_cons], tup2_pur (node_pur v) pur_bool, _, Wk.refl _, rfl⟩
  | s :: q, n, v, t, hn, hv => by
    have e1 : strsE (s :: q) = [.str s] :: strsE q := rfl
    have pk := place_ok .loose n s hn.plc
    refine AC.weak ?_
    unfold nodeT at pk
    rw [nodeTL_eq] at pk
    unfold nodeA nodeT
    rw [nodeL_eq, nodeTL_eq, e1]
    have hlz : ((q.length + 1 : Nat) : Int) ≠ 0 := by omega
    have htk : (strsE q).take q.length = strsE q := List.take_of_length_le (by rw [strsE_len]; exact Nat.le_refl _)
    have hlo1 : ¬ (q.length : Int) + 1 < 1 := by omega
    have hlo2 : 1 ≤ q.length + 1 := by omega
    have hlo3 : (1 : Int) ≤ (q.length : Int) + 1 := by omega
    have hlz' : (((q.length : Int) + 1) == 0) = false := beq_false_of_ne (by omega)
    refine AC.of tab_ok mixed_ok Tryd.func78 (by rfl) (by kernel_rfl) ?_; rintro ⟨P, T, hT, hm, w0, S0, rd0, k0⟩ hP hTT; dsimp only at hP hTT; subst hP hTT; unfold initSt; rw [Tryd.ntmps78]
    rcases placeI_cases n s with ⟨h1, _⟩ | ⟨k, h1, h2, _⟩
    · rw [h1] at pk
      rw [setS_no q h1]
      (repeat (first | with_reducible refine AW.seq ?_ | ((first | refine arun_kn 4 rfl (fun C hC => ?_) | refine arunD_kn 4 rfl (fun C hC => ?_)); (repeat ((conv => whnf); simp [strsE_len, hlz, hlz'])); refine hC _ ?_; clear hC C; simp only [List.drop, Nat.reduceAdd]) | ((first | refine arun_kn 1 rfl (fun C hC => ?_) | refine arunD_kn 1 rfl (fun C hC => ?_)); (repeat ((conv => whnf); simp [strsE_len, hlz, hlz'])); refine hC _ ?_; clear hC C; simp only [List.drop, Nat.reduceAdd]) | (refine arun_skip ?_ ?_; (focus (simp [awant, strsE_len, hlz, hlz']; done))) | (refine arun_c0 (pk) ?_; rintro _ rfl) | (refine arunD_c (0) (pk) ?_; rintro _ rfl; intro _) | (refine AW.regionK [] (fun K hK => ?_)) | (refine AW.regionDK [] (pcs [(4, 0, fun r => r = .int .i64 (-1))] []) (by kernel_rfl) (by kernel_rfl) (fun K hK => ?_)) | (refine AW.condT ?_ ?_; (focus (simp [aev, strsE_len, hlz, hlz']; done))) | (refine AW.condF ?_ ?_; (focus (simp [aev, strsE_len, hlz, hlz']; done))) | with_reducible refine AW.block ?_ | ((first | ((first | refine arun_nil ?_ | refine arunD_nil ?_); refine hK _ ?_; clear hK K) | refine AW.skip ?_ | refine AW.exit ?_ | refine AW.ret ?_); simp only [thenA_exit, inBlockA_exit, if_true, if_false, Nat.reduceEqDiff, thenA_normal, inBlockA_normal, reduceIte, thenA_ret, inBlockA_ret, endQ_ret, endR_ret, endG_ret, endQ_normal, endR_normal, endG_normal])))
      refine ⟨.tup [node0 0 0 ⟨#[]⟩, .bool false], by simp [node0, ares, aresL, upd, rowsOf_cons], none_end.1, _, none_end.2, rfl⟩
    · rw [h2] at pk
      rw [setS_yes q h1 h2]
      have hk0 : ¬ ((k : Int) < 0) := by omega
      have hkid := hn.kid (List.getElem_mem h1)
      have ih := setAt_AC t' q n.kids[k] v t.cut hkid hv
      cases hg : setS n.kids[k] q v with
      | none =>
        rw [hg] at ih
        unfold optA nodeT nodeA at ih
        have hz : nodeL ((none : Option Nd).getD Nd.zero) = nodeL Nd.zero := rfl
        rw [hz, zeroA, nodeTL_eq, nodeL_eq, Option.isSome_none] at ih
        (repeat (first | with_reducible refine AW.seq ?_ | ((first | refine arun_kn 4 rfl (fun C hC => ?_) | refine arunD_kn 4 rfl (fun C hC => ?_)); (repeat ((conv => whnf); simp [strsE_len, hlz, hlz', h1, hk0, hlo1, hlo2, hlo3, htk])); refine hC _ ?_; clear hC C; simp only [List.drop, Nat.reduceAdd]) | ((first | refine arun_kn 1 rfl (fun C hC => ?_) | refine arunD_kn 1 rfl (fun C hC => ?_)); (repeat ((conv => whnf); simp [strsE_len, hlz, hlz', h1, hk0, hlo1, hlo2, hlo3, htk])); refine hC _ ?_; clear hC C; simp only [List.drop, Nat.reduceAdd]) | (refine arun_skip ?_ ?_; (focus (simp [awant, strsE_len, hlz, hlz', h1, hk0, hlo1, hlo2, hlo3, htk]; done))) | (refine arun_c0 (pk) ?_; rintro _ rfl) | (refine arun_c0 (ih) ?_; rintro _ rfl) | (refine arunD_c (0) (pk) ?_; rintro _ rfl; intro _) | (refine arunD_cE (0) (ih) (by exact ⟨_, rfl, optN_in⟩) ?_; rintro _ rfl; intro _) | (refine AW.regionK [] (fun K hK => ?_)) | (refine AW.regionDK [] (pcs [(4, 0, fun r => r = .int .i64 (k : Int)), (8, 0, fun r => r = .tup [.agg [.int .i64 0, .int .i64 0, .str ⟨#[]⟩, .view .loose 1 [], .view .loose 5 []], .bool false])] []) (by kernel_rfl) (by kernel_rfl) (fun K hK => ?_)) | (refine AW.condT ?_ ?_; (focus (simp [aev, strsE_len, hlz, hlz', h1, hk0, hlo1, hlo2, hlo3, htk]; done))) | (refine AW.condF ?_ ?_; (focus (simp [aev, strsE_len, hlz, hlz', h1, hk0, hlo1, hlo2, hlo3, htk]; done))) | with_reducible refine AW.block ?_ | ((first | ((first | refine arun_nil ?_ | refine arunD_nil ?_); refine hK _ ?_; clear hK K) | refine AW.skip ?_ | refine AW.exit ?_ | refine AW.ret ?_); simp only [thenA_exit, inBlockA_exit, if_true, if_false, Nat.reduceEqDiff, thenA_normal, inBlockA_normal, reduceIte, thenA_ret, inBlockA_ret, endQ_ret, endR_ret, endG_ret, endQ_normal, endR_normal, endG_normal])))
        refine ⟨.tup [node0 0 0 ⟨#[]⟩, .bool false], by simp [node0, ares, aresL, upd, rowsOf_cons], none_end.1, _, none_end.2, rfl⟩
      | some m =>
        rw [hg] at ih
        have hm := setS_sml _ _ _ _ hkid hv hg
        have pw := withKid_AC n m k hn.sml hm h1
        unfold optA nodeT nodeA at ih
        unfold nodeA at pw
        have hz : nodeL ((some m : Option Nd).getD Nd.zero) = nodeL m := rfl
        rw [hz, nodeTL_eq, nodeL_eq n.kids[k], nodeL_eq m, Option.isSome_some] at ih
        rw [nodeL_eq n, nodeL_eq m] at pw
        (repeat (first | with_reducible refine AW.seq ?_ | ((first | refine arun_kn 4 rfl (fun C hC => ?_) | refine arunD_kn 4 rfl (fun C hC => ?_)); (repeat ((conv => whnf); simp [strsE_len, hlz, hlz', h1, hk0, hlo1, hlo2, hlo3, htk])); refine hC _ ?_; clear hC C; simp only [List.drop, Nat.reduceAdd]) | ((first | refine arun_kn 1 rfl (fun C hC => ?_) | refine arunD_kn 1 rfl (fun C hC => ?_)); (repeat ((conv => whnf); simp [strsE_len, hlz, hlz', h1, hk0, hlo1, hlo2, hlo3, htk])); refine hC _ ?_; clear hC C; simp only [List.drop, Nat.reduceAdd]) | (refine arun_skip ?_ ?_; (focus (simp [awant, strsE_len, hlz, hlz', h1, hk0, hlo1, hlo2, hlo3, htk]; done))) | (refine arun_c0 (pk) ?_; rintro _ rfl) | (refine arun_c0 (ih) ?_; rintro _ rfl) | (refine arun_c0 (pw) ?_; rintro _ rfl) | (refine arunD_c (0) (pk) ?_; rintro _ rfl; intro _) | (refine arunD_cE (0) (ih) (by exact ⟨_, rfl, optS_in m⟩) ?_; rintro _ rfl; intro _) | (refine arunD_c (0) (pw) ?_; rintro _ rfl; intro _) | (refine AW.regionK [] (fun K hK => ?_)) | (refine AW.regionDK [] (pcs [(4, 0, fun r => r = .int .i64 (k : Int)), (8, 0, fun r => r = .tup [.agg [.int .i64 m.kind, .int .i64 m.num, .str m.text, .view .loose 1 (strsE m.names), .view .loose 5 (m.kids.map nodeL)], .bool true])] []) (by kernel_rfl) (by kernel_rfl) (fun K hK => ?_)) | (refine AW.condT ?_ ?_; (focus (simp [aev, strsE_len, hlz, hlz', h1, hk0, hlo1, hlo2, hlo3, htk]; done))) | (refine AW.condF ?_ ?_; (focus (simp [aev, strsE_len, hlz, hlz', h1, hk0, hlo1, hlo2, hlo3, htk]; done))) | with_reducible refine AW.block ?_ | ((first | ((first | refine arun_nil ?_ | refine arunD_nil ?_); refine hK _ ?_; clear hK K) | refine AW.skip ?_ | refine AW.exit ?_ | refine AW.ret ?_); simp only [thenA_exit, inBlockA_exit, if_true, if_false, Nat.reduceEqDiff, thenA_normal, inBlockA_normal, reduceIte, thenA_ret, inBlockA_ret, endQ_ret, endR_ret, endG_ret, endQ_normal, endR_normal, endG_normal])))
        exact ⟨.tup [nodeA (setK n k m), .bool true], by simp [setK, ares, aresL, upd, rowsOf_cons], tup2_pur (node_pur _) pur_bool, _, Wk.refl _, rfl⟩
end Go.Proofs.YtfjaobfaepjfnaaDoor.Eng
-- EV: rows
namespace Go.Proofs.YtfjaobfaepjfnaaDoor.Eng
open Go Go.RowKit
attribute [local simp] big size_mk ASt.pay Option.map_map Function.comp_def awant aop acall ado aev ofVal ofVal0 ASt.put ASt.add ASt.turn ASt.kill abox aalloc astore aload aloadD astoreD idOf ASt.at cellsTo afieldAddr afield aindexAddr aindex alen abin aint acmp astr aun apick aextract anil aslice abound abuild afill abuildSlice asCells aps avCells over upd aappend asrc amax amin aconv mkSt slots rowsOf_cons rowsOf_nil usedOf_cons usedOf_nil ZK.av List.replicate ASt.back ASt.addL ASt.killL nodeA nodeT nodeTL_eq nodeL_eq strsE_get strsE_len intsE_get intsE_len strsE_at intsE_at nodeN namesRow nodeO kidsRow tab2 tab3 tab4 tab5 tab6 tab7 tab8 tab9 tab10 tab11 tab12 tab13 tab14 tab15 tab16 tab17 tab18 tab19 tab21 tab22 tab23 tab24 tab25 tab26 tab28 tab29 tab30 tab31 tab42 tab43 tab44 tab46 tab63 tab64 tab67 tab68 tab75 tab98 tab100 tab101 tab105 tab106 tab107 tab122 tab123 tab125 tab128 tab138 tab144 tab151 tab152 tab157 tab158 tab160 tab161 tab162
end Go.Proofs.YtfjaobfaepjfnaaDoor.Eng
namespace Go.Proofs.YtfjaobfaepjfnaaDoor
open Go Go.RowKit
def Row0 (w : World) (g : Nat) (L : List Value) (e : TypeId) : Prop := Hid (w.heap[g]? = some (.cells L.toArray e (0, 0)))
theorem Row0.out {w : World} {g : Nat} {L : List Value} {e : TypeId} (h : Row0 w g L e) : w.heap[g]? = some (.cells L.toArray e (0, 0)) := h
theorem Row0.lt {w : World} {g : Nat} {L : List Value} {e : TypeId} (h : Row0 w g L e) : g < w.heap.size := (Array.getElem?_eq_some_iff.1 h.out).1
theorem Row0.ext {X : Nat → Prop} {w w' : World} {g : Nat} {L : List Value} {e : TypeId} (h : Row0 w g L e) (hx : Ext X w w') (hg : ¬ X g) : Row0 w' g L e := by
  show w'.heap[g]? = _
  rw [hx.block g h.lt hg]; exact h
theorem Row0.cell {w : World} {g : Nat} {L : List Value} {e : TypeId} (h : Row0 w g L e) {j : Nat} {v : Value} (hj : L[j]? = some v) : w.cell? ⟨g, j, none⟩ = some v := by
  unfold World.cell?
  rw [h.out]
  simpa using hj
variable {P : Program}
theorem Row0.set {w : World} {g : Nat} {L L' : List Value} {e : TypeId} (h : Row0 w g L e) : Row0 (w.setRow g L'.toArray) g L' e := setRow_heap w g _ _ e _ h.out
end Go.Proofs.YtfjaobfaepjfnaaDoor
namespace Go.Proofs.YtfjaobfaepjfnaaDoor
open Go Go.RowKit Go.Proofs.YtfjaobfaepjfnaaDoor.Eng
end Go.Proofs.YtfjaobfaepjfnaaDoor
namespace Go.Proofs.YtfjaobfaepjfnaaDoor
open Go Go.RowKit Go.Proofs.YtfjaobfaepjfnaaDoor.Eng
end Go.Proofs.YtfjaobfaepjfnaaDoor
