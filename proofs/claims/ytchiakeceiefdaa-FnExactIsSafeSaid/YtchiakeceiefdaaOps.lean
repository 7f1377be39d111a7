/-
  Operations and requests, and the walks of what makes them valid.
-/
import Derived.Test.YtchiakeceiefdaaTags
import Derived.Test.YtchiakeceiefdaaSpecNode
namespace Go.Proofs.Ytchiakeceiefdaa
open Go.RowKit

/-- An operation, told by itself. -/
structure Opn where
  kind : Int
  path : List ByteArray
  frm : List ByteArray
  val : Nd

def opV (o : Opn) (pa : Option Addr) (pc : Nat) (fa : Option Addr) (fc : Nat) (na : Option Addr) (nc : Nat) (ka : Option Addr) (kc : Nat) : Value :=
  .agg #[.int .i64 o.kind, .slice pa o.path.length pc, .slice fa o.frm.length fc, .int .i64 o.val.kind, .int .i64 o.val.num, .string o.val.text, .slice na o.val.names.length nc, .slice ka o.val.kids.length kc]
def OpC (w : World) (S : Nat → Prop) (o : Opn) (pa : Option Addr) (pc : Nat) (fa : Option Addr) (fc : Nat) (na : Option Addr) (nc : Nat) (ka : Option Addr) (kc : Nat) : Prop :=
  StrsR w S pa pc o.path ∧ StrsR w S fa fc o.frm ∧ NodeC w S o.val na nc ka kc
def OpR (w : World) (S : Nat → Prop) (o : Opn) (v : Value) : Prop := ∃ pa pc fa fc na nc ka kc, v = opV o pa pc fa fc na nc ka kc ∧ OpC w S o pa pc fa fc na nc ka kc

/-- A slice of operations. -/
def OpsR (w : World) (S : Nat → Prop) (a : Option Addr) (c : Nat) (l : List Opn) : Prop :=
  l.length ≤ c ∧ l.length ≤ big ∧ (l = [] ∨ ∃ b o, a = some ⟨b, o, none⟩ ∧ S b ∧ ∀ i (h : i < l.length), ∃ pa pc fa fc na nc ka kc,
    w.cell? ⟨b, o + i * 8, none⟩ = some (.int .i64 l[i].kind) ∧ w.cell? ⟨b, o + i * 8 + 1, none⟩ = some (.slice pa l[i].path.length pc) ∧ w.cell? ⟨b, o + i * 8 + 2, none⟩ = some (.slice fa l[i].frm.length fc) ∧
    w.cell? ⟨b, o + i * 8 + 3, none⟩ = some (.int .i64 l[i].val.kind) ∧ w.cell? ⟨b, o + i * 8 + 4, none⟩ = some (.int .i64 l[i].val.num) ∧ w.cell? ⟨b, o + i * 8 + 5, none⟩ = some (.string l[i].val.text) ∧
    w.cell? ⟨b, o + i * 8 + 6, none⟩ = some (.slice na l[i].val.names.length nc) ∧ w.cell? ⟨b, o + i * 8 + 7, none⟩ = some (.slice ka l[i].val.kids.length kc) ∧ OpC w S l[i] pa pc fa fc na nc ka kc)

theorem OpC.ext {X S : Nat → Prop} {w w' : World} (h : Ext X w w') (hS : ∀ k, S k → ¬ X k) {o : Opn} {pa : Option Addr} {pc : Nat} {fa : Option Addr} {fc : Nat} {na : Option Addr} {nc : Nat} {ka : Option Addr} {kc : Nat}
    (hs : OpC w S o pa pc fa fc na nc ka kc) : OpC w' S o pa pc fa fc na nc ka kc := ⟨hs.1.ext h hS, hs.2.1.ext h hS, hs.2.2.ext h hS⟩
theorem OpC.grow {S : Nat → Prop} {w w' : World} {o : Opn} {pa : Option Addr} {pc : Nat} {fa : Option Addr} {fc : Nat} {na : Option Addr} {nc : Nat} {ka : Option Addr} {kc : Nat}
    (hs : OpC w S o pa pc fa fc na nc ka kc) (h : Grow w w') : OpC w' S o pa pc fa fc na nc ka kc := hs.ext h (fun _ _ h => h)
theorem OpR.ext {X S : Nat → Prop} {w w' : World} (h : Ext X w w') (hS : ∀ k, S k → ¬ X k) {o : Opn} {v : Value} (hs : OpR w S o v) : OpR w' S o v := by
  obtain ⟨pa, pc, fa, fc, na, nc, ka, kc, hv, hc⟩ := hs
  exact ⟨pa, pc, fa, fc, na, nc, ka, kc, hv, hc.ext h hS⟩
theorem OpR.grow {S : Nat → Prop} {w w' : World} {o : Opn} {v : Value} (hs : OpR w S o v) (h : Grow w w') : OpR w' S o v := hs.ext h (fun _ _ h => h)
theorem OpsR.ext {X S : Nat → Prop} {w w' : World} (h : Ext X w w') (hS : ∀ k, S k → ¬ X k) {a : Option Addr} {c : Nat} {l : List Opn} (hs : OpsR w S a c l) : OpsR w' S a c l := by
  obtain ⟨h1, h2, h4⟩ := hs
  refine ⟨h1, h2, h4.imp id ?_⟩
  rintro ⟨b, o, rfl, hb, hc⟩
  refine ⟨b, o, rfl, hb, fun i hi => ?_⟩
  obtain ⟨pa, pc, fa, fc, na, nc, ka, kc, g0, g1, g2, g3, g4, g5, g6, g7, g⟩ := hc i hi
  exact ⟨pa, pc, fa, fc, na, nc, ka, kc, h.some g0 (hS b hb), h.some g1 (hS b hb), h.some g2 (hS b hb), h.some g3 (hS b hb), h.some g4 (hS b hb), h.some g5 (hS b hb), h.some g6 (hS b hb), h.some g7 (hS b hb), g.ext h hS⟩
theorem OpsR.grow {S : Nat → Prop} {w w' : World} {a : Option Addr} {c : Nat} {l : List Opn} (hs : OpsR w S a c l) (h : Grow w w') : OpsR w' S a c l := hs.ext h (fun _ _ h => h)

def opB (o : Opn) : Bool := inR o.kind 1 6 && pathB o.path && pathB o.frm && validB o.val
def opsB (l : List Opn) : Bool := decide (l.length ≤ 12) && l.all opB

set_option maxHeartbeats 1000000 in
theorem isOp_ok (o : Opn) (v : Value) (w : World) (hn : OpR w any o v) :
    Calls Try.prog 98 #[v] w fun e w' => e = .returned (.bool (opB o)) ∧ Grow w w' := by
  obtain ⟨pa, pc, fa, fc, na, nc, ka, kc, rfl, hp, hf, hc⟩ := hn
  have Hp := Lib.hid (hp.grow (w' := w.alloc (.cells #[.int .i64 o.kind, .slice pa o.path.length pc, .slice fa o.frm.length fc, .int .i64 o.val.kind, .int .i64 o.val.num, .string o.val.text, .slice na o.val.names.length nc, .slice ka o.val.kids.length kc] 93)) (by repeat (first | with_reducible exact Ext.refl _ _ | with_reducible refine Ext.trans ?_ (by assumption) | with_reducible refine Ext.drew ?_ | with_reducible refine Ext.drewN ?_ _ | with_reducible refine Ext.alloc ?_ _ | with_reducible refine Ext.setNew ?_ (by simp; done) _ | with_reducible refine Ext.setNew ?_ (by simp; omega) _)))
  have Hf := Lib.hid (hf.grow (w' := w.alloc (.cells #[.int .i64 o.kind, .slice pa o.path.length pc, .slice fa o.frm.length fc, .int .i64 o.val.kind, .int .i64 o.val.num, .string o.val.text, .slice na o.val.names.length nc, .slice ka o.val.kids.length kc] 93)) (by repeat (first | with_reducible exact Ext.refl _ _ | with_reducible refine Ext.trans ?_ (by assumption) | with_reducible refine Ext.drew ?_ | with_reducible refine Ext.drewN ?_ _ | with_reducible refine Ext.alloc ?_ _ | with_reducible refine Ext.setNew ?_ (by simp; done) _ | with_reducible refine Ext.setNew ?_ (by simp; omega) _)))
  have Hv := Lib.hid (NodeR.grow (S := any) (w := w) (n := o.val) (v := nodeV o.val na nc ka kc) ⟨na, nc, ka, kc, rfl, hc⟩ (w' := w.alloc (.cells #[.int .i64 o.kind, .slice pa o.path.length pc, .slice fa o.frm.length fc, .int .i64 o.val.kind, .int .i64 o.val.num, .string o.val.text, .slice na o.val.names.length nc, .slice ka o.val.kids.length kc] 93)) (by repeat (first | with_reducible exact Ext.refl _ _ | with_reducible refine Ext.trans ?_ (by assumption) | with_reducible refine Ext.drew ?_ | with_reducible refine Ext.drewN ?_ _ | with_reducible refine Ext.alloc ?_ _ | with_reducible refine Ext.setNew ?_ (by simp; done) _ | with_reducible refine Ext.setNew ?_ (by simp; omega) _)))
  clear hp hf hc
  unfold opV nodeV at *
  rcases inR_cases o.kind 1 6 with ⟨h1, hi⟩ | ⟨h1, hi⟩ | ⟨h1, h2, hi⟩
  · have Hi := Lib.hid hi
    clear hi
    go_enter Try.func98, Try.ntmps98
    go_wp2
    go_ret
    exact ⟨by simp [opB, Hi.out], (by repeat (first | with_reducible exact Ext.refl _ _ | with_reducible refine Ext.trans ?_ (by assumption) | with_reducible refine Ext.drew ?_ | with_reducible refine Ext.drewN ?_ _ | with_reducible refine Ext.alloc ?_ _ | with_reducible refine Ext.setNew ?_ (by simp; done) _ | with_reducible refine Ext.setNew ?_ (by simp; omega) _))⟩
  · have Hi := Lib.hid hi
    clear hi
    go_enter Try.func98, Try.ntmps98
    go_wp2
    go_ret
    exact ⟨by simp [opB, Hi.out], (by repeat (first | with_reducible exact Ext.refl _ _ | with_reducible refine Ext.trans ?_ (by assumption) | with_reducible refine Ext.drew ?_ | with_reducible refine Ext.drewN ?_ _ | with_reducible refine Ext.alloc ?_ _ | with_reducible refine Ext.setNew ?_ (by simp; done) _ | with_reducible refine Ext.setNew ?_ (by simp; omega) _))⟩
  have Hi := Lib.hid hi
  clear hi
  cases hp : pathB o.path
  · go_enter Try.func98, Try.ntmps98
    go_wp2_with (go_at_call 135; with_reducible refine (isPath_ok pa pc o.path _ Hp.out).mono ?_; rintro e w' ⟨rfl, rfl⟩; simp only [hp])
    go_ret
    exact ⟨by simp [opB, hp], (by repeat (first | with_reducible exact Ext.refl _ _ | with_reducible refine Ext.trans ?_ (by assumption) | with_reducible refine Ext.drew ?_ | with_reducible refine Ext.drewN ?_ _ | with_reducible refine Ext.alloc ?_ _ | with_reducible refine Ext.setNew ?_ (by simp; done) _ | with_reducible refine Ext.setNew ?_ (by simp; omega) _))⟩
  cases hf : pathB o.frm
  · go_enter Try.func98, Try.ntmps98
    go_wp2_with (go_at_call 135; first | (with_reducible refine (isPath_ok pa pc o.path _ Hp.out).mono ?_; rintro e w' ⟨rfl, rfl⟩; simp only [hp]) | (with_reducible refine (isPath_ok fa fc o.frm _ Hf.out).mono ?_; rintro e w' ⟨rfl, rfl⟩; simp only [hf]))
    go_ret
    exact ⟨by simp [opB, hf], (by repeat (first | with_reducible exact Ext.refl _ _ | with_reducible refine Ext.trans ?_ (by assumption) | with_reducible refine Ext.drew ?_ | with_reducible refine Ext.drewN ?_ _ | with_reducible refine Ext.alloc ?_ _ | with_reducible refine Ext.setNew ?_ (by simp; done) _ | with_reducible refine Ext.setNew ?_ (by simp; omega) _))⟩
  go_enter Try.func98, Try.ntmps98
  go_wp2_with (first | (go_at_call 135; first | (with_reducible refine (isPath_ok pa pc o.path _ Hp.out).mono ?_; rintro e w' ⟨rfl, rfl⟩; simp only [hp]) | (with_reducible refine (isPath_ok fa fc o.frm _ Hf.out).mono ?_; rintro e w' ⟨rfl, rfl⟩; simp only [hf])) | (go_at_call 14; refine (ValidNode_ok o.val _ _ Hv.out).mono ?_; rintro e w2 ⟨rfl, hg2⟩))
  go_ret
  exact ⟨by simp [opB, Hi.out, hp, hf], (by repeat (first | with_reducible exact Ext.refl _ _ | with_reducible refine Ext.trans ?_ (by assumption) | with_reducible refine Ext.drew ?_ | with_reducible refine Ext.drewN ?_ _ | with_reducible refine Ext.alloc ?_ _ | with_reducible refine Ext.setNew ?_ (by simp; done) _ | with_reducible refine Ext.setNew ?_ (by simp; omega) _))⟩

set_option maxHeartbeats 1000000 in
theorem validOp_ok (o : Opn) (v : Value) (w : World) (hn : OpR w any o v) :
    Calls Try.prog 95 #[v] w fun e w' => e = .returned (.bool (opB o)) ∧ Grow w w' := by
  obtain ⟨pa, pc, fa, fc, na, nc, ka, kc, rfl, hp, hf, hc⟩ := hn
  have Hp := Lib.hid (hp.grow (w' := w.alloc (.cells #[.int .i64 o.kind, .slice pa o.path.length pc, .slice fa o.frm.length fc, .int .i64 o.val.kind, .int .i64 o.val.num, .string o.val.text, .slice na o.val.names.length nc, .slice ka o.val.kids.length kc] 93)) (by repeat (first | with_reducible exact Ext.refl _ _ | with_reducible refine Ext.trans ?_ (by assumption) | with_reducible refine Ext.drew ?_ | with_reducible refine Ext.drewN ?_ _ | with_reducible refine Ext.alloc ?_ _ | with_reducible refine Ext.setNew ?_ (by simp; done) _ | with_reducible refine Ext.setNew ?_ (by simp; omega) _)))
  have Hf := Lib.hid (hf.grow (w' := w.alloc (.cells #[.int .i64 o.kind, .slice pa o.path.length pc, .slice fa o.frm.length fc, .int .i64 o.val.kind, .int .i64 o.val.num, .string o.val.text, .slice na o.val.names.length nc, .slice ka o.val.kids.length kc] 93)) (by repeat (first | with_reducible exact Ext.refl _ _ | with_reducible refine Ext.trans ?_ (by assumption) | with_reducible refine Ext.drew ?_ | with_reducible refine Ext.drewN ?_ _ | with_reducible refine Ext.alloc ?_ _ | with_reducible refine Ext.setNew ?_ (by simp; done) _ | with_reducible refine Ext.setNew ?_ (by simp; omega) _)))
  have Hv := Lib.hid (NodeR.grow (S := any) (w := w) (n := o.val) (v := nodeV o.val na nc ka kc) ⟨na, nc, ka, kc, rfl, hc⟩ (w' := w.alloc (.cells #[.int .i64 o.kind, .slice pa o.path.length pc, .slice fa o.frm.length fc, .int .i64 o.val.kind, .int .i64 o.val.num, .string o.val.text, .slice na o.val.names.length nc, .slice ka o.val.kids.length kc] 93)) (by repeat (first | with_reducible exact Ext.refl _ _ | with_reducible refine Ext.trans ?_ (by assumption) | with_reducible refine Ext.drew ?_ | with_reducible refine Ext.drewN ?_ _ | with_reducible refine Ext.alloc ?_ _ | with_reducible refine Ext.setNew ?_ (by simp; done) _ | with_reducible refine Ext.setNew ?_ (by simp; omega) _)))
  clear hp hf hc
  unfold opV nodeV at *
  cases hi : inR o.kind 1 6
  · go_enter Try.func95, Try.ntmps95
    go_wp2_with (go_at_call 64; refine (inRange_ok _ _ _ _).mono ?_; rintro e w' ⟨rfl, rfl⟩; simp only [hi])
    go_ret
    exact ⟨by simp [opB, hi], (by repeat (first | with_reducible exact Ext.refl _ _ | with_reducible refine Ext.trans ?_ (by assumption) | with_reducible refine Ext.drew ?_ | with_reducible refine Ext.drewN ?_ _ | with_reducible refine Ext.alloc ?_ _ | with_reducible refine Ext.setNew ?_ (by simp; done) _ | with_reducible refine Ext.setNew ?_ (by simp; omega) _))⟩
  cases hp : pathB o.path
  · go_enter Try.func95, Try.ntmps95
    go_wp2_with (first | (go_at_call 64; refine (inRange_ok _ _ _ _).mono ?_; rintro e w' ⟨rfl, rfl⟩; simp only [hi]) | (go_at_call 130; with_reducible refine (validPath_ok pa pc o.path _ Hp.out).mono ?_; rintro e w' ⟨rfl, rfl⟩; simp only [hp]))
    go_ret
    exact ⟨by simp [opB, hp], (by repeat (first | with_reducible exact Ext.refl _ _ | with_reducible refine Ext.trans ?_ (by assumption) | with_reducible refine Ext.drew ?_ | with_reducible refine Ext.drewN ?_ _ | with_reducible refine Ext.alloc ?_ _ | with_reducible refine Ext.setNew ?_ (by simp; done) _ | with_reducible refine Ext.setNew ?_ (by simp; omega) _))⟩
  cases hf : pathB o.frm
  · go_enter Try.func95, Try.ntmps95
    go_wp2_with (first | (go_at_call 64; refine (inRange_ok _ _ _ _).mono ?_; rintro e w' ⟨rfl, rfl⟩; simp only [hi]) | (go_at_call 130; first | (with_reducible refine (validPath_ok pa pc o.path _ Hp.out).mono ?_; rintro e w' ⟨rfl, rfl⟩; simp only [hp]) | (with_reducible refine (validPath_ok fa fc o.frm _ Hf.out).mono ?_; rintro e w' ⟨rfl, rfl⟩; simp only [hf])))
    go_ret
    exact ⟨by simp [opB, hf], (by repeat (first | with_reducible exact Ext.refl _ _ | with_reducible refine Ext.trans ?_ (by assumption) | with_reducible refine Ext.drew ?_ | with_reducible refine Ext.drewN ?_ _ | with_reducible refine Ext.alloc ?_ _ | with_reducible refine Ext.setNew ?_ (by simp; done) _ | with_reducible refine Ext.setNew ?_ (by simp; omega) _))⟩
  go_enter Try.func95, Try.ntmps95
  go_wp2_with (first | (go_at_call 64; refine (inRange_ok _ _ _ _).mono ?_; rintro e w' ⟨rfl, rfl⟩; simp only [hi]) | (go_at_call 130; first | (with_reducible refine (validPath_ok pa pc o.path _ Hp.out).mono ?_; rintro e w' ⟨rfl, rfl⟩; simp only [hp]) | (with_reducible refine (validPath_ok fa fc o.frm _ Hf.out).mono ?_; rintro e w' ⟨rfl, rfl⟩; simp only [hf])) | (go_at_call 58; refine (validNode_ok o.val _ _ Hv.out).mono ?_; rintro e w2 ⟨rfl, hg2⟩))
  go_ret
  exact ⟨by simp [opB, hi, hp, hf], (by repeat (first | with_reducible exact Ext.refl _ _ | with_reducible refine Ext.trans ?_ (by assumption) | with_reducible refine Ext.drew ?_ | with_reducible refine Ext.drewN ?_ _ | with_reducible refine Ext.alloc ?_ _ | with_reducible refine Ext.setNew ?_ (by simp; done) _ | with_reducible refine Ext.setNew ?_ (by simp; omega) _))⟩

end Go.Proofs.Ytchiakeceiefdaa
