/-
  Requests, and the walks of what makes patches and requests valid.
-/
import Derived.Test.YtchiakeceiefdaaOps
namespace Go.Proofs.Ytchiakeceiefdaa
open Go.RowKit

set_option maxHeartbeats 1000000 in
theorem arePatchOps_ok (a : Option Addr) (c : Nat) (l : List Opn) (w : World) (ha : OpsR w any a c l) :
    Calls Try.prog 125 #[.slice a l.length c] w fun e w' => e = .returned (.bool (opsB l)) ∧ Grow w w' := by
  have hbig : l.length ≤ 9223372036854775807 := ha.2.1
  have Hn := Lib.hid ha
  clear ha
  by_cases hl : 12 < l.length
  · go_enter Try.func125, Try.ntmps125
    go_wp2
    go_ret
    exact ⟨by simp [opsB]; omega, Ext.refl _ _⟩
  · go_enter Try.func125, Try.ntmps125
    go_wp2
    go_loopw [2, 4, 10] (fun n _ i wr => n = .bool false ∧ Grow w wr ∧ ∃ k : Nat, k ≤ l.length ∧ i = .int .i64 k ∧ Hid (l.all opB = (l.drop k).all opB)) (fun _ _ i _ => l.length - (intOf i).toNat)
    case atStart => exact ⟨rfl, Ext.refl _ _, 0, Nat.zero_le _, rfl, Lib.hid rfl⟩
    case round =>
      obtain ⟨rfl, hg, k, hk, rfl, Hr⟩ := hrel
      by_cases hlt : k < l.length
      · obtain ⟨_, _, hks⟩ := (Hn.out).ext hg (fun _ _ h => h)
        rcases hks with hks | ⟨bk, ok, rfl, _, hkr⟩
        · simp [hks] at hlt
        obtain ⟨pa, pc, fa, fc, na, nc, ka, kc, c0, c1, c2, c3, c4, c5, c6, c7, hkc⟩ := hkr k hlt
        have Hkc := Lib.hid (OpR.grow (S := any) (w := wr) (o := l[k]) (v := opV l[k] pa pc fa fc na nc ka kc) ⟨pa, pc, fa, fc, na, nc, ka, kc, rfl, hkc⟩
          (w' := wr.alloc (.cells #[.int .i64 l[k].kind, .slice pa l[k].path.length pc, .slice fa l[k].frm.length fc, .int .i64 l[k].val.kind, .int .i64 l[k].val.num, .string l[k].val.text, .slice na l[k].val.names.length nc, .slice ka l[k].val.kids.length kc] 93)) (by repeat (first | with_reducible exact Ext.refl _ _ | with_reducible refine Ext.trans ?_ (by assumption) | with_reducible refine Ext.drew ?_ | with_reducible refine Ext.drewN ?_ _ | with_reducible refine Ext.alloc ?_ _ | with_reducible refine Ext.setNew ?_ (by simp; done) _ | with_reducible refine Ext.setNew ?_ (by simp; omega) _)))
        have Hs := Lib.hid (allD_step (p := opB) l k hlt)
        clear hkr hkc
        cases hp : opB l[k]
        · have Hp := Lib.hid hp
          clear hp
          go_wp2_with (go_at_call 98; refine (isOp_ok l[k] _ _ Hkc.out).mono ?_; rintro e w2 ⟨rfl, hg2⟩; simp only [Hp.out])
          go_ret
          exact ⟨by simp [opsB, Hr.out, Hs.out, Hp.out], hg.trans (by repeat (first | with_reducible exact Ext.refl _ _ | with_reducible refine Ext.trans ?_ (by assumption) | with_reducible refine Ext.drew ?_ | with_reducible refine Ext.drewN ?_ _ | with_reducible refine Ext.alloc ?_ _ | with_reducible refine Ext.setNew ?_ (by simp; done) _ | with_reducible refine Ext.setNew ?_ (by simp; omega) _))⟩
        · have Hp := Lib.hid hp
          clear hp
          go_wp2_with (go_at_call 98; refine (isOp_ok l[k] _ _ Hkc.out).mono ?_; rintro e w2 ⟨rfl, hg2⟩; simp only [Hp.out])
          go_roundw
          case rel => exact ⟨rfl, hg.trans (by repeat (first | with_reducible exact Ext.refl _ _ | with_reducible refine Ext.trans ?_ (by assumption) | with_reducible refine Ext.drew ?_ | with_reducible refine Ext.drewN ?_ _ | with_reducible refine Ext.alloc ?_ _ | with_reducible refine Ext.setNew ?_ (by simp; done) _ | with_reducible refine Ext.setNew ?_ (by simp; omega) _)), k + 1, by omega, by go_num, Lib.hid (by rw [Hr.out, Hs.out, Hp.out, Bool.true_and])⟩
          case measure => simp [intOf]; omega
      · have Hs := Lib.hid (allD_end (p := opB) l k hlt)
        go_wp2
        go_ret
        exact ⟨by simp [opsB, Hr.out, Hs.out]; omega, hg⟩

set_option maxHeartbeats 1000000 in
theorem validPatch_ok (a : Option Addr) (c : Nat) (l : List Opn) (w : World) (ha : OpsR w any a c l) :
    Calls Try.prog 123 #[.slice a l.length c] w fun e w' => e = .returned (.bool (opsB l)) ∧ Grow w w' := by
  have hbig : l.length ≤ 9223372036854775807 := ha.2.1
  have Hn := Lib.hid ha
  clear ha
  go_enter Try.func123, Try.ntmps123
  go_wp2
  go_loopw [2, 3] (fun n i wr => n = .bool false ∧ Grow w wr ∧ ∃ k : Nat, k ≤ l.length ∧ i = .int .i64 k ∧ Hid (l.all opB = (l.drop k).all opB)) (fun _ i _ => l.length - (intOf i).toNat)
  case atStart => exact ⟨rfl, Ext.refl _ _, 0, Nat.zero_le _, rfl, Lib.hid rfl⟩
  case round =>
    obtain ⟨rfl, hg, k, hk, rfl, Hr⟩ := hrel
    by_cases hlt : k < l.length
    · obtain ⟨_, _, hks⟩ := (Hn.out).ext hg (fun _ _ h => h)
      rcases hks with hks | ⟨bk, ok, rfl, _, hkr⟩
      · simp [hks] at hlt
      obtain ⟨pa, pc, fa, fc, na, nc, ka, kc, c0, c1, c2, c3, c4, c5, c6, c7, hkc⟩ := hkr k hlt
      have Hkc : Hid (OpR wr any l[k] (opV l[k] pa pc fa fc na nc ka kc)) := Lib.hid ⟨pa, pc, fa, fc, na, nc, ka, kc, rfl, hkc⟩
      have Hs := Lib.hid (allD_step (p := opB) l k hlt)
      clear hkr hkc
      cases hp : opB l[k]
      · have Hp := Lib.hid hp
        clear hp
        go_wp2_with (go_at_call 95; refine (validOp_ok l[k] _ _ Hkc.out).mono ?_; rintro e w2 ⟨rfl, hg2⟩; simp only [Hp.out])
        go_ret
        exact ⟨by simp [opsB, Hr.out, Hs.out, Hp.out], hg.trans (by repeat (first | with_reducible exact Ext.refl _ _ | with_reducible refine Ext.trans ?_ (by assumption) | with_reducible refine Ext.drew ?_ | with_reducible refine Ext.drewN ?_ _ | with_reducible refine Ext.alloc ?_ _ | with_reducible refine Ext.setNew ?_ (by simp; done) _ | with_reducible refine Ext.setNew ?_ (by simp; omega) _))⟩
      · have Hp := Lib.hid hp
        clear hp
        go_wp2_with (go_at_call 95; refine (validOp_ok l[k] _ _ Hkc.out).mono ?_; rintro e w2 ⟨rfl, hg2⟩; simp only [Hp.out])
        go_roundw
        case rel => exact ⟨rfl, hg.trans (by repeat (first | with_reducible exact Ext.refl _ _ | with_reducible refine Ext.trans ?_ (by assumption) | with_reducible refine Ext.drew ?_ | with_reducible refine Ext.drewN ?_ _ | with_reducible refine Ext.alloc ?_ _ | with_reducible refine Ext.setNew ?_ (by simp; done) _ | with_reducible refine Ext.setNew ?_ (by simp; omega) _)), k + 1, by omega, by go_num, Lib.hid (by rw [Hr.out, Hs.out, Hp.out, Bool.true_and])⟩
        case measure => simp [intOf]; omega
    · have Hs := Lib.hid (allD_end (p := opB) l k hlt)
      go_wp2
      go_ret
      exact ⟨by simp [opsB, Hr.out, Hs.out]; omega, hg⟩

/-- A request, told by itself. -/
structure Reqn where
  method : Int
  name : ByteArray
  want : List ByteArray
  avoid : List ByteArray
  body : Nd
  ops : List Opn

def reqCells (q : Reqn) (wa : Option Addr) (wc : Nat) (va : Option Addr) (vc : Nat) (na : Option Addr) (nc : Nat) (ka : Option Addr) (kc : Nat) (oa : Option Addr) (oc : Nat) : Array Value :=
  #[.int .i64 q.method, .string q.name, .slice wa q.want.length wc, .slice va q.avoid.length vc, .int .i64 q.body.kind, .int .i64 q.body.num, .string q.body.text, .slice na q.body.names.length nc, .slice ka q.body.kids.length kc, .slice oa q.ops.length oc]
def ReqC (w : World) (S : Nat → Prop) (q : Reqn) (wa : Option Addr) (wc : Nat) (va : Option Addr) (vc : Nat) (na : Option Addr) (nc : Nat) (ka : Option Addr) (kc : Nat) (oa : Option Addr) (oc : Nat) : Prop :=
  q.name.size ≤ big ∧ StrsR w S wa wc q.want ∧ StrsR w S va vc q.avoid ∧ NodeC w S q.body na nc ka kc ∧ OpsR w S oa oc q.ops
def ReqR (w : World) (S : Nat → Prop) (q : Reqn) (v : Value) : Prop := ∃ wa wc va vc na nc ka kc oa oc, v = .agg (reqCells q wa wc va vc na nc ka kc oa oc) ∧ ReqC w S q wa wc va vc na nc ka kc oa oc

theorem ReqR.ext {X S : Nat → Prop} {w w' : World} (h : Ext X w w') (hS : ∀ k, S k → ¬ X k) {q : Reqn} {v : Value} (hs : ReqR w S q v) : ReqR w' S q v := by
  obtain ⟨wa, wc, va, vc, na, nc, ka, kc, oa, oc, hv, h1, h2, h3, h4, h5⟩ := hs
  exact ⟨wa, wc, va, vc, na, nc, ka, kc, oa, oc, hv, h1, h2.ext h hS, h3.ext h hS, h4.ext h hS, h5.ext h hS⟩
theorem ReqR.grow {S : Nat → Prop} {w w' : World} {q : Reqn} {v : Value} (hs : ReqR w S q v) (h : Grow w w') : ReqR w' S q v := hs.ext h (fun _ _ h => h)

def reqB (q : Reqn) : Bool := inR q.method 1 5 && nameB q.name && tagsB q.want && tagsB q.avoid && validB q.body && opsB q.ops

end Go.Proofs.Ytchiakeceiefdaa
