/-
  The walks of the laws' comparisons of operations and requests that are the same. (Printed by geneqreq.py.)
-/
import Derived.Test.YtchiakeceiefdaaToReq2
namespace Go.Proofs.Ytchiakeceiefdaa
open Go.RowKit

theorem eqS_refl (xs : List ByteArray) : eqS xs xs = true := by simp [eqS]
theorem eqL_refl (l : List Nd) : eqL l l = true := (eqL_iff l l).2 rfl

theorem eqStringS_same (a b : Option Addr) (c d : Nat) (xs : List ByteArray) (w : World) (ha : StrsR w any a c xs) (hb : StrsR w any b d xs) :
    Calls Try.prog 20 #[.slice a xs.length c, .slice b xs.length d] w fun e w' => e = .returned (.bool true) ∧ Grow w w' := by
  have := eqStringS_ok a b c d xs xs w ha hb
  rwa [eqS_refl] at this
theorem eqNode_same (n : Nd) (v u : Value) (w : World) (ha : NodeR w any n v) (hb : NodeR w any n u) :
    Calls Try.prog 30 #[v, u] w fun e w' => e = .returned (.bool true) ∧ Grow w w' := by
  have := eqNode_ok n n v u w ha hb
  rwa [eqN_refl] at this

set_option maxHeartbeats 2000000 in
theorem eqOp_same (o : Opn) (v u : Value) (w : World) (hn : OpR w any o v) (hm : OpR w any o u) :
    Calls Try.prog 47 #[v, u] w fun e w' => e = .returned (.bool true) ∧ Grow w w' := by
  obtain ⟨pa, pc, fa, fc, na, nc, ka, kc, rfl, hp, hf, hc⟩ := hn
  obtain ⟨pa', pc', fa', fc', na', nc', ka', kc', rfl, hp', hf', hc'⟩ := hm
  have Hp := Lib.hid hp
  have Hf := Lib.hid hf
  have Hc : Hid (NodeR w any o.val (nodeV o.val na nc ka kc)) := Lib.hid ⟨na, nc, ka, kc, rfl, hc⟩
  have Hp' := Lib.hid hp'
  have Hf' := Lib.hid hf'
  have Hc' : Hid (NodeR w any o.val (nodeV o.val na' nc' ka' kc')) := Lib.hid ⟨na', nc', ka', kc', rfl, hc'⟩
  clear hp hf hc hp' hf' hc'
  unfold opV nodeV at *
  have hb1 : (o.kind != o.kind) = false := by simp
  go_enter Try.func47, Try.ntmps47
  go_wp2_with (first
    | (go_at_call 20; with_reducible refine (eqStringS_same pa pa' pc pc' o.path _ ?_ ?_).mono ?_; exact (Hp.out.grow (by repeat (first | with_reducible exact Ext.refl _ _ | with_reducible refine Ext.trans ?_ (by assumption) | with_reducible refine Ext.drew ?_ | with_reducible refine Ext.drewN ?_ _ | with_reducible refine Ext.alloc ?_ _ | with_reducible refine Ext.setNew ?_ (by simp; done) _ | with_reducible refine Ext.setNew ?_ (by simp; omega) _))); exact (Hp'.out.grow (by repeat (first | with_reducible exact Ext.refl _ _ | with_reducible refine Ext.trans ?_ (by assumption) | with_reducible refine Ext.drew ?_ | with_reducible refine Ext.drewN ?_ _ | with_reducible refine Ext.alloc ?_ _ | with_reducible refine Ext.setNew ?_ (by simp; done) _ | with_reducible refine Ext.setNew ?_ (by simp; omega) _))); rintro e w2 ⟨rfl, hg2⟩; have hcc2 := bcell hg2)
    | (go_at_call 20; with_reducible refine (eqStringS_same fa fa' fc fc' o.frm _ ?_ ?_).mono ?_; exact (Hf.out.grow (by repeat (first | with_reducible exact Ext.refl _ _ | with_reducible refine Ext.trans ?_ (by assumption) | with_reducible refine Ext.drew ?_ | with_reducible refine Ext.drewN ?_ _ | with_reducible refine Ext.alloc ?_ _ | with_reducible refine Ext.setNew ?_ (by simp; done) _ | with_reducible refine Ext.setNew ?_ (by simp; omega) _))); exact (Hf'.out.grow (by repeat (first | with_reducible exact Ext.refl _ _ | with_reducible refine Ext.trans ?_ (by assumption) | with_reducible refine Ext.drew ?_ | with_reducible refine Ext.drewN ?_ _ | with_reducible refine Ext.alloc ?_ _ | with_reducible refine Ext.setNew ?_ (by simp; done) _ | with_reducible refine Ext.setNew ?_ (by simp; omega) _))); rintro e w3 ⟨rfl, hg3⟩; have hcc3 := bcell (hg2.trans hg3))
    | (go_at_call 30; refine (eqNode_same o.val _ _ _ (Hc.out.grow (by repeat (first | with_reducible exact Ext.refl _ _ | with_reducible refine Ext.trans ?_ (by assumption) | with_reducible refine Ext.drew ?_ | with_reducible refine Ext.drewN ?_ _ | with_reducible refine Ext.alloc ?_ _ | with_reducible refine Ext.setNew ?_ (by simp; done) _ | with_reducible refine Ext.setNew ?_ (by simp; omega) _))) (Hc'.out.grow (by repeat (first | with_reducible exact Ext.refl _ _ | with_reducible refine Ext.trans ?_ (by assumption) | with_reducible refine Ext.drew ?_ | with_reducible refine Ext.drewN ?_ _ | with_reducible refine Ext.alloc ?_ _ | with_reducible refine Ext.setNew ?_ (by simp; done) _ | with_reducible refine Ext.setNew ?_ (by simp; omega) _)))).mono ?_; rintro e w4 ⟨rfl, hg4⟩))
  go_ret
  exact ⟨by simp, (by repeat (first | with_reducible exact Ext.refl _ _ | with_reducible refine Ext.trans ?_ (by assumption) | with_reducible refine Ext.drew ?_ | with_reducible refine Ext.drewN ?_ _ | with_reducible refine Ext.alloc ?_ _ | with_reducible refine Ext.setNew ?_ (by simp; done) _ | with_reducible refine Ext.setNew ?_ (by simp; omega) _))⟩

set_option maxHeartbeats 1000000 in
theorem eqOpS_same (a b : Option Addr) (c d : Nat) (l : List Opn) (w : World) (ha : OpsR w any a c l) (hb : OpsR w any b d l) :
    Calls Try.prog 86 #[.slice a l.length c, .slice b l.length d] w fun e w' => e = .returned (.bool true) ∧ Grow w w' := by
  have hbig : l.length ≤ 9223372036854775807 := ha.2.1
  have Ha := Lib.hid ha
  have Hb := Lib.hid hb
  clear ha hb
  have hlb : ((l.length : Int) != (l.length : Int)) = false := by simp
  go_enter Try.func86, Try.ntmps86
  go_wp2
  go_loopw [4, 5] (fun n i wr => n = .bool false ∧ Grow w wr ∧ ∃ k : Nat, k ≤ l.length ∧ i = .int .i64 k) (fun _ i _ => l.length - (intOf i).toNat)
  case atStart => exact ⟨rfl, Ext.refl _ _, 0, Nat.zero_le _, rfl⟩
  case round =>
    obtain ⟨rfl, hg, k, hk, rfl⟩ := hrel
    by_cases hlt : k < l.length
    · obtain ⟨_, _, ha4⟩ := (Ha.out).grow hg
      obtain ⟨_, _, hb4⟩ := (Hb.out).grow hg
      rcases ha4 with rfl | ⟨ba, oa, rfl, _, hca⟩
      · simp at hlt
      rcases hb4 with rfl | ⟨bb, ob, rfl, _, hcb⟩
      · simp at hlt
      obtain ⟨pa, pc, fa, fc, na, nc, ka, kc, a0, a1, a2, a3, a4, a5, a6, a7, hkc⟩ := hca k hlt
      obtain ⟨pa', pc', fa', fc', na', nc', ka', kc', b0, b1, b2, b3, b4, b5, b6, b7, hkc'⟩ := hcb k hlt
      have Hx : Hid (OpR wr any l[k] (opV l[k] pa pc fa fc na nc ka kc)) := Lib.hid ⟨_, _, _, _, _, _, _, _, rfl, hkc⟩
      have Hy : Hid (OpR wr any l[k] (opV l[k] pa' pc' fa' fc' na' nc' ka' kc')) := Lib.hid ⟨_, _, _, _, _, _, _, _, rfl, hkc'⟩
      clear hca hcb Ha Hb hkc hkc'
      go_wp2
      (refine wp_region_later (by kernel_rfl) (by kernel_rfl) ?_; (repeat (quiet_step ((go_at_call 47; exact later_call (eqOp_same _ _ _ _ (Hx.out.grow (later_grow _ _)) (Hy.out.grow (later_grow _ _))))))); refine wpQuiet_nil ?_; rintro _ ⟨x_w2, rfl⟩; have hg_w2 := later_grow wr x_w2; generalize later wr x_w2 = w2 at hg_w2 ⊢)
      go_wp2
      go_roundw
      case rel => exact ⟨rfl, hg.trans hg_w2, k + 1, by omega, by go_num⟩
      case measure => simp [intOf]; omega
    · go_wp2
      go_ret
      exact ⟨by simp, hg⟩

set_option maxHeartbeats 4000000 in
theorem eqRequest_same (q : Reqn) (v u : Value) (w : World) (hn : ReqR w any q v) (hm : ReqR w any q u) :
    Calls Try.prog 35 #[v, u] w fun e w' => e = .returned (.bool true) ∧ Grow w w' := by
  obtain ⟨wa, wc, va, vc, na, nc, ka, kc, oa, oc, rfl, hz, hw, hv, hc, ho⟩ := hn
  obtain ⟨wa', wc', va', vc', na', nc', ka', kc', oa', oc', rfl, _, hw', hv', hc', ho'⟩ := hm
  have Hw := Lib.hid hw
  have Hv := Lib.hid hv
  have Ho := Lib.hid ho
  have Hc : Hid (NodeR w any q.body (nodeV q.body na nc ka kc)) := Lib.hid ⟨na, nc, ka, kc, rfl, hc⟩
  have Hw' := Lib.hid hw'
  have Hv' := Lib.hid hv'
  have Ho' := Lib.hid ho'
  have Hc' : Hid (NodeR w any q.body (nodeV q.body na' nc' ka' kc')) := Lib.hid ⟨na', nc', ka', kc', rfl, hc'⟩
  clear hz hw hv ho hc hw' hv' ho' hc'
  unfold reqCells nodeV at *
  have hb1 : (q.method != q.method) = false := by simp
  have hb3 : (q.name.toList == q.name.toList) = true := by rw [beq_toList]; simp
  go_enter Try.func35, Try.ntmps35
  go_wp2_with (first
    | (go_at_call 20; with_reducible refine (eqStringS_same wa wa' wc wc' q.want _ ?_ ?_).mono ?_; exact (Hw.out.grow (by repeat (first | with_reducible exact Ext.refl _ _ | with_reducible refine Ext.trans ?_ (by assumption) | with_reducible refine Ext.drew ?_ | with_reducible refine Ext.drewN ?_ _ | with_reducible refine Ext.alloc ?_ _ | with_reducible refine Ext.setNew ?_ (by simp; done) _ | with_reducible refine Ext.setNew ?_ (by simp; omega) _))); exact (Hw'.out.grow (by repeat (first | with_reducible exact Ext.refl _ _ | with_reducible refine Ext.trans ?_ (by assumption) | with_reducible refine Ext.drew ?_ | with_reducible refine Ext.drewN ?_ _ | with_reducible refine Ext.alloc ?_ _ | with_reducible refine Ext.setNew ?_ (by simp; done) _ | with_reducible refine Ext.setNew ?_ (by simp; omega) _))); rintro e w2 ⟨rfl, hg2⟩; have hcc2 := bcell hg2)
    | (go_at_call 20; with_reducible refine (eqStringS_same va va' vc vc' q.avoid _ ?_ ?_).mono ?_; exact (Hv.out.grow (by repeat (first | with_reducible exact Ext.refl _ _ | with_reducible refine Ext.trans ?_ (by assumption) | with_reducible refine Ext.drew ?_ | with_reducible refine Ext.drewN ?_ _ | with_reducible refine Ext.alloc ?_ _ | with_reducible refine Ext.setNew ?_ (by simp; done) _ | with_reducible refine Ext.setNew ?_ (by simp; omega) _))); exact (Hv'.out.grow (by repeat (first | with_reducible exact Ext.refl _ _ | with_reducible refine Ext.trans ?_ (by assumption) | with_reducible refine Ext.drew ?_ | with_reducible refine Ext.drewN ?_ _ | with_reducible refine Ext.alloc ?_ _ | with_reducible refine Ext.setNew ?_ (by simp; done) _ | with_reducible refine Ext.setNew ?_ (by simp; omega) _))); rintro e w3 ⟨rfl, hg3⟩; have hcc3 := bcell (hg2.trans hg3))
    | (go_at_call 30; refine (eqNode_same q.body _ _ _ (Hc.out.grow (by repeat (first | with_reducible exact Ext.refl _ _ | with_reducible refine Ext.trans ?_ (by assumption) | with_reducible refine Ext.drew ?_ | with_reducible refine Ext.drewN ?_ _ | with_reducible refine Ext.alloc ?_ _ | with_reducible refine Ext.setNew ?_ (by simp; done) _ | with_reducible refine Ext.setNew ?_ (by simp; omega) _))) (Hc'.out.grow (by repeat (first | with_reducible exact Ext.refl _ _ | with_reducible refine Ext.trans ?_ (by assumption) | with_reducible refine Ext.drew ?_ | with_reducible refine Ext.drewN ?_ _ | with_reducible refine Ext.alloc ?_ _ | with_reducible refine Ext.setNew ?_ (by simp; done) _ | with_reducible refine Ext.setNew ?_ (by simp; omega) _)))).mono ?_; rintro e w4 ⟨rfl, hg4⟩; have hcc4 := bcell ((hg2.trans hg3).trans hg4))
    | (go_at_call 86; refine (eqOpS_same _ _ _ _ q.ops _ (Ho.out.grow (by repeat (first | with_reducible exact Ext.refl _ _ | with_reducible refine Ext.trans ?_ (by assumption) | with_reducible refine Ext.drew ?_ | with_reducible refine Ext.drewN ?_ _ | with_reducible refine Ext.alloc ?_ _ | with_reducible refine Ext.setNew ?_ (by simp; done) _ | with_reducible refine Ext.setNew ?_ (by simp; omega) _))) (Ho'.out.grow (by repeat (first | with_reducible exact Ext.refl _ _ | with_reducible refine Ext.trans ?_ (by assumption) | with_reducible refine Ext.drew ?_ | with_reducible refine Ext.drewN ?_ _ | with_reducible refine Ext.alloc ?_ _ | with_reducible refine Ext.setNew ?_ (by simp; done) _ | with_reducible refine Ext.setNew ?_ (by simp; omega) _)))).mono ?_; rintro e w5 ⟨rfl, hg5⟩))
  go_ret
  exact ⟨by simp, (by repeat (first | with_reducible exact Ext.refl _ _ | with_reducible refine Ext.trans ?_ (by assumption) | with_reducible refine Ext.drew ?_ | with_reducible refine Ext.drewN ?_ _ | with_reducible refine Ext.alloc ?_ _ | with_reducible refine Ext.setNew ?_ (by simp; done) _ | with_reducible refine Ext.setNew ?_ (by simp; omega) _))⟩

end Go.Proofs.Ytchiakeceiefdaa
