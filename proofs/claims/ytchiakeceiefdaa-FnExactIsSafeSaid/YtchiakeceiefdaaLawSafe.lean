/-
  The walk of the law FnExactIsSafe.
-/
import Derived.Test.YtchiakeceiefdaaEqReq
import Derived.Test.YtchiakeceiefdaaSafe
import Derived.Test.YtchiakeceiefdaaStab
namespace Go.Proofs.Ytchiakeceiefdaa
open Go.RowKit

theorem ReqR.mono {w : World} {S T : Nat → Prop} (hS : ∀ k, S k → T k) {q : Reqn} {v : Value} (hs : ReqR w S q v) : ReqR w T q v := by
  obtain ⟨wa, wc, va, vc, na, nc, ka, kc, oa, oc, hv, h1, h2, h3, h4, h5⟩ := hs
  exact ⟨wa, wc, va, vc, na, nc, ka, kc, oa, oc, hv, h1, h2.mono hS, h3.mono hS, h4.mono hS, h5.mono hS⟩

set_option maxRecDepth 100000 in
set_option maxHeartbeats 4000000 in
theorem lawIsSafe_ok (q : Reqn) (v : Value) (w : World) (hn : ReqR w any q v) :
    Calls Try.prog 6 #[v] w fun e w' => e = .returned (.bool true) ∧ Grow w w' := by
  have Hn := Lib.hid hn
  obtain ⟨wa, wc, va, vc, na, nc, ka, kc, oa, oc, rfl, hx⟩ := hn
  clear hx
  unfold reqCells at *
  by_cases hc : costR q ≤ 1048576
  rotate_left
  · have Hs := Lib.hid (szR_neg (c := costR q) (left := 1048576) (by omega))
    clear hc
    go_enter Try.func6, Try.ntmps6
    go_wp2_with (go_at_call 31; refine (szRequest_ok q _ _ _ (by omega) (by omega) (Hn.out.grow (by repeat (first | with_reducible exact Ext.refl _ _ | with_reducible refine Ext.trans ?_ (by assumption) | with_reducible refine Ext.drew ?_ | with_reducible refine Ext.drewN ?_ _ | with_reducible refine Ext.alloc ?_ _ | with_reducible refine Ext.setNew ?_ (by simp; done) _ | with_reducible refine Ext.setNew ?_ (by simp; omega) _)))).mono ?_; rintro e w2 ⟨rfl, hg2⟩; simp only [Hs.out])
    go_ret
    exact ⟨by simp, (by repeat (first | with_reducible exact Ext.refl _ _ | with_reducible refine Ext.trans ?_ (by assumption) | with_reducible refine Ext.drew ?_ | with_reducible refine Ext.drewN ?_ _ | with_reducible refine Ext.alloc ?_ _ | with_reducible refine Ext.setNew ?_ (by simp; done) _ | with_reducible refine Ext.setNew ?_ (by simp; omega) _))⟩
  have Hs := Lib.hid (szR_pos (c := costR q) (left := 1048576) (by omega))
  go_enter Try.func6, Try.ntmps6
  go_wp2_with (go_at_call 31; refine (szRequest_ok q _ _ _ (by omega) (by omega) (Hn.out.grow (by repeat (first | with_reducible exact Ext.refl _ _ | with_reducible refine Ext.trans ?_ (by assumption) | with_reducible refine Ext.drew ?_ | with_reducible refine Ext.drewN ?_ _ | with_reducible refine Ext.alloc ?_ _ | with_reducible refine Ext.setNew ?_ (by simp; done) _ | with_reducible refine Ext.setNew ?_ (by simp; omega) _)))).mono ?_; rintro e w2 ⟨rfl, hg2⟩; simp only [Hs.out]; have hcc2 := bcell hg2; go_wp2_with fail)
  refine (toRequest_ok q _ _ hc (Hn.out.grow (by repeat (first | with_reducible exact Ext.refl _ _ | with_reducible refine Ext.trans ?_ (by assumption) | with_reducible refine Ext.drew ?_ | with_reducible refine Ext.drewN ?_ _ | with_reducible refine Ext.alloc ?_ _ | with_reducible refine Ext.setNew ?_ (by simp; done) _ | with_reducible refine Ext.setNew ?_ (by simp; omega) _)))).mono ?_
  rintro e w3 ⟨v3, rfl, hg3, hr3⟩
  have Hr3 := Lib.hid (hr3.mono (T := any) (fun _ _ => trivial))
  clear hr3
  go_wp2_with fail
  refine (specIsSafe_ok q _ _ Hr3.out).mono ?_
  rintro e w4 ⟨rfl, hg4⟩
  have hcc4 := bcell ((hg2.trans hg3).trans hg4)
  go_wp2_with fail
  refine (toRequest_ok q _ _ hc (Hn.out.grow (by repeat (first | with_reducible exact Ext.refl _ _ | with_reducible refine Ext.trans ?_ (by assumption) | with_reducible refine Ext.drew ?_ | with_reducible refine Ext.drewN ?_ _ | with_reducible refine Ext.alloc ?_ _ | with_reducible refine Ext.setNew ?_ (by simp; done) _ | with_reducible refine Ext.setNew ?_ (by simp; omega) _)))).mono ?_
  rintro e w5 ⟨v5, rfl, hg5, hr5⟩
  obtain ⟨wa', wc', va', vc', na', nc', ka', kc', oa', oc', rfl, hr5⟩ := hr5
  have Hr5 : Hid (ReqR w5 any q (.agg (reqCells q wa' wc' va' vc' na' nc' ka' kc' oa' oc'))) := Lib.hid (ReqR.mono (S := upB _) (fun _ _ => trivial) ⟨wa', wc', va', vc', na', nc', ka', kc', oa', oc', rfl, hr5⟩)
  clear hr5
  unfold reqCells at *
  go_wp2_with fail
  refine (implIsSafe_ok q _ _ (Hr5.out.grow (by repeat (first | with_reducible exact Ext.refl _ _ | with_reducible refine Ext.trans ?_ (by assumption) | with_reducible refine Ext.drew ?_ | with_reducible refine Ext.drewN ?_ _ | with_reducible refine Ext.alloc ?_ _ | with_reducible refine Ext.setNew ?_ (by simp; done) _ | with_reducible refine Ext.setNew ?_ (by simp; omega) _)))).mono ?_
  rintro e w6 ⟨rfl, hg6⟩
  have hcc6 := bcell ((((hg2.trans hg3).trans hg4).trans hg5).alloc _ |>.trans hg6)
  have hcc6' := bcell hg6
  have hb : (safeB q != safeB q) = false := by simp
  go_wp2_with fail
  refine wp_region_stab Grow (fun i => if i = 2 then some (fun v w' => ReqR w' any q v) else if i = 3 then some (fun v _ => v = .bool true) else none) (by kernel_rfl) (by kernel_rfl) ⟨Ext.refl nil, fun _ _ h1 h2 => h2.trans h1, ?_⟩ ?_
  · intro i V hV v w1 w2 hr hv
    by_cases h2 : i = 2
    · simp only [h2, if_true, Option.some.injEq] at hV; subst hV; exact ReqR.grow hv hr
    · by_cases h3 : i = 3
      · simp [h3] at hV; subst hV; exact hv
      · simp [h2, h3] at hV
  refine wpStab_read ?c0 ?_ ?_ ?_ ?_
  rotate_left
  · go_simp
  · simp
  · intro x
    refine valAt_of ?_
    go_simp
    exact rfl
  refine wpStab_read ?c1 ?_ ?_ ?_ ?_
  rotate_left
  · go_simp
  · simp
  · intro x
    refine valAt_of ?_
    go_simp
    exact rfl
  refine wpStab_made (fun v w' => ReqR w' any q v) ?_ ?_ ?_ ?_
  · go_simp
  · simp
  · intro x _
    refine stabAt_call (f := 33) (args := #[.agg #[.int .i64 q.method, .string q.name, .slice wa q.want.length wc, .slice va q.avoid.length vc, .int .i64 q.body.kind, .int .i64 q.body.num, .string q.body.text, .slice na q.body.names.length nc, .slice ka q.body.kids.length kc, .slice oa q.ops.length oc]]) ?_ ?_
    · go_simp
    · refine (toRequest_ok q _ _ hc (Hn.out.grow (Ext.trans ?_ (later_grow _ x)))).mono ?_
      · exact (by repeat (first | with_reducible exact Ext.refl _ _ | with_reducible refine Ext.trans ?_ (by assumption) | with_reducible refine Ext.drew ?_ | with_reducible refine Ext.drewN ?_ _ | with_reducible refine Ext.alloc ?_ _ | with_reducible refine Ext.setNew ?_ (by simp; done) _ | with_reducible refine Ext.setNew ?_ (by simp; omega) _))
      · rintro e w' ⟨v', rfl, hg, hr⟩
        exact ⟨v', rfl, hg, hr.mono (fun _ _ => trivial)⟩
  intro v7
  refine wpStab_const (.bool true) ?_ ?_ ?_ ?_
  · go_simp
  · simp
  · intro x hE
    have hr7 : ReqR (later w6 x) any q v7 := (hE ⟨2, .data⟩ (by simp) (by decide)).2 rfl
    have Hr7 := Lib.hid hr7
    clear hr7 hE
    refine stabAt_call (f := 35) (args := #[.agg #[.int .i64 q.method, .string q.name, .slice wa' q.want.length wc', .slice va' q.avoid.length vc', .int .i64 q.body.kind, .int .i64 q.body.num, .string q.body.text, .slice na' q.body.names.length nc', .slice ka' q.body.kids.length kc', .slice oa' q.ops.length oc'], v7]) ?_ ?_
    · go_simp
    · refine (eqRequest_same q _ _ _ (Hr5.out.grow (Ext.trans ?_ (later_grow _ x))) Hr7.out).mono ?_
      · exact (by repeat (first | with_reducible exact Ext.refl _ _ | with_reducible refine Ext.trans ?_ (by assumption) | with_reducible refine Ext.drew ?_ | with_reducible refine Ext.drewN ?_ _ | with_reducible refine Ext.alloc ?_ _ | with_reducible refine Ext.setNew ?_ (by simp; done) _ | with_reducible refine Ext.setNew ?_ (by simp; omega) _))
      · rintro e w' ⟨rfl, hg⟩
        exact ⟨_, rfl, hg, rfl⟩
  refine wpStab_read ?c4 ?_ ?_ ?_ ?_
  rotate_left
  · go_simp
  · simp
  · intro x
    refine valAt_of ?_
    go_simp
    exact rfl
  refine wpStab_end ?_
  intro w8 hg8
  go_wp2_with fail
  go_ret
  exact ⟨by simp, (by repeat (first | with_reducible exact Ext.refl _ _ | with_reducible refine Ext.trans ?_ (by assumption) | with_reducible refine Ext.drew ?_ | with_reducible refine Ext.drewN ?_ _ | with_reducible refine Ext.alloc ?_ _ | with_reducible refine Ext.setNew ?_ (by simp; done) _ | with_reducible refine Ext.setNew ?_ (by simp; omega) _))⟩

end Go.Proofs.Ytchiakeceiefdaa
