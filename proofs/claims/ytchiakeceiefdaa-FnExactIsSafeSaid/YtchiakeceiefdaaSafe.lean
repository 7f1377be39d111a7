/-
  The walks of what makes requests valid and safe. (Printed by gensafe.py.)
-/
import Derived.Test.YtchiakeceiefdaaReqs
namespace Go.Proofs.Ytchiakeceiefdaa
open Go.RowKit

def safeB (q : Reqn) : Bool := reqB q && (q.method == 1)

set_option maxHeartbeats 2000000 in
theorem isRequest_ok (q : Reqn) (v : Value) (w : World) (hn : ReqR w any q v) :
    Calls Try.prog 85 #[v] w fun e w' => e = .returned (.bool (reqB q)) ∧ Grow w w' := by
  obtain ⟨wa, wc, va, vc, na, nc, ka, kc, oa, oc, rfl, hz, hw, hv, hb, ho⟩ := hn
  have Hz := Lib.hid hz
  have Hw := Lib.hid (hw.grow (w' := w.alloc (.cells #[.int .i64 q.method, .string q.name, .slice wa q.want.length wc, .slice va q.avoid.length vc, .int .i64 q.body.kind, .int .i64 q.body.num, .string q.body.text, .slice na q.body.names.length nc, .slice ka q.body.kids.length kc, .slice oa q.ops.length oc] 74)) (by repeat (first | with_reducible exact Ext.refl _ _ | with_reducible refine Ext.trans ?_ (by assumption) | with_reducible refine Ext.drew ?_ | with_reducible refine Ext.drewN ?_ _ | with_reducible refine Ext.alloc ?_ _ | with_reducible refine Ext.setNew ?_ (by simp; done) _ | with_reducible refine Ext.setNew ?_ (by simp; omega) _)))
  have Hv := Lib.hid (hv.grow (w' := w.alloc (.cells #[.int .i64 q.method, .string q.name, .slice wa q.want.length wc, .slice va q.avoid.length vc, .int .i64 q.body.kind, .int .i64 q.body.num, .string q.body.text, .slice na q.body.names.length nc, .slice ka q.body.kids.length kc, .slice oa q.ops.length oc] 74)) (by repeat (first | with_reducible exact Ext.refl _ _ | with_reducible refine Ext.trans ?_ (by assumption) | with_reducible refine Ext.drew ?_ | with_reducible refine Ext.drewN ?_ _ | with_reducible refine Ext.alloc ?_ _ | with_reducible refine Ext.setNew ?_ (by simp; done) _ | with_reducible refine Ext.setNew ?_ (by simp; omega) _)))
  have Ho := Lib.hid (ho.grow (w' := w.alloc (.cells #[.int .i64 q.method, .string q.name, .slice wa q.want.length wc, .slice va q.avoid.length vc, .int .i64 q.body.kind, .int .i64 q.body.num, .string q.body.text, .slice na q.body.names.length nc, .slice ka q.body.kids.length kc, .slice oa q.ops.length oc] 74)) (by repeat (first | with_reducible exact Ext.refl _ _ | with_reducible refine Ext.trans ?_ (by assumption) | with_reducible refine Ext.drew ?_ | with_reducible refine Ext.drewN ?_ _ | with_reducible refine Ext.alloc ?_ _ | with_reducible refine Ext.setNew ?_ (by simp; done) _ | with_reducible refine Ext.setNew ?_ (by simp; omega) _)))
  have Hb := Lib.hid (NodeR.grow (S := any) (w := w) (n := q.body) (v := nodeV q.body na nc ka kc) ⟨na, nc, ka, kc, rfl, hb⟩ (w' := w.alloc (.cells #[.int .i64 q.method, .string q.name, .slice wa q.want.length wc, .slice va q.avoid.length vc, .int .i64 q.body.kind, .int .i64 q.body.num, .string q.body.text, .slice na q.body.names.length nc, .slice ka q.body.kids.length kc, .slice oa q.ops.length oc] 74)) (by repeat (first | with_reducible exact Ext.refl _ _ | with_reducible refine Ext.trans ?_ (by assumption) | with_reducible refine Ext.drew ?_ | with_reducible refine Ext.drewN ?_ _ | with_reducible refine Ext.alloc ?_ _ | with_reducible refine Ext.setNew ?_ (by simp; done) _ | with_reducible refine Ext.setNew ?_ (by simp; omega) _)))
  clear hz hw hv hb ho
  unfold reqCells nodeV at *
  rcases inR_cases q.method 1 5 with ⟨hh1, hi⟩ | ⟨hh1, hi⟩ | ⟨hh1, hh2, hi⟩
  · have Hi := Lib.hid hi
    clear hi
    go_enter Try.func85, Try.ntmps85
    go_wp2
    go_ret
    exact ⟨by simp [reqB, Hi.out], (by repeat (first | with_reducible exact Ext.refl _ _ | with_reducible refine Ext.trans ?_ (by assumption) | with_reducible refine Ext.drew ?_ | with_reducible refine Ext.drewN ?_ _ | with_reducible refine Ext.alloc ?_ _ | with_reducible refine Ext.setNew ?_ (by simp; done) _ | with_reducible refine Ext.setNew ?_ (by simp; omega) _))⟩
  · have Hi := Lib.hid hi
    clear hi
    go_enter Try.func85, Try.ntmps85
    go_wp2
    go_ret
    exact ⟨by simp [reqB, Hi.out], (by repeat (first | with_reducible exact Ext.refl _ _ | with_reducible refine Ext.trans ?_ (by assumption) | with_reducible refine Ext.drew ?_ | with_reducible refine Ext.drewN ?_ _ | with_reducible refine Ext.alloc ?_ _ | with_reducible refine Ext.setNew ?_ (by simp; done) _ | with_reducible refine Ext.setNew ?_ (by simp; omega) _))⟩
  have Hi := Lib.hid hi
  clear hi
  cases h1 : nameB q.name
  · go_enter Try.func85, Try.ntmps85
    go_wp2_with (first | (go_at_call 120; refine (isName_ok _ _ Hz.out).mono ?_; rintro e w' ⟨rfl, rfl⟩; simp only [h1]))
    go_ret
    exact ⟨by simp [reqB, h1], (by repeat (first | with_reducible exact Ext.refl _ _ | with_reducible refine Ext.trans ?_ (by assumption) | with_reducible refine Ext.drew ?_ | with_reducible refine Ext.drewN ?_ _ | with_reducible refine Ext.alloc ?_ _ | with_reducible refine Ext.setNew ?_ (by simp; done) _ | with_reducible refine Ext.setNew ?_ (by simp; omega) _))⟩
  cases h2 : tagsB q.want
  · go_enter Try.func85, Try.ntmps85
    go_wp2_with (first | (go_at_call 120; refine (isName_ok _ _ Hz.out).mono ?_; rintro e w' ⟨rfl, rfl⟩; simp only [h1]) | (go_at_call 124; first | (with_reducible refine (areTags_ok wa wc q.want _ Hw.out).mono ?_; rintro e w' ⟨rfl, rfl⟩; simp only [h2]) | (with_reducible refine (areTags_ok va vc q.avoid _ Hv.out).mono ?_; rintro e w' ⟨rfl, rfl⟩; simp only [h3])))
    go_ret
    exact ⟨by simp [reqB, h2], (by repeat (first | with_reducible exact Ext.refl _ _ | with_reducible refine Ext.trans ?_ (by assumption) | with_reducible refine Ext.drew ?_ | with_reducible refine Ext.drewN ?_ _ | with_reducible refine Ext.alloc ?_ _ | with_reducible refine Ext.setNew ?_ (by simp; done) _ | with_reducible refine Ext.setNew ?_ (by simp; omega) _))⟩
  cases h3 : tagsB q.avoid
  · go_enter Try.func85, Try.ntmps85
    go_wp2_with (first | (go_at_call 120; refine (isName_ok _ _ Hz.out).mono ?_; rintro e w' ⟨rfl, rfl⟩; simp only [h1]) | (go_at_call 124; first | (with_reducible refine (areTags_ok wa wc q.want _ Hw.out).mono ?_; rintro e w' ⟨rfl, rfl⟩; simp only [h2]) | (with_reducible refine (areTags_ok va vc q.avoid _ Hv.out).mono ?_; rintro e w' ⟨rfl, rfl⟩; simp only [h3])))
    go_ret
    exact ⟨by simp [reqB, h3], (by repeat (first | with_reducible exact Ext.refl _ _ | with_reducible refine Ext.trans ?_ (by assumption) | with_reducible refine Ext.drew ?_ | with_reducible refine Ext.drewN ?_ _ | with_reducible refine Ext.alloc ?_ _ | with_reducible refine Ext.setNew ?_ (by simp; done) _ | with_reducible refine Ext.setNew ?_ (by simp; omega) _))⟩
  cases h4 : validB q.body
  · go_enter Try.func85, Try.ntmps85
    go_wp2_with (first | (go_at_call 120; refine (isName_ok _ _ Hz.out).mono ?_; rintro e w' ⟨rfl, rfl⟩; simp only [h1]) | (go_at_call 124; first | (with_reducible refine (areTags_ok wa wc q.want _ Hw.out).mono ?_; rintro e w' ⟨rfl, rfl⟩; simp only [h2]) | (with_reducible refine (areTags_ok va vc q.avoid _ Hv.out).mono ?_; rintro e w' ⟨rfl, rfl⟩; simp only [h3])) | (go_at_call 14; refine (ValidNode_ok q.body _ _ Hb.out).mono ?_; rintro e w2 ⟨rfl, hg2⟩; simp only [h4]; have hcc := bcell hg2))
    go_ret
    exact ⟨by simp [reqB, h4], (by repeat (first | with_reducible exact Ext.refl _ _ | with_reducible refine Ext.trans ?_ (by assumption) | with_reducible refine Ext.drew ?_ | with_reducible refine Ext.drewN ?_ _ | with_reducible refine Ext.alloc ?_ _ | with_reducible refine Ext.setNew ?_ (by simp; done) _ | with_reducible refine Ext.setNew ?_ (by simp; omega) _))⟩
  go_enter Try.func85, Try.ntmps85
  go_wp2_with (first | (go_at_call 120; refine (isName_ok _ _ Hz.out).mono ?_; rintro e w' ⟨rfl, rfl⟩; simp only [h1]) | (go_at_call 124; first | (with_reducible refine (areTags_ok wa wc q.want _ Hw.out).mono ?_; rintro e w' ⟨rfl, rfl⟩; simp only [h2]) | (with_reducible refine (areTags_ok va vc q.avoid _ Hv.out).mono ?_; rintro e w' ⟨rfl, rfl⟩; simp only [h3])) | (go_at_call 14; refine (ValidNode_ok q.body _ _ Hb.out).mono ?_; rintro e w2 ⟨rfl, hg2⟩; simp only [h4]; have hcc := bcell hg2) | (go_at_call 125; refine (arePatchOps_ok oa oc q.ops _ ((Ho.out).grow hg2)).mono ?_; rintro e w3 ⟨rfl, hg3⟩))
  go_ret
  exact ⟨by simp [reqB, Hi.out, h1, h2, h3, h4], (by repeat (first | with_reducible exact Ext.refl _ _ | with_reducible refine Ext.trans ?_ (by assumption) | with_reducible refine Ext.drew ?_ | with_reducible refine Ext.drewN ?_ _ | with_reducible refine Ext.alloc ?_ _ | with_reducible refine Ext.setNew ?_ (by simp; done) _ | with_reducible refine Ext.setNew ?_ (by simp; omega) _))⟩

set_option maxHeartbeats 2000000 in
theorem validRequest_ok (q : Reqn) (v : Value) (w : World) (hn : ReqR w any q v) :
    Calls Try.prog 83 #[v] w fun e w' => e = .returned (.bool (reqB q)) ∧ Grow w w' := by
  obtain ⟨wa, wc, va, vc, na, nc, ka, kc, oa, oc, rfl, hz, hw, hv, hb, ho⟩ := hn
  have Hz := Lib.hid hz
  have Hw := Lib.hid (hw.grow (w' := w.alloc (.cells #[.int .i64 q.method, .string q.name, .slice wa q.want.length wc, .slice va q.avoid.length vc, .int .i64 q.body.kind, .int .i64 q.body.num, .string q.body.text, .slice na q.body.names.length nc, .slice ka q.body.kids.length kc, .slice oa q.ops.length oc] 74)) (by repeat (first | with_reducible exact Ext.refl _ _ | with_reducible refine Ext.trans ?_ (by assumption) | with_reducible refine Ext.drew ?_ | with_reducible refine Ext.drewN ?_ _ | with_reducible refine Ext.alloc ?_ _ | with_reducible refine Ext.setNew ?_ (by simp; done) _ | with_reducible refine Ext.setNew ?_ (by simp; omega) _)))
  have Hv := Lib.hid (hv.grow (w' := w.alloc (.cells #[.int .i64 q.method, .string q.name, .slice wa q.want.length wc, .slice va q.avoid.length vc, .int .i64 q.body.kind, .int .i64 q.body.num, .string q.body.text, .slice na q.body.names.length nc, .slice ka q.body.kids.length kc, .slice oa q.ops.length oc] 74)) (by repeat (first | with_reducible exact Ext.refl _ _ | with_reducible refine Ext.trans ?_ (by assumption) | with_reducible refine Ext.drew ?_ | with_reducible refine Ext.drewN ?_ _ | with_reducible refine Ext.alloc ?_ _ | with_reducible refine Ext.setNew ?_ (by simp; done) _ | with_reducible refine Ext.setNew ?_ (by simp; omega) _)))
  have Ho := Lib.hid (ho.grow (w' := w.alloc (.cells #[.int .i64 q.method, .string q.name, .slice wa q.want.length wc, .slice va q.avoid.length vc, .int .i64 q.body.kind, .int .i64 q.body.num, .string q.body.text, .slice na q.body.names.length nc, .slice ka q.body.kids.length kc, .slice oa q.ops.length oc] 74)) (by repeat (first | with_reducible exact Ext.refl _ _ | with_reducible refine Ext.trans ?_ (by assumption) | with_reducible refine Ext.drew ?_ | with_reducible refine Ext.drewN ?_ _ | with_reducible refine Ext.alloc ?_ _ | with_reducible refine Ext.setNew ?_ (by simp; done) _ | with_reducible refine Ext.setNew ?_ (by simp; omega) _)))
  have Hb := Lib.hid (NodeR.grow (S := any) (w := w) (n := q.body) (v := nodeV q.body na nc ka kc) ⟨na, nc, ka, kc, rfl, hb⟩ (w' := w.alloc (.cells #[.int .i64 q.method, .string q.name, .slice wa q.want.length wc, .slice va q.avoid.length vc, .int .i64 q.body.kind, .int .i64 q.body.num, .string q.body.text, .slice na q.body.names.length nc, .slice ka q.body.kids.length kc, .slice oa q.ops.length oc] 74)) (by repeat (first | with_reducible exact Ext.refl _ _ | with_reducible refine Ext.trans ?_ (by assumption) | with_reducible refine Ext.drew ?_ | with_reducible refine Ext.drewN ?_ _ | with_reducible refine Ext.alloc ?_ _ | with_reducible refine Ext.setNew ?_ (by simp; done) _ | with_reducible refine Ext.setNew ?_ (by simp; omega) _)))
  clear hz hw hv hb ho
  unfold reqCells nodeV at *
  cases hi : inR q.method 1 5
  · go_enter Try.func83, Try.ntmps83
    go_wp2_with (first | (go_at_call 64; refine (inRange_ok _ _ _ _).mono ?_; rintro e w' ⟨rfl, rfl⟩; simp only [hi]))
    go_ret
    exact ⟨by simp [reqB, hi], (by repeat (first | with_reducible exact Ext.refl _ _ | with_reducible refine Ext.trans ?_ (by assumption) | with_reducible refine Ext.drew ?_ | with_reducible refine Ext.drewN ?_ _ | with_reducible refine Ext.alloc ?_ _ | with_reducible refine Ext.setNew ?_ (by simp; done) _ | with_reducible refine Ext.setNew ?_ (by simp; omega) _))⟩
  cases h1 : nameB q.name
  · go_enter Try.func83, Try.ntmps83
    go_wp2_with (first | (go_at_call 64; refine (inRange_ok _ _ _ _).mono ?_; rintro e w' ⟨rfl, rfl⟩; simp only [hi]) | (go_at_call 118; refine (validName_ok _ _ Hz.out).mono ?_; rintro e w' ⟨rfl, rfl⟩; simp only [h1]))
    go_ret
    exact ⟨by simp [reqB, h1], (by repeat (first | with_reducible exact Ext.refl _ _ | with_reducible refine Ext.trans ?_ (by assumption) | with_reducible refine Ext.drew ?_ | with_reducible refine Ext.drewN ?_ _ | with_reducible refine Ext.alloc ?_ _ | with_reducible refine Ext.setNew ?_ (by simp; done) _ | with_reducible refine Ext.setNew ?_ (by simp; omega) _))⟩
  cases h2 : tagsB q.want
  · go_enter Try.func83, Try.ntmps83
    go_wp2_with (first | (go_at_call 64; refine (inRange_ok _ _ _ _).mono ?_; rintro e w' ⟨rfl, rfl⟩; simp only [hi]) | (go_at_call 118; refine (validName_ok _ _ Hz.out).mono ?_; rintro e w' ⟨rfl, rfl⟩; simp only [h1]) | (go_at_call 122; first | (with_reducible refine (validTags_ok wa wc q.want _ Hw.out).mono ?_; rintro e w' ⟨rfl, rfl⟩; simp only [h2]) | (with_reducible refine (validTags_ok va vc q.avoid _ Hv.out).mono ?_; rintro e w' ⟨rfl, rfl⟩; simp only [h3])))
    go_ret
    exact ⟨by simp [reqB, h2], (by repeat (first | with_reducible exact Ext.refl _ _ | with_reducible refine Ext.trans ?_ (by assumption) | with_reducible refine Ext.drew ?_ | with_reducible refine Ext.drewN ?_ _ | with_reducible refine Ext.alloc ?_ _ | with_reducible refine Ext.setNew ?_ (by simp; done) _ | with_reducible refine Ext.setNew ?_ (by simp; omega) _))⟩
  cases h3 : tagsB q.avoid
  · go_enter Try.func83, Try.ntmps83
    go_wp2_with (first | (go_at_call 64; refine (inRange_ok _ _ _ _).mono ?_; rintro e w' ⟨rfl, rfl⟩; simp only [hi]) | (go_at_call 118; refine (validName_ok _ _ Hz.out).mono ?_; rintro e w' ⟨rfl, rfl⟩; simp only [h1]) | (go_at_call 122; first | (with_reducible refine (validTags_ok wa wc q.want _ Hw.out).mono ?_; rintro e w' ⟨rfl, rfl⟩; simp only [h2]) | (with_reducible refine (validTags_ok va vc q.avoid _ Hv.out).mono ?_; rintro e w' ⟨rfl, rfl⟩; simp only [h3])))
    go_ret
    exact ⟨by simp [reqB, h3], (by repeat (first | with_reducible exact Ext.refl _ _ | with_reducible refine Ext.trans ?_ (by assumption) | with_reducible refine Ext.drew ?_ | with_reducible refine Ext.drewN ?_ _ | with_reducible refine Ext.alloc ?_ _ | with_reducible refine Ext.setNew ?_ (by simp; done) _ | with_reducible refine Ext.setNew ?_ (by simp; omega) _))⟩
  cases h4 : validB q.body
  · go_enter Try.func83, Try.ntmps83
    go_wp2_with (first | (go_at_call 64; refine (inRange_ok _ _ _ _).mono ?_; rintro e w' ⟨rfl, rfl⟩; simp only [hi]) | (go_at_call 118; refine (validName_ok _ _ Hz.out).mono ?_; rintro e w' ⟨rfl, rfl⟩; simp only [h1]) | (go_at_call 122; first | (with_reducible refine (validTags_ok wa wc q.want _ Hw.out).mono ?_; rintro e w' ⟨rfl, rfl⟩; simp only [h2]) | (with_reducible refine (validTags_ok va vc q.avoid _ Hv.out).mono ?_; rintro e w' ⟨rfl, rfl⟩; simp only [h3])) | (go_at_call 58; refine (validNode_ok q.body _ _ Hb.out).mono ?_; rintro e w2 ⟨rfl, hg2⟩; simp only [h4]; have hcc := bcell hg2))
    go_ret
    exact ⟨by simp [reqB, h4], (by repeat (first | with_reducible exact Ext.refl _ _ | with_reducible refine Ext.trans ?_ (by assumption) | with_reducible refine Ext.drew ?_ | with_reducible refine Ext.drewN ?_ _ | with_reducible refine Ext.alloc ?_ _ | with_reducible refine Ext.setNew ?_ (by simp; done) _ | with_reducible refine Ext.setNew ?_ (by simp; omega) _))⟩
  go_enter Try.func83, Try.ntmps83
  go_wp2_with (first | (go_at_call 64; refine (inRange_ok _ _ _ _).mono ?_; rintro e w' ⟨rfl, rfl⟩; simp only [hi]) | (go_at_call 118; refine (validName_ok _ _ Hz.out).mono ?_; rintro e w' ⟨rfl, rfl⟩; simp only [h1]) | (go_at_call 122; first | (with_reducible refine (validTags_ok wa wc q.want _ Hw.out).mono ?_; rintro e w' ⟨rfl, rfl⟩; simp only [h2]) | (with_reducible refine (validTags_ok va vc q.avoid _ Hv.out).mono ?_; rintro e w' ⟨rfl, rfl⟩; simp only [h3])) | (go_at_call 58; refine (validNode_ok q.body _ _ Hb.out).mono ?_; rintro e w2 ⟨rfl, hg2⟩; simp only [h4]; have hcc := bcell hg2) | (go_at_call 123; refine (validPatch_ok oa oc q.ops _ ((Ho.out).grow hg2)).mono ?_; rintro e w3 ⟨rfl, hg3⟩))
  go_ret
  exact ⟨by simp [reqB, hi, h1, h2, h3, h4], (by repeat (first | with_reducible exact Ext.refl _ _ | with_reducible refine Ext.trans ?_ (by assumption) | with_reducible refine Ext.drew ?_ | with_reducible refine Ext.drewN ?_ _ | with_reducible refine Ext.alloc ?_ _ | with_reducible refine Ext.setNew ?_ (by simp; done) _ | with_reducible refine Ext.setNew ?_ (by simp; omega) _))⟩

set_option maxHeartbeats 2000000 in
theorem implIsSafe_ok (q : Reqn) (v : Value) (w : World) (hn : ReqR w any q v) :
    Calls Try.prog 34 #[v] w fun e w' => e = .returned (.bool (safeB q)) ∧ Grow w w' := by
  obtain ⟨wa, wc, va, vc, na, nc, ka, kc, oa, oc, rfl, hc⟩ := hn
  have Hq := Lib.hid (ReqR.grow (S := any) (w := w) (q := q) (v := .agg (reqCells q wa wc va vc na nc ka kc oa oc)) ⟨wa, wc, va, vc, na, nc, ka, kc, oa, oc, rfl, hc⟩ (w' := w.alloc (.cells #[.int .i64 q.method, .string q.name, .slice wa q.want.length wc, .slice va q.avoid.length vc, .int .i64 q.body.kind, .int .i64 q.body.num, .string q.body.text, .slice na q.body.names.length nc, .slice ka q.body.kids.length kc, .slice oa q.ops.length oc] 74)) (by repeat (first | with_reducible exact Ext.refl _ _ | with_reducible refine Ext.trans ?_ (by assumption) | with_reducible refine Ext.drew ?_ | with_reducible refine Ext.drewN ?_ _ | with_reducible refine Ext.alloc ?_ _ | with_reducible refine Ext.setNew ?_ (by simp; done) _ | with_reducible refine Ext.setNew ?_ (by simp; omega) _)))
  clear hc
  unfold reqCells at *
  cases h1 : reqB q
  · go_enter Try.func34, Try.ntmps34
    go_wp2_with (go_at_call 85; refine (isRequest_ok q _ _ Hq.out).mono ?_; rintro e w2 ⟨rfl, hg2⟩; simp only [h1]; have hcc := bcell hg2)
    go_ret
    exact ⟨by simp [safeB, h1], (by repeat (first | with_reducible exact Ext.refl _ _ | with_reducible refine Ext.trans ?_ (by assumption) | with_reducible refine Ext.drew ?_ | with_reducible refine Ext.drewN ?_ _ | with_reducible refine Ext.alloc ?_ _ | with_reducible refine Ext.setNew ?_ (by simp; done) _ | with_reducible refine Ext.setNew ?_ (by simp; omega) _))⟩
  · go_enter Try.func34, Try.ntmps34
    go_wp2_with (go_at_call 85; refine (isRequest_ok q _ _ Hq.out).mono ?_; rintro e w2 ⟨rfl, hg2⟩; simp only [h1]; have hcc := bcell hg2)
    go_ret
    exact ⟨by simp [safeB, h1], (by repeat (first | with_reducible exact Ext.refl _ _ | with_reducible refine Ext.trans ?_ (by assumption) | with_reducible refine Ext.drew ?_ | with_reducible refine Ext.drewN ?_ _ | with_reducible refine Ext.alloc ?_ _ | with_reducible refine Ext.setNew ?_ (by simp; done) _ | with_reducible refine Ext.setNew ?_ (by simp; omega) _))⟩

set_option maxHeartbeats 2000000 in
theorem specIsSafe_ok (q : Reqn) (v : Value) (w : World) (hn : ReqR w any q v) :
    Calls Try.prog 32 #[v] w fun e w' => e = .returned (.bool (safeB q)) ∧ Grow w w' := by
  obtain ⟨wa, wc, va, vc, na, nc, ka, kc, oa, oc, rfl, hc⟩ := hn
  have Hq := Lib.hid (ReqR.grow (S := any) (w := w) (q := q) (v := .agg (reqCells q wa wc va vc na nc ka kc oa oc)) ⟨wa, wc, va, vc, na, nc, ka, kc, oa, oc, rfl, hc⟩ (w' := w.alloc (.cells #[.int .i64 q.method, .string q.name, .slice wa q.want.length wc, .slice va q.avoid.length vc, .int .i64 q.body.kind, .int .i64 q.body.num, .string q.body.text, .slice na q.body.names.length nc, .slice ka q.body.kids.length kc, .slice oa q.ops.length oc] 74)) (by repeat (first | with_reducible exact Ext.refl _ _ | with_reducible refine Ext.trans ?_ (by assumption) | with_reducible refine Ext.drew ?_ | with_reducible refine Ext.drewN ?_ _ | with_reducible refine Ext.alloc ?_ _ | with_reducible refine Ext.setNew ?_ (by simp; done) _ | with_reducible refine Ext.setNew ?_ (by simp; omega) _)))
  clear hc
  unfold reqCells at *
  cases h1 : reqB q
  · go_enter Try.func32, Try.ntmps32
    go_wp2_with (go_at_call 83; refine (validRequest_ok q _ _ Hq.out).mono ?_; rintro e w2 ⟨rfl, hg2⟩; simp only [h1]; have hcc := bcell hg2)
    go_ret
    exact ⟨by simp [safeB, h1], (by repeat (first | with_reducible exact Ext.refl _ _ | with_reducible refine Ext.trans ?_ (by assumption) | with_reducible refine Ext.drew ?_ | with_reducible refine Ext.drewN ?_ _ | with_reducible refine Ext.alloc ?_ _ | with_reducible refine Ext.setNew ?_ (by simp; done) _ | with_reducible refine Ext.setNew ?_ (by simp; omega) _))⟩
  · go_enter Try.func32, Try.ntmps32
    go_wp2_with (go_at_call 83; refine (validRequest_ok q _ _ Hq.out).mono ?_; rintro e w2 ⟨rfl, hg2⟩; simp only [h1]; have hcc := bcell hg2)
    go_ret
    exact ⟨by simp [safeB, h1], (by repeat (first | with_reducible exact Ext.refl _ _ | with_reducible refine Ext.trans ?_ (by assumption) | with_reducible refine Ext.drew ?_ | with_reducible refine Ext.drewN ?_ _ | with_reducible refine Ext.alloc ?_ _ | with_reducible refine Ext.setNew ?_ (by simp; done) _ | with_reducible refine Ext.setNew ?_ (by simp; omega) _))⟩

end Go.Proofs.Ytchiakeceiefdaa
