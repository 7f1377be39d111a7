/-
  FnExactPageOf returns true whatever the arguments, and they read behind the call as they read before. No condition.
-/
import Derived.ProofKit
import Derived.Deep.Slices
import Derived.Deep.Fields
import Derived.Test.YtchiakeceiefdaaPgD

/-
  The walk of spec.PageOf.
-/
namespace Go.Proofs.Ytchiakeceiefdaa
open Go.RowKit

set_option maxRecDepth 100000 in
set_option maxHeartbeats 4000000 in
theorem specPage_own (s : Sto) (af : ByteArray) (lim : Int) (v : Value) (w : World) (hsz : af.size ≤ big) (h : RV stoRep packA w any s v) :
    Calls Try.prog 17 #[v, .string af, .int .i64 lim] w fun e w' => ∃ r, e = .returned (.tuple #[r, .string (pgN s af lim)]) ∧ Grow w w' ∧ OwnS w w' (pgL s af lim) r := by
  obtain ⟨a, c, rfl, hs⟩ := sto_open h
  have hbig : s.1.length ≤ 9223372036854775807 := hs.2.1
  have HS := Lib.hid h
  have Hs := Lib.hid hs
  clear h hs
  unfold stoV at *
  cases hv : storeB s
  · have Hv := Lib.hid hv
    have Hf := Lib.hid (page_bad (af := af) (lim := lim) (.inl hv))
    clear hv
    go_enter Try.func17, Try.ntmps17
    go_wp2_with fail
    refine (validStore_ok s _ _ (HS.out.grow (by repeat (first | with_reducible exact Ext.refl _ _ | with_reducible refine Ext.trans ?_ (by assumption) | with_reducible refine Ext.drew ?_ | with_reducible refine Ext.drewN ?_ _ | with_reducible refine Ext.alloc ?_ _ | with_reducible refine Ext.setNew ?_ (by simp; done) _ | with_reducible refine Ext.setNew ?_ (by simp; omega) _)))).mono ?_
    rintro e w2 ⟨rfl, hg2⟩
    simp only [Hv.out]
    go_wp2_with fail
    go_ret2
    exact ⟨.slice none 0 0, by simp [Hf.out.2], (by repeat (first | with_reducible exact Ext.refl _ _ | with_reducible refine Ext.trans ?_ (by assumption) | with_reducible refine Ext.drew ?_ | with_reducible refine Ext.drewN ?_ _ | with_reducible refine Ext.alloc ?_ _ | with_reducible refine Ext.setNew ?_ (by simp; done) _ | with_reducible refine Ext.setNew ?_ (by simp; omega) _)), by rw [Hf.out.1]; exact OwnS.nil _ _⟩
  have Hv := Lib.hid hv
  cases hl : inR lim 1 10
  · have Hl := Lib.hid hl
    have Hf := Lib.hid (page_bad (s := s) (af := af) (lim := lim) (.inr hl))
    clear hv hl
    go_enter Try.func17, Try.ntmps17
    go_wp2_with fail
    refine (validStore_ok s _ _ (HS.out.grow (by repeat (first | with_reducible exact Ext.refl _ _ | with_reducible refine Ext.trans ?_ (by assumption) | with_reducible refine Ext.drew ?_ | with_reducible refine Ext.drewN ?_ _ | with_reducible refine Ext.alloc ?_ _ | with_reducible refine Ext.setNew ?_ (by simp; done) _ | with_reducible refine Ext.setNew ?_ (by simp; omega) _)))).mono ?_
    rintro e w2 ⟨rfl, hg2⟩
    simp only [Hv.out]
    go_wp2_with fail
    refine (inRange_ok lim 1 10 _).mono ?_
    rintro e w3 ⟨rfl, rfl⟩
    simp only [Hl.out]
    go_wp2_with fail
    go_ret2
    exact ⟨.slice none 0 0, by simp [Hf.out.2], (by repeat (first | with_reducible exact Ext.refl _ _ | with_reducible refine Ext.trans ?_ (by assumption) | with_reducible refine Ext.drew ?_ | with_reducible refine Ext.drewN ?_ _ | with_reducible refine Ext.alloc ?_ _ | with_reducible refine Ext.setNew ?_ (by simp; done) _ | with_reducible refine Ext.setNew ?_ (by simp; omega) _)), by rw [Hf.out.1]; exact OwnS.nil _ _⟩
  have Hl := Lib.hid hl
  have hl10 : s.1.length ≤ 10 := (storeB_parts hv).1
  have hlim : 1 ≤ lim ∧ lim ≤ 10 := by simpa only [inR, Bool.and_eq_true, decide_eq_true_eq] using hl
  obtain ⟨hlim1, hlim2⟩ := hlim
  have HB := Lib.hid ((BoxN.new w [.slice a s.1.length c, .int .i64 s.2] 47).grow ((Ext.refl nil _).alloc (.cells #[] 9)))
  clear hv hl
  go_enter Try.func17, Try.ntmps17
  go_wp2_with fail
  refine (validStore_ok s _ _ (HS.out.grow (by repeat (first | with_reducible exact Ext.refl _ _ | with_reducible refine Ext.trans ?_ (by assumption) | with_reducible refine Ext.drew ?_ | with_reducible refine Ext.drewN ?_ _ | with_reducible refine Ext.alloc ?_ _ | with_reducible refine Ext.setNew ?_ (by simp; done) _ | with_reducible refine Ext.setNew ?_ (by simp; omega) _)))).mono ?_
  rintro e w2 ⟨rfl, hg2⟩
  simp only [Hv.out]
  go_wp2_with fail
  refine (inRange_ok lim 1 10 _).mono ?_
  rintro e w3 ⟨rfl, rfl⟩
  simp only [Hl.out]
  replace HB := Lib.hid (HB.out.grow hg2)
  have q0 := HB.out.cell 0 _ rfl
  have q1 := HB.out.cell 1 _ rfl
  go_wp2_with fail
  have hgw : Grow w w3 := (by repeat (first | with_reducible exact Ext.refl _ _ | with_reducible refine Ext.trans ?_ (by assumption) | with_reducible refine Ext.drew ?_ | with_reducible refine Ext.drewN ?_ _ | with_reducible refine Ext.alloc ?_ _ | with_reducible refine Ext.setNew ?_ (by simp; done) _ | with_reducible refine Ext.setNew ?_ (by simp; omega) _))
  clear q0 q1
  go_loopw [8, 9] (fun t i wr => Grow w wr ∧ BoxN wr w.heap.size [.slice a s.1.length c, .int .i64 s.2] ∧ PgRel w (w.heap.size + 1) af lim s.1 t i wr) (fun _ i _ => s.1.length - (intOf i).toNat)
  case atStart =>
    refine ⟨hgw, HB.out, _, 0, rfl, Nat.zero_le _, rfl, by simp [behind]; omega, row_grow ?_ hg2⟩
    have := World.ownsRow_made (e := 9) (size := 1) (base := w.heap.size + 1) (w.alloc (.cells #[.slice a s.1.length c, .int .i64 s.2] 47)) #[] 0 (by simp) (by unfold maxLen; omega) rfl
    simpa [behind] using this
  case round =>
    obtain ⟨hg0, B1, t, k, rfl, hk, rfl, hnl, hrow⟩ := hrel
    have HB1 := Lib.hid B1
    have Hrow := Lib.hid hrow
    have lb1 := B1.lt
    have hfl := behind_len af s.1 k
    clear B1 hrow
    have q0 := HB1.out.cell 0 _ rfl
    have q1 := HB1.out.cell 1 _ rfl
    by_cases hlt : k < s.1.length
    · obtain ⟨_, _, hks⟩ := (Hs.out).grow hg0
      rcases hks with hks | ⟨bk, ok, rfl, _, hkr⟩
      · simp [hks] at hlt
      obtain ⟨cs, hcs, hx⟩ := hkr k hlt
      obtain ⟨na0, nc0, ka0, kc0, rfl, hsz0, h0⟩ := itmRep_open hx
      rw [itmRep_n] at hcs
      have x0 : wr.cell? ⟨bk, ok + k * 7, none⟩ = _ := hcs 0 _ rfl
      have x1 := hcs 1 _ rfl
      have x2 := hcs 2 _ rfl
      have x3 := hcs 3 _ rfl
      have x4 := hcs 4 _ rfl
      have x5 := hcs 5 _ rfl
      have x6 := hcs 6 _ rfl
      have zb : bk < wr.heap.size := lt_of_cell x0
      clear hkr hcs hx h0
      cases hb : lt af s.1[k].1
      · have Hst := Lib.hid (behind_no hlt hb)
        rcases not_lt_cases hb with l1 | ⟨l1, l2⟩
        all_goals
          go_wp2_with fail
          go_roundw
          case rel => exact ⟨hg0, HB1.out, _, k + 1, rfl, by omega, by go_num, by rw [Hst.out]; exact hnl, by rw [Hst.out]; exact Hrow.out⟩
          case measure => simp [intOf]; omega
      · have Hb := Lib.hid hb
        have Hst := Lib.hid (behind_yes hlt hb)
        have l1 : Op.bytesLess s.1[k].1.toList af.toList = false := bl_asymm _ _ hb
        have l2 : (s.1[k].1.toList == af.toList) = false := bl_ne' hb
        clear hb
        by_cases hne : ((behind af (s.1.take k)).length : Int) = lim
        · skip
          obtain ⟨hp1, hp2, hp3⟩ := page_full Hv.out Hl.out hlt Hb.out hne
          have Hp1 := Lib.hid hp1
          have Hp3 := Lib.hid hp3
          obtain ⟨bb, cap, rfl, hcap, hbb, _, hcell⟩ := row_string Hrow.out (by omega)
          have t0 : wr.cell? ⟨bb, lim.toNat - 1, none⟩ = some (.string (behind af (s.1.take k))[lim.toNat - 1]) := hcell _ hp2
          have k1 : (lim - 1).toNat = lim.toNat - 1 := by omega
          have k2 : (0 : Int) ≤ lim - 1 := by omega
          have k3 : lim - 1 < ((behind af (s.1.take k)).length : Int) := by omega
          have zbb : bb < wr.heap.size := lt_of_cell t0
          clear hp1 hp3 hcell
          go_wp2_with fail
          go_quiet (fail)
          go_wp2_with fail
          go_ret2
          exact ⟨.slice (some ⟨bb, 0, none⟩) (behind af (s.1.take k)).length cap, by simp [Hp3.out], (by repeat (first | with_reducible exact Ext.refl _ _ | with_reducible refine Ext.trans ?_ (by assumption) | with_reducible refine Ext.drew ?_ | with_reducible refine Ext.drewN ?_ _ | with_reducible refine Ext.alloc ?_ _ | with_reducible refine Ext.setNew ?_ (by simp; done) _ | with_reducible refine Ext.setNew ?_ (by simp; omega) _)), by rw [Hp1.out]; exact (OwnS.row (by omega) Hrow.out (fun x hx => by obtain ⟨e, he, rfl⟩ := behind_mem hx; exact itmsR_texts Hs.out e (List.mem_of_mem_take he))).grow (by repeat (first | with_reducible exact Ext.refl _ _ | with_reducible refine Ext.trans ?_ (by assumption) | with_reducible refine Ext.drew ?_ | with_reducible refine Ext.drewN ?_ _ | with_reducible refine Ext.alloc ?_ _ | with_reducible refine Ext.setNew ?_ (by simp; done) _ | with_reducible refine Ext.setNew ?_ (by simp; omega) _))⟩
        · have hneb : (((behind af (s.1.take k)).length : Int) == lim) = false := by simpa using hne
          obtain ⟨ta, tc, rfl⟩ := row_slice Hrow.out
          obtain ⟨i0, hi0, hz0, hz1, hz2⟩ := info_parts info_string
          go_wp2_with (at_builtin; (refine wpList_append_own _ rfl _ _ 23 rfl (w.heap.size + 1) 9 i0 (.string ⟨#[]⟩) 1 16 Try.underlying23 hi0 hz0 hz1 hz2 rfl (by decide) (.slice ta (behind af (s.1.take k)).length tc) _ _ rfl (row_grow Hrow.out ((Ext.refl nil wr).alloc _)) ⟨wr.heap.size, 0, none⟩ 1 1 [.string s.1[k].1] rfl ?c1 ?c2 ?c3 ?c4 ?c5 ?c6 ?_))
          case c1 => rfl
          case c2 =>
            intro j u hu
            rw [addr_add, Nat.zero_add]
            exact (BoxN.new wr [.string s.1[k].1] 9).cell j u hu
          case c3 => simp [Value.oneCell']
          case c4 => unfold maxLen; omega
          case c5 => omega
          case c6 => simp; omega
          intro v' w7 hown7 hgrow7 _
          have hb3 : ∀ b, (Value.slice ta (behind af (s.1.take k)).length tc).ownBlock = some b → w.heap.size < b := fun b e => by have := (Hrow.out.lt b e).1; omega
          have hg7 : Grow w w7 := grown_ext (hg0.trans ((Ext.refl nil wr).alloc _)) hgrow7 (fun b e => by have := hb3 b e; omega)
          have B1 := (HB1.out.grow ((Ext.refl nil wr).alloc _)).grown hgrow7 hb3
          have Hown7 := Lib.hid hown7
          clear hown7 hgrow7 hb3 hg0
          go_wp2_with fail
          go_roundw
          case rel =>
            refine ⟨hg7, B1, _, k + 1, rfl, by omega, by go_num, by rw [Hst.out]; simp; omega, ?_⟩
            rw [Hst.out]
            simpa using Hown7.out
          case measure => simp [intOf]; omega
    · have hke : k = s.1.length := by omega
      have hrow := Hrow.out
      rw [hke, List.take_length] at hrow
      rw [hke, List.take_length] at hnl
      obtain ⟨hp1, hp2⟩ := page_end (af := af) Hv.out Hl.out hnl
      have Hp1 := Lib.hid hp1
      have Hp2 := Lib.hid hp2
      have Hrow2 := Lib.hid hrow
      clear hp1 hp2 hrow
      go_wp2_with fail
      go_ret2
      exact ⟨t, by simp [Hp2.out], hg0, by rw [Hp1.out]; exact OwnS.row (by omega) Hrow2.out (fun x hx => by obtain ⟨e, he, rfl⟩ := behind_mem hx; exact itmsR_texts Hs.out e he)⟩

theorem specPageOf_ok (s : Sto) (af : ByteArray) (lim : Int) (v : Value) (w : World) (hsz : af.size ≤ big) (h : RV stoRep packA w any s v) :
    Calls Try.prog 17 #[v, .string af, .int .i64 lim] w fun e w' => ∃ r, e = .returned (.tuple #[r, .string (pgN s af lim)]) ∧ Grow w w' ∧ RV strsRep packO w' any (pgL s af lim) r :=
  (specPage_own s af lim v w hsz h).mono fun e w' ⟨r, he, hg, ho⟩ => by obtain ⟨fp, h1, h2⟩ := ho.fv; exact ⟨r, he, hg, h1.rv⟩

end Go.Proofs.Ytchiakeceiefdaa

/-
  The walk of markItemS. (Printed by wip/genmark.py.)
-/
namespace Go.Proofs.Ytchiakeceiefdaa
open Go.RowKit

def cntItm (x : Itm) : Nat := 1 + 1 + cntK x.2.2
def mkItm (k : Nat) (x : Itm) : Itm := (mtxt (k), ((k + 1 : Nat) : Int), mkK (k + 1 + 1) x.2.2)

set_option maxRecDepth 100000 in
set_option maxHeartbeats 4000000 in
theorem markItemS_ok (l : List Itm) (a : Option Addr) (c : Nat) (fp : List Nat) (B k : Nat) (i : Int) (w : World) (hi : i = (k : Int)) (hF : SlF itmRep w a c l fp) (hfr : Free B w fp) (h1 : 0 < k) (h2 : k + cntR cntItm l ≤ 1000000000) (hl : l.length ≤ 1000000000) :
    Calls Try.prog 69 #[.slice a l.length c, .int .i64 i] w fun e w' => e = .returned (.int .i64 ((k + cntR cntItm l : Nat) : Int)) ∧ Ext (inl fp) w w' ∧ Free B w' fp ∧ SlF itmRep w' a c (mkR mkItm cntItm k l) fp := by
  subst hi
  obtain ⟨hle, hlen, hcc⟩ := hF
  rcases hcc with ⟨rfl, rfl⟩ | ⟨b, o, f, hne, rfl, rfl, hcc⟩
  · go_enter Try.func69, Try.ntmps69
    go_wp2_with fail
    go_loopw [1, 5] (fun t1 i wr => t1 = .int .i64 k ∧ i = .int .i64 0 ∧ wr = w) (fun _ _ _ => 0)
    case atStart => exact ⟨rfl, rfl, rfl⟩
    case round =>
      obtain ⟨rfl, rfl, rfl⟩ := hrel
      go_wp2_with fail
      go_ret
      exact ⟨by simp [cntR], Ext.refl _ _, hfr, ⟨by simp [mkR], by simp [mkR], .inl ⟨rfl, rfl⟩⟩⟩
  · have Hle := Lib.hid hle
    have Hlen := Lib.hid hlen
    have Hne := Lib.hid hne
    have hK0 : RowF itmRep w b o (mkR mkItm cntItm k (l.take 0) ++ l.drop 0) f := by simpa [mkR] using hcc
    clear hle hlen hne hcc
    go_enter Try.func69, Try.ntmps69
    go_wp2_with fail
    go_loopw [1, 5] (fun t1 i wr => ∃ j : Nat, j ≤ l.length ∧ i = .int .i64 j ∧ t1 = .int .i64 ((k + cntR cntItm (l.take j) : Nat) : Int) ∧ Ext (inl (b :: f)) w wr ∧ Free B wr (b :: f) ∧ RowF itmRep wr b o (mkR mkItm cntItm k (l.take j) ++ l.drop j) f) (fun _ i _ => l.length - (intOf i).toNat)
    case atStart => exact ⟨0, Nat.zero_le _, rfl, rfl, Ext.refl _ _, hfr, hK0⟩
    case round =>
      obtain ⟨j, hj, rfl, rfl, hg, hfr', hK⟩ := hrel
      have hct := cntR_take cntItm l j
      have Hg := Lib.hid hg
      have Hfr := Lib.hid hfr'
      have HK := Lib.hid hK
      clear hg hfr' hK hfr hK0
      by_cases hlt : j < l.length
      · obtain ⟨x, hx⟩ : ∃ x, x = l[j] := ⟨_, rfl⟩
        have htk : l.take (j + 1) = l.take j ++ [x] := by rw [take_snoc' _ _ hlt, hx]
        have hct2 := cntR_take cntItm l (j + 1)
        rw [htk, cntR_snoc] at hct2
        have hdr : l.drop j = x :: l.drop (j + 1) := by rw [drop_cons _ _ hlt, hx]
        have hK := HK.out
        rw [hdr] at hK
        obtain ⟨f1, f', hf, hK1, hK2⟩ := hK.split
        have hjl : (mkR mkItm cntItm k (l.take j)).length = j := by rw [mkR_len]; simp; omega
        rw [hjl] at hK2
        obtain ⟨fx, f2, cs, hf', hcs, hxF, hK3⟩ := hK2
        subst hf
        subst hf'
        have hcl := itmRep.flen hxF

        obtain ⟨_, _, fp0, fq0, rfl, hq0, ⟨rfl, h0, hz0⟩, ⟨_, _, fp1, fq1, rfl, hq1, ⟨rfl, hz1⟩, ⟨na2, nc2, ka2, kc2, rfl, h2⟩⟩⟩ := hxF
        subst hz0
        subst hz1
        obtain ⟨k', hk'⟩ : ∃ k', k' = k + cntR cntItm (l.take j) := ⟨_, rfl⟩
        have hk1 : 0 < k' := by omega
        have hb9 : k' + (1 + 1 + cntK x.2.2) ≤ 1000000000 := by have : cntItm x = 1 + 1 + cntK x.2.2 := rfl; omega
        obtain ⟨g2a, g2b, hfx2, ht2, hn2, hk2⟩ := h2.parts
        have Hck2 := Lib.hid (cntK_eq x.2.2)
        rw [← hk']
        clear hct2 hct
        have hs_g2a : ∀ y ∈ g2a, y ∈ fx := fun y hy => by simp [hq0, hq1, hfx2, hy]
        have hs_g2b : ∀ y ∈ g2b, y ∈ fx := fun y hy => by simp [hq0, hq1, hfx2, hy]
        have hbf : b ∉ f1 ++ (fx ++ f2) := (List.nodup_cons.1 Hfr.out.1).1
        have hnx : fx.Nodup := (List.nodup_append.1 (List.nodup_append.1 (List.nodup_cons.1 Hfr.out.1).2).2.1).1
        have hnx' := hnx
        simp only [hq0, hq1, hfx2] at hnx'
        simp only [List.nodup_append, List.nil_append] at hnx'
        have hn_g2a : g2a.Nodup := by simp_all
        have hb_g2a : b ∉ g2a := fun h => hbf (by simp [hs_g2a b h])
        have hf_g2a : Free B wr g2a := ⟨hn_g2a, fun y hy => Hfr.out.2 y (by simp [hs_g2a y hy])⟩
        have hn_g2b : g2b.Nodup := by simp_all
        have hb_g2b : b ∉ g2b := fun h => hbf (by simp [hs_g2b b h])
        have hf_g2b : Free B wr g2b := ⟨hn_g2b, fun y hy => Hfr.out.2 y (by simp [hs_g2b y hy])⟩
        have hd_g2a_g2b : ∀ y, y ∈ g2a → y ∈ g2b → False := by
          intro y h1 h2
          have h3 := hnx
          simp only [hq0, hq1, hfx2] at h3
          exact absurd h3 (not_nodup y (by simp [List.count_append]; have := List.count_pos_iff.2 h1; have := List.count_pos_iff.2 h2; omega))
        have he := Elm.new hcs hcl (Hfr.out.2 b (by simp)).2.2 (hcs.lt (by intro h; rw [h] at hcl; cases hcl))
        rw [itmRep_n] at he
        simp only [nodeL, List.cons_append, List.nil_append] at he
        have H_hs_g2a := Lib.hid hs_g2a
        have H_hb_g2a := Lib.hid hb_g2a
        have H_hf_g2a := Lib.hid hf_g2a
        have H_hs_g2b := Lib.hid hs_g2b
        have H_hb_g2b := Lib.hid hb_g2b
        have H_hf_g2b := Lib.hid hf_g2b
        have H_hd_g2a_g2b := Lib.hid hd_g2a_g2b
        have H_hn2 := Lib.hid hn2
        have H_hk2 := Lib.hid hk2
        have H_hfx2 := Lib.hid hfx2
        have H_hq0 := Lib.hid hq0
        have H_hq1 := Lib.hid hq1
        have H_hK1 := Lib.hid hK1
        have H_hK3 := Lib.hid hK3
        have H_htk := Lib.hid htk
        have H_hk' := Lib.hid hk'
        have HE := Lib.hid he
        clear hx hdr hK hnx hnx' hbf he hcs hcl hjl HK hs_g2a hb_g2a hf_g2a hn_g2a hs_g2b hb_g2b hf_g2b hn_g2b hd_g2a_g2b hn2 hk2 hfx2 h2 ht2 hq0 hq1 hK1 hK3 htk hk' h0
        have c0 : wr.cell? ⟨b, o + j * 7, none⟩ = _ := HE.out.cells 0 _ rfl
        have c1 := HE.out.cells 1 _ rfl
        have c2 := HE.out.cells 2 _ rfl
        have c3 := HE.out.cells 3 _ rfl
        have c4 := HE.out.cells 4 _ rfl
        have c5 := HE.out.cells 5 _ rfl
        have c6 := HE.out.cells 6 _ rfl
        have cz := HE.out.fr
        go_wp2_with fail
        have hea : Ext (inl [b]) wr wr := Ext.refl _ _
        have HA := Lib.hid hea
        clear hea
        clear c0 c1 c2 c3 c4 c5 c6 cz
        refine (markText_i (k') _ _ (by have := Hck2.out; omega) (by have := Hck2.out; omega) (by have := Hck2.out; omega)).mono ?_
        rintro e w1 ⟨rfl, hg⟩
        have he := HE.out.grow hg
        have hes : Ext (inl [b]) wr w1 := HA.out.trans hg.toX'
        clear hes HA hg HE
        have HE := Lib.hid he
        clear he
        have c0 : w1.cell? ⟨b, o + j * 7, none⟩ = _ := HE.out.cells 0 _ rfl
        have c1 := HE.out.cells 1 _ rfl
        have c2 := HE.out.cells 2 _ rfl
        have c3 := HE.out.cells 3 _ rfl
        have c4 := HE.out.cells 4 _ rfl
        have c5 := HE.out.cells 5 _ rfl
        have c6 := HE.out.cells 6 _ rfl
        have cz := HE.out.fr
        go_wp2_with fail
        obtain ⟨wa2, hwa⟩ : ∃ wa, wa = ((((w1.setCell ⟨b, o + j * 7, none⟩ (.string (mtxt (k')))).setCell ⟨b, o + j * 7 + 1, none⟩ (.int .i64 ((k' : Int) + 1))).setCell ⟨b, o + j * 7 + 2, none⟩ (.int .i64 ((k' : Int) + 1 + 1))).setCell ⟨b, o + j * 7 + 3, none⟩ (.int .i64 ((k' : Int) + 1 + 1 + 1))) := ⟨_, rfl⟩
        rw [← hwa]
        have he : Elm wr wa2 b (o + j * 7) 7 [.string (mtxt (k')), .int .i64 ((k' : Int) + 1), .int .i64 ((k' : Int) + 1 + 1), .int .i64 ((k' : Int) + 1 + 1 + 1), .string x.2.2.text, .slice na2 x.2.2.names.length nc2, .slice ka2 x.2.2.kids.length kc2] ([]) := by rw [hwa]; exact ((((HE.out.set0 (by simp) (.string (mtxt (k')))).set 1 (by simp) (.int .i64 ((k' : Int) + 1))).set 2 (by simp) (.int .i64 ((k' : Int) + 1 + 1))).set 3 (by simp) (.int .i64 ((k' : Int) + 1 + 1 + 1)))
        have hea : Ext (inl [b]) w1 wa2 := by rw [hwa]; exact (((((Ext.refl (inl [b]) w1).setIn (p := ⟨b, o + j * 7, none⟩) (by simp [inl]) (.string (mtxt (k')))).setIn (p := ⟨b, o + j * 7 + 1, none⟩) (by simp [inl]) (.int .i64 ((k' : Int) + 1))).setIn (p := ⟨b, o + j * 7 + 2, none⟩) (by simp [inl]) (.int .i64 ((k' : Int) + 1 + 1))).setIn (p := ⟨b, o + j * 7 + 3, none⟩) (by simp [inl]) (.int .i64 ((k' : Int) + 1 + 1 + 1)))
        clear hwa HE
        have HE := Lib.hid he
        clear he
        have HA := Lib.hid hea
        clear hea
        clear c0 c1 c2 c3 c4 c5 c6 cz
        refine (markText_i (k' + 1 + 1 + 1 + 1) _ _ (by have := Hck2.out; omega) (by have := Hck2.out; omega) (by have := Hck2.out; omega)).mono ?_
        rintro e w2 ⟨rfl, hg⟩
        have he := HE.out.grow hg
        have hes : Ext (inl [b]) w1 w2 := HA.out.trans hg.toX'
        clear hes HA hg HE
        have HE := Lib.hid he
        clear he
        have c0 : w2.cell? ⟨b, o + j * 7, none⟩ = _ := HE.out.cells 0 _ rfl
        have c1 := HE.out.cells 1 _ rfl
        have c2 := HE.out.cells 2 _ rfl
        have c3 := HE.out.cells 3 _ rfl
        have c4 := HE.out.cells 4 _ rfl
        have c5 := HE.out.cells 5 _ rfl
        have c6 := HE.out.cells 6 _ rfl
        have cz := HE.out.fr
        go_wp2_with fail
        obtain ⟨wa3, hwa⟩ : ∃ wa, wa = (w2.setCell ⟨b, o + j * 7 + 4, none⟩ (.string (mtxt (k' + 1 + 1 + 1 + 1)))) := ⟨_, rfl⟩
        rw [← hwa]
        have he : Elm wr wa3 b (o + j * 7) 7 [.string (mtxt (k')), .int .i64 ((k' : Int) + 1), .int .i64 ((k' : Int) + 1 + 1), .int .i64 ((k' : Int) + 1 + 1 + 1), .string (mtxt (k' + 1 + 1 + 1 + 1)), .slice na2 x.2.2.names.length nc2, .slice ka2 x.2.2.kids.length kc2] ([]) := by rw [hwa]; exact (HE.out.set 4 (by simp) (.string (mtxt (k' + 1 + 1 + 1 + 1))))
        have hea : Ext (inl [b]) w2 wa3 := by rw [hwa]; exact ((Ext.refl (inl [b]) w2).setIn (p := ⟨b, o + j * 7 + 4, none⟩) (by simp [inl]) (.string (mtxt (k' + 1 + 1 + 1 + 1))))
        clear hwa HE
        have HE := Lib.hid he
        clear he
        have HA := Lib.hid hea
        clear hea
        clear c0 c1 c2 c3 c4 c5 c6 cz
        have hni : ∀ y ∈ g2a, ¬ inl (b :: ([])) y := (fun y hy h => by simp [inl] at h; subst h; exact H_hb_g2a.out hy)
        have hko := HE.out.ext.keeps H_hf_g2a.out hni
        have hfo := H_hf_g2a.out.ext HE.out.ext hni
        have Hko := Lib.hid hko
        have Hfo := Lib.hid hfo
        clear hko hfo hni
        refine (markStringS_i na2 nc2 x.2.2.names g2a B (k' + 1 + 1 + 1 + 1 + 1) _ _ (by have := Hck2.out; omega) (H_hn2.out.keep Hko.out) Hfo.out (by have := Hck2.out; omega) (by have := Hck2.out; omega)).mono ?_
        rintro e w3 ⟨rfl, hx, hfree, hF⟩
        clear HA
        have he := HE.out.sub hx H_hb_g2a.out
        have M_g2a := Lib.hid hF
        have MF_g2a := Lib.hid hfree
        have X_g2a := Lib.hid hx
        clear hx hfree hF HE Hko Hfo
        have HE := Lib.hid he
        clear he
        have c0 : w3.cell? ⟨b, o + j * 7, none⟩ = _ := HE.out.cells 0 _ rfl
        have c1 := HE.out.cells 1 _ rfl
        have c2 := HE.out.cells 2 _ rfl
        have c3 := HE.out.cells 3 _ rfl
        have c4 := HE.out.cells 4 _ rfl
        have c5 := HE.out.cells 5 _ rfl
        have c6 := HE.out.cells 6 _ rfl
        have cz := HE.out.fr
        go_wp2_with fail
        have hea : Ext (inl [b]) w3 w3 := Ext.refl _ _
        have HA := Lib.hid hea
        clear hea
        clear c0 c1 c2 c3 c4 c5 c6 cz
        have hni : ∀ y ∈ g2b, ¬ inl (b :: ([] ++ g2a)) y := (fun y hy h => by simp [inl] at h; rcases h with h | h; subst h; exact H_hb_g2b.out hy; exact False.elim (H_hd_g2a_g2b.out y h hy))
        have hko := HE.out.ext.keeps H_hf_g2b.out hni
        have hfo := H_hf_g2b.out.ext HE.out.ext hni
        have Hko := Lib.hid hko
        have Hfo := Lib.hid hfo
        clear hko hfo hni
        refine (markNodeS_ok x.2.2.kids ka2 kc2 g2b B (k' + 1 + 1 + 1 + 1 + 1 + x.2.2.names.length) _ _ (by have := Hck2.out; omega) (H_hk2.out.keep Hko.out) Hfo.out (by have := Hck2.out; omega) (by have := Hck2.out; omega)).mono ?_
        rintro e w4 ⟨rfl, hx, hfree, hF⟩
        have hes : Ext (inl (b :: g2b)) w3 w4 := (HA.out.mono (fun y hy => by simp [inl] at hy ⊢; exact .inl hy)).trans (hx.mono (fun y hy => List.mem_cons_of_mem _ hy))
        have hnn : ∀ y ∈ g2a, ¬ inl (b :: g2b) y := (fun y hy h => by simp [inl] at h; rcases h with h | h; subst h; exact H_hb_g2a.out hy; exact H_hd_g2a_g2b.out y hy h)
        replace M_g2a := Lib.hid (M_g2a.out.keep (hes.keeps MF_g2a.out hnn))
        replace MF_g2a := Lib.hid (MF_g2a.out.ext hes hnn)
        clear hnn
        clear hes
        clear HA
        have he := HE.out.sub hx H_hb_g2b.out
        have M_g2b := Lib.hid hF
        have MF_g2b := Lib.hid hfree
        have X_g2b := Lib.hid hx
        clear hx hfree hF HE Hko Hfo
        have HE := Lib.hid he
        clear he
        have c0 : w4.cell? ⟨b, o + j * 7, none⟩ = _ := HE.out.cells 0 _ rfl
        have c1 := HE.out.cells 1 _ rfl
        have c2 := HE.out.cells 2 _ rfl
        have c3 := HE.out.cells 3 _ rfl
        have c4 := HE.out.cells 4 _ rfl
        have c5 := HE.out.cells 5 _ rfl
        have c6 := HE.out.cells 6 _ rfl
        have cz := HE.out.fr
        go_wp2_with fail
        clear c0 c1 c2 c3 c4 c5 c6 cz
        go_roundw
        case rel =>
          have he := HE.out
          have hG : ∀ y ∈ [] ++ g2a ++ g2b, y ∈ fx := by
            intro y hy
            simp at hy
            rcases hy with h | h
            · exact H_hs_g2a.out y h
            · exact H_hs_g2b.out y h
          have hes := (Ext.refl (inl [b]) w4)
          have hnn : ∀ y ∈ g2a, ¬ inl [b] y := (fun y hy h => by simp [inl] at h; subst h; exact H_hb_g2a.out hy)
          replace M_g2a := Lib.hid (M_g2a.out.keep (hes.keeps MF_g2a.out hnn))
          replace MF_g2a := Lib.hid (MF_g2a.out.ext hes hnn)
          clear hnn
          have hnn : ∀ y ∈ g2b, ¬ inl [b] y := (fun y hy h => by simp [inl] at h; subst h; exact H_hb_g2b.out hy)
          replace M_g2b := Lib.hid (M_g2b.out.keep (hes.keeps MF_g2b.out hnn))
          replace MF_g2b := Lib.hid (MF_g2b.out.ext hes hnn)
          clear hnn
          refine ⟨j + 1, by omega, by go_num, ?_, Hg.out.trans (he.ext.mono (fun y hy => ?_)), he.free Hfr.out (fun y hy q => ?_), ?_⟩
          · rw [H_htk.out, cntR_snoc]
            have h3 := H_hk'.out
            have h4 : cntItm x = 1 + 1 + cntK x.2.2 := rfl
            congr 1
            exact (by have := Hck2.out; first | omega | (unfold wrap64; omega))
          · simp only [inl, List.mem_cons] at hy ⊢
            rcases hy with hy | hy
            · exact .inl hy
            · right; simp [hG y hy]
          · simp at hy
            rcases hy with h | h
            · exact (MF_g2a.out.2 y h).2.2 q
            · exact (MF_g2b.out.2 y h).2.2 q
          · have hxF : itmRep.F _ (mkItm k' x) ([.string (mtxt (k'))] ++ ([.int .i64 ((k' + 1 : Nat) : Int)] ++ nodeL (mkK (k' + 1 + 1) x.2.2) na2 nc2 ka2 kc2)) ([] ++ ([] ++ (g2a ++ g2b))) := ⟨[.string (mtxt (k'))], ([.int .i64 ((k' + 1 : Nat) : Int)] ++ nodeL (mkK (k' + 1 + 1) x.2.2) na2 nc2 ka2 kc2), [], ([] ++ (g2a ++ g2b)), rfl, rfl, ⟨rfl, mtxt_size _ (by omega), rfl⟩, ⟨[.int .i64 ((k' + 1 : Nat) : Int)], nodeL (mkK (k' + 1 + 1) x.2.2) na2 nc2 ka2 kc2, [], (g2a ++ g2b), rfl, rfl, ⟨rfl, rfl⟩, ⟨na2, nc2, ka2, kc2, rfl, nodeF_mk (by have := Hck2.out; omega) M_g2a.out M_g2b.out⟩⟩⟩
            have hfx : fx = ([] ++ ([] ++ (g2a ++ g2b))) := by simp [H_hq0.out, H_hq1.out, H_hfx2.out]
            rw [← hfx] at hxF
            simp only [nodeL_mk] at hxF
            have hjl : (mkR mkItm cntItm k (l.take j)).length = j := by rw [mkR_len]; simp; omega
            rw [H_htk.out, mkR_snoc, ← H_hk'.out, List.append_assoc]
            exact RowF.marked H_hK1.out H_hK3.out (by rw [hjl]) he hG Hfr.out hxF
        case measure => simp [intOf]; omega
      · have hje : j = l.length := by omega
        subst hje
        have hK := HK.out
        rw [List.take_length, List.drop_length, List.append_nil] at hK
        have HK2 := Lib.hid hK
        clear hK
        simp only [List.take_length]
        go_wp2_with fail
        go_ret
        refine ⟨by simp, Hg.out, Hfr.out, ⟨by rw [mkR_len]; exact Hle.out, by rw [mkR_len]; exact Hlen.out, .inr ⟨b, o, f, ?_, rfl, rfl, HK2.out⟩⟩⟩
        intro h
        have := congrArg List.length h
        rw [mkR_len] at this
        exact Hne.out (List.length_eq_zero_iff.1 this)

end Go.Proofs.Ytchiakeceiefdaa

/-
  The walks of the laws' helpers on stores.
-/
namespace Go.Proofs.Ytchiakeceiefdaa
open Go.RowKit

theorem openV_sto {w : World} {S : Nat → Prop} {s : Sto} {v : Value} (h : RV stoRep packA w S s v) : ∃ a c, v = stoV s a c := by
  obtain ⟨a, c, h, _⟩ := sto_open h; exact ⟨a, c, h⟩
def cntSto (s : Sto) : Nat := cntR cntItm s.1
def mkSto (k : Nat) (s : Sto) : Sto := (mkR mkItm cntItm k s.1, s.2)
theorem cntItm_le (x : Itm) : cntItm x ≤ 5 + 4 * costItm x := by
  have h := cntK_le x.2.2
  unfold cntItm costItm; omega
theorem cntSto_le (s : Sto) : cntSto s ≤ 5 * costSto s := by
  unfold cntSto costSto
  induction s.1 with
  | nil => simp [cntR]
  | cons x l ih =>
    have h := cntItm_le x
    simp only [cntR, costItmL, List.map_cons, List.sum_cons, List.length_cons] at ih ⊢
    omega
theorem cntSto_len (s : Sto) : s.1.length ≤ cntSto s := by
  unfold cntSto
  induction s.1 with
  | nil => simp
  | cons x l ih =>
    simp only [cntR, List.map_cons, List.sum_cons, List.length_cons, cntItm] at ih ⊢
    omega
theorem costSto_len (s : Sto) : s.1.length ≤ costSto s := by unfold costSto costItmL; omega

theorem uSzSto (s : Sto) (v : Value) (left : Int) (w : World) (h0 : 0 ≤ left) (h1 : left ≤ 1048576) (h : RV stoRep packA w any s v) :
    Calls Try.prog 16 #[v, .int .i64 left] w fun e w' => e = .returned (.int .i64 (szR (costSto s) left)) ∧ Grow w w' := by
  obtain ⟨a, c, rfl, hs⟩ := sto_open h
  have Hs := Lib.hid hs
  clear h hs
  unfold stoV
  by_cases hb : (costSto s : Int) ≤ left
  · have Hz := Lib.hid (szR_pos hb)
    have Hz' : Hid (szR (costItmL s.1) left = left - costSto s) := Lib.hid (szR_pos hb)
    go_enter Try.func16, Try.ntmps16
    go_wp2_with fail
    refine (szItemS_ok s.1 _ _ left _ (Hs.out.grow (by repeat (first | with_reducible exact Ext.refl _ _ | with_reducible refine Ext.trans ?_ (by assumption) | with_reducible refine Ext.drew ?_ | with_reducible refine Ext.drewN ?_ _ | with_reducible refine Ext.alloc ?_ _ | with_reducible refine Ext.setNew ?_ (by simp; done) _ | with_reducible refine Ext.setNew ?_ (by simp; omega) _))) h0 h1).mono ?_
    rintro e w2 ⟨rfl, hg2⟩
    simp only [Hz'.out]
    go_wp2_with fail
    go_ret
    exact ⟨by simp [Hz.out], (by repeat (first | with_reducible exact Ext.refl _ _ | with_reducible refine Ext.trans ?_ (by assumption) | with_reducible refine Ext.drew ?_ | with_reducible refine Ext.drewN ?_ _ | with_reducible refine Ext.alloc ?_ _ | with_reducible refine Ext.setNew ?_ (by simp; done) _ | with_reducible refine Ext.setNew ?_ (by simp; omega) _))⟩
  · have Hz := Lib.hid (szR_neg (c := costSto s) (left := left) (by omega))
    have Hz' : Hid (szR (costItmL s.1) left = -1) := Lib.hid (szR_neg (by unfold costSto at hb; omega))
    clear hb
    go_enter Try.func16, Try.ntmps16
    go_wp2_with fail
    refine (szItemS_ok s.1 _ _ left _ (Hs.out.grow (by repeat (first | with_reducible exact Ext.refl _ _ | with_reducible refine Ext.trans ?_ (by assumption) | with_reducible refine Ext.drew ?_ | with_reducible refine Ext.drewN ?_ _ | with_reducible refine Ext.alloc ?_ _ | with_reducible refine Ext.setNew ?_ (by simp; done) _ | with_reducible refine Ext.setNew ?_ (by simp; omega) _))) h0 h1).mono ?_
    rintro e w2 ⟨rfl, hg2⟩
    simp only [Hz'.out]
    go_wp2_with fail
    go_ret
    exact ⟨by simp [Hz.out], (by repeat (first | with_reducible exact Ext.refl _ _ | with_reducible refine Ext.trans ?_ (by assumption) | with_reducible refine Ext.drew ?_ | with_reducible refine Ext.drewN ?_ _ | with_reducible refine Ext.alloc ?_ _ | with_reducible refine Ext.setNew ?_ (by simp; done) _ | with_reducible refine Ext.setNew ?_ (by simp; omega) _))⟩

theorem uToSto (s : Sto) (v : Value) (w : World) (hc : costSto s ≤ 1048576) (h : RV stoRep packA w any s v) :
    Calls Try.prog 18 #[v] w fun e w' => ∃ v' fp, e = .returned v' ∧ Grow w w' ∧ FV stoRep packA w' s v' fp ∧ Free w.heap.size w' fp := by
  obtain ⟨a, c, rfl, hs⟩ := sto_open h
  have Hs := Lib.hid hs
  clear h hs
  unfold stoV
  have HB0 := Lib.hid (((BoxN.new w [.slice a s.1.length c, .int .i64 s.2] 41).grow ((Ext.refl nil _).alloc (.cells #[.slice none 0 0, .int .i64 0] 47))).grow ((Ext.refl nil _).alloc (.cells #[.slice none 0 0, .int .i64 0] 47)))
  have HB1 := Lib.hid ((BoxN.new1 w (.cells #[.slice a s.1.length c, .int .i64 s.2] 41) [.slice none 0 0, .int .i64 0] 47).grow ((Ext.refl nil _).alloc (.cells #[.slice none 0 0, .int .i64 0] 47)))
  have HB2 := Lib.hid (BoxN.new2 w (.cells #[.slice a s.1.length c, .int .i64 s.2] 41) (.cells #[.slice none 0 0, .int .i64 0] 47) [.slice none 0 0, .int .i64 0] 47)
  go_enter Try.func18, Try.ntmps18
  go_wp2_with fail
  refine (toItemS_ok s.1 _ _ _ hc (Hs.out.grow (by repeat (first | with_reducible exact Ext.refl _ _ | with_reducible refine Ext.trans ?_ (by assumption) | with_reducible refine Ext.drew ?_ | with_reducible refine Ext.drewN ?_ _ | with_reducible refine Ext.alloc ?_ _ | with_reducible refine Ext.setNew ?_ (by simp; done) _ | with_reducible refine Ext.setNew ?_ (by simp; omega) _)))).mono ?_
  rintro e w2 ⟨a', c', fp, rfl, hg2, hF, hfr⟩
  have hgp : Grow w w2 := (by repeat (first | with_reducible exact Ext.refl _ _ | with_reducible refine Ext.trans ?_ (by assumption) | with_reducible refine Ext.drew ?_ | with_reducible refine Ext.drewN ?_ _ | with_reducible refine Ext.alloc ?_ _ | with_reducible refine Ext.setNew ?_ (by simp; done) _ | with_reducible refine Ext.setNew ?_ (by simp; omega) _))
  simp only [World.size_alloc] at hfr
  have HF := Lib.hid hF
  have Hfr := Lib.hid hfr
  replace HB0 := Lib.hid (HB0.out.grow hg2)
  replace HB1 := Lib.hid (HB1.out.grow hg2)
  replace HB2 := Lib.hid (HB2.out.grow hg2)
  clear hF hfr hg2
  have p0 := HB0.out.cell 0 _ rfl
  have p1 := HB0.out.cell 1 _ rfl
  have q0 := HB2.out.cell 0 _ rfl
  have q1 := HB2.out.cell 1 _ rfl
  have qf := HB2.out.fr
  have r0 := HB1.out.cell 0 _ rfl
  have r1 := HB1.out.cell 1 _ rfl
  have rf := HB1.out.fr
  have z1 := HB2.out.lt
  go_wp2_with fail
  have BF := (((HB1.out.other (p := ⟨w.heap.size + 1 + 1, 0, none⟩) (by simp) (.slice a' s.1.length c')).other (p := ⟨w.heap.size + 1 + 1, 1, none⟩) (by simp) (.int .i64 s.2)).set 0 (by simp) (.slice a' s.1.length c')).set 1 (by simp) (.int .i64 s.2)
  have s0 := BF.cell 0 _ rfl
  have s1 := BF.cell 1 _ rfl
  have x2 : ∀ b ∈ fp, ¬ (b = w.heap.size + 1 ∨ b = w.heap.size + 1 + 1) := fun b hb => by have := (Hfr.out.2 b hb).1; omega
  have ex : ∀ (w3 : World) (p : Addr) (v : Value), (p.block = w.heap.size + 1 ∨ p.block = w.heap.size + 1 + 1) → Ext (fun k => k = w.heap.size + 1 ∨ k = w.heap.size + 1 + 1) w3 (w3.setCell p v) := fun w3 p v hp => (Ext.refl _ w3).setIn hp v
  have hall := ((ex w2 ⟨w.heap.size + 1 + 1, 0, none⟩ (.slice a' s.1.length c') (.inr rfl)).trans (ex _ ⟨w.heap.size + 1 + 1, 1, none⟩ (.int .i64 s.2) (.inr rfl))).trans ((ex _ ⟨w.heap.size + 1, 0, none⟩ (.slice a' s.1.length c') (.inl rfl)).trans (ex _ ⟨w.heap.size + 1, 1, none⟩ (.int .i64 s.2) (.inl rfl)))
  refine bodyPost_ret (v := stoV s a' c') ?_ rfl ⟨_, fp, rfl, hgp.inner hall (by intro i hi; omega), sto_shutF (HF.out.keep (hall.keeps Hfr.out x2)), (Hfr.out.ext hall x2).mono (by omega)⟩
  unfold stoV
  simp [results, Try.results18, go_sem, s0, s1]

theorem uEqSto (s : Sto) (v u : Value) (w : World) (h : RV stoRep packA w any s v) (h' : RV stoRep packA w any s u) :
    Calls Try.prog 21 #[v, u] w fun e w' => e = .returned (.bool true) ∧ Grow w w' := by
  obtain ⟨a, c, rfl, hs⟩ := sto_open h
  obtain ⟨a', c', rfl, hs'⟩ := sto_open h'
  have Hs := Lib.hid hs
  have Hs' := Lib.hid hs'
  clear h hs h' hs'
  unfold stoV
  go_enter Try.func21, Try.ntmps21
  go_wp2_with fail
  refine (eqItemS_same s.1 _ _ _ _ _ (Hs.out.grow (by repeat (first | with_reducible exact Ext.refl _ _ | with_reducible refine Ext.trans ?_ (by assumption) | with_reducible refine Ext.drew ?_ | with_reducible refine Ext.drewN ?_ _ | with_reducible refine Ext.alloc ?_ _ | with_reducible refine Ext.setNew ?_ (by simp; done) _ | with_reducible refine Ext.setNew ?_ (by simp; omega) _))) (Hs'.out.grow (by repeat (first | with_reducible exact Ext.refl _ _ | with_reducible refine Ext.trans ?_ (by assumption) | with_reducible refine Ext.drew ?_ | with_reducible refine Ext.drewN ?_ _ | with_reducible refine Ext.alloc ?_ _ | with_reducible refine Ext.setNew ?_ (by simp; done) _ | with_reducible refine Ext.setNew ?_ (by simp; omega) _)))).mono ?_
  rintro e w2 ⟨rfl, hg2⟩
  have hcc := bcell hg2
  go_wp2_with fail
  go_ret
  exact ⟨by simp, (by repeat (first | with_reducible exact Ext.refl _ _ | with_reducible refine Ext.trans ?_ (by assumption) | with_reducible refine Ext.drew ?_ | with_reducible refine Ext.drewN ?_ _ | with_reducible refine Ext.alloc ?_ _ | with_reducible refine Ext.setNew ?_ (by simp; done) _ | with_reducible refine Ext.setNew ?_ (by simp; omega) _))⟩

theorem uMarkSto (s : Sto) (v : Value) (fp : List Nat) (B k : Nat) (i : Int) (w : World) (hi : i = (k : Int)) (hF : FV stoRep packA w s v fp) (hfr : Free B w fp) (h1 : 0 < k) (h2 : k + cntSto s ≤ 1000000000) :
    Calls Try.prog 22 #[v, .int .i64 i] w fun e w' => e = .returned (.int .i64 ((k + cntSto s : Nat) : Int)) ∧ Ext (inl fp) w w' ∧ Free B w' fp ∧ FV stoRep packA w' (mkSto k s) v fp := by
  have hl : s.1.length ≤ 1000000000 := by have := cntSto_len s; omega
  obtain ⟨a, c, rfl, hs⟩ := sto_openF hF
  subst hi
  have Hs := Lib.hid hs
  have Hfr := Lib.hid hfr
  clear hF hs hfr
  unfold stoV
  go_enter Try.func22, Try.ntmps22
  go_wp2_with fail
  have hg1 : Grow w (w.alloc (.cells #[.slice a s.1.length c, .int .i64 s.2] 47)) := (Ext.refl nil w).alloc _
  refine (markItemS_ok s.1 _ _ fp B k _ _ rfl (Hs.out.keep (hg1.keeps Hfr.out (fun _ _ h => h))) (Hfr.out.ext hg1 (fun _ _ h => h)) h1 h2 hl).mono ?_
  rintro e w2 ⟨rfl, hx2, hfr2, hF2⟩
  go_wp2_with fail
  go_ret
  refine ⟨rfl, hg1.toX.trans hx2, hfr2, ?_⟩
  have := sto_shutF (s := mkSto k s) hF2
  unfold stoV mkSto at this
  simp only [mkR_len] at this
  exact this

end Go.Proofs.Ytchiakeceiefdaa

/-
  The walk of the law FnExactPageOf. (Printed by wip/genlaw.py.)
-/
namespace Go.Proofs.Ytchiakeceiefdaa
open Go.RowKit

set_option maxRecDepth 100000 in
set_option maxHeartbeats 4000000 in
theorem lawPage_long1 (s : Sto) (af : ByteArray) (lim : Int) (v0 : Value) (w : World) (h0 : RV stoRep packA w any s v0) (hs : ¬ af.size ≤ 1048576) (hb : af.size ≤ big) :
    Calls Try.prog 4 #[v0, .string af, .int .i64 lim] w fun e w' => e = .returned (.bool true) ∧ Grow w w' := by
  unfold big at hb
  have hs' : (1048576 : Int) < (af.size : Int) := by omega
  have HV0 := Lib.hid h0
  obtain ⟨a0, c0, rfl⟩ := openV_sto h0
  clear h0
  unfold stoV at *
  go_enter Try.func4, Try.ntmps4
  go_wp2_with fail
  go_ret
  exact ⟨by simp, (by repeat (first | with_reducible exact Ext.refl _ _ | with_reducible refine Ext.trans ?_ (by assumption) | with_reducible refine Ext.drew ?_ | with_reducible refine Ext.drewN ?_ _ | with_reducible refine Ext.alloc ?_ _ | with_reducible refine Ext.setNew ?_ (by simp; done) _ | with_reducible refine Ext.setNew ?_ (by simp; omega) _))⟩

set_option maxRecDepth 100000 in
set_option maxHeartbeats 4000000 in
theorem lawPage_big (s : Sto) (af : ByteArray) (lim : Int) (v0 : Value) (w : World) (h0 : RV stoRep packA w any s v0) (hq1 : af.size ≤ 1048576) (hbig : ¬ costSto s ≤ 1048576) :
    Calls Try.prog 4 #[v0, .string af, .int .i64 lim] w fun e w' => e = .returned (.bool true) ∧ Grow w w' := by
  have HV0 := Lib.hid h0
  obtain ⟨a0, c0, rfl⟩ := openV_sto h0
  clear h0
  unfold stoV at *
  by_cases c0 : (costSto s : Int) ≤ 1048576
  rotate_left
  ·
    have Hs0 := Lib.hid (szR_neg (c := costSto s) (left := 1048576) (by omega))
    clear c0 hbig
    have HB0 := Lib.hid (BoxN.new w [.slice a0 s.1.length c0, .int .i64 s.2] 41)
    go_enter Try.func4, Try.ntmps4
    go_wp2_with fail
    refine (uSzSto s _ _ _ (by omega) (by omega) (HV0.out.grow (by repeat (first | with_reducible exact Ext.refl _ _ | with_reducible refine Ext.trans ?_ (by assumption) | with_reducible refine Ext.drew ?_ | with_reducible refine Ext.drewN ?_ _ | with_reducible refine Ext.alloc ?_ _ | with_reducible refine Ext.setNew ?_ (by simp; done) _ | with_reducible refine Ext.setNew ?_ (by simp; omega) _)))).mono ?_
    rintro e w1 ⟨rfl, hg1⟩
    simp only [Hs0.out]
    have z1 := hg1.size
    try simp only [World.size_alloc] at z1
    go_wp2_with fail
    go_ret
    exact ⟨by simp, (by repeat (first | with_reducible exact Ext.refl _ _ | with_reducible refine Ext.trans ?_ (by assumption) | with_reducible refine Ext.drew ?_ | with_reducible refine Ext.drewN ?_ _ | with_reducible refine Ext.alloc ?_ _ | with_reducible refine Ext.setNew ?_ (by simp; done) _ | with_reducible refine Ext.setNew ?_ (by simp; omega) _))⟩
  have Hs0 := Lib.hid (szR_pos (c := costSto s) (left := 1048576) (by omega))
  omega

set_option maxRecDepth 100000 in
set_option maxHeartbeats 16000000 in
theorem lawPage_main (s : Sto) (af : ByteArray) (lim : Int) (v0 : Value) (w : World) (h0 : RV stoRep packA w any s v0) (hq1 : af.size ≤ 1048576) (hcost : costSto s ≤ 1048576) :
    Calls Try.prog 4 #[v0, .string af, .int .i64 lim] w fun e w' => e = .returned (.bool true) ∧ Grow w w' := by
  have HV0 := Lib.hid h0
  obtain ⟨a0, c0, rfl⟩ := openV_sto h0
  clear h0
  unfold stoV at *
  have Hs0 := Lib.hid (szR_pos (c := costSto s) (left := 1048576) (by omega))
  have C0 : Hid (costSto s ≤ 1048576) := Lib.hid (by omega)
  have HB0 := Lib.hid (BoxN.new w [.slice a0 s.1.length c0, .int .i64 s.2] 41)
  go_enter Try.func4, Try.ntmps4
  go_wp2_with fail
  refine (uSzSto s _ _ _ (by omega) (by omega) (HV0.out.grow (by repeat (first | with_reducible exact Ext.refl _ _ | with_reducible refine Ext.trans ?_ (by assumption) | with_reducible refine Ext.drew ?_ | with_reducible refine Ext.drewN ?_ _ | with_reducible refine Ext.alloc ?_ _ | with_reducible refine Ext.setNew ?_ (by simp; done) _ | with_reducible refine Ext.setNew ?_ (by simp; omega) _)))).mono ?_
  rintro e w1 ⟨rfl, hg1⟩
  simp only [Hs0.out]
  have z1 := hg1.size
  try simp only [World.size_alloc] at z1
  have pB := HB0.out.grow (w' := w1) (by repeat (first | with_reducible exact Ext.refl _ _ | with_reducible refine Ext.trans ?_ (by assumption) | with_reducible refine Ext.drew ?_ | with_reducible refine Ext.drewN ?_ _ | with_reducible refine Ext.alloc ?_ _ | with_reducible refine Ext.setNew ?_ (by simp; done) _ | with_reducible refine Ext.setNew ?_ (by simp; omega) _))
  have p0 := pB.cell 0 _ rfl; have p1 := pB.cell 1 _ rfl
  go_wp2_with fail
  refine (uToSto s _ _ C0.out (HV0.out.grow (by repeat (first | with_reducible exact Ext.refl _ _ | with_reducible refine Ext.trans ?_ (by assumption) | with_reducible refine Ext.drew ?_ | with_reducible refine Ext.drewN ?_ _ | with_reducible refine Ext.alloc ?_ _ | with_reducible refine Ext.setNew ?_ (by simp; done) _ | with_reducible refine Ext.setNew ?_ (by simp; omega) _)))).mono ?_
  rintro e w2 ⟨us, fs, rfl, hg2, hF, hfr⟩
  have z2 := hg2.size
  try simp only [World.size_alloc] at z2
  have RUs := Lib.hid hF.rv
  clear hF hfr p0 p1 pB
  go_wp2_with fail
  refine (specPageOf_ok s af lim _ _ (by unfold big; omega) RUs.out).mono ?_
  rintro e w3 ⟨rs, rfl, hg3, hR⟩
  have z3 := hg3.size
  try simp only [World.size_alloc] at z3
  have RW := Lib.hid hR.under
  clear hR
  have ys : w3.heap.size ≤ w3.heap.size := Nat.le_refl _
  have hpB := HB0.out.grow (w' := w3) (by repeat (first | with_reducible exact Ext.refl _ _ | with_reducible refine Ext.trans ?_ (by assumption) | with_reducible refine Ext.drew ?_ | with_reducible refine Ext.drewN ?_ _ | with_reducible refine Ext.alloc ?_ _ | with_reducible refine Ext.setNew ?_ (by simp; done) _ | with_reducible refine Ext.setNew ?_ (by simp; omega) _))
  have p0 := hpB.cell 0 _ rfl; have p1 := hpB.cell 1 _ rfl; have pz := hpB.lt
  go_wp2_with fail
  refine (uToSto s _ _ C0.out (HV0.out.grow (by repeat (first | with_reducible exact Ext.refl _ _ | with_reducible refine Ext.trans ?_ (by assumption) | with_reducible refine Ext.drew ?_ | with_reducible refine Ext.drewN ?_ _ | with_reducible refine Ext.alloc ?_ _ | with_reducible refine Ext.setNew ?_ (by simp; done) _ | with_reducible refine Ext.setNew ?_ (by simp; omega) _)))).mono ?_
  rintro e w4 ⟨y0, f0, rfl, hg4, hF, hfr⟩
  have z4 := hg4.size
  try simp only [World.size_alloc] at z4
  try simp only [World.size_alloc] at hfr
  have F0 := Lib.hid hF
  have S0 := Lib.hid (Seg.of hfr)
  obtain ⟨ax0, cx0, rfl⟩ := openV_sto hF.rv
  unfold stoV at *
  clear hF hfr p0 p1 hpB pz
  have HBx0 := Lib.hid (BoxN.new w4 [.slice ax0 s.1.length cx0, .int .i64 s.2] 47)
  go_wp2_with fail
  refine (implPageOf_ok s af lim _ _ (by unfold big; omega) (F0.out.rv.grow (by repeat (first | with_reducible exact Ext.refl _ _ | with_reducible refine Ext.trans ?_ (by assumption) | with_reducible refine Ext.drew ?_ | with_reducible refine Ext.drewN ?_ _ | with_reducible refine Ext.alloc ?_ _ | with_reducible refine Ext.setNew ?_ (by simp; done) _ | with_reducible refine Ext.setNew ?_ (by simp; omega) _)))).mono ?_
  rintro e w5 ⟨rg, fg, rfl, hg5, hF, hfr⟩
  have z5 := hg5.size
  try simp only [World.size_alloc] at z5
  try simp only [World.size_alloc] at hfr
  have FG := Lib.hid hF
  have SG := Lib.hid (Seg.of hfr)
  clear hF hfr
  have hne : (!((pgN s af lim).toList == (pgN s af lim).toList)) = false := by simp
  go_wp2_with fail
  refine (uEqS (pgL s af lim) _ _ _ (FG.out.rv.grow (by repeat (first | with_reducible exact Ext.refl _ _ | with_reducible refine Ext.trans ?_ (by assumption) | with_reducible refine Ext.drew ?_ | with_reducible refine Ext.drewN ?_ _ | with_reducible refine Ext.alloc ?_ _ | with_reducible refine Ext.setNew ?_ (by simp; done) _ | with_reducible refine Ext.setNew ?_ (by simp; omega) _))) (RW.out.any.grow (by repeat (first | with_reducible exact Ext.refl _ _ | with_reducible refine Ext.trans ?_ (by assumption) | with_reducible refine Ext.drew ?_ | with_reducible refine Ext.drewN ?_ _ | with_reducible refine Ext.alloc ?_ _ | with_reducible refine Ext.setNew ?_ (by simp; done) _ | with_reducible refine Ext.setNew ?_ (by simp; omega) _)))).mono ?_
  rintro e w6 ⟨rfl, hg6⟩
  have z6 := hg6.size
  try simp only [World.size_alloc] at z6
  go_wp2_with fail
  have pB := HBx0.out.grow (w' := w6) (by repeat (first | with_reducible exact Ext.refl _ _ | with_reducible refine Ext.trans ?_ (by assumption) | with_reducible refine Ext.drew ?_ | with_reducible refine Ext.drewN ?_ _ | with_reducible refine Ext.alloc ?_ _ | with_reducible refine Ext.setNew ?_ (by simp; done) _ | with_reducible refine Ext.setNew ?_ (by simp; omega) _))
  have p0 := pB.cell 0 _ rfl; have p1 := pB.cell 1 _ rfl
  have qB := HB0.out.grow (w' := w6) (by repeat (first | with_reducible exact Ext.refl _ _ | with_reducible refine Ext.trans ?_ (by assumption) | with_reducible refine Ext.drew ?_ | with_reducible refine Ext.drewN ?_ _ | with_reducible refine Ext.alloc ?_ _ | with_reducible refine Ext.setNew ?_ (by simp; done) _ | with_reducible refine Ext.setNew ?_ (by simp; omega) _))
  have q0 := qB.cell 0 _ rfl; have q1 := qB.cell 1 _ rfl
  refine wp_region_stab Grow (fun i => if i = 2 then some (fun v w' => RV stoRep packA w' any s v) else if i = 3 then some (fun v _ => v = .bool true) else none) (by kernel_rfl) (by kernel_rfl) ⟨Ext.refl nil, fun _ _ h1 h2 => h2.trans h1, ?_⟩ ?_
  · intro i V hV v w1 w2 hr hv
    by_cases h1 : i = 2
    · simp only [h1, if_true, Option.some.injEq] at hV; subst hV; exact RV.grow hv hr
    · by_cases h3 : i = 3
      · simp [h3] at hV; subst hV; exact hv
      · simp [h1, h3] at hV
  (refine wpStab_quiet (by kernel_rfl) (by kernel_rfl) (by simp) ?_; intro K hK; go_big_quiet_op; go_big_quiet_on)
  (refine wpStab_quiet (by kernel_rfl) (by kernel_rfl) (by simp) ?_; intro K hK; go_big_quiet_op; go_big_quiet_on)
  refine wpStab_made (fun v w' => RV stoRep packA w' any s v) ?_ ?_ ?_ ?_
  · go_simp
  · simp
  · intro y _
    refine stabAt_call (f := 18) (args := #[.agg #[.slice a0 s.1.length c0, .int .i64 s.2]]) ?_ ?_
    · go_simp
    · refine (uToSto s _ _ C0.out (HV0.out.grow (((by repeat (first | with_reducible exact Ext.refl _ _ | with_reducible refine Ext.trans ?_ (by assumption) | with_reducible refine Ext.drew ?_ | with_reducible refine Ext.drewN ?_ _ | with_reducible refine Ext.alloc ?_ _ | with_reducible refine Ext.setNew ?_ (by simp; done) _ | with_reducible refine Ext.setNew ?_ (by simp; omega) _)) : Grow w w6).trans (later_grow _ _)))).mono ?_
      rintro e w' ⟨v', fp, rfl, hg, hF, _⟩
      exact ⟨_, rfl, hg, hF.rv⟩
  intro vt
  go_frame
  refine wpStab_const (.bool true) ?_ ?_ ?_ ?_
  · go_simp
  · simp
  · intro y hE
    have Hr6 : RV stoRep packA (later w6 y) any s vt := (hE ⟨2, .data⟩ (by simp) (by decide)).2 rfl
    clear hE
    refine stabAt_call (f := 21) (args := #[.agg #[.slice ax0 s.1.length cx0, .int .i64 s.2], vt]) ?_ ?_
    · go_simp
    · refine (uEqSto s _ _ _ (F0.out.rv.grow (((by repeat (first | with_reducible exact Ext.refl _ _ | with_reducible refine Ext.trans ?_ (by assumption) | with_reducible refine Ext.drew ?_ | with_reducible refine Ext.drewN ?_ _ | with_reducible refine Ext.alloc ?_ _ | with_reducible refine Ext.setNew ?_ (by simp; done) _ | with_reducible refine Ext.setNew ?_ (by simp; omega) _)) : Grow _ w6).trans (later_grow _ _))) Hr6).mono ?_
      rintro e w' ⟨rfl, hg⟩
      exact ⟨_, rfl, hg, rfl⟩
  go_frame
  (refine wpStab_quiet (by kernel_rfl) (by kernel_rfl) (by simp) ?_; intro K hK; go_big_quiet_op; go_big_quiet_on)
  refine wpStab_end ?_
  intro w7 hg7
  clear p0 p1 pB q0 q1 qB
  have z7 := hg7.size
  replace F0 := Lib.hid (F0.out.grow S0.out (w' := w7) (by repeat (first | with_reducible exact Ext.refl _ _ | with_reducible refine Ext.trans ?_ (by assumption) | with_reducible refine Ext.drew ?_ | with_reducible refine Ext.drewN ?_ _ | with_reducible refine Ext.alloc ?_ _ | with_reducible refine Ext.setNew ?_ (by simp; done) _ | with_reducible refine Ext.setNew ?_ (by simp; omega) _)))
  replace S0 := Lib.hid (S0.out.grow (w' := w7) (by repeat (first | with_reducible exact Ext.refl _ _ | with_reducible refine Ext.trans ?_ (by assumption) | with_reducible refine Ext.drew ?_ | with_reducible refine Ext.drewN ?_ _ | with_reducible refine Ext.alloc ?_ _ | with_reducible refine Ext.setNew ?_ (by simp; done) _ | with_reducible refine Ext.setNew ?_ (by simp; omega) _)))
  replace FG := Lib.hid (FG.out.grow SG.out (w' := w7) (by repeat (first | with_reducible exact Ext.refl _ _ | with_reducible refine Ext.trans ?_ (by assumption) | with_reducible refine Ext.drew ?_ | with_reducible refine Ext.drewN ?_ _ | with_reducible refine Ext.alloc ?_ _ | with_reducible refine Ext.setNew ?_ (by simp; done) _ | with_reducible refine Ext.setNew ?_ (by simp; omega) _)))
  replace SG := Lib.hid (SG.out.grow (w' := w7) (by repeat (first | with_reducible exact Ext.refl _ _ | with_reducible refine Ext.trans ?_ (by assumption) | with_reducible refine Ext.drew ?_ | with_reducible refine Ext.drewN ?_ _ | with_reducible refine Ext.alloc ?_ _ | with_reducible refine Ext.setNew ?_ (by simp; done) _ | with_reducible refine Ext.setNew ?_ (by simp; omega) _)))
  replace RW := Lib.hid (RW.out.grow (w' := w7) (by repeat (first | with_reducible exact Ext.refl _ _ | with_reducible refine Ext.trans ?_ (by assumption) | with_reducible refine Ext.drew ?_ | with_reducible refine Ext.drewN ?_ _ | with_reducible refine Ext.alloc ?_ _ | with_reducible refine Ext.setNew ?_ (by simp; done) _ | with_reducible refine Ext.setNew ?_ (by simp; omega) _)))
  replace HB0 := Lib.hid (HB0.out.grow (w' := w7) (by repeat (first | with_reducible exact Ext.refl _ _ | with_reducible refine Ext.trans ?_ (by assumption) | with_reducible refine Ext.drew ?_ | with_reducible refine Ext.drewN ?_ _ | with_reducible refine Ext.alloc ?_ _ | with_reducible refine Ext.setNew ?_ (by simp; done) _ | with_reducible refine Ext.setNew ?_ (by simp; omega) _)))
  replace HBx0 := Lib.hid (HBx0.out.grow (w' := w7) (by repeat (first | with_reducible exact Ext.refl _ _ | with_reducible refine Ext.trans ?_ (by assumption) | with_reducible refine Ext.drew ?_ | with_reducible refine Ext.drewN ?_ _ | with_reducible refine Ext.alloc ?_ _ | with_reducible refine Ext.setNew ?_ (by simp; done) _ | with_reducible refine Ext.setNew ?_ (by simp; omega) _)))
  have lHB0 := HB0.out.lt
  have lHBx0 := HBx0.out.lt
  have hgA : Grow w w7 := (by repeat (first | with_reducible exact Ext.refl _ _ | with_reducible refine Ext.trans ?_ (by assumption) | with_reducible refine Ext.drew ?_ | with_reducible refine Ext.drewN ?_ _ | with_reducible refine Ext.alloc ?_ _ | with_reducible refine Ext.setNew ?_ (by simp; done) _ | with_reducible refine Ext.setNew ?_ (by simp; omega) _))
  clear hg1 hg2 hg3 hg4 hg5 hg6 hg7
  have m0 := cntSto_le s
  have mg := pgL_cnt s af lim
  have p0 := HBx0.out.cell 0 _ rfl; have p1 := HBx0.out.cell 1 _ rfl
  go_wp2_with fail
  refine (uMarkSto s _ f0 _ (1) _ _ (by rfl) F0.out S0.out.1 (by omega) (by omega)).mono ?_
  rintro e w8 ⟨rfl, hx, _, _⟩
  clear p0 p1
  replace FG := Lib.hid (FG.out.keep (SG.out.keeps S0.out (by omega) hx))
  replace SG := Lib.hid (SG.out.ext S0.out (by omega) hx)
  replace HB0 := Lib.hid (S0.out.box HB0.out hx (by omega))
  replace HBx0 := Lib.hid (S0.out.box HBx0.out hx (by omega))
  replace RW := Lib.hid (S0.out.rv RW.out hx (by omega))
  replace hgA := S0.out.inner hgA hx (by omega)
  clear hx F0
  go_wp2_with fail
  refine (uEqS (pgL s af lim) _ _ _ FG.out.rv RW.out.any).mono ?_
  rintro e w9 ⟨rfl, hg⟩
  replace FG := Lib.hid (FG.out.grow SG.out hg)
  replace SG := Lib.hid (SG.out.grow hg)
  replace RW := Lib.hid (RW.out.grow hg)
  replace HB0 := Lib.hid (HB0.out.grow hg)
  replace HBx0 := Lib.hid (HBx0.out.grow hg)
  replace hgA := hgA.trans hg
  clear hg
  go_wp2_with fail
  refine (uMarkS (pgL s af lim) _ fg _ 1 _ _ (by rfl) FG.out SG.out.1 (by omega) (by omega)).mono ?_
  rintro e w10 ⟨rfl, hx, hfr, hF⟩
  replace HB0 := Lib.hid (SG.out.box HB0.out hx (by omega))
  replace HBx0 := Lib.hid (SG.out.box HBx0.out hx (by omega))
  replace RW := Lib.hid (SG.out.rv RW.out hx (by omega))
  replace hgA := SG.out.inner hgA hx (by omega)
  replace FG := Lib.hid hF
  replace SG := Lib.hid (SG.out.marked hfr)
  clear hx hfr hF
  go_wp2_with fail
  refine (uHeldS (pgL s af lim) _ 1 _ _ (by rfl) FG.out.rv (by omega) (by omega)).mono ?_
  rintro e w11 ⟨rfl, hg⟩
  replace FG := Lib.hid (FG.out.grow SG.out hg)
  replace SG := Lib.hid (SG.out.grow hg)
  replace RW := Lib.hid (RW.out.grow hg)
  replace HB0 := Lib.hid (HB0.out.grow hg)
  replace HBx0 := Lib.hid (HBx0.out.grow hg)
  replace hgA := hgA.trans hg
  clear hg
  have hbb : ((1 + cntS (pgL s af lim) : Nat) != (1 + cntS (pgL s af lim) : Nat)) = false := by simp
  have hgc := hgA
  have pB := HB0.out.grow (w' := w11) (by repeat (first | with_reducible exact Ext.refl _ _ | with_reducible refine Ext.trans ?_ (by assumption) | with_reducible refine Ext.drew ?_ | with_reducible refine Ext.drewN ?_ _ | with_reducible refine Ext.alloc ?_ _ | with_reducible refine Ext.setNew ?_ (by simp; done) _ | with_reducible refine Ext.setNew ?_ (by simp; omega) _))
  have p0 := pB.cell 0 _ rfl; have p1 := pB.cell 1 _ rfl
  go_wp2_with fail
  refine (uToSto s _ _ C0.out (HV0.out.grow (by repeat (first | with_reducible exact Ext.refl _ _ | with_reducible refine Ext.trans ?_ (by assumption) | with_reducible refine Ext.drew ?_ | with_reducible refine Ext.drewN ?_ _ | with_reducible refine Ext.alloc ?_ _ | with_reducible refine Ext.setNew ?_ (by simp; done) _ | with_reducible refine Ext.setNew ?_ (by simp; omega) _)))).mono ?_
  rintro e w12 ⟨uh, fh, rfl, hg12, hF, hfr⟩
  have z12 := hg12.size
  try simp only [World.size_alloc] at z12
  have RUh := Lib.hid hF.rv
  clear hF hfr p0 p1 pB
  go_wp2_with fail
  refine (implPageOf_ok s af lim _ _ (by unfold big; omega) RUh.out).mono ?_
  rintro e w13 ⟨rh, fh, rfl, hg13, hF, hfr⟩
  have z13 := hg13.size
  try simp only [World.size_alloc] at z13
  have hR := hF.rv
  clear hF hfr
  have RH := Lib.hid hR
  clear hR
  go_wp2_with fail
  refine (uEqS (pgL s af lim) _ _ _ (RH.out.grow (by repeat (first | with_reducible exact Ext.refl _ _ | with_reducible refine Ext.trans ?_ (by assumption) | with_reducible refine Ext.drew ?_ | with_reducible refine Ext.drewN ?_ _ | with_reducible refine Ext.alloc ?_ _ | with_reducible refine Ext.setNew ?_ (by simp; done) _ | with_reducible refine Ext.setNew ?_ (by simp; omega) _))) (RW.out.any.grow (by repeat (first | with_reducible exact Ext.refl _ _ | with_reducible refine Ext.trans ?_ (by assumption) | with_reducible refine Ext.drew ?_ | with_reducible refine Ext.drewN ?_ _ | with_reducible refine Ext.alloc ?_ _ | with_reducible refine Ext.setNew ?_ (by simp; done) _ | with_reducible refine Ext.setNew ?_ (by simp; omega) _)))).mono ?_
  rintro e w14 ⟨rfl, hg14⟩
  have z14 := hg14.size
  try simp only [World.size_alloc] at z14
  go_wp2_with fail
  refine (uHeldS (pgL s af lim) _ 1 _ _ (by rfl) (FG.out.rv.grow (by repeat (first | with_reducible exact Ext.refl _ _ | with_reducible refine Ext.trans ?_ (by assumption) | with_reducible refine Ext.drew ?_ | with_reducible refine Ext.drewN ?_ _ | with_reducible refine Ext.alloc ?_ _ | with_reducible refine Ext.setNew ?_ (by simp; done) _ | with_reducible refine Ext.setNew ?_ (by simp; omega) _))) (by omega) (by omega)).mono ?_
  rintro e w15 ⟨rfl, hg15⟩
  have z15 := hg15.size
  try simp only [World.size_alloc] at z15
  go_wp2_with fail
  go_ret
  exact ⟨by simp, (by repeat (first | with_reducible exact Ext.refl _ _ | with_reducible refine Ext.trans ?_ (by assumption) | with_reducible refine Ext.drew ?_ | with_reducible refine Ext.drewN ?_ _ | with_reducible refine Ext.alloc ?_ _ | with_reducible refine Ext.setNew ?_ (by simp; done) _ | with_reducible refine Ext.setNew ?_ (by simp; omega) _))⟩

theorem lawPage_ok (s : Sto) (af : ByteArray) (lim : Int) (v0 : Value) (w : World) (h0 : RV stoRep packA w any s v0) (hb1 : af.size ≤ big) :
    Calls Try.prog 4 #[v0, .string af, .int .i64 lim] w fun e w' => e = .returned (.bool true) ∧ Grow w w' := by
  by_cases hq1 : af.size ≤ 1048576
  rotate_left
  · exact lawPage_long1 s af lim v0 w h0 hq1 hb1
  by_cases hc : costSto s ≤ 1048576
  · exact lawPage_main s af lim v0 w h0 hq1 hc
  · exact lawPage_big s af lim v0 w h0 hq1 hc

end Go.Proofs.Ytchiakeceiefdaa

/-
  What an argument that is read as data tells of memory: texts, nodes.
-/
namespace Go.Proofs.Ytchiakeceiefdaa
open Go.RowKit Go.ChangeShapes Go.WideShapes Go.Deep

section
variable {H : Type} {enc : TypeId × Value → H} {W : World} {base : Nat} {sp : Nat → Bool} {held : Bool}

theorem addr_spot {w : World} {a : Addr} {v : Value} (h : w.cell? a = some v) : ∃ b o, a = ⟨b, o, none⟩ := by
  have := World.cell?_spot h
  exact ⟨a.block, a.off, by cases a; simp_all⟩

theorem add_mk (b o i : Nat) : (⟨b, o, none⟩ : Addr).add i = ⟨b, o + i, none⟩ := by
  unfold Addr.add; split
  · rename_i h; subst h; rfl
  · rfl

theorem open_strs' {fuel : Nat} {cs : List Value} {x : DataW H × List MemPlace} (h : DataW.trod enc Try.prog W base sp held fuel 23 cs = some x) :
    ∃ a c xs, cs = [.slice a xs.length c] ∧ StrsR W any a c xs := by
  rcases open_slice Try.underlying23 h with ⟨rfl, _⟩ | ⟨a, len, cap, m, n, D, Pl, rfl, _, hl, hm, hmm, _, hi⟩
  · exact ⟨none, 0, [], rfl, by simp, by simp, by simp, .inl rfl⟩
  · have hlm : len ≤ m := by rw [hmm]; split <;> omega
    have hel : ∀ i, i < len → ∃ s : ByteArray, W.cell? (a.add i) = some (.string s) ∧ s.size ≤ maxLen := fun i hi' => by
      obtain ⟨cs', h1, h2⟩ := hi i (by omega)
      have hc : Try.prog.cellsOf 9 = 1 := by kernel_rfl
      rw [hc] at h1
      obtain ⟨_, hlen, hat⟩ := World.cells?_some h1
      obtain ⟨s, rfl, _, hs⟩ := DataW.trod_string Try.underlying9 h2
      have := hat 0 (by omega)
      exact ⟨s, by simpa [Go.Deep.add_add] using this, hs⟩
    have : Inhabited ByteArray := ⟨ByteArray.empty⟩
    obtain ⟨f, hf⟩ := choose_lt hel
    refine ⟨some a, cap, (List.range len).map f, by simp, by simpa using hl, by simp; unfold maxLen at hm; unfold big; omega, ?_, ?_⟩
    · intro x hx
      obtain ⟨i, hi', rfl⟩ := List.mem_map.1 hx
      have := (hf i (List.mem_range.1 hi')).2
      unfold maxLen at this; unfold big; omega
    · by_cases h0 : len = 0
      · subst h0; exact .inl rfl
      · obtain ⟨b, o, ha⟩ := addr_spot (hf 0 (by omega)).1
        have ha' : a = ⟨b, o, none⟩ := by simpa [Addr.add] using ha
        subst ha'
        refine .inr ⟨b, o, rfl, trivial, fun i hi' => ?_⟩
        simp at hi'
        have := (hf i hi').1
        rw [add_mk] at this
        simpa using this

set_option maxRecDepth 100000 in
theorem open_node : ∀ (fuel : Nat) (cs : List Value) (x : DataW H × List MemPlace), DataW.trod enc Try.prog W base sp held fuel 59 cs = some x →
    ∃ n na nc ka kc, cs = [.int .i64 n.kind, .int .i64 n.num, .string n.text, .slice na n.names.length nc, .slice ka n.kids.length kc] ∧ NodeC W any n na nc ka kc := by
  intro fuel
  induction fuel using Nat.strongRecOn with
  | ind fuel ih =>
    intro cs x h
    obtain ⟨xs, n, rfl, _, hlen, hxs, hf⟩ := DataW.trod_struct Try.underlying59 h
    have hc : Try.prog.cellsOf 59 = 5 := by kernel_rfl
    have c3 : Try.prog.cellsOf 3 = 1 := by kernel_rfl
    have c9 : Try.prog.cellsOf 9 = 1 := by kernel_rfl
    have c23 : Try.prog.cellsOf 23 = 1 := by kernel_rfl
    have c57 : Try.prog.cellsOf 57 = 1 := by kernel_rfl
    rw [hc] at hlen
    match cs, hlen with
    | [v0, v1, v2, v3, v4], _ =>
      obtain ⟨y0, g0⟩ : ∃ y, DataW.trod enc Try.prog W base sp held n 3 [v0] = some y := ⟨xs[0]'(by simp at hxs; omega), by
        have h := hf 0 _ rfl
        rw [List.getElem?_eq_getElem (by simp at hxs; omega)] at h
        simpa [c3, c9, c23, c57] using h⟩
      obtain ⟨y1, g1⟩ : ∃ y, DataW.trod enc Try.prog W base sp held n 3 [v1] = some y := ⟨xs[1]'(by simp at hxs; omega), by
        have h := hf 1 _ rfl
        rw [List.getElem?_eq_getElem (by simp at hxs; omega)] at h
        simpa [c3, c9, c23, c57] using h⟩
      obtain ⟨y2, g2⟩ : ∃ y, DataW.trod enc Try.prog W base sp held n 9 [v2] = some y := ⟨xs[2]'(by simp at hxs; omega), by
        have h := hf 2 _ rfl
        rw [List.getElem?_eq_getElem (by simp at hxs; omega)] at h
        simpa [c3, c9, c23, c57] using h⟩
      obtain ⟨y3, g3⟩ : ∃ y, DataW.trod enc Try.prog W base sp held n 23 [v3] = some y := ⟨xs[3]'(by simp at hxs; omega), by
        have h := hf 3 _ rfl
        rw [List.getElem?_eq_getElem (by simp at hxs; omega)] at h
        simpa [c3, c9, c23, c57] using h⟩
      obtain ⟨y4, g4⟩ : ∃ y, DataW.trod enc Try.prog W base sp held n 57 [v4] = some y := ⟨xs[4]'(by simp at hxs; omega), by
        have h := hf 4 _ rfl
        rw [List.getElem?_eq_getElem (by simp at hxs; omega)] at h
        simpa [c3, c9, c23, c57] using h⟩
      clear hf
      obtain ⟨kind, e0, _, _⟩ := DataW.trod_int Try.underlying3 g0
      obtain ⟨num, e1, _, _⟩ := DataW.trod_int Try.underlying3 g1
      obtain ⟨text, e2, _, hts⟩ := DataW.trod_string Try.underlying9 g2
      obtain ⟨na, nc, names, e3, hns⟩ := open_strs' g3
      simp only [List.cons.injEq, and_true] at e0 e1 e2 e3
      subst e0 e1 e2 e3
      have htx : text.size ≤ big := by unfold maxLen at hts; unfold big; omega
      rcases DataW.trod_slice Try.underlying57 g4 with ⟨e4, _⟩ | ⟨a, len, cap, elems, rest, n', rfl, e4, _, _, hl, hm, hel, hi, _, _⟩
      · simp only [List.cons.injEq, and_true] at e4
        subst e4
        exact ⟨⟨kind, num, text, names, []⟩, na, nc, none, 0, rfl, NodeC.mk htx hns ⟨by simp, by simp, .inl rfl⟩⟩
      · simp only [List.cons.injEq, and_true] at e4
        subst e4
        rw [hc] at hi
        have key : ∀ i, i < len → ∃ (k : Nd × (Option Addr × Nat × Option Addr × Nat)), W.cell? (a.add (i * 5)) = some (.int .i64 k.1.kind) ∧ W.cell? (a.add (i * 5 + 1)) = some (.int .i64 k.1.num) ∧ W.cell? (a.add (i * 5 + 2)) = some (.string k.1.text) ∧
            W.cell? (a.add (i * 5 + 3)) = some (.slice k.2.1 k.1.names.length k.2.2.1) ∧ W.cell? (a.add (i * 5 + 4)) = some (.slice k.2.2.2.1 k.1.kids.length k.2.2.2.2) ∧ NodeC W any k.1 k.2.1 k.2.2.1 k.2.2.2.1 k.2.2.2.2 := fun i hi' => by
          have h := hi i hi'
          rw [List.getElem?_eq_getElem (by omega)] at h
          obtain ⟨cs', h1, h2⟩ := Option.bind_eq_some_iff.1 h
          obtain ⟨_, hl5, hat⟩ := World.cells?_some h1
          obtain ⟨m, na', nc', ka', kc', rfl, hn'⟩ := ih n' (by omega) cs' _ h2
          refine ⟨⟨m, na', nc', ka', kc'⟩, ?_, ?_, ?_, ?_, ?_, hn'⟩
          · simpa [Go.Deep.add_add] using hat 0 (by omega)
          · simpa [Go.Deep.add_add] using hat 1 (by omega)
          · simpa [Go.Deep.add_add] using hat 2 (by omega)
          · simpa [Go.Deep.add_add] using hat 3 (by omega)
          · simpa [Go.Deep.add_add] using hat 4 (by omega)
        have : Inhabited (Nd × (Option Addr × Nat × Option Addr × Nat)) := ⟨⟨⟨0, 0, ByteArray.empty, [], []⟩, none, 0, none, 0⟩⟩
        obtain ⟨f, hf⟩ := choose_lt key
        have hkl : ((List.range len).map fun i => (f i).1).length = len := by simp
        have hbig : len ≤ big := by unfold maxLen at hm; unfold big; omega
        refine ⟨⟨kind, num, text, names, (List.range len).map fun i => (f i).1⟩, na, nc, some a, cap, by simp, NodeC.mk htx hns ⟨by rw [hkl]; exact hl, by rw [hkl]; exact hbig, ?_⟩⟩
        by_cases h0 : len = 0
        · subst h0; exact .inl rfl
        · obtain ⟨b, o, ha⟩ := addr_spot (hf 0 (by omega)).1
          have ha' : a = ⟨b, o, none⟩ := by simpa [Addr.add] using ha
          subst ha'
          refine .inr ⟨b, o, rfl, trivial, KidsR.of_get (fun i hi' => ?_)⟩
          rw [hkl] at hi'
          obtain ⟨k0, k1, k2, k3, k4, kn⟩ := hf i hi'
          rw [add_mk] at k0 k1 k2 k3 k4
          simp only [List.getElem_map, List.getElem_range]
          exact ⟨_, _, _, _, k0, by rw [Nat.add_assoc]; exact k1, by rw [Nat.add_assoc]; exact k2, by rw [Nat.add_assoc]; exact k3, by rw [Nat.add_assoc]; exact k4, kn⟩

end
end Go.Proofs.Ytchiakeceiefdaa

/-
  The walks of what makes lists of tags, operations and requests valid.
-/
namespace Go.Proofs.Ytchiakeceiefdaa
open Go.RowKit

def star : ByteArray := { data := #[42] }
def tagsB1 (s : ByteArray) : Bool := (s.toList == star.toList) || tagB s
def tagsB (l : List ByteArray) : Bool := decide (l.length ≤ 4) && l.all tagsB1

theorem star_cases (s : ByteArray) : (s.toList = [42] ∧ tagsB1 s = true) ∨ (¬ s.toList = [42] ∧ tagB s = true ∧ tagsB1 s = true) ∨
    (¬ s.toList = [42] ∧ tagB s = false ∧ tagsB1 s = false) := by
  have hs : star.toList = [42] := by rw [ByteArray.toList_eq]; rfl
  unfold tagsB1
  rw [hs]
  by_cases h : s.toList = [42] <;> cases h2 : tagB s <;> simp [h]

set_option maxHeartbeats 400000 in
theorem areTags_ok (a : Option Addr) (c : Nat) (xs : List ByteArray) (w : World) (ha : StrsR w any a c xs) :
    Calls Try.prog 124 #[.slice a xs.length c] w fun e w' => e = .returned (.bool (tagsB xs)) ∧ w = w' := by
  have hbig : xs.length ≤ 9223372036854775807 := ha.2.1
  have Ha := Lib.hid ha
  clear ha
  by_cases hl : 4 < xs.length
  · go_enter Try.func124, Try.ntmps124
    go_wp2
    go_ret
    exact ⟨by simp [tagsB]; omega, rfl⟩
  · go_enter Try.func124, Try.ntmps124
    go_wp2
    go_loop [2, 4, 10] (fun n _ i => n = .bool false ∧ ∃ k : Nat, k ≤ xs.length ∧ i = .int .i64 k ∧ Hid (xs.all tagsB1 = (xs.drop k).all tagsB1)) (fun _ _ i => xs.length - (intOf i).toNat)
    case atStart => exact ⟨rfl, 0, Nat.zero_le _, rfl, Lib.hid rfl⟩
    case round =>
      obtain ⟨rfl, k, hk, rfl, Hr⟩ := hrel
      by_cases hlt : k < xs.length
      · obtain ⟨_, _, hxs, ha4⟩ := Ha.out
        rcases ha4 with rfl | ⟨ba, oa, rfl, _, hca⟩
        · simp at hlt
        have hx := hca k hlt
        have hsz := hxs _ (List.getElem_mem hlt)
        have Hs := Lib.hid (allD_step (p := tagsB1) xs k hlt)
        clear hca Ha hxs
        rcases star_cases xs[k] with ⟨hb, hp⟩ | ⟨hb, ht, hp⟩ | ⟨hb, ht, hp⟩
        · have Hp := Lib.hid hp
          clear hp
          have hb2 : (!xs[k].toList == [42]) = false := by simp [hb]
          go_wp2
          go_round
          case rel => exact ⟨rfl, k + 1, by omega, by go_num, Lib.hid (by rw [Hr.out, Hs.out, Hp.out, Bool.true_and])⟩
          case measure => simp [intOf]; omega
        · have Hp := Lib.hid hp
          clear hp
          have hb2 : (!xs[k].toList == [42]) = true := by simp [hb]
          go_wp2_with (go_at_call 146; refine (isSum_ok _ _ hsz).mono ?_; rintro e w' ⟨rfl, rfl⟩)
          go_round
          case rel => exact ⟨rfl, k + 1, by omega, by go_num, Lib.hid (by rw [Hr.out, Hs.out, Hp.out, Bool.true_and])⟩
          case measure => simp [intOf]; omega
        · have Hp := Lib.hid hp
          clear hp
          have hb2 : (!xs[k].toList == [42]) = true := by simp [hb]
          go_wp2_with (go_at_call 146; refine (isSum_ok _ _ hsz).mono ?_; rintro e w' ⟨rfl, rfl⟩)
          go_ret
          exact ⟨by simp [tagsB, Hr.out, Hs.out, Hp.out], rfl⟩
      · have Hs := Lib.hid (allD_end (p := tagsB1) xs k hlt)
        go_wp2
        go_ret
        exact ⟨by simp [tagsB, Hr.out, Hs.out]; omega, rfl⟩

set_option maxHeartbeats 400000 in
theorem validTags_ok (a : Option Addr) (c : Nat) (xs : List ByteArray) (w : World) (ha : StrsR w any a c xs) :
    Calls Try.prog 122 #[.slice a xs.length c] w fun e w' => e = .returned (.bool (tagsB xs)) ∧ w = w' := by
  have hbig : xs.length ≤ 9223372036854775807 := ha.2.1
  have Ha := Lib.hid ha
  clear ha
  go_enter Try.func122, Try.ntmps122
  go_wp2
  go_loop [2, 3] (fun n i => n = .bool false ∧ ∃ k : Nat, k ≤ xs.length ∧ i = .int .i64 k ∧ Hid (xs.all tagsB1 = (xs.drop k).all tagsB1)) (fun _ i => xs.length - (intOf i).toNat)
  case atStart => exact ⟨rfl, 0, Nat.zero_le _, rfl, Lib.hid rfl⟩
  case round =>
    obtain ⟨rfl, k, hk, rfl, Hr⟩ := hrel
    by_cases hlt : k < xs.length
    · obtain ⟨_, _, hxs, ha4⟩ := Ha.out
      rcases ha4 with rfl | ⟨ba, oa, rfl, _, hca⟩
      · simp at hlt
      have hx := hca k hlt
      have hsz := hxs _ (List.getElem_mem hlt)
      have Hs := Lib.hid (allD_step (p := tagsB1) xs k hlt)
      clear hca Ha hxs
      rcases star_cases xs[k] with ⟨hb, hp⟩ | ⟨hb, ht, hp⟩ | ⟨hb, ht, hp⟩
      · have Hp := Lib.hid hp
        clear hp
        have hb2 : (!xs[k].toList == [42]) = false := by simp [hb]
        go_wp2
        go_round
        case rel => exact ⟨rfl, k + 1, by omega, by go_num, Lib.hid (by rw [Hr.out, Hs.out, Hp.out, Bool.true_and])⟩
        case measure => simp [intOf]; omega
      · have Hp := Lib.hid hp
        clear hp
        have hb2 : (!xs[k].toList == [42]) = true := by simp [hb]
        go_wp2_with (go_at_call 145; refine (validTag_ok _ _ hsz).mono ?_; rintro e w' ⟨rfl, rfl⟩)
        go_round
        case rel => exact ⟨rfl, k + 1, by omega, by go_num, Lib.hid (by rw [Hr.out, Hs.out, Hp.out, Bool.true_and])⟩
        case measure => simp [intOf]; omega
      · have Hp := Lib.hid hp
        clear hp
        have hb2 : (!xs[k].toList == [42]) = true := by simp [hb]
        go_wp2_with (go_at_call 145; refine (validTag_ok _ _ hsz).mono ?_; rintro e w' ⟨rfl, rfl⟩)
        go_ret
        exact ⟨by simp [tagsB, Hr.out, Hs.out, Hp.out], rfl⟩
    · have Hs := Lib.hid (allD_end (p := tagsB1) xs k hlt)
      go_wp2
      go_ret
      exact ⟨by simp [tagsB, Hr.out, Hs.out]; omega, rfl⟩

end Go.Proofs.Ytchiakeceiefdaa

/-
  Operations and requests, and the walks of what makes them valid.
-/
namespace Go.Proofs.Ytchiakeceiefdaa
open Go.RowKit

/-- An operation, told by itself. -/
structure Opn where
  kind : Int
  path : List ByteArray
  frm : List ByteArray
  val : Nd

def opV (o : Opn) (pa : Option Addr) (pc : Nat) (fa : Option Addr) (fc : Nat) (na : Option Addr) (nc : Nat) (ka : Option Addr) (kc : Nat) : Value :=
  .agg #[.int .i64 o.kind, .slice pa o.path.length pc, .slice fa o.frm.length fc, .int .i64 o.val.kind, .int .i64 o.val.num, .string o.val.text, .slice na o.val.names.length nc, .slice ka o.val.kids.length kc]
def OpC (w : World) (S : Nat → Prop) (o : Opn) (pa : Option Addr) (pc : Nat) (fa : Option Addr) (fc : Nat) (na : Option Addr) (nc : Nat) (ka : Option Addr) (kc : Nat) : Prop :=
  StrsR w S pa pc o.path ∧ StrsR w S fa fc o.frm ∧ NodeC w S o.val na nc ka kc
def OpR (w : World) (S : Nat → Prop) (o : Opn) (v : Value) : Prop := ∃ pa pc fa fc na nc ka kc, v = opV o pa pc fa fc na nc ka kc ∧ OpC w S o pa pc fa fc na nc ka kc

/-- A slice of operations. -/
def OpsR (w : World) (S : Nat → Prop) (a : Option Addr) (c : Nat) (l : List Opn) : Prop :=
  l.length ≤ c ∧ l.length ≤ big ∧ (l = [] ∨ ∃ b o, a = some ⟨b, o, none⟩ ∧ S b ∧ ∀ i (h : i < l.length), ∃ pa pc fa fc na nc ka kc,
    w.cell? ⟨b, o + i * 8, none⟩ = some (.int .i64 l[i].kind) ∧ w.cell? ⟨b, o + i * 8 + 1, none⟩ = some (.slice pa l[i].path.length pc) ∧ w.cell? ⟨b, o + i * 8 + 2, none⟩ = some (.slice fa l[i].frm.length fc) ∧
    w.cell? ⟨b, o + i * 8 + 3, none⟩ = some (.int .i64 l[i].val.kind) ∧ w.cell? ⟨b, o + i * 8 + 4, none⟩ = some (.int .i64 l[i].val.num) ∧ w.cell? ⟨b, o + i * 8 + 5, none⟩ = some (.string l[i].val.text) ∧
    w.cell? ⟨b, o + i * 8 + 6, none⟩ = some (.slice na l[i].val.names.length nc) ∧ w.cell? ⟨b, o + i * 8 + 7, none⟩ = some (.slice ka l[i].val.kids.length kc) ∧ OpC w S l[i] pa pc fa fc na nc ka kc)

theorem OpC.ext {X S : Nat → Prop} {w w' : World} (h : Ext X w w') (hS : ∀ k, S k → ¬ X k) {o : Opn} {pa : Option Addr} {pc : Nat} {fa : Option Addr} {fc : Nat} {na : Option Addr} {nc : Nat} {ka : Option Addr} {kc : Nat}
    (hs : OpC w S o pa pc fa fc na nc ka kc) : OpC w' S o pa pc fa fc na nc ka kc := ⟨hs.1.ext h hS, hs.2.1.ext h hS, hs.2.2.ext h hS⟩
theorem OpC.grow {S : Nat → Prop} {w w' : World} {o : Opn} {pa : Option Addr} {pc : Nat} {fa : Option Addr} {fc : Nat} {na : Option Addr} {nc : Nat} {ka : Option Addr} {kc : Nat}
    (hs : OpC w S o pa pc fa fc na nc ka kc) (h : Grow w w') : OpC w' S o pa pc fa fc na nc ka kc := hs.ext h (fun _ _ h => h)
theorem OpR.ext {X S : Nat → Prop} {w w' : World} (h : Ext X w w') (hS : ∀ k, S k → ¬ X k) {o : Opn} {v : Value} (hs : OpR w S o v) : OpR w' S o v := by
  obtain ⟨pa, pc, fa, fc, na, nc, ka, kc, hv, hc⟩ := hs
  exact ⟨pa, pc, fa, fc, na, nc, ka, kc, hv, hc.ext h hS⟩
theorem OpR.grow {S : Nat → Prop} {w w' : World} {o : Opn} {v : Value} (hs : OpR w S o v) (h : Grow w w') : OpR w' S o v := hs.ext h (fun _ _ h => h)
theorem OpsR.ext {X S : Nat → Prop} {w w' : World} (h : Ext X w w') (hS : ∀ k, S k → ¬ X k) {a : Option Addr} {c : Nat} {l : List Opn} (hs : OpsR w S a c l) : OpsR w' S a c l := by
  obtain ⟨h1, h2, h4⟩ := hs
  refine ⟨h1, h2, h4.imp id ?_⟩
  rintro ⟨b, o, rfl, hb, hc⟩
  refine ⟨b, o, rfl, hb, fun i hi => ?_⟩
  obtain ⟨pa, pc, fa, fc, na, nc, ka, kc, g0, g1, g2, g3, g4, g5, g6, g7, g⟩ := hc i hi
  exact ⟨pa, pc, fa, fc, na, nc, ka, kc, h.some g0 (hS b hb), h.some g1 (hS b hb), h.some g2 (hS b hb), h.some g3 (hS b hb), h.some g4 (hS b hb), h.some g5 (hS b hb), h.some g6 (hS b hb), h.some g7 (hS b hb), g.ext h hS⟩
theorem OpsR.grow {S : Nat → Prop} {w w' : World} {a : Option Addr} {c : Nat} {l : List Opn} (hs : OpsR w S a c l) (h : Grow w w') : OpsR w' S a c l := hs.ext h (fun _ _ h => h)

def opB (o : Opn) : Bool := inR o.kind 1 6 && pathB o.path && pathB o.frm && validB o.val
def opsB (l : List Opn) : Bool := decide (l.length ≤ 12) && l.all opB

set_option maxHeartbeats 1000000 in
theorem isOp_ok (o : Opn) (v : Value) (w : World) (hn : OpR w any o v) :
    Calls Try.prog 98 #[v] w fun e w' => e = .returned (.bool (opB o)) ∧ Grow w w' := by
  obtain ⟨pa, pc, fa, fc, na, nc, ka, kc, rfl, hp, hf, hc⟩ := hn
  have Hp := Lib.hid (hp.grow (w' := w.alloc (.cells #[.int .i64 o.kind, .slice pa o.path.length pc, .slice fa o.frm.length fc, .int .i64 o.val.kind, .int .i64 o.val.num, .string o.val.text, .slice na o.val.names.length nc, .slice ka o.val.kids.length kc] 93)) (by repeat (first | with_reducible exact Ext.refl _ _ | with_reducible refine Ext.trans ?_ (by assumption) | with_reducible refine Ext.drew ?_ | with_reducible refine Ext.drewN ?_ _ | with_reducible refine Ext.alloc ?_ _ | with_reducible refine Ext.setNew ?_ (by simp; done) _ | with_reducible refine Ext.setNew ?_ (by simp; omega) _)))
  have Hf := Lib.hid (hf.grow (w' := w.alloc (.cells #[.int .i64 o.kind, .slice pa o.path.length pc, .slice fa o.frm.length fc, .int .i64 o.val.kind, .int .i64 o.val.num, .string o.val.text, .slice na o.val.names.length nc, .slice ka o.val.kids.length kc] 93)) (by repeat (first | with_reducible exact Ext.refl _ _ | with_reducible refine Ext.trans ?_ (by assumption) | with_reducible refine Ext.drew ?_ | with_reducible refine Ext.drewN ?_ _ | with_reducible refine Ext.alloc ?_ _ | with_reducible refine Ext.setNew ?_ (by simp; done) _ | with_reducible refine Ext.setNew ?_ (by simp; omega) _)))
  have Hv := Lib.hid (NodeR.grow (S := any) (w := w) (n := o.val) (v := nodeV o.val na nc ka kc) ⟨na, nc, ka, kc, rfl, hc⟩ (w' := w.alloc (.cells #[.int .i64 o.kind, .slice pa o.path.length pc, .slice fa o.frm.length fc, .int .i64 o.val.kind, .int .i64 o.val.num, .string o.val.text, .slice na o.val.names.length nc, .slice ka o.val.kids.length kc] 93)) (by repeat (first | with_reducible exact Ext.refl _ _ | with_reducible refine Ext.trans ?_ (by assumption) | with_reducible refine Ext.drew ?_ | with_reducible refine Ext.drewN ?_ _ | with_reducible refine Ext.alloc ?_ _ | with_reducible refine Ext.setNew ?_ (by simp; done) _ | with_reducible refine Ext.setNew ?_ (by simp; omega) _)))
  clear hp hf hc
  unfold opV nodeV at *
  rcases inR_cases o.kind 1 6 with ⟨h1, hi⟩ | ⟨h1, hi⟩ | ⟨h1, h2, hi⟩
  · have Hi := Lib.hid hi
    clear hi
    go_enter Try.func98, Try.ntmps98
    go_wp2
    go_ret
    exact ⟨by simp [opB, Hi.out], (by repeat (first | with_reducible exact Ext.refl _ _ | with_reducible refine Ext.trans ?_ (by assumption) | with_reducible refine Ext.drew ?_ | with_reducible refine Ext.drewN ?_ _ | with_reducible refine Ext.alloc ?_ _ | with_reducible refine Ext.setNew ?_ (by simp; done) _ | with_reducible refine Ext.setNew ?_ (by simp; omega) _))⟩
  · have Hi := Lib.hid hi
    clear hi
    go_enter Try.func98, Try.ntmps98
    go_wp2
    go_ret
    exact ⟨by simp [opB, Hi.out], (by repeat (first | with_reducible exact Ext.refl _ _ | with_reducible refine Ext.trans ?_ (by assumption) | with_reducible refine Ext.drew ?_ | with_reducible refine Ext.drewN ?_ _ | with_reducible refine Ext.alloc ?_ _ | with_reducible refine Ext.setNew ?_ (by simp; done) _ | with_reducible refine Ext.setNew ?_ (by simp; omega) _))⟩
  have Hi := Lib.hid hi
  clear hi
  cases hp : pathB o.path
  · go_enter Try.func98, Try.ntmps98
    go_wp2_with (go_at_call 135; with_reducible refine (isPath_ok pa pc o.path _ Hp.out).mono ?_; rintro e w' ⟨rfl, rfl⟩; simp only [hp])
    go_ret
    exact ⟨by simp [opB, hp], (by repeat (first | with_reducible exact Ext.refl _ _ | with_reducible refine Ext.trans ?_ (by assumption) | with_reducible refine Ext.drew ?_ | with_reducible refine Ext.drewN ?_ _ | with_reducible refine Ext.alloc ?_ _ | with_reducible refine Ext.setNew ?_ (by simp; done) _ | with_reducible refine Ext.setNew ?_ (by simp; omega) _))⟩
  cases hf : pathB o.frm
  · go_enter Try.func98, Try.ntmps98
    go_wp2_with (go_at_call 135; first | (with_reducible refine (isPath_ok pa pc o.path _ Hp.out).mono ?_; rintro e w' ⟨rfl, rfl⟩; simp only [hp]) | (with_reducible refine (isPath_ok fa fc o.frm _ Hf.out).mono ?_; rintro e w' ⟨rfl, rfl⟩; simp only [hf]))
    go_ret
    exact ⟨by simp [opB, hf], (by repeat (first | with_reducible exact Ext.refl _ _ | with_reducible refine Ext.trans ?_ (by assumption) | with_reducible refine Ext.drew ?_ | with_reducible refine Ext.drewN ?_ _ | with_reducible refine Ext.alloc ?_ _ | with_reducible refine Ext.setNew ?_ (by simp; done) _ | with_reducible refine Ext.setNew ?_ (by simp; omega) _))⟩
  go_enter Try.func98, Try.ntmps98
  go_wp2_with (first | (go_at_call 135; first | (with_reducible refine (isPath_ok pa pc o.path _ Hp.out).mono ?_; rintro e w' ⟨rfl, rfl⟩; simp only [hp]) | (with_reducible refine (isPath_ok fa fc o.frm _ Hf.out).mono ?_; rintro e w' ⟨rfl, rfl⟩; simp only [hf])) | (go_at_call 14; refine (ValidNode_ok o.val _ _ Hv.out).mono ?_; rintro e w2 ⟨rfl, hg2⟩))
  go_ret
  exact ⟨by simp [opB, Hi.out, hp, hf], (by repeat (first | with_reducible exact Ext.refl _ _ | with_reducible refine Ext.trans ?_ (by assumption) | with_reducible refine Ext.drew ?_ | with_reducible refine Ext.drewN ?_ _ | with_reducible refine Ext.alloc ?_ _ | with_reducible refine Ext.setNew ?_ (by simp; done) _ | with_reducible refine Ext.setNew ?_ (by simp; omega) _))⟩

set_option maxHeartbeats 1000000 in
theorem validOp_ok (o : Opn) (v : Value) (w : World) (hn : OpR w any o v) :
    Calls Try.prog 95 #[v] w fun e w' => e = .returned (.bool (opB o)) ∧ Grow w w' := by
  obtain ⟨pa, pc, fa, fc, na, nc, ka, kc, rfl, hp, hf, hc⟩ := hn
  have Hp := Lib.hid (hp.grow (w' := w.alloc (.cells #[.int .i64 o.kind, .slice pa o.path.length pc, .slice fa o.frm.length fc, .int .i64 o.val.kind, .int .i64 o.val.num, .string o.val.text, .slice na o.val.names.length nc, .slice ka o.val.kids.length kc] 93)) (by repeat (first | with_reducible exact Ext.refl _ _ | with_reducible refine Ext.trans ?_ (by assumption) | with_reducible refine Ext.drew ?_ | with_reducible refine Ext.drewN ?_ _ | with_reducible refine Ext.alloc ?_ _ | with_reducible refine Ext.setNew ?_ (by simp; done) _ | with_reducible refine Ext.setNew ?_ (by simp; omega) _)))
  have Hf := Lib.hid (hf.grow (w' := w.alloc (.cells #[.int .i64 o.kind, .slice pa o.path.length pc, .slice fa o.frm.length fc, .int .i64 o.val.kind, .int .i64 o.val.num, .string o.val.text, .slice na o.val.names.length nc, .slice ka o.val.kids.length kc] 93)) (by repeat (first | with_reducible exact Ext.refl _ _ | with_reducible refine Ext.trans ?_ (by assumption) | with_reducible refine Ext.drew ?_ | with_reducible refine Ext.drewN ?_ _ | with_reducible refine Ext.alloc ?_ _ | with_reducible refine Ext.setNew ?_ (by simp; done) _ | with_reducible refine Ext.setNew ?_ (by simp; omega) _)))
  have Hv := Lib.hid (NodeR.grow (S := any) (w := w) (n := o.val) (v := nodeV o.val na nc ka kc) ⟨na, nc, ka, kc, rfl, hc⟩ (w' := w.alloc (.cells #[.int .i64 o.kind, .slice pa o.path.length pc, .slice fa o.frm.length fc, .int .i64 o.val.kind, .int .i64 o.val.num, .string o.val.text, .slice na o.val.names.length nc, .slice ka o.val.kids.length kc] 93)) (by repeat (first | with_reducible exact Ext.refl _ _ | with_reducible refine Ext.trans ?_ (by assumption) | with_reducible refine Ext.drew ?_ | with_reducible refine Ext.drewN ?_ _ | with_reducible refine Ext.alloc ?_ _ | with_reducible refine Ext.setNew ?_ (by simp; done) _ | with_reducible refine Ext.setNew ?_ (by simp; omega) _)))
  clear hp hf hc
  unfold opV nodeV at *
  cases hi : inR o.kind 1 6
  · go_enter Try.func95, Try.ntmps95
    go_wp2_with (go_at_call 64; refine (inRange_ok _ _ _ _).mono ?_; rintro e w' ⟨rfl, rfl⟩; simp only [hi])
    go_ret
    exact ⟨by simp [opB, hi], (by repeat (first | with_reducible exact Ext.refl _ _ | with_reducible refine Ext.trans ?_ (by assumption) | with_reducible refine Ext.drew ?_ | with_reducible refine Ext.drewN ?_ _ | with_reducible refine Ext.alloc ?_ _ | with_reducible refine Ext.setNew ?_ (by simp; done) _ | with_reducible refine Ext.setNew ?_ (by simp; omega) _))⟩
  cases hp : pathB o.path
  · go_enter Try.func95, Try.ntmps95
    go_wp2_with (first | (go_at_call 64; refine (inRange_ok _ _ _ _).mono ?_; rintro e w' ⟨rfl, rfl⟩; simp only [hi]) | (go_at_call 130; with_reducible refine (validPath_ok pa pc o.path _ Hp.out).mono ?_; rintro e w' ⟨rfl, rfl⟩; simp only [hp]))
    go_ret
    exact ⟨by simp [opB, hp], (by repeat (first | with_reducible exact Ext.refl _ _ | with_reducible refine Ext.trans ?_ (by assumption) | with_reducible refine Ext.drew ?_ | with_reducible refine Ext.drewN ?_ _ | with_reducible refine Ext.alloc ?_ _ | with_reducible refine Ext.setNew ?_ (by simp; done) _ | with_reducible refine Ext.setNew ?_ (by simp; omega) _))⟩
  cases hf : pathB o.frm
  · go_enter Try.func95, Try.ntmps95
    go_wp2_with (first | (go_at_call 64; refine (inRange_ok _ _ _ _).mono ?_; rintro e w' ⟨rfl, rfl⟩; simp only [hi]) | (go_at_call 130; first | (with_reducible refine (validPath_ok pa pc o.path _ Hp.out).mono ?_; rintro e w' ⟨rfl, rfl⟩; simp only [hp]) | (with_reducible refine (validPath_ok fa fc o.frm _ Hf.out).mono ?_; rintro e w' ⟨rfl, rfl⟩; simp only [hf])))
    go_ret
    exact ⟨by simp [opB, hf], (by repeat (first | with_reducible exact Ext.refl _ _ | with_reducible refine Ext.trans ?_ (by assumption) | with_reducible refine Ext.drew ?_ | with_reducible refine Ext.drewN ?_ _ | with_reducible refine Ext.alloc ?_ _ | with_reducible refine Ext.setNew ?_ (by simp; done) _ | with_reducible refine Ext.setNew ?_ (by simp; omega) _))⟩
  go_enter Try.func95, Try.ntmps95
  go_wp2_with (first | (go_at_call 64; refine (inRange_ok _ _ _ _).mono ?_; rintro e w' ⟨rfl, rfl⟩; simp only [hi]) | (go_at_call 130; first | (with_reducible refine (validPath_ok pa pc o.path _ Hp.out).mono ?_; rintro e w' ⟨rfl, rfl⟩; simp only [hp]) | (with_reducible refine (validPath_ok fa fc o.frm _ Hf.out).mono ?_; rintro e w' ⟨rfl, rfl⟩; simp only [hf])) | (go_at_call 58; refine (validNode_ok o.val _ _ Hv.out).mono ?_; rintro e w2 ⟨rfl, hg2⟩))
  go_ret
  exact ⟨by simp [opB, hi, hp, hf], (by repeat (first | with_reducible exact Ext.refl _ _ | with_reducible refine Ext.trans ?_ (by assumption) | with_reducible refine Ext.drew ?_ | with_reducible refine Ext.drewN ?_ _ | with_reducible refine Ext.alloc ?_ _ | with_reducible refine Ext.setNew ?_ (by simp; done) _ | with_reducible refine Ext.setNew ?_ (by simp; omega) _))⟩

end Go.Proofs.Ytchiakeceiefdaa

/-
  Requests, and the walks of what makes patches and requests valid.
-/
namespace Go.Proofs.Ytchiakeceiefdaa
open Go.RowKit

set_option maxHeartbeats 1000000 in
theorem arePatchOps_ok (a : Option Addr) (c : Nat) (l : List Opn) (w : World) (ha : OpsR w any a c l) :
    Calls Try.prog 125 #[.slice a l.length c] w fun e w' => e = .returned (.bool (opsB l)) ∧ Grow w w' := by
  have hbig : l.length ≤ 9223372036854775807 := ha.2.1
  have Hn := Lib.hid ha
  clear ha
  by_cases hl : 12 < l.length
  · go_enter Try.func125, Try.ntmps125
    go_wp2
    go_ret
    exact ⟨by simp [opsB]; omega, Ext.refl _ _⟩
  · go_enter Try.func125, Try.ntmps125
    go_wp2
    go_loopw [2, 4, 10] (fun n _ i wr => n = .bool false ∧ Grow w wr ∧ ∃ k : Nat, k ≤ l.length ∧ i = .int .i64 k ∧ Hid (l.all opB = (l.drop k).all opB)) (fun _ _ i _ => l.length - (intOf i).toNat)
    case atStart => exact ⟨rfl, Ext.refl _ _, 0, Nat.zero_le _, rfl, Lib.hid rfl⟩
    case round =>
      obtain ⟨rfl, hg, k, hk, rfl, Hr⟩ := hrel
      by_cases hlt : k < l.length
      · obtain ⟨_, _, hks⟩ := (Hn.out).ext hg (fun _ _ h => h)
        rcases hks with hks | ⟨bk, ok, rfl, _, hkr⟩
        · simp [hks] at hlt
        obtain ⟨pa, pc, fa, fc, na, nc, ka, kc, c0, c1, c2, c3, c4, c5, c6, c7, hkc⟩ := hkr k hlt
        have Hkc := Lib.hid (OpR.grow (S := any) (w := wr) (o := l[k]) (v := opV l[k] pa pc fa fc na nc ka kc) ⟨pa, pc, fa, fc, na, nc, ka, kc, rfl, hkc⟩
          (w' := wr.alloc (.cells #[.int .i64 l[k].kind, .slice pa l[k].path.length pc, .slice fa l[k].frm.length fc, .int .i64 l[k].val.kind, .int .i64 l[k].val.num, .string l[k].val.text, .slice na l[k].val.names.length nc, .slice ka l[k].val.kids.length kc] 93)) (by repeat (first | with_reducible exact Ext.refl _ _ | with_reducible refine Ext.trans ?_ (by assumption) | with_reducible refine Ext.drew ?_ | with_reducible refine Ext.drewN ?_ _ | with_reducible refine Ext.alloc ?_ _ | with_reducible refine Ext.setNew ?_ (by simp; done) _ | with_reducible refine Ext.setNew ?_ (by simp; omega) _)))
        have Hs := Lib.hid (allD_step (p := opB) l k hlt)
        clear hkr hkc
        cases hp : opB l[k]
        · have Hp := Lib.hid hp
          clear hp
          go_wp2_with (go_at_call 98; refine (isOp_ok l[k] _ _ Hkc.out).mono ?_; rintro e w2 ⟨rfl, hg2⟩; simp only [Hp.out])
          go_ret
          exact ⟨by simp [opsB, Hr.out, Hs.out, Hp.out], hg.trans (by repeat (first | with_reducible exact Ext.refl _ _ | with_reducible refine Ext.trans ?_ (by assumption) | with_reducible refine Ext.drew ?_ | with_reducible refine Ext.drewN ?_ _ | with_reducible refine Ext.alloc ?_ _ | with_reducible refine Ext.setNew ?_ (by simp; done) _ | with_reducible refine Ext.setNew ?_ (by simp; omega) _))⟩
        · have Hp := Lib.hid hp
          clear hp
          go_wp2_with (go_at_call 98; refine (isOp_ok l[k] _ _ Hkc.out).mono ?_; rintro e w2 ⟨rfl, hg2⟩; simp only [Hp.out])
          go_roundw
          case rel => exact ⟨rfl, hg.trans (by repeat (first | with_reducible exact Ext.refl _ _ | with_reducible refine Ext.trans ?_ (by assumption) | with_reducible refine Ext.drew ?_ | with_reducible refine Ext.drewN ?_ _ | with_reducible refine Ext.alloc ?_ _ | with_reducible refine Ext.setNew ?_ (by simp; done) _ | with_reducible refine Ext.setNew ?_ (by simp; omega) _)), k + 1, by omega, by go_num, Lib.hid (by rw [Hr.out, Hs.out, Hp.out, Bool.true_and])⟩
          case measure => simp [intOf]; omega
      · have Hs := Lib.hid (allD_end (p := opB) l k hlt)
        go_wp2
        go_ret
        exact ⟨by simp [opsB, Hr.out, Hs.out]; omega, hg⟩

set_option maxHeartbeats 1000000 in
theorem validPatch_ok (a : Option Addr) (c : Nat) (l : List Opn) (w : World) (ha : OpsR w any a c l) :
    Calls Try.prog 123 #[.slice a l.length c] w fun e w' => e = .returned (.bool (opsB l)) ∧ Grow w w' := by
  have hbig : l.length ≤ 9223372036854775807 := ha.2.1
  have Hn := Lib.hid ha
  clear ha
  go_enter Try.func123, Try.ntmps123
  go_wp2
  go_loopw [2, 3] (fun n i wr => n = .bool false ∧ Grow w wr ∧ ∃ k : Nat, k ≤ l.length ∧ i = .int .i64 k ∧ Hid (l.all opB = (l.drop k).all opB)) (fun _ i _ => l.length - (intOf i).toNat)
  case atStart => exact ⟨rfl, Ext.refl _ _, 0, Nat.zero_le _, rfl, Lib.hid rfl⟩
  case round =>
    obtain ⟨rfl, hg, k, hk, rfl, Hr⟩ := hrel
    by_cases hlt : k < l.length
    · obtain ⟨_, _, hks⟩ := (Hn.out).ext hg (fun _ _ h => h)
      rcases hks with hks | ⟨bk, ok, rfl, _, hkr⟩
      · simp [hks] at hlt
      obtain ⟨pa, pc, fa, fc, na, nc, ka, kc, c0, c1, c2, c3, c4, c5, c6, c7, hkc⟩ := hkr k hlt
      have Hkc : Hid (OpR wr any l[k] (opV l[k] pa pc fa fc na nc ka kc)) := Lib.hid ⟨pa, pc, fa, fc, na, nc, ka, kc, rfl, hkc⟩
      have Hs := Lib.hid (allD_step (p := opB) l k hlt)
      clear hkr hkc
      cases hp : opB l[k]
      · have Hp := Lib.hid hp
        clear hp
        go_wp2_with (go_at_call 95; refine (validOp_ok l[k] _ _ Hkc.out).mono ?_; rintro e w2 ⟨rfl, hg2⟩; simp only [Hp.out])
        go_ret
        exact ⟨by simp [opsB, Hr.out, Hs.out, Hp.out], hg.trans (by repeat (first | with_reducible exact Ext.refl _ _ | with_reducible refine Ext.trans ?_ (by assumption) | with_reducible refine Ext.drew ?_ | with_reducible refine Ext.drewN ?_ _ | with_reducible refine Ext.alloc ?_ _ | with_reducible refine Ext.setNew ?_ (by simp; done) _ | with_reducible refine Ext.setNew ?_ (by simp; omega) _))⟩
      · have Hp := Lib.hid hp
        clear hp
        go_wp2_with (go_at_call 95; refine (validOp_ok l[k] _ _ Hkc.out).mono ?_; rintro e w2 ⟨rfl, hg2⟩; simp only [Hp.out])
        go_roundw
        case rel => exact ⟨rfl, hg.trans (by repeat (first | with_reducible exact Ext.refl _ _ | with_reducible refine Ext.trans ?_ (by assumption) | with_reducible refine Ext.drew ?_ | with_reducible refine Ext.drewN ?_ _ | with_reducible refine Ext.alloc ?_ _ | with_reducible refine Ext.setNew ?_ (by simp; done) _ | with_reducible refine Ext.setNew ?_ (by simp; omega) _)), k + 1, by omega, by go_num, Lib.hid (by rw [Hr.out, Hs.out, Hp.out, Bool.true_and])⟩
        case measure => simp [intOf]; omega
    · have Hs := Lib.hid (allD_end (p := opB) l k hlt)
      go_wp2
      go_ret
      exact ⟨by simp [opsB, Hr.out, Hs.out]; omega, hg⟩

/-- A request, told by itself. -/
structure Reqn where
  method : Int
  name : ByteArray
  want : List ByteArray
  avoid : List ByteArray
  body : Nd
  ops : List Opn

def reqCells (q : Reqn) (wa : Option Addr) (wc : Nat) (va : Option Addr) (vc : Nat) (na : Option Addr) (nc : Nat) (ka : Option Addr) (kc : Nat) (oa : Option Addr) (oc : Nat) : Array Value :=
  #[.int .i64 q.method, .string q.name, .slice wa q.want.length wc, .slice va q.avoid.length vc, .int .i64 q.body.kind, .int .i64 q.body.num, .string q.body.text, .slice na q.body.names.length nc, .slice ka q.body.kids.length kc, .slice oa q.ops.length oc]
def ReqC (w : World) (S : Nat → Prop) (q : Reqn) (wa : Option Addr) (wc : Nat) (va : Option Addr) (vc : Nat) (na : Option Addr) (nc : Nat) (ka : Option Addr) (kc : Nat) (oa : Option Addr) (oc : Nat) : Prop :=
  q.name.size ≤ big ∧ StrsR w S wa wc q.want ∧ StrsR w S va vc q.avoid ∧ NodeC w S q.body na nc ka kc ∧ OpsR w S oa oc q.ops
def ReqR (w : World) (S : Nat → Prop) (q : Reqn) (v : Value) : Prop := ∃ wa wc va vc na nc ka kc oa oc, v = .agg (reqCells q wa wc va vc na nc ka kc oa oc) ∧ ReqC w S q wa wc va vc na nc ka kc oa oc

theorem ReqR.ext {X S : Nat → Prop} {w w' : World} (h : Ext X w w') (hS : ∀ k, S k → ¬ X k) {q : Reqn} {v : Value} (hs : ReqR w S q v) : ReqR w' S q v := by
  obtain ⟨wa, wc, va, vc, na, nc, ka, kc, oa, oc, hv, h1, h2, h3, h4, h5⟩ := hs
  exact ⟨wa, wc, va, vc, na, nc, ka, kc, oa, oc, hv, h1, h2.ext h hS, h3.ext h hS, h4.ext h hS, h5.ext h hS⟩
theorem ReqR.grow {S : Nat → Prop} {w w' : World} {q : Reqn} {v : Value} (hs : ReqR w S q v) (h : Grow w w') : ReqR w' S q v := hs.ext h (fun _ _ h => h)

def reqB (q : Reqn) : Bool := inR q.method 1 5 && nameB q.name && tagsB q.want && tagsB q.avoid && validB q.body && opsB q.ops

end Go.Proofs.Ytchiakeceiefdaa

/-
  What an argument that is read as data tells of memory: operations, requests.
-/
namespace Go.Proofs.Ytchiakeceiefdaa
open Go.RowKit Go.ChangeShapes Go.WideShapes Go.Deep

section
variable {H : Type} {enc : TypeId × Value → H} {W : World} {base : Nat} {sp : Nat → Bool} {held : Bool}

set_option maxRecDepth 100000 in
theorem open_op {fuel : Nat} {cs : List Value} {x : DataW H × List MemPlace} (h : DataW.trod enc Try.prog W base sp held fuel 88 cs = some x) :
    ∃ o pa pc fa fc na nc ka kc, cs = [.int .i64 o.kind, .slice pa o.path.length pc, .slice fa o.frm.length fc, .int .i64 o.val.kind, .int .i64 o.val.num, .string o.val.text, .slice na o.val.names.length nc, .slice ka o.val.kids.length kc] ∧ OpC W any o pa pc fa fc na nc ka kc := by
  obtain ⟨xs, n, rfl, _, hlen, hxs, hf⟩ := DataW.trod_struct Try.underlying88 h
  have hc : Try.prog.cellsOf 88 = 8 := by kernel_rfl
  have c3 : Try.prog.cellsOf 3 = 1 := by kernel_rfl
  have c23 : Try.prog.cellsOf 23 = 1 := by kernel_rfl
  have cN : Try.prog.cellsOf 59 = 5 := by kernel_rfl
  rw [hc] at hlen
  match cs, hlen with
  | [v0, v1, v2, v3, v4, v5, v6, v7], _ =>
    obtain ⟨y0, g0⟩ : ∃ y, DataW.trod enc Try.prog W base sp held n 3 [v0] = some y := ⟨xs[0]'(by simp at hxs; omega), by
      have h := hf 0 _ rfl
      rw [List.getElem?_eq_getElem (by simp at hxs; omega)] at h
      simpa [c3, c23, cN] using h⟩
    obtain ⟨y1, g1⟩ : ∃ y, DataW.trod enc Try.prog W base sp held n 23 [v1] = some y := ⟨xs[1]'(by simp at hxs; omega), by
      have h := hf 1 _ rfl
      rw [List.getElem?_eq_getElem (by simp at hxs; omega)] at h
      simpa [c3, c23, cN] using h⟩
    obtain ⟨y2, g2⟩ : ∃ y, DataW.trod enc Try.prog W base sp held n 23 [v2] = some y := ⟨xs[2]'(by simp at hxs; omega), by
      have h := hf 2 _ rfl
      rw [List.getElem?_eq_getElem (by simp at hxs; omega)] at h
      simpa [c3, c23, cN] using h⟩
    obtain ⟨y3, g3⟩ : ∃ y, DataW.trod enc Try.prog W base sp held n 59 [v3, v4, v5, v6, v7] = some y := ⟨xs[3]'(by simp at hxs; omega), by
      have h := hf 3 _ rfl
      rw [List.getElem?_eq_getElem (by simp at hxs; omega)] at h
      simpa [c3, c23, cN] using h⟩
    clear hf
    obtain ⟨kind, e0, _, _⟩ := DataW.trod_int Try.underlying3 g0
    obtain ⟨pa, pc, path, e1, hp⟩ := open_strs' g1
    obtain ⟨fa, fc, frm, e2, hfr⟩ := open_strs' g2
    obtain ⟨nd, na, nc, ka, kc, e3, hn⟩ := open_node _ _ _ g3
    simp only [List.cons.injEq, and_true] at e0 e1 e2 e3
    obtain ⟨rfl, rfl, rfl, rfl, rfl⟩ := e3
    subst e0 e1 e2
    exact ⟨⟨kind, path, frm, nd⟩, pa, pc, fa, fc, na, nc, ka, kc, rfl, hp, hfr, hn⟩

theorem open_ops {fuel : Nat} {cs : List Value} {x : DataW H × List MemPlace} (h : DataW.trod enc Try.prog W base sp held fuel 67 cs = some x) :
    ∃ a c l, cs = [.slice a (l : List Opn).length c] ∧ OpsR W any a c l := by
  rcases open_slice Try.underlying67 h with ⟨rfl, _⟩ | ⟨a, len, cap, m, n, D, Pl, rfl, _, hl, hm, hmm, _, hi⟩
  · exact ⟨none, 0, [], rfl, by simp, by simp, .inl rfl⟩
  · have hlm : len ≤ m := by rw [hmm]; split <;> omega
    have hc : Try.prog.cellsOf 88 = 8 := by kernel_rfl
    rw [hc] at hi
    have key : ∀ i, i < len → ∃ k : Opn × (Option Addr × Nat × Option Addr × Nat) × (Option Addr × Nat × Option Addr × Nat),
        W.cell? (a.add (i * 8)) = some (.int .i64 k.1.kind) ∧ W.cell? (a.add (i * 8 + 1)) = some (.slice k.2.1.1 k.1.path.length k.2.1.2.1) ∧ W.cell? (a.add (i * 8 + 2)) = some (.slice k.2.1.2.2.1 k.1.frm.length k.2.1.2.2.2) ∧
        W.cell? (a.add (i * 8 + 3)) = some (.int .i64 k.1.val.kind) ∧ W.cell? (a.add (i * 8 + 4)) = some (.int .i64 k.1.val.num) ∧ W.cell? (a.add (i * 8 + 5)) = some (.string k.1.val.text) ∧
        W.cell? (a.add (i * 8 + 6)) = some (.slice k.2.2.1 k.1.val.names.length k.2.2.2.1) ∧ W.cell? (a.add (i * 8 + 7)) = some (.slice k.2.2.2.2.1 k.1.val.kids.length k.2.2.2.2.2) ∧
        OpC W any k.1 k.2.1.1 k.2.1.2.1 k.2.1.2.2.1 k.2.1.2.2.2 k.2.2.1 k.2.2.2.1 k.2.2.2.2.1 k.2.2.2.2.2 := fun i hi' => by
      obtain ⟨cs', h1, h2⟩ := hi i (by omega)
      obtain ⟨_, hlen, hat⟩ := World.cells?_some h1
      obtain ⟨o, pa, pc, fa, fc, na, nc, ka, kc, rfl, ho⟩ := open_op h2
      refine ⟨⟨o, ⟨pa, pc, fa, fc⟩, ⟨na, nc, ka, kc⟩⟩, ?_, ?_, ?_, ?_, ?_, ?_, ?_, ?_, ho⟩
      · simpa [Go.Deep.add_add] using hat 0 (by omega)
      · simpa [Go.Deep.add_add] using hat 1 (by omega)
      · simpa [Go.Deep.add_add] using hat 2 (by omega)
      · simpa [Go.Deep.add_add] using hat 3 (by omega)
      · simpa [Go.Deep.add_add] using hat 4 (by omega)
      · simpa [Go.Deep.add_add] using hat 5 (by omega)
      · simpa [Go.Deep.add_add] using hat 6 (by omega)
      · simpa [Go.Deep.add_add] using hat 7 (by omega)
    have : Inhabited (Opn × (Option Addr × Nat × Option Addr × Nat) × (Option Addr × Nat × Option Addr × Nat)) := ⟨⟨⟨0, [], [], ⟨0, 0, ByteArray.empty, [], []⟩⟩, ⟨none, 0, none, 0⟩, ⟨none, 0, none, 0⟩⟩⟩
    obtain ⟨f, hf⟩ := choose_lt key
    have hkl : ((List.range len).map fun i => (f i).1).length = len := by simp
    have hbig : len ≤ big := by unfold maxLen at hm; unfold big; omega
    refine ⟨some a, cap, (List.range len).map fun i => (f i).1, by simp, by rw [hkl]; exact hl, by rw [hkl]; exact hbig, ?_⟩
    by_cases h0 : len = 0
    · subst h0; exact .inl rfl
    · obtain ⟨b, o, ha⟩ := addr_spot (hf 0 (by omega)).1
      have ha' : a = ⟨b, o, none⟩ := by simpa [Addr.add] using ha
      subst ha'
      refine .inr ⟨b, o, rfl, trivial, fun i hi' => ?_⟩
      rw [hkl] at hi'
      obtain ⟨k0, k1, k2, k3, k4, k5, k6, k7, kn⟩ := hf i hi'
      rw [add_mk] at k0 k1 k2 k3 k4 k5 k6 k7
      simp only [List.getElem_map, List.getElem_range]
      exact ⟨_, _, _, _, _, _, _, _, k0, by rw [Nat.add_assoc]; exact k1, by rw [Nat.add_assoc]; exact k2, by rw [Nat.add_assoc]; exact k3, by rw [Nat.add_assoc]; exact k4, by rw [Nat.add_assoc]; exact k5, by rw [Nat.add_assoc]; exact k6, by rw [Nat.add_assoc]; exact k7, kn⟩

set_option maxRecDepth 100000 in
theorem open_req {fuel : Nat} {cs : List Value} {x : DataW H × List MemPlace} (h : DataW.trod enc Try.prog W base sp held fuel 69 cs = some x) :
    ∃ q wa wc va vc na nc ka kc oa oc, cs = (reqCells q wa wc va vc na nc ka kc oa oc).toList ∧ ReqC W any q wa wc va vc na nc ka kc oa oc := by
  obtain ⟨xs, n, rfl, _, hlen, hxs, hf⟩ := DataW.trod_struct Try.underlying69 h
  have hc : Try.prog.cellsOf 69 = 10 := by kernel_rfl
  have c3 : Try.prog.cellsOf 3 = 1 := by kernel_rfl
  have c9 : Try.prog.cellsOf 9 = 1 := by kernel_rfl
  have c23 : Try.prog.cellsOf 23 = 1 := by kernel_rfl
  have cN : Try.prog.cellsOf 59 = 5 := by kernel_rfl
  have cO : Try.prog.cellsOf 67 = 1 := by kernel_rfl
  rw [hc] at hlen
  match cs, hlen with
  | [v0, v1, v2, v3, v4, v5, v6, v7, v8, v9], _ =>
    obtain ⟨y0, g0⟩ : ∃ y, DataW.trod enc Try.prog W base sp held n 3 [v0] = some y := ⟨xs[0]'(by simp at hxs; omega), by
      have h := hf 0 _ rfl
      rw [List.getElem?_eq_getElem (by simp at hxs; omega)] at h
      simpa [c3, c9, c23, cN, cO] using h⟩
    obtain ⟨y1, g1⟩ : ∃ y, DataW.trod enc Try.prog W base sp held n 9 [v1] = some y := ⟨xs[1]'(by simp at hxs; omega), by
      have h := hf 1 _ rfl
      rw [List.getElem?_eq_getElem (by simp at hxs; omega)] at h
      simpa [c3, c9, c23, cN, cO] using h⟩
    obtain ⟨y2, g2⟩ : ∃ y, DataW.trod enc Try.prog W base sp held n 23 [v2] = some y := ⟨xs[2]'(by simp at hxs; omega), by
      have h := hf 2 _ rfl
      rw [List.getElem?_eq_getElem (by simp at hxs; omega)] at h
      simpa [c3, c9, c23, cN, cO] using h⟩
    obtain ⟨y3, g3⟩ : ∃ y, DataW.trod enc Try.prog W base sp held n 23 [v3] = some y := ⟨xs[3]'(by simp at hxs; omega), by
      have h := hf 3 _ rfl
      rw [List.getElem?_eq_getElem (by simp at hxs; omega)] at h
      simpa [c3, c9, c23, cN, cO] using h⟩
    obtain ⟨y4, g4⟩ : ∃ y, DataW.trod enc Try.prog W base sp held n 59 [v4, v5, v6, v7, v8] = some y := ⟨xs[4]'(by simp at hxs; omega), by
      have h := hf 4 _ rfl
      rw [List.getElem?_eq_getElem (by simp at hxs; omega)] at h
      simpa [c3, c9, c23, cN, cO] using h⟩
    obtain ⟨y5, g5⟩ : ∃ y, DataW.trod enc Try.prog W base sp held n 67 [v9] = some y := ⟨xs[5]'(by simp at hxs; omega), by
      have h := hf 5 _ rfl
      rw [List.getElem?_eq_getElem (by simp at hxs; omega)] at h
      simpa [c3, c9, c23, cN, cO] using h⟩
    clear hf
    obtain ⟨method, e0, _, _⟩ := DataW.trod_int Try.underlying3 g0
    obtain ⟨name, e1, _, hz⟩ := DataW.trod_string Try.underlying9 g1
    obtain ⟨wa, wc, want, e2, hw⟩ := open_strs' g2
    obtain ⟨va, vc, avoid, e3, hv⟩ := open_strs' g3
    obtain ⟨nd, na, nc, ka, kc, e4, hn⟩ := open_node _ _ _ g4
    obtain ⟨oa, oc, ops, e5, ho⟩ := open_ops g5
    simp only [List.cons.injEq, and_true] at e0 e1 e2 e3 e4 e5
    obtain ⟨rfl, rfl, rfl, rfl, rfl⟩ := e4
    subst e0 e1 e2 e3 e5
    exact ⟨⟨method, name, want, avoid, nd, ops⟩, wa, wc, va, vc, na, nc, ka, kc, oa, oc, rfl, by unfold maxLen at hz; unfold big; omega, hw, hv, hn, ho⟩

end
end Go.Proofs.Ytchiakeceiefdaa

/-
  What an argument that is read as data tells of memory: slices of represented types, entries.
-/
namespace Go.Proofs.Ytchiakeceiefdaa
open Go.RowKit Go.ChangeShapes Go.WideShapes Go.Deep

section
variable {H : Type} {enc : TypeId × Value → H} {W : World} {base : Nat} {sp : Nat → Bool} {held : Bool}

theorem open_slR {α : Type} [Inhabited α] (E : Rep α) (hpos : 0 < E.n) (TS T : TypeId) (hu : Try.prog.underlying TS = some (.slice T)) (hc : Try.prog.cellsOf T = E.n)
    (hel : ∀ (fuel : Nat) (cs : List Value) (x : DataW H × List MemPlace), DataW.trod enc Try.prog W base sp held fuel T cs = some x → ∃ y, E.R W any y cs)
    {fuel : Nat} {cs : List Value} {x : DataW H × List MemPlace} (h : DataW.trod enc Try.prog W base sp held fuel TS cs = some x) :
    ∃ a c l, cs = [.slice a (l : List α).length c] ∧ SlR E W any a c l := by
  rcases open_slice hu h with ⟨rfl, _⟩ | ⟨a, len, cap, m, n, D, Pl, rfl, _, hl, hm, hmm, _, hi⟩
  · exact ⟨none, 0, [], rfl, by simp, by simp, .inl rfl⟩
  · have hlm : len ≤ m := by rw [hmm]; split <;> omega
    rw [hc] at hi
    have key : ∀ i, i < len → ∃ k : α × List Value, (∀ j v, k.2[j]? = some v → W.cell? (a.add (i * E.n + j)) = some v) ∧ E.R W any k.1 k.2 := fun i hi' => by
      obtain ⟨cs', h1, h2⟩ := hi i (by omega)
      obtain ⟨_, hlen, hat⟩ := World.cells?_some h1
      obtain ⟨y, hy⟩ := hel _ _ _ h2
      refine ⟨⟨y, cs'⟩, fun j v hv => ?_, hy⟩
      have hj : j < E.n := by
        have h3 : j < cs'.length := (List.getElem?_eq_some_iff.1 hv).1
        omega
      have := hat j hj
      rw [hv] at this
      simpa [Go.Deep.add_add] using this
    have : Inhabited (α × List Value) := ⟨⟨default, []⟩⟩
    obtain ⟨f, hf⟩ := choose_lt key
    have hkl : ((List.range len).map fun i => (f i).1).length = len := by simp
    have hbig : len ≤ big := by unfold maxLen at hm; unfold big; omega
    refine ⟨some a, cap, (List.range len).map fun i => (f i).1, by simp, by rw [hkl]; exact hl, by rw [hkl]; exact hbig, ?_⟩
    by_cases h0 : len = 0
    · subst h0; exact .inl rfl
    · have hr0 := (hf 0 (by omega)).2
      have hl0 := E.rlen hr0
      obtain ⟨v0, hv0⟩ : ∃ v0, (f 0).2[0]? = some v0 := ⟨_, List.getElem?_eq_getElem (by omega)⟩
      obtain ⟨b, o, ha⟩ := addr_spot ((hf 0 (by omega)).1 0 v0 hv0)
      have ha' : a = ⟨b, o, none⟩ := by simpa [Addr.add] using ha
      subst ha'
      refine .inr ⟨b, o, rfl, trivial, fun i hi' => ?_⟩
      rw [hkl] at hi'
      obtain ⟨k1, k2⟩ := hf i hi'
      simp only [List.getElem_map, List.getElem_range]
      refine ⟨_, fun j v hv => ?_, k2⟩
      have := k1 j v hv
      rw [add_mk] at this
      rw [Nat.add_assoc]; exact this

set_option maxRecDepth 100000 in
theorem open_entry (fuel : Nat) (cs : List Value) (x : DataW H × List MemPlace) (h : DataW.trod enc Try.prog W base sp held fuel 133 cs = some x) : ∃ y, entRep.R W any y cs := by
  obtain ⟨xs, n, rfl, _, hlen, hxs, hf⟩ := DataW.trod_struct Try.underlying133 h
  have hc : Try.prog.cellsOf 133 = 6 := by kernel_rfl
  have c9 : Try.prog.cellsOf 9 = 1 := by kernel_rfl
  have cN : Try.prog.cellsOf 59 = 5 := by kernel_rfl
  rw [hc] at hlen
  match cs, hlen with
  | [v0, v1, v2, v3, v4, v5], _ =>
    obtain ⟨y0, g0⟩ : ∃ y, DataW.trod enc Try.prog W base sp held n 59 [v0, v1, v2, v3, v4] = some y := ⟨xs[0]'(by simp at hxs; omega), by
      have h := hf 0 _ rfl
      rw [List.getElem?_eq_getElem (by simp at hxs; omega)] at h
      simpa [c9, cN] using h⟩
    obtain ⟨y1, g1⟩ : ∃ y, DataW.trod enc Try.prog W base sp held n 9 [v5] = some y := ⟨xs[1]'(by simp at hxs; omega), by
      have h := hf 1 _ rfl
      rw [List.getElem?_eq_getElem (by simp at hxs; omega)] at h
      simpa [c9, cN] using h⟩
    obtain ⟨q, na, nc, ka, kc, e0, hq⟩ := open_node _ _ _ g0
    obtain ⟨s, e1, _, hs⟩ := DataW.trod_string Try.underlying9 g1
    exact ⟨(q, s), _, _, by rw [show [v0, v1, v2, v3, v4, v5] = [v0, v1, v2, v3, v4] ++ [v5] from rfl, e0, e1]; rfl, ⟨na, nc, ka, kc, rfl, hq⟩, ⟨rfl, by show s.size ≤ big; unfold maxLen at hs; unfold big; omega⟩⟩

theorem open_ents {fuel : Nat} {cs : List Value} {x : DataW H × List MemPlace} (h : DataW.trod enc Try.prog W base sp held fuel 78 cs = some x) :
    ∃ a c l, cs = [.slice a (l : List Ent).length c] ∧ SlR entRep W any a c l :=
  have : Inhabited Ent := ⟨(⟨0, 0, ByteArray.empty, [], []⟩, ByteArray.empty)⟩
  open_slR entRep (by rw [entRep_n]; omega) _ _ Try.underlying78 (by rw [entRep_n]; kernel_rfl) open_entry h
end

end Go.Proofs.Ytchiakeceiefdaa

/-
  What an argument that is a store tells of memory.
-/
namespace Go.Proofs.Ytchiakeceiefdaa
open Go.RowKit Go.ChangeShapes Go.WideShapes Go.Deep

section
variable {H : Type} {enc : TypeId × Value → H} {W : World} {base : Nat} {sp : Nat → Bool} {held : Bool}

set_option maxRecDepth 100000 in
theorem open_item (fuel : Nat) (cs : List Value) (x : DataW H × List MemPlace) (h : DataW.trod enc Try.prog W base sp held fuel 160 cs = some x) : ∃ y, itmRep.R W any y cs := by
  obtain ⟨xs, n, rfl, _, hlen, hxs, hf⟩ := DataW.trod_struct Try.underlying160 h
  have hc : Try.prog.cellsOf 160 = 7 := by kernel_rfl
  have c9 : Try.prog.cellsOf 9 = 1 := by kernel_rfl
  have cI : Try.prog.cellsOf 3 = 1 := by kernel_rfl
  have cN : Try.prog.cellsOf 59 = 5 := by kernel_rfl
  rw [hc] at hlen
  match cs, hlen with
  | [v0, v1, v2, v3, v4, v5, v6], _ =>
    obtain ⟨y0, g0⟩ : ∃ y, DataW.trod enc Try.prog W base sp held n 9 [v0] = some y := ⟨xs[0]'(by simp at hxs; omega), by
      have h := hf 0 _ rfl
      rw [List.getElem?_eq_getElem (by simp at hxs; omega)] at h
      simpa [c9, cI, cN] using h⟩
    obtain ⟨y1, g1⟩ : ∃ y, DataW.trod enc Try.prog W base sp held n 3 [v1] = some y := ⟨xs[1]'(by simp at hxs; omega), by
      have h := hf 1 _ rfl
      rw [List.getElem?_eq_getElem (by simp at hxs; omega)] at h
      simpa [c9, cI, cN] using h⟩
    obtain ⟨y2, g2⟩ : ∃ y, DataW.trod enc Try.prog W base sp held n 59 [v2, v3, v4, v5, v6] = some y := ⟨xs[2]'(by simp at hxs; omega), by
      have h := hf 2 _ rfl
      rw [List.getElem?_eq_getElem (by simp at hxs; omega)] at h
      simpa [c9, cI, cN] using h⟩
    obtain ⟨s, e0, _, hs⟩ := DataW.trod_string Try.underlying9 g0
    obtain ⟨k, e1, _⟩ := DataW.trod_int Try.underlying3 g1
    obtain ⟨q, na, nc, ka, kc, e2, hq⟩ := open_node _ _ _ g2
    have e0' : v0 = .string s := by simpa using e0
    have e1' : v1 = .int .i64 k := by simpa using e1
    exact ⟨(s, k, q), [v0], [v1, v2, v3, v4, v5, v6], rfl, ⟨by simp [e0'], by show s.size ≤ big; unfold maxLen at hs; unfold big; omega⟩, [v1], [v2, v3, v4, v5, v6], rfl, by simp [e1', intRep], na, nc, ka, kc, e2, hq⟩

theorem open_items {fuel : Nat} {cs : List Value} {x : DataW H × List MemPlace} (h : DataW.trod enc Try.prog W base sp held fuel 39 cs = some x) :
    ∃ a c l, cs = [.slice a (l : List Itm).length c] ∧ SlR itmRep W any a c l :=
  have : Inhabited Itm := ⟨(ByteArray.empty, 0, ⟨0, 0, ByteArray.empty, [], []⟩)⟩
  open_slR itmRep (by rw [itmRep_n]; omega) _ _ Try.underlying39 (by rw [itmRep_n]; kernel_rfl) open_item h

set_option maxRecDepth 100000 in
theorem rv_sto {fuel : Nat} {cs : Array Value} {x : DataW H × List MemPlace} (h : DataW.trod enc Try.prog W base sp held fuel 41 cs.toList = some x) : ∃ y, RV stoRep packA W any y (.agg cs) := by
  obtain ⟨xs, n, rfl, _, hlen, hxs, hf⟩ := DataW.trod_struct Try.underlying41 h
  have hc : Try.prog.cellsOf 41 = 2 := by kernel_rfl
  have cI : Try.prog.cellsOf 3 = 1 := by kernel_rfl
  have cS : Try.prog.cellsOf 39 = 1 := by kernel_rfl
  rw [hc] at hlen
  obtain ⟨l⟩ := cs
  match l, hlen with
  | [v0, v1], _ =>
    obtain ⟨y0, g0⟩ : ∃ y, DataW.trod enc Try.prog W base sp held n 39 [v0] = some y := ⟨xs[0]'(by simp at hxs; omega), by
      have h := hf 0 _ rfl
      rw [List.getElem?_eq_getElem (by simp at hxs; omega)] at h
      simpa [cS, cI] using h⟩
    obtain ⟨y1, g1⟩ : ∃ y, DataW.trod enc Try.prog W base sp held n 3 [v1] = some y := ⟨xs[1]'(by simp at hxs; omega), by
      have h := hf 1 _ rfl
      rw [List.getElem?_eq_getElem (by simp at hxs; omega)] at h
      simpa [cS, cI] using h⟩
    obtain ⟨a, c, l, e0, hl⟩ := open_items g0
    obtain ⟨k, e1, _⟩ := DataW.trod_int Try.underlying3 g1
    have e1' : v1 = .int .i64 k := by simpa using e1
    exact ⟨(l, k), [v0, v1], rfl, [v0], [v1], rfl, ⟨a, c, e0, hl⟩, by simp [e1', intRep]⟩

theorem rv_node {fuel : Nat} {cs : Array Value} {x : DataW H × List MemPlace} (h : DataW.trod enc Try.prog W base sp held fuel 59 cs.toList = some x) : ∃ y, RV nodeRep packA W any y (.agg cs) := by
  obtain ⟨q, na, nc, ka, kc, e2, hq⟩ := open_node _ _ _ h
  exact ⟨q, cs.toList, rfl, na, nc, ka, kc, e2, hq⟩

theorem rv_strs {fuel : Nat} {v : Value} {x : DataW H × List MemPlace} (h : DataW.trod enc Try.prog W base sp held fuel 23 [v] = some x) : ∃ y, RV strsRep packO W any y v := by
  obtain ⟨a, c, xs, e, hs⟩ := open_strs' h
  exact ⟨xs, [v], rfl, a, c, e, hs⟩

theorem rv_str {fuel : Nat} {s : ByteArray} {x : DataW H × List MemPlace} (h : DataW.trod enc Try.prog W base sp held fuel 9 [.string s] = some x) : s.size ≤ big := by
  obtain ⟨s', e, _, hs⟩ := DataW.trod_string Try.underlying9 h
  simp at e
  subst e
  unfold maxLen at hs; unfold big; omega
end

end Go.Proofs.Ytchiakeceiefdaa

namespace Go.Proofs.Ytchiakeceiefdaa
open Go.ChangeShapes Go.WideShapes Go.ChangeAt Go.RowKit

set_option maxRecDepth 100000 in
set_option maxHeartbeats 4000000 in
theorem pageOf_lifted (os : Os) (started : os.Started) (H : Type) (enc : TypeId × Value → H) :
    ReturnsInHanded {} Try.checked os 4 .any (Rows.fnExactPageOfSpec.pre6 enc Try.prog Try.f4 Rows.fnExactPageOfRow.domain false) (Rows.fnExactPageOfSpec.post enc Try.prog Try.f4 false true false false) := by
  refine returnsInHanded_of_change (C := Try.checked) Try.own started (by kernel_rfl) Try.func4
    (ChangeSpec.witness6 (enc := enc) (C := Try.checked) false ⟨#[], #[.agg #[.slice none 0 0, .int .i64 0], .string ⟨#[]⟩, .int .i64 0], []⟩ 12 (by kernel_rfl) (by kernel_rfl) (by kernel_rfl) (by kernel_rfl)) ?_
  intro W base args ds gs before hval0 hW hcnd _
  have hval : ∀ (j : Nat) t v, Try.f4.params[j]? = some t → args[j]? = some v → Value.okWide Try.prog W .any base t v := hval0
  have hW' := hW
  obtain ⟨p, q, hA0, hV, rfl, hfz, hnd⟩ := hW
  have hA : DataW.TrodAll enc Try.prog W 0 (fun _ => true) true Try.f4.params.toList args.toList ds p := hA0
  rw [Try.params4] at hA hval
  obtain ⟨v0, v1, v2, d0, d1, d2, p0, p1, p2, rfl, rfl, hp, h0, h1, h2⟩ := trodAll_three hA
  obtain ⟨rfl, rfl⟩ := trodVars_none hV
  obtain ⟨cs0, rfl, _⟩ := okWide_struct Try.underlying41 (hval 0 41 v0 rfl rfl)
  obtain ⟨fuel0, h0⟩ := h0
  obtain ⟨x0, hx0⟩ := rv_sto h0
  obtain ⟨s1, rfl⟩ := okWide_string Try.underlying9 (hval 1 9 v1 rfl rfl)
  obtain ⟨fuel1, h1⟩ := h1
  have hs1 : s1.size ≤ big := rv_str h1
  obtain ⟨n2, rfl⟩ := okWide_int Try.underlying3 (hval 2 3 v2 rfl rfl)
  refine (lawPage_ok x0 s1 n2 _ W hx0 hs1).mono fun e W' ⟨he, hg⟩ => ?_
  subst he
  refine ⟨_, rfl, post_grow rfl ?_ (by kernel_rfl) rfl hW' hg⟩
  intro t ht
  rw [Try.params4] at ht
  simp at ht
  rcases ht with rfl | rfl | rfl
  all_goals exact ⟨by kernel_rfl, of_decide_eq_true (by kernel_rfl)⟩

theorem pageOf_holds : Rows.FnExactPageOfSaid :=
  OpenClaim.holds_of_wide 4 Try.f4 rfl rfl rfl rfl rfl rfl rfl ⟨rfl, rfl, rfl, rfl, rfl⟩ rfl rfl rfl rfl rfl (by kernel_rfl) Try.func4 (by kernel_rfl)
    (of_decide_eq_true (by kernel_rfl)) (by unfold Func.isWrapper; first | (rw [if_pos (by decide +kernel)]; kernel_rfl) | (rw [if_neg (by decide +kernel)]; exact ⟨rfl, rfl⟩))
    (fun os started H enc _ => pageOf_lifted os started H enc)
#print axioms pageOf_holds

end Go.Proofs.Ytchiakeceiefdaa
