/-
  Texts of this claim, joined: ItmMark, StoLaw, CopyS, CopyNode, StoVS, CopySS, GetS, ItmU, LawGetI, Open, Tags, Ops, Reqs, OpenReq, OpenEnt, OpenSto.
-/
import Derived.Deep.AppendLies
import Derived.ProofKit
import Derived.Deep.Slices
import Derived.Deep.Fields
import Derived.Test.YtmeobmegnneegaaGiC

/-
  The walk of markItemS. (Printed by wip/genmark.py.)
-/
namespace Go.Proofs.Ytmeobmegnneegaa
open Go.RowKit

def cntItm (x : Itm) : Nat := 1 + 1 + cntK x.2.2
def mkItm (k : Nat) (x : Itm) : Itm := (mtxt (k), ((k + 1 : Nat) : Int), mkK (k + 1 + 1) x.2.2)

set_option maxRecDepth 100000 in
set_option maxHeartbeats 4000000 in
theorem markItemS_ok (l : List Itm) (a : Option Addr) (c : Nat) (fp : List Nat) (B k : Nat) (i : Int) (w : World) (hi : i = (k : Int)) (hF : SlF itmRep w a c l fp) (hfr : Free B w fp) (h1 : 0 < k) (h2 : k + cntR cntItm l ≤ 1000000000) (hl : l.length ≤ 1000000000) :
    Calls Try.prog 85 #[.slice a l.length c, .int .i64 i] w fun e w' => e = .returned (.int .i64 ((k + cntR cntItm l : Nat) : Int)) ∧ Ext (inl fp) w w' ∧ Free B w' fp ∧ SlF itmRep w' a c (mkR mkItm cntItm k l) fp := by
  subst hi
  obtain ⟨hle, hlen, hcc⟩ := hF
  rcases hcc with ⟨rfl, rfl⟩ | ⟨b, o, f, hne, rfl, rfl, hcc⟩
  · go_enter Try.func85, Try.ntmps85
    go_wp2_with fail
    go_loopw [1, 5] (fun t1 i wr => t1 = .int .i64 k ∧ i = .int .i64 0 ∧ wr = w) (fun _ _ _ => 0)
    case atStart => exact ⟨rfl, rfl, rfl⟩
    case round =>
      obtain ⟨rfl, rfl, rfl⟩ := hrel
      go_wp2_with fail
      go_ret
      exact ⟨by simp [cntR], Ext.refl _ _, hfr, ⟨by simp [mkR], by simp [mkR], .inl ⟨rfl, rfl⟩⟩⟩
  · have Hle := Lib.hid hle
    have Hlen := Lib.hid hlen
    have Hne := Lib.hid hne
    have hK0 : RowF itmRep w b o (mkR mkItm cntItm k (l.take 0) ++ l.drop 0) f := by simpa [mkR] using hcc
    clear hle hlen hne hcc
    go_enter Try.func85, Try.ntmps85
    go_wp2_with fail
    go_loopw [1, 5] (fun t1 i wr => ∃ j : Nat, j ≤ l.length ∧ i = .int .i64 j ∧ t1 = .int .i64 ((k + cntR cntItm (l.take j) : Nat) : Int) ∧ Ext (inl (b :: f)) w wr ∧ Free B wr (b :: f) ∧ RowF itmRep wr b o (mkR mkItm cntItm k (l.take j) ++ l.drop j) f) (fun _ i _ => l.length - (intOf i).toNat)
    case atStart => exact ⟨0, Nat.zero_le _, rfl, rfl, Ext.refl _ _, hfr, hK0⟩
    case round =>
      obtain ⟨j, hj, rfl, rfl, hg, hfr', hK⟩ := hrel
      have hct := cntR_take cntItm l j
      have Hg := Lib.hid hg
      have Hfr := Lib.hid hfr'
      have HK := Lib.hid hK
      clear hg hfr' hK hfr hK0
      by_cases hlt : j < l.length
      · obtain ⟨x, hx⟩ : ∃ x, x = l[j] := ⟨_, rfl⟩
        have htk : l.take (j + 1) = l.take j ++ [x] := by rw [take_snoc' _ _ hlt, hx]
        have hct2 := cntR_take cntItm l (j + 1)
        rw [htk, cntR_snoc] at hct2
        have hdr : l.drop j = x :: l.drop (j + 1) := by rw [drop_cons _ _ hlt, hx]
        have hK := HK.out
        rw [hdr] at hK
        obtain ⟨f1, f', hf, hK1, hK2⟩ := hK.split
        have hjl : (mkR mkItm cntItm k (l.take j)).length = j := by rw [mkR_len]; simp; omega
        rw [hjl] at hK2
        obtain ⟨fx, f2, cs, hf', hcs, hxF, hK3⟩ := hK2
        subst hf
        subst hf'
        have hcl := itmRep.flen hxF

        obtain ⟨_, _, fp0, fq0, rfl, hq0, ⟨rfl, h0, hz0⟩, ⟨_, _, fp1, fq1, rfl, hq1, ⟨rfl, hz1⟩, ⟨na2, nc2, ka2, kc2, rfl, h2⟩⟩⟩ := hxF
        subst hz0
        subst hz1
        obtain ⟨k', hk'⟩ : ∃ k', k' = k + cntR cntItm (l.take j) := ⟨_, rfl⟩
        have hk1 : 0 < k' := by omega
        have hb9 : k' + (1 + 1 + cntK x.2.2) ≤ 1000000000 := by have : cntItm x = 1 + 1 + cntK x.2.2 := rfl; omega
        obtain ⟨g2a, g2b, hfx2, ht2, hn2, hk2⟩ := h2.parts
        have Hck2 := Lib.hid (cntK_eq x.2.2)
        rw [← hk']
        clear hct2 hct
        have hs_g2a : ∀ y ∈ g2a, y ∈ fx := fun y hy => by simp [hq0, hq1, hfx2, hy]
        have hs_g2b : ∀ y ∈ g2b, y ∈ fx := fun y hy => by simp [hq0, hq1, hfx2, hy]
        have hbf : b ∉ f1 ++ (fx ++ f2) := (List.nodup_cons.1 Hfr.out.1).1
        have hnx : fx.Nodup := (List.nodup_append.1 (List.nodup_append.1 (List.nodup_cons.1 Hfr.out.1).2).2.1).1
        have hnx' := hnx
        simp only [hq0, hq1, hfx2] at hnx'
        simp only [List.nodup_append, List.nil_append] at hnx'
        have hn_g2a : g2a.Nodup := by simp_all
        have hb_g2a : b ∉ g2a := fun h => hbf (by simp [hs_g2a b h])
        have hf_g2a : Free B wr g2a := ⟨hn_g2a, fun y hy => Hfr.out.2 y (by simp [hs_g2a y hy])⟩
        have hn_g2b : g2b.Nodup := by simp_all
        have hb_g2b : b ∉ g2b := fun h => hbf (by simp [hs_g2b b h])
        have hf_g2b : Free B wr g2b := ⟨hn_g2b, fun y hy => Hfr.out.2 y (by simp [hs_g2b y hy])⟩
        have hd_g2a_g2b : ∀ y, y ∈ g2a → y ∈ g2b → False := by
          intro y h1 h2
          have h3 := hnx
          simp only [hq0, hq1, hfx2] at h3
          exact absurd h3 (not_nodup y (by simp [List.count_append]; have := List.count_pos_iff.2 h1; have := List.count_pos_iff.2 h2; omega))
        have he := Elm.new hcs hcl (Hfr.out.2 b (by simp)).2.2 (hcs.lt (by intro h; rw [h] at hcl; cases hcl))
        rw [itmRep_n] at he
        simp only [nodeL, List.cons_append, List.nil_append] at he
        have H_hs_g2a := Lib.hid hs_g2a
        have H_hb_g2a := Lib.hid hb_g2a
        have H_hf_g2a := Lib.hid hf_g2a
        have H_hs_g2b := Lib.hid hs_g2b
        have H_hb_g2b := Lib.hid hb_g2b
        have H_hf_g2b := Lib.hid hf_g2b
        have H_hd_g2a_g2b := Lib.hid hd_g2a_g2b
        have H_hn2 := Lib.hid hn2
        have H_hk2 := Lib.hid hk2
        have H_hfx2 := Lib.hid hfx2
        have H_hq0 := Lib.hid hq0
        have H_hq1 := Lib.hid hq1
        have H_hK1 := Lib.hid hK1
        have H_hK3 := Lib.hid hK3
        have H_htk := Lib.hid htk
        have H_hk' := Lib.hid hk'
        have HE := Lib.hid he
        clear hx hdr hK hnx hnx' hbf he hcs hcl hjl HK hs_g2a hb_g2a hf_g2a hn_g2a hs_g2b hb_g2b hf_g2b hn_g2b hd_g2a_g2b hn2 hk2 hfx2 h2 ht2 hq0 hq1 hK1 hK3 htk hk' h0
        have c0 : wr.cell? ⟨b, o + j * 7, none⟩ = _ := HE.out.cells 0 _ rfl
        have c1 := HE.out.cells 1 _ rfl
        have c2 := HE.out.cells 2 _ rfl
        have c3 := HE.out.cells 3 _ rfl
        have c4 := HE.out.cells 4 _ rfl
        have c5 := HE.out.cells 5 _ rfl
        have c6 := HE.out.cells 6 _ rfl
        have cz := HE.out.fr
        go_wp2_with fail
        have hea : Ext (inl [b]) wr wr := Ext.refl _ _
        have HA := Lib.hid hea
        clear hea
        clear c0 c1 c2 c3 c4 c5 c6 cz
        refine (markText_i (k') _ _ (by have := Hck2.out; omega) (by have := Hck2.out; omega) (by have := Hck2.out; omega)).mono ?_
        rintro e w1 ⟨rfl, hg⟩
        have he := HE.out.grow hg
        have hes : Ext (inl [b]) wr w1 := HA.out.trans hg.toX'
        clear hes HA hg HE
        have HE := Lib.hid he
        clear he
        have c0 : w1.cell? ⟨b, o + j * 7, none⟩ = _ := HE.out.cells 0 _ rfl
        have c1 := HE.out.cells 1 _ rfl
        have c2 := HE.out.cells 2 _ rfl
        have c3 := HE.out.cells 3 _ rfl
        have c4 := HE.out.cells 4 _ rfl
        have c5 := HE.out.cells 5 _ rfl
        have c6 := HE.out.cells 6 _ rfl
        have cz := HE.out.fr
        go_wp2_with fail
        obtain ⟨wa2, hwa⟩ : ∃ wa, wa = ((((w1.setCell ⟨b, o + j * 7, none⟩ (.string (mtxt (k')))).setCell ⟨b, o + j * 7 + 1, none⟩ (.int .i64 ((k' : Int) + 1))).setCell ⟨b, o + j * 7 + 2, none⟩ (.int .i64 ((k' : Int) + 1 + 1))).setCell ⟨b, o + j * 7 + 3, none⟩ (.int .i64 ((k' : Int) + 1 + 1 + 1))) := ⟨_, rfl⟩
        rw [← hwa]
        have he : Elm wr wa2 b (o + j * 7) 7 [.string (mtxt (k')), .int .i64 ((k' : Int) + 1), .int .i64 ((k' : Int) + 1 + 1), .int .i64 ((k' : Int) + 1 + 1 + 1), .string x.2.2.text, .slice na2 x.2.2.names.length nc2, .slice ka2 x.2.2.kids.length kc2] ([]) := by rw [hwa]; exact ((((HE.out.set0 (by simp) (.string (mtxt (k')))).set 1 (by simp) (.int .i64 ((k' : Int) + 1))).set 2 (by simp) (.int .i64 ((k' : Int) + 1 + 1))).set 3 (by simp) (.int .i64 ((k' : Int) + 1 + 1 + 1)))
        have hea : Ext (inl [b]) w1 wa2 := by rw [hwa]; exact (((((Ext.refl (inl [b]) w1).setIn (p := ⟨b, o + j * 7, none⟩) (by simp [inl]) (.string (mtxt (k')))).setIn (p := ⟨b, o + j * 7 + 1, none⟩) (by simp [inl]) (.int .i64 ((k' : Int) + 1))).setIn (p := ⟨b, o + j * 7 + 2, none⟩) (by simp [inl]) (.int .i64 ((k' : Int) + 1 + 1))).setIn (p := ⟨b, o + j * 7 + 3, none⟩) (by simp [inl]) (.int .i64 ((k' : Int) + 1 + 1 + 1)))
        clear hwa HE
        have HE := Lib.hid he
        clear he
        have HA := Lib.hid hea
        clear hea
        clear c0 c1 c2 c3 c4 c5 c6 cz
        refine (markText_i (k' + 1 + 1 + 1 + 1) _ _ (by have := Hck2.out; omega) (by have := Hck2.out; omega) (by have := Hck2.out; omega)).mono ?_
        rintro e w2 ⟨rfl, hg⟩
        have he := HE.out.grow hg
        have hes : Ext (inl [b]) w1 w2 := HA.out.trans hg.toX'
        clear hes HA hg HE
        have HE := Lib.hid he
        clear he
        have c0 : w2.cell? ⟨b, o + j * 7, none⟩ = _ := HE.out.cells 0 _ rfl
        have c1 := HE.out.cells 1 _ rfl
        have c2 := HE.out.cells 2 _ rfl
        have c3 := HE.out.cells 3 _ rfl
        have c4 := HE.out.cells 4 _ rfl
        have c5 := HE.out.cells 5 _ rfl
        have c6 := HE.out.cells 6 _ rfl
        have cz := HE.out.fr
        go_wp2_with fail
        obtain ⟨wa3, hwa⟩ : ∃ wa, wa = (w2.setCell ⟨b, o + j * 7 + 4, none⟩ (.string (mtxt (k' + 1 + 1 + 1 + 1)))) := ⟨_, rfl⟩
        rw [← hwa]
        have he : Elm wr wa3 b (o + j * 7) 7 [.string (mtxt (k')), .int .i64 ((k' : Int) + 1), .int .i64 ((k' : Int) + 1 + 1), .int .i64 ((k' : Int) + 1 + 1 + 1), .string (mtxt (k' + 1 + 1 + 1 + 1)), .slice na2 x.2.2.names.length nc2, .slice ka2 x.2.2.kids.length kc2] ([]) := by rw [hwa]; exact (HE.out.set 4 (by simp) (.string (mtxt (k' + 1 + 1 + 1 + 1))))
        have hea : Ext (inl [b]) w2 wa3 := by rw [hwa]; exact ((Ext.refl (inl [b]) w2).setIn (p := ⟨b, o + j * 7 + 4, none⟩) (by simp [inl]) (.string (mtxt (k' + 1 + 1 + 1 + 1))))
        clear hwa HE
        have HE := Lib.hid he
        clear he
        have HA := Lib.hid hea
        clear hea
        clear c0 c1 c2 c3 c4 c5 c6 cz
        have hni : ∀ y ∈ g2a, ¬ inl (b :: ([])) y := (fun y hy h => by simp [inl] at h; subst h; exact H_hb_g2a.out hy)
        have hko := HE.out.ext.keeps H_hf_g2a.out hni
        have hfo := H_hf_g2a.out.ext HE.out.ext hni
        have Hko := Lib.hid hko
        have Hfo := Lib.hid hfo
        clear hko hfo hni
        refine (markStringS_i na2 nc2 x.2.2.names g2a B (k' + 1 + 1 + 1 + 1 + 1) _ _ (by have := Hck2.out; omega) (H_hn2.out.keep Hko.out) Hfo.out (by have := Hck2.out; omega) (by have := Hck2.out; omega)).mono ?_
        rintro e w3 ⟨rfl, hx, hfree, hF⟩
        clear HA
        have he := HE.out.sub hx H_hb_g2a.out
        have M_g2a := Lib.hid hF
        have MF_g2a := Lib.hid hfree
        have X_g2a := Lib.hid hx
        clear hx hfree hF HE Hko Hfo
        have HE := Lib.hid he
        clear he
        have c0 : w3.cell? ⟨b, o + j * 7, none⟩ = _ := HE.out.cells 0 _ rfl
        have c1 := HE.out.cells 1 _ rfl
        have c2 := HE.out.cells 2 _ rfl
        have c3 := HE.out.cells 3 _ rfl
        have c4 := HE.out.cells 4 _ rfl
        have c5 := HE.out.cells 5 _ rfl
        have c6 := HE.out.cells 6 _ rfl
        have cz := HE.out.fr
        go_wp2_with fail
        have hea : Ext (inl [b]) w3 w3 := Ext.refl _ _
        have HA := Lib.hid hea
        clear hea
        clear c0 c1 c2 c3 c4 c5 c6 cz
        have hni : ∀ y ∈ g2b, ¬ inl (b :: ([] ++ g2a)) y := (fun y hy h => by simp [inl] at h; rcases h with h | h; subst h; exact H_hb_g2b.out hy; exact False.elim (H_hd_g2a_g2b.out y h hy))
        have hko := HE.out.ext.keeps H_hf_g2b.out hni
        have hfo := H_hf_g2b.out.ext HE.out.ext hni
        have Hko := Lib.hid hko
        have Hfo := Lib.hid hfo
        clear hko hfo hni
        refine (markNodeS_ok x.2.2.kids ka2 kc2 g2b B (k' + 1 + 1 + 1 + 1 + 1 + x.2.2.names.length) _ _ (by have := Hck2.out; omega) (H_hk2.out.keep Hko.out) Hfo.out (by have := Hck2.out; omega) (by have := Hck2.out; omega)).mono ?_
        rintro e w4 ⟨rfl, hx, hfree, hF⟩
        have hes : Ext (inl (b :: g2b)) w3 w4 := (HA.out.mono (fun y hy => by simp [inl] at hy ⊢; exact .inl hy)).trans (hx.mono (fun y hy => List.mem_cons_of_mem _ hy))
        have hnn : ∀ y ∈ g2a, ¬ inl (b :: g2b) y := (fun y hy h => by simp [inl] at h; rcases h with h | h; subst h; exact H_hb_g2a.out hy; exact H_hd_g2a_g2b.out y hy h)
        replace M_g2a := Lib.hid (M_g2a.out.keep (hes.keeps MF_g2a.out hnn))
        replace MF_g2a := Lib.hid (MF_g2a.out.ext hes hnn)
        clear hnn
        clear hes
        clear HA
        have he := HE.out.sub hx H_hb_g2b.out
        have M_g2b := Lib.hid hF
        have MF_g2b := Lib.hid hfree
        have X_g2b := Lib.hid hx
        clear hx hfree hF HE Hko Hfo
        have HE := Lib.hid he
        clear he
        have c0 : w4.cell? ⟨b, o + j * 7, none⟩ = _ := HE.out.cells 0 _ rfl
        have c1 := HE.out.cells 1 _ rfl
        have c2 := HE.out.cells 2 _ rfl
        have c3 := HE.out.cells 3 _ rfl
        have c4 := HE.out.cells 4 _ rfl
        have c5 := HE.out.cells 5 _ rfl
        have c6 := HE.out.cells 6 _ rfl
        have cz := HE.out.fr
        go_wp2_with fail
        clear c0 c1 c2 c3 c4 c5 c6 cz
        go_roundw
        case rel =>
          have he := HE.out
          have hG : ∀ y ∈ [] ++ g2a ++ g2b, y ∈ fx := by
            intro y hy
            simp at hy
            rcases hy with h | h
            · exact H_hs_g2a.out y h
            · exact H_hs_g2b.out y h
          have hes := (Ext.refl (inl [b]) w4)
          have hnn : ∀ y ∈ g2a, ¬ inl [b] y := (fun y hy h => by simp [inl] at h; subst h; exact H_hb_g2a.out hy)
          replace M_g2a := Lib.hid (M_g2a.out.keep (hes.keeps MF_g2a.out hnn))
          replace MF_g2a := Lib.hid (MF_g2a.out.ext hes hnn)
          clear hnn
          have hnn : ∀ y ∈ g2b, ¬ inl [b] y := (fun y hy h => by simp [inl] at h; subst h; exact H_hb_g2b.out hy)
          replace M_g2b := Lib.hid (M_g2b.out.keep (hes.keeps MF_g2b.out hnn))
          replace MF_g2b := Lib.hid (MF_g2b.out.ext hes hnn)
          clear hnn
          refine ⟨j + 1, by omega, by go_num, ?_, Hg.out.trans (he.ext.mono (fun y hy => ?_)), he.free Hfr.out (fun y hy q => ?_), ?_⟩
          · rw [H_htk.out, cntR_snoc]
            have h3 := H_hk'.out
            have h4 : cntItm x = 1 + 1 + cntK x.2.2 := rfl
            congr 1
            exact (by have := Hck2.out; first | omega | (unfold wrap64; omega))
          · simp only [inl, List.mem_cons] at hy ⊢
            rcases hy with hy | hy
            · exact .inl hy
            · right; simp [hG y hy]
          · simp at hy
            rcases hy with h | h
            · exact (MF_g2a.out.2 y h).2.2 q
            · exact (MF_g2b.out.2 y h).2.2 q
          · have hxF : itmRep.F _ (mkItm k' x) ([.string (mtxt (k'))] ++ ([.int .i64 ((k' + 1 : Nat) : Int)] ++ nodeL (mkK (k' + 1 + 1) x.2.2) na2 nc2 ka2 kc2)) ([] ++ ([] ++ (g2a ++ g2b))) := ⟨[.string (mtxt (k'))], ([.int .i64 ((k' + 1 : Nat) : Int)] ++ nodeL (mkK (k' + 1 + 1) x.2.2) na2 nc2 ka2 kc2), [], ([] ++ (g2a ++ g2b)), rfl, rfl, ⟨rfl, mtxt_size _ (by omega), rfl⟩, ⟨[.int .i64 ((k' + 1 : Nat) : Int)], nodeL (mkK (k' + 1 + 1) x.2.2) na2 nc2 ka2 kc2, [], (g2a ++ g2b), rfl, rfl, ⟨rfl, rfl⟩, ⟨na2, nc2, ka2, kc2, rfl, nodeF_mk (by have := Hck2.out; omega) M_g2a.out M_g2b.out⟩⟩⟩
            have hfx : fx = ([] ++ ([] ++ (g2a ++ g2b))) := by simp [H_hq0.out, H_hq1.out, H_hfx2.out]
            rw [← hfx] at hxF
            simp only [nodeL_mk] at hxF
            have hjl : (mkR mkItm cntItm k (l.take j)).length = j := by rw [mkR_len]; simp; omega
            rw [H_htk.out, mkR_snoc, ← H_hk'.out, List.append_assoc]
            exact RowF.marked H_hK1.out H_hK3.out (by rw [hjl]) he hG Hfr.out hxF
        case measure => simp [intOf]; omega
      · have hje : j = l.length := by omega
        subst hje
        have hK := HK.out
        rw [List.take_length, List.drop_length, List.append_nil] at hK
        have HK2 := Lib.hid hK
        clear hK
        simp only [List.take_length]
        go_wp2_with fail
        go_ret
        refine ⟨by simp, Hg.out, Hfr.out, ⟨by rw [mkR_len]; exact Hle.out, by rw [mkR_len]; exact Hlen.out, .inr ⟨b, o, f, ?_, rfl, rfl, HK2.out⟩⟩⟩
        intro h
        have := congrArg List.length h
        rw [mkR_len] at this
        exact Hne.out (List.length_eq_zero_iff.1 this)

end Go.Proofs.Ytmeobmegnneegaa

/-
  The walks of the laws' helpers on stores.
-/
namespace Go.Proofs.Ytmeobmegnneegaa
open Go.RowKit

theorem openV_sto {w : World} {S : Nat → Prop} {s : Sto} {v : Value} (h : RV stoRep packA w S s v) : ∃ a c, v = stoV s a c := by
  obtain ⟨a, c, h, _⟩ := sto_open h; exact ⟨a, c, h⟩
def cntSto (s : Sto) : Nat := cntR cntItm s.1
def mkSto (k : Nat) (s : Sto) : Sto := (mkR mkItm cntItm k s.1, s.2)
theorem cntItm_le (x : Itm) : cntItm x ≤ 5 + 4 * costItm x := by
  have h := cntK_le x.2.2
  unfold cntItm costItm; omega
theorem cntSto_le (s : Sto) : cntSto s ≤ 5 * costSto s := by
  unfold cntSto costSto
  induction s.1 with
  | nil => simp [cntR]
  | cons x l ih =>
    have h := cntItm_le x
    simp only [cntR, costItmL, List.map_cons, List.sum_cons, List.length_cons] at ih ⊢
    omega
theorem cntSto_len (s : Sto) : s.1.length ≤ cntSto s := by
  unfold cntSto
  induction s.1 with
  | nil => simp
  | cons x l ih =>
    simp only [cntR, List.map_cons, List.sum_cons, List.length_cons, cntItm] at ih ⊢
    omega
theorem costSto_len (s : Sto) : s.1.length ≤ costSto s := by unfold costSto costItmL; omega

theorem uSzSto (s : Sto) (v : Value) (left : Int) (w : World) (h0 : 0 ≤ left) (h1 : left ≤ 1048576) (h : RV stoRep packA w any s v) :
    Calls Try.prog 22 #[v, .int .i64 left] w fun e w' => e = .returned (.int .i64 (szR (costSto s) left)) ∧ Grow w w' := by
  obtain ⟨a, c, rfl, hs⟩ := sto_open h
  have Hs := Lib.hid hs
  clear h hs
  unfold stoV
  by_cases hb : (costSto s : Int) ≤ left
  · have Hz := Lib.hid (szR_pos hb)
    have Hz' : Hid (szR (costItmL s.1) left = left - costSto s) := Lib.hid (szR_pos hb)
    go_enter Try.func22, Try.ntmps22
    go_wp2_with fail
    refine (szItemS_ok s.1 _ _ left _ (Hs.out.grow (by repeat (first | with_reducible exact Ext.refl _ _ | with_reducible refine Ext.trans ?_ (by assumption) | with_reducible refine Ext.drew ?_ | with_reducible refine Ext.drewN ?_ _ | with_reducible refine Ext.alloc ?_ _ | with_reducible refine Ext.setNew ?_ (by simp; done) _ | with_reducible refine Ext.setNew ?_ (by simp; omega) _))) h0 h1).mono ?_
    rintro e w2 ⟨rfl, hg2⟩
    simp only [Hz'.out]
    go_wp2_with fail
    go_ret
    exact ⟨by simp [Hz.out], (by repeat (first | with_reducible exact Ext.refl _ _ | with_reducible refine Ext.trans ?_ (by assumption) | with_reducible refine Ext.drew ?_ | with_reducible refine Ext.drewN ?_ _ | with_reducible refine Ext.alloc ?_ _ | with_reducible refine Ext.setNew ?_ (by simp; done) _ | with_reducible refine Ext.setNew ?_ (by simp; omega) _))⟩
  · have Hz := Lib.hid (szR_neg (c := costSto s) (left := left) (by omega))
    have Hz' : Hid (szR (costItmL s.1) left = -1) := Lib.hid (szR_neg (by unfold costSto at hb; omega))
    clear hb
    go_enter Try.func22, Try.ntmps22
    go_wp2_with fail
    refine (szItemS_ok s.1 _ _ left _ (Hs.out.grow (by repeat (first | with_reducible exact Ext.refl _ _ | with_reducible refine Ext.trans ?_ (by assumption) | with_reducible refine Ext.drew ?_ | with_reducible refine Ext.drewN ?_ _ | with_reducible refine Ext.alloc ?_ _ | with_reducible refine Ext.setNew ?_ (by simp; done) _ | with_reducible refine Ext.setNew ?_ (by simp; omega) _))) h0 h1).mono ?_
    rintro e w2 ⟨rfl, hg2⟩
    simp only [Hz'.out]
    go_wp2_with fail
    go_ret
    exact ⟨by simp [Hz.out], (by repeat (first | with_reducible exact Ext.refl _ _ | with_reducible refine Ext.trans ?_ (by assumption) | with_reducible refine Ext.drew ?_ | with_reducible refine Ext.drewN ?_ _ | with_reducible refine Ext.alloc ?_ _ | with_reducible refine Ext.setNew ?_ (by simp; done) _ | with_reducible refine Ext.setNew ?_ (by simp; omega) _))⟩

theorem uToSto (s : Sto) (v : Value) (w : World) (hc : costSto s ≤ 1048576) (h : RV stoRep packA w any s v) :
    Calls Try.prog 25 #[v] w fun e w' => ∃ v' fp, e = .returned v' ∧ Grow w w' ∧ FV stoRep packA w' s v' fp ∧ Free w.heap.size w' fp := by
  obtain ⟨a, c, rfl, hs⟩ := sto_open h
  have Hs := Lib.hid hs
  clear h hs
  unfold stoV
  have HB0 := Lib.hid (((BoxN.new w [.slice a s.1.length c, .int .i64 s.2] 24).grow ((Ext.refl nil _).alloc (.cells #[.slice none 0 0, .int .i64 0] 33))).grow ((Ext.refl nil _).alloc (.cells #[.slice none 0 0, .int .i64 0] 33)))
  have HB1 := Lib.hid ((BoxN.new1 w (.cells #[.slice a s.1.length c, .int .i64 s.2] 24) [.slice none 0 0, .int .i64 0] 33).grow ((Ext.refl nil _).alloc (.cells #[.slice none 0 0, .int .i64 0] 33)))
  have HB2 := Lib.hid (BoxN.new2 w (.cells #[.slice a s.1.length c, .int .i64 s.2] 24) (.cells #[.slice none 0 0, .int .i64 0] 33) [.slice none 0 0, .int .i64 0] 33)
  go_enter Try.func25, Try.ntmps25
  go_wp2_with fail
  refine (toItemS_ok s.1 _ _ _ hc (Hs.out.grow (by repeat (first | with_reducible exact Ext.refl _ _ | with_reducible refine Ext.trans ?_ (by assumption) | with_reducible refine Ext.drew ?_ | with_reducible refine Ext.drewN ?_ _ | with_reducible refine Ext.alloc ?_ _ | with_reducible refine Ext.setNew ?_ (by simp; done) _ | with_reducible refine Ext.setNew ?_ (by simp; omega) _)))).mono ?_
  rintro e w2 ⟨a', c', fp, rfl, hg2, hF, hfr⟩
  have hgp : Grow w w2 := (by repeat (first | with_reducible exact Ext.refl _ _ | with_reducible refine Ext.trans ?_ (by assumption) | with_reducible refine Ext.drew ?_ | with_reducible refine Ext.drewN ?_ _ | with_reducible refine Ext.alloc ?_ _ | with_reducible refine Ext.setNew ?_ (by simp; done) _ | with_reducible refine Ext.setNew ?_ (by simp; omega) _))
  simp only [World.size_alloc] at hfr
  have HF := Lib.hid hF
  have Hfr := Lib.hid hfr
  replace HB0 := Lib.hid (HB0.out.grow hg2)
  replace HB1 := Lib.hid (HB1.out.grow hg2)
  replace HB2 := Lib.hid (HB2.out.grow hg2)
  clear hF hfr hg2
  have p0 := HB0.out.cell 0 _ rfl
  have p1 := HB0.out.cell 1 _ rfl
  have q0 := HB2.out.cell 0 _ rfl
  have q1 := HB2.out.cell 1 _ rfl
  have qf := HB2.out.fr
  have r0 := HB1.out.cell 0 _ rfl
  have r1 := HB1.out.cell 1 _ rfl
  have rf := HB1.out.fr
  have z1 := HB2.out.lt
  go_wp2_with fail
  have BF := (((HB1.out.other (p := ⟨w.heap.size + 1 + 1, 0, none⟩) (by simp) (.slice a' s.1.length c')).other (p := ⟨w.heap.size + 1 + 1, 1, none⟩) (by simp) (.int .i64 s.2)).set 0 (by simp) (.slice a' s.1.length c')).set 1 (by simp) (.int .i64 s.2)
  have s0 := BF.cell 0 _ rfl
  have s1 := BF.cell 1 _ rfl
  have x2 : ∀ b ∈ fp, ¬ (b = w.heap.size + 1 ∨ b = w.heap.size + 1 + 1) := fun b hb => by have := (Hfr.out.2 b hb).1; omega
  have ex : ∀ (w3 : World) (p : Addr) (v : Value), (p.block = w.heap.size + 1 ∨ p.block = w.heap.size + 1 + 1) → Ext (fun k => k = w.heap.size + 1 ∨ k = w.heap.size + 1 + 1) w3 (w3.setCell p v) := fun w3 p v hp => (Ext.refl _ w3).setIn hp v
  have hall := ((ex w2 ⟨w.heap.size + 1 + 1, 0, none⟩ (.slice a' s.1.length c') (.inr rfl)).trans (ex _ ⟨w.heap.size + 1 + 1, 1, none⟩ (.int .i64 s.2) (.inr rfl))).trans ((ex _ ⟨w.heap.size + 1, 0, none⟩ (.slice a' s.1.length c') (.inl rfl)).trans (ex _ ⟨w.heap.size + 1, 1, none⟩ (.int .i64 s.2) (.inl rfl)))
  refine bodyPost_ret (v := stoV s a' c') ?_ rfl ⟨_, fp, rfl, hgp.inner hall (by intro i hi; omega), sto_shutF (HF.out.keep (hall.keeps Hfr.out x2)), (Hfr.out.ext hall x2).mono (by omega)⟩
  unfold stoV
  simp [results, Try.results25, go_sem, s0, s1]

theorem uEqSto (s : Sto) (v u : Value) (w : World) (h : RV stoRep packA w any s v) (h' : RV stoRep packA w any s u) :
    Calls Try.prog 28 #[v, u] w fun e w' => e = .returned (.bool true) ∧ Grow w w' := by
  obtain ⟨a, c, rfl, hs⟩ := sto_open h
  obtain ⟨a', c', rfl, hs'⟩ := sto_open h'
  have Hs := Lib.hid hs
  have Hs' := Lib.hid hs'
  clear h hs h' hs'
  unfold stoV
  go_enter Try.func28, Try.ntmps28
  go_wp2_with fail
  refine (eqItemS_same s.1 _ _ _ _ _ (Hs.out.grow (by repeat (first | with_reducible exact Ext.refl _ _ | with_reducible refine Ext.trans ?_ (by assumption) | with_reducible refine Ext.drew ?_ | with_reducible refine Ext.drewN ?_ _ | with_reducible refine Ext.alloc ?_ _ | with_reducible refine Ext.setNew ?_ (by simp; done) _ | with_reducible refine Ext.setNew ?_ (by simp; omega) _))) (Hs'.out.grow (by repeat (first | with_reducible exact Ext.refl _ _ | with_reducible refine Ext.trans ?_ (by assumption) | with_reducible refine Ext.drew ?_ | with_reducible refine Ext.drewN ?_ _ | with_reducible refine Ext.alloc ?_ _ | with_reducible refine Ext.setNew ?_ (by simp; done) _ | with_reducible refine Ext.setNew ?_ (by simp; omega) _)))).mono ?_
  rintro e w2 ⟨rfl, hg2⟩
  have hcc := bcell hg2
  go_wp2_with fail
  go_ret
  exact ⟨by simp, (by repeat (first | with_reducible exact Ext.refl _ _ | with_reducible refine Ext.trans ?_ (by assumption) | with_reducible refine Ext.drew ?_ | with_reducible refine Ext.drewN ?_ _ | with_reducible refine Ext.alloc ?_ _ | with_reducible refine Ext.setNew ?_ (by simp; done) _ | with_reducible refine Ext.setNew ?_ (by simp; omega) _))⟩

theorem uMarkSto (s : Sto) (v : Value) (fp : List Nat) (B k : Nat) (i : Int) (w : World) (hi : i = (k : Int)) (hF : FV stoRep packA w s v fp) (hfr : Free B w fp) (h1 : 0 < k) (h2 : k + cntSto s ≤ 1000000000) :
    Calls Try.prog 30 #[v, .int .i64 i] w fun e w' => e = .returned (.int .i64 ((k + cntSto s : Nat) : Int)) ∧ Ext (inl fp) w w' ∧ Free B w' fp ∧ FV stoRep packA w' (mkSto k s) v fp := by
  have hl : s.1.length ≤ 1000000000 := by have := cntSto_len s; omega
  obtain ⟨a, c, rfl, hs⟩ := sto_openF hF
  subst hi
  have Hs := Lib.hid hs
  have Hfr := Lib.hid hfr
  clear hF hs hfr
  unfold stoV
  go_enter Try.func30, Try.ntmps30
  go_wp2_with fail
  have hg1 : Grow w (w.alloc (.cells #[.slice a s.1.length c, .int .i64 s.2] 33)) := (Ext.refl nil w).alloc _
  refine (markItemS_ok s.1 _ _ fp B k _ _ rfl (Hs.out.keep (hg1.keeps Hfr.out (fun _ _ h => h))) (Hfr.out.ext hg1 (fun _ _ h => h)) h1 h2 hl).mono ?_
  rintro e w2 ⟨rfl, hx2, hfr2, hF2⟩
  go_wp2_with fail
  go_ret
  refine ⟨rfl, hg1.toX.trans hx2, hfr2, ?_⟩
  have := sto_shutF (s := mkSto k s) hF2
  unfold stoV mkSto at this
  simp only [mkR_len] at this
  exact this

end Go.Proofs.Ytmeobmegnneegaa

/-
  Copies of documents: the walks of impl.copyItem, impl.GetItem.
-/
namespace Go.Proofs.Ytmeobmegnneegaa
open Go.RowKit

def Itm.zero : Itm := (⟨#[]⟩, 0, Nd.zero)
theorem itmRep_shutF {w : World} {x : Itm} {na : Option Addr} {nc : Nat} {ka : Option Addr} {kc : Nat} {fp : List Nat} (h1 : x.1.size ≤ big) (h2 : NodeF w x.2.2 na nc ka kc fp) : itmRep.F w x (itmL x na nc ka kc) fp :=
  ⟨[.string x.1], _, [], fp, rfl, rfl, ⟨rfl, h1, rfl⟩, [.int .i64 x.2.1], _, [], fp, rfl, rfl, ⟨rfl, rfl⟩, na, nc, ka, kc, rfl, h2⟩
theorem itmRep_shut {w : World} {S : Nat → Prop} {x : Itm} {na : Option Addr} {nc : Nat} {ka : Option Addr} {kc : Nat} (h1 : x.1.size ≤ big) (h2 : NodeC w S x.2.2 na nc ka kc) : itmRep.R w S x (itmL x na nc ka kc) :=
  ⟨[.string x.1], _, rfl, ⟨rfl, h1⟩, [.int .i64 x.2.1], _, rfl, rfl, na, nc, ka, kc, rfl, h2⟩
theorem itm_zeroF (w : World) : itmRep.F w Itm.zero [.string ⟨#[]⟩, .int .i64 0, .int .i64 0, .int .i64 0, .string ⟨#[]⟩, .slice none 0 0, .slice none 0 0] [] := by
  have h : NodeF w Nd.zero none 0 none 0 ([] ++ []) := NodeF.mk (by unfold big Nd.zero; decide) ⟨Nat.le_refl _, Nat.zero_le _, by simp [Nd.zero], .inl ⟨rfl, rfl⟩⟩ ⟨Nat.le_refl _, Nat.zero_le _, .inl ⟨rfl, rfl⟩⟩
  exact itmRep_shutF (x := Itm.zero) (by unfold big Itm.zero; decide) h
theorem storeB_asc {s : Sto} (h : storeB s = true) : Asc (nmL s.1) := by
  have h5 := (storeB_parts h).2.2.2.2
  intro i j hi hj hij
  exact List.pairwise_iff_getElem.1 h5 i j hi hj hij
theorem storeB_good {s : Sto} (h : storeB s = true) : ∀ x ∈ s.1, Good x.2.2 := by
  intro x hx
  have := (storeB_parts h).2.2.2.1 x hx
  unfold itmB at this
  simp only [Bool.and_eq_true] at this
  exact validB_good this.2

def st7 (w : World) (b : Nat) (v0 v1 v2 v3 v4 v5 v6 : Value) : World :=
  ((((((w.setCell ⟨b, 0, none⟩ v0).setCell ⟨b, 1, none⟩ v1).setCell ⟨b, 2, none⟩ v2).setCell ⟨b, 3, none⟩ v3).setCell ⟨b, 4, none⟩ v4).setCell ⟨b, 5, none⟩ v5).setCell ⟨b, 6, none⟩ v6
theorem st7_ext (w : World) (b : Nat) (v0 v1 v2 v3 v4 v5 v6 : Value) : Ext (fun k => k = b) w (st7 w b v0 v1 v2 v3 v4 v5 v6) :=
  ((((((set_ext _ _ _ _).trans (set_ext _ _ _ _)).trans (set_ext _ _ _ _)).trans (set_ext _ _ _ _)).trans (set_ext _ _ _ _)).trans (set_ext _ _ _ _)).trans (set_ext _ _ _ _)
theorem st7_far {w : World} {b b' q : Nat} {v0 v1 v2 v3 v4 v5 v6 : Value} {u : Value} (hu : w.cell? ⟨b', q, none⟩ = some u) (h : b' ≠ b) :
    (((((((w.setCell ⟨b, 0, none⟩ v0).setCell ⟨b, 1, none⟩ v1).setCell ⟨b, 2, none⟩ v2).setCell ⟨b, 3, none⟩ v3).setCell ⟨b, 4, none⟩ v4).setCell ⟨b, 5, none⟩ v5).setCell ⟨b, 6, none⟩ v6).cell? ⟨b', q, none⟩ = some u :=
  (st7_ext w b v0 v1 v2 v3 v4 v5 v6).some hu h

set_option maxRecDepth 100000 in
set_option maxHeartbeats 4000000 in
theorem copyItem_ok (x : Itm) (cs : List Value) (w : World) (hgd : Good x.2.2) (hx : itmRep.R w any x cs) :
    Calls Try.prog 98 #[.agg cs.toArray] w fun e w' => ∃ cs' fp, e = .returned (.agg (cs' : List Value).toArray) ∧ Grow w w' ∧ itmRep.F w' x cs' fp ∧ Free w.heap.size w' fp := by
  obtain ⟨na, nc, ka, kc, rfl, h0, h2⟩ := itmRep_open hx
  have H0 := Lib.hid h0
  have Hgd := Lib.hid hgd
  have Hc : Hid (∀ w', Grow w w' → Calls Try.prog 81 #[.agg #[.int .i64 x.2.2.kind, .int .i64 x.2.2.num, .string x.2.2.text, .slice na x.2.2.names.length nc, .slice ka x.2.2.kids.length kc]] w' fun e w'' => ∃ v' fp, e = .returned v' ∧ Grow w' w'' ∧ NodeO w'' x.2.2 v' fp ∧ Free w'.heap.size w'' fp) := Lib.hid (fun w' hg' => copyNodeI_ok x.2.2 _ _ hgd ⟨_, _, _, _, rfl, h2.ext hg' (fun _ _ h => h)⟩)
  clear hx h0 h2 hgd
  unfold itmL
  have hb0 := (BoxN.new w [.string x.1, .int .i64 x.2.1, .int .i64 x.2.2.kind, .int .i64 x.2.2.num, .string x.2.2.text, .slice na x.2.2.names.length nc, .slice ka x.2.2.kids.length kc] 62).grow ((Ext.refl nil _).alloc (.cells #[.string ⟨#[]⟩, .int .i64 0, .int .i64 0, .int .i64 0, .string ⟨#[]⟩, .slice none 0 0, .slice none 0 0] 62))
  have hb1 := BoxN.new1 w (.cells #[.string x.1, .int .i64 x.2.1, .int .i64 x.2.2.kind, .int .i64 x.2.2.num, .string x.2.2.text, .slice na x.2.2.names.length nc, .slice ka x.2.2.kids.length kc] 62) [.string ⟨#[]⟩, .int .i64 0, .int .i64 0, .int .i64 0, .string ⟨#[]⟩, .slice none 0 0, .slice none 0 0] 62
  have HB0 := Lib.hid hb0
  have HB1 := Lib.hid hb1
  clear hb0 hb1
  go_enter Try.func98, Try.ntmps98
  go_wp2_with fail
  obtain ⟨wa, hwa, ga, hb0, hb1⟩ : ∃ wa, (w.alloc (.cells #[.string x.1, .int .i64 x.2.1, .int .i64 x.2.2.kind, .int .i64 x.2.2.num, .string x.2.2.text, .slice na x.2.2.names.length nc, .slice ka x.2.2.kids.length kc] 62)).alloc (.cells #[.string ⟨#[]⟩, .int .i64 0, .int .i64 0, .int .i64 0, .string ⟨#[]⟩, .slice none 0 0, .slice none 0 0] 62) = wa ∧ Grow w wa ∧ BoxN wa w.heap.size [.string x.1, .int .i64 x.2.1, .int .i64 x.2.2.kind, .int .i64 x.2.2.num, .string x.2.2.text, .slice na x.2.2.names.length nc, .slice ka x.2.2.kids.length kc] ∧ BoxN wa (w.heap.size + 1) [.string ⟨#[]⟩, .int .i64 0, .int .i64 0, .int .i64 0, .string ⟨#[]⟩, .slice none 0 0, .slice none 0 0] := ⟨_, rfl, (by repeat (first | with_reducible exact Ext.refl _ _ | with_reducible refine Ext.trans ?_ (by assumption) | with_reducible refine Ext.drew ?_ | with_reducible refine Ext.drewN ?_ _ | with_reducible refine Ext.alloc ?_ _ | with_reducible refine Ext.setNew ?_ (by simp; done) _ | with_reducible refine Ext.setNew ?_ (by simp; omega) _)), HB0.out, HB1.out⟩
  rw [hwa]
  clear hwa
  have x0 := hb0.cell 0 _ rfl
  have x1 := hb0.cell 1 _ rfl
  have x2 := hb0.cell 2 _ rfl
  have x3 := hb0.cell 3 _ rfl
  have x4 := hb0.cell 4 _ rfl
  have x5 := hb0.cell 5 _ rfl
  have x6 := hb0.cell 6 _ rfl
  have zb := hb0.lt
  have zb1 := hb1.lt
  have Hb1 := Lib.hid hb1
  clear hb0 hb1
  go_region_held3 (fun w' => w'.cell? ⟨w.heap.size, 0, none⟩ = some (.string x.1) ∧ w'.cell? ⟨w.heap.size, 1, none⟩ = some (.int .i64 x.2.1) ∧ w'.cell? ⟨w.heap.size, 2, none⟩ = some (.int .i64 x.2.2.kind) ∧ w'.cell? ⟨w.heap.size, 3, none⟩ = some (.int .i64 x.2.2.num) ∧ w'.cell? ⟨w.heap.size, 4, none⟩ = some (.string x.2.2.text) ∧ w'.cell? ⟨w.heap.size, 5, none⟩ = some (.slice na x.2.2.names.length nc) ∧ w'.cell? ⟨w.heap.size, 6, none⟩ = some (.slice ka x.2.2.kids.length kc))
    (first | (go_keep; done) | (with_reducible exact ⟨hg2.some (by simpa using x0), hg2.some (by simpa using x1), hg2.some (by simpa using x2), hg2.some (by simpa using x3), hg2.some (by simpa using x4), hg2.some (by simpa using x5), hg2.some (by simpa using x6)⟩) | (with_reducible exact ⟨st7_far (hg2.some (by simpa using x0)) (by omega), st7_far (hg2.some (by simpa using x1)) (by omega), st7_far (hg2.some (by simpa using x2)) (by omega), st7_far (hg2.some (by simpa using x3)) (by omega), st7_far (hg2.some (by simpa using x4)) (by omega), st7_far (hg2.some (by simpa using x5)) (by omega), st7_far (hg2.some (by simpa using x6)) (by omega)⟩))
    ((go_at_call 81; refine (Hc.out _ (ga.drewN _)).mono ?_; rintro e w2 ⟨v', f', rfl, hg2, hN, hf'⟩; obtain ⟨na2, nc2, ka2, kc2, rfl, hN⟩ := hN; have hg2' := (Ext.drewN (Ext.refl nil wa) _).trans hg2; have hb2 := Hb1.out.grow hg2'; have hfz := hb2.fr; have d0 := hb2.cell 0 _ rfl; have d1 := hb2.cell 1 _ rfl; have d2 := hb2.cell 2 _ rfl; have d3 := hb2.cell 3 _ rfl; have d4 := hb2.cell 4 _ rfl; have d5 := hb2.cell 5 _ rfl; have d6 := hb2.cell 6 _ rfl; have Hb2 := Lib.hid hb2; clear hb2; unfold nodeV))
  rename_i hHeld
  clear hHeld x0 x1 x2 x3 x4 x5 x6 d0 d1 d2 d3 d4 d5 d6 hfz
  have hsz2 : (wa.drewN 1).heap.size = wa.heap.size := rfl
  have BF := ((((((Hb2.out.set 0 (by simp) (.string x.1)).set 1 (by simp) (.int .i64 x.2.1)).set 2 (by simp) (.int .i64 x.2.2.kind)).set 3 (by simp) (.int .i64 x.2.2.num)).set 4 (by simp) (.string x.2.2.text)).set 5 (by simp) (.slice na2 x.2.2.names.length nc2)).set 6 (by simp) (.slice ka2 x.2.2.kids.length kc2)
  have s0 := BF.cell 0 _ rfl
  have s1 := BF.cell 1 _ rfl
  have s2 := BF.cell 2 _ rfl
  have s3 := BF.cell 3 _ rfl
  have s4 := BF.cell 4 _ rfl
  have s5 := BF.cell 5 _ rfl
  have s6 := BF.cell 6 _ rfl
  have he := st7_ext w2 (w.heap.size + 1) (.string x.1) (.int .i64 x.2.1) (.int .i64 x.2.2.kind) (.int .i64 x.2.2.num) (.string x.2.2.text) (.slice na2 x.2.2.names.length nc2) (.slice ka2 x.2.2.kids.length kc2)
  have hx2 : ∀ b ∈ f', ¬ b = w.heap.size + 1 := fun b hb e => by have := (hf'.2 b hb).1; omega
  go_wp2_with fail
  refine bodyPost_ret (v := .agg (itmL x na2 nc2 ka2 kc2).toArray) ?_ rfl ⟨_, f', rfl, Grow.inner (ga.trans hg2') he (by intro i hi; have : i = w.heap.size + 1 := hi; omega), itmRep_shutF H0.out (hN.keep (he.keeps hf' hx2)), (hf'.ext he hx2).mono (by omega)⟩
  unfold itmL
  simp [results, Try.results98, go_sem, s0, s1, s2, s3, s4, s5, s6]

def gtB (s : Sto) (nm : ByteArray) : Bool := storeB s && mem (nmL s.1) nm
def gtI (s : Sto) (nm : ByteArray) : Itm := if gtB s nm then s.1[lbound (nmL s.1) nm]?.getD Itm.zero else Itm.zero
theorem gt_no {s : Sto} {nm : ByteArray} (h : storeB s = false ∨ mem (nmL s.1) nm = false) : gtB s nm = false ∧ gtI s nm = Itm.zero := by
  have : gtB s nm = false := by unfold gtB; rcases h with h | h <;> rw [h] <;> simp
  exact ⟨this, by unfold gtI; rw [this]; rfl⟩
theorem gt_yes {s : Sto} {nm : ByteArray} (h : storeB s = true) (h' : mem (nmL s.1) nm = true) : gtB s nm = true ∧ ∃ h : lbound (nmL s.1) nm < s.1.length, gtI s nm = s.1[lbound (nmL s.1) nm] ∧ s.1[lbound (nmL s.1) nm].1 = nm := by
  have hb : gtB s nm = true := by unfold gtB; rw [h, h']; rfl
  obtain ⟨hl, he⟩ := lb_lt (storeB_asc h) h'
  have hl' : lbound (nmL s.1) nm < s.1.length := by rw [nmL_len] at hl; exact hl
  refine ⟨hb, hl', ?_, by rw [nmL_get] at he; exact he⟩
  unfold gtI
  rw [hb, List.getElem?_eq_getElem hl']
  rfl

set_option maxRecDepth 100000 in
set_option maxHeartbeats 4000000 in
theorem implGetItem_ok (s : Sto) (nm : ByteArray) (v : Value) (w : World) (hsz : nm.size ≤ big) (h : RV stoRep packA w any s v) :
    Calls Try.prog 47 #[v, .string nm] w fun e w' => ∃ r fp, e = .returned (.tuple #[r, .bool (gtB s nm)]) ∧ Grow w w' ∧ FV itmRep packA w' (gtI s nm) r fp ∧ Free w.heap.size w' fp := by
  obtain ⟨a, c, rfl, hs⟩ := sto_open h
  have HS := Lib.hid h
  have Hs := Lib.hid hs
  clear h hs
  unfold stoV at *
  have hb0 := (BoxN.new w [.slice a s.1.length c, .int .i64 s.2] 33).grow ((Ext.refl nil _).alloc (.cells #[.string ⟨#[]⟩, .int .i64 0, .int .i64 0, .int .i64 0, .string ⟨#[]⟩, .slice none 0 0, .slice none 0 0] 62))
  have hb1 := BoxN.new1 w (.cells #[.slice a s.1.length c, .int .i64 s.2] 33) [.string ⟨#[]⟩, .int .i64 0, .int .i64 0, .int .i64 0, .string ⟨#[]⟩, .slice none 0 0, .slice none 0 0] 62
  have HB0 := Lib.hid hb0
  have HB1 := Lib.hid hb1
  clear hb0 hb1
  cases hv : storeB s
  · have Hv := Lib.hid hv
    have Hf := Lib.hid (gt_no (nm := nm) (.inl hv))
    clear hv
    go_enter Try.func47, Try.ntmps47
    go_wp2_with fail
    refine (ValidStore_ok s _ _ (HS.out.grow (by repeat (first | with_reducible exact Ext.refl _ _ | with_reducible refine Ext.trans ?_ (by assumption) | with_reducible refine Ext.drew ?_ | with_reducible refine Ext.drewN ?_ _ | with_reducible refine Ext.alloc ?_ _ | with_reducible refine Ext.setNew ?_ (by simp; done) _ | with_reducible refine Ext.setNew ?_ (by simp; omega) _)))).mono ?_
    rintro e w2 ⟨rfl, hg2⟩
    simp only [Hv.out]
    have hgw : Grow w w2 := (by repeat (first | with_reducible exact Ext.refl _ _ | with_reducible refine Ext.trans ?_ (by assumption) | with_reducible refine Ext.drew ?_ | with_reducible refine Ext.drewN ?_ _ | with_reducible refine Ext.alloc ?_ _ | with_reducible refine Ext.setNew ?_ (by simp; done) _ | with_reducible refine Ext.setNew ?_ (by simp; omega) _))
    replace HB1 := Lib.hid (HB1.out.grow hg2)
    have r0 := HB1.out.cell 0 _ rfl
    have r1 := HB1.out.cell 1 _ rfl
    have r2 := HB1.out.cell 2 _ rfl
    have r3 := HB1.out.cell 3 _ rfl
    have r4 := HB1.out.cell 4 _ rfl
    have r5 := HB1.out.cell 5 _ rfl
    have r6 := HB1.out.cell 6 _ rfl
    have rf := HB1.out.fr
    have zr := HB1.out.lt
    go_wp2_with fail
    clear r0 r1 r2 r3 r4 r5 r6 rf
    have BF := ((((((HB1.out.set 0 (by simp) (.string ⟨#[]⟩)).set 1 (by simp) (.int .i64 0)).set 2 (by simp) (.int .i64 0)).set 3 (by simp) (.int .i64 0)).set 4 (by simp) (.string ⟨#[]⟩)).set 5 (by simp) (.slice none 0 0)).set 6 (by simp) (.slice none 0 0)
    have s0 := BF.cell 0 _ rfl
    have s1 := BF.cell 1 _ rfl
    have s2 := BF.cell 2 _ rfl
    have s3 := BF.cell 3 _ rfl
    have s4 := BF.cell 4 _ rfl
    have s5 := BF.cell 5 _ rfl
    have s6 := BF.cell 6 _ rfl
    have he := st7_ext w2 (w.heap.size + 1) (.string ⟨#[]⟩) (.int .i64 0) (.int .i64 0) (.int .i64 0) (.string ⟨#[]⟩) (.slice none 0 0) (.slice none 0 0)
    refine bodyPost_ret (v := .tuple #[.agg #[.string ⟨#[]⟩, .int .i64 0, .int .i64 0, .int .i64 0, .string ⟨#[]⟩, .slice none 0 0, .slice none 0 0], .bool false]) ?_ rfl ⟨_, [], by rw [Hf.out.1], Grow.inner hgw he (by intro i hi; have : i = w.heap.size + 1 := hi; omega), by rw [Hf.out.2]; exact ⟨_, rfl, itm_zeroF _⟩, Free.nil _ _⟩
    simp [results, Try.results47, go_sem, s0, s1, s2, s3, s4, s5, s6]
  have Hv := Lib.hid hv
  have Hasc := Lib.hid (storeB_asc hv)
  have hl10 : s.1.length ≤ 10 := (storeB_parts hv).1
  cases hm : mem (nmL s.1) nm
  · have Hm := Lib.hid hm
    have Hf := Lib.hid (gt_no (s := s) (nm := nm) (.inr hm))
    clear hv hm
    go_enter Try.func47, Try.ntmps47
    go_wp2_with fail
    refine (ValidStore_ok s _ _ (HS.out.grow (by repeat (first | with_reducible exact Ext.refl _ _ | with_reducible refine Ext.trans ?_ (by assumption) | with_reducible refine Ext.drew ?_ | with_reducible refine Ext.drewN ?_ _ | with_reducible refine Ext.alloc ?_ _ | with_reducible refine Ext.setNew ?_ (by simp; done) _ | with_reducible refine Ext.setNew ?_ (by simp; omega) _)))).mono ?_
    rintro e w2 ⟨rfl, hg2⟩
    simp only [Hv.out]
    replace HB0 := Lib.hid (HB0.out.grow hg2)
    have q0 := HB0.out.cell 0 _ rfl
    have q1 := HB0.out.cell 1 _ rfl
    go_wp2_with fail
    refine (findItem_ok s.1 _ _ nm _ (Hs.out.grow (by repeat (first | with_reducible exact Ext.refl _ _ | with_reducible refine Ext.trans ?_ (by assumption) | with_reducible refine Ext.drew ?_ | with_reducible refine Ext.drewN ?_ _ | with_reducible refine Ext.alloc ?_ _ | with_reducible refine Ext.setNew ?_ (by simp; done) _ | with_reducible refine Ext.setNew ?_ (by simp; omega) _))) Hasc.out (by omega)).mono ?_
    rintro e w3 ⟨rfl, hg3⟩
    simp only [Hm.out]
    have hgw : Grow w w3 := (by repeat (first | with_reducible exact Ext.refl _ _ | with_reducible refine Ext.trans ?_ (by assumption) | with_reducible refine Ext.drew ?_ | with_reducible refine Ext.drewN ?_ _ | with_reducible refine Ext.alloc ?_ _ | with_reducible refine Ext.setNew ?_ (by simp; done) _ | with_reducible refine Ext.setNew ?_ (by simp; omega) _))
    clear q0 q1
    replace HB1 := Lib.hid ((HB1.out.grow hg2).grow hg3)
    have r0 := HB1.out.cell 0 _ rfl
    have r1 := HB1.out.cell 1 _ rfl
    have r2 := HB1.out.cell 2 _ rfl
    have r3 := HB1.out.cell 3 _ rfl
    have r4 := HB1.out.cell 4 _ rfl
    have r5 := HB1.out.cell 5 _ rfl
    have r6 := HB1.out.cell 6 _ rfl
    have rf := HB1.out.fr
    have zr := HB1.out.lt
    go_wp2_with fail
    clear r0 r1 r2 r3 r4 r5 r6 rf
    have BF := ((((((HB1.out.set 0 (by simp) (.string ⟨#[]⟩)).set 1 (by simp) (.int .i64 0)).set 2 (by simp) (.int .i64 0)).set 3 (by simp) (.int .i64 0)).set 4 (by simp) (.string ⟨#[]⟩)).set 5 (by simp) (.slice none 0 0)).set 6 (by simp) (.slice none 0 0)
    have s0 := BF.cell 0 _ rfl
    have s1 := BF.cell 1 _ rfl
    have s2 := BF.cell 2 _ rfl
    have s3 := BF.cell 3 _ rfl
    have s4 := BF.cell 4 _ rfl
    have s5 := BF.cell 5 _ rfl
    have s6 := BF.cell 6 _ rfl
    have he := st7_ext w3 (w.heap.size + 1) (.string ⟨#[]⟩) (.int .i64 0) (.int .i64 0) (.int .i64 0) (.string ⟨#[]⟩) (.slice none 0 0) (.slice none 0 0)
    refine bodyPost_ret (v := .tuple #[.agg #[.string ⟨#[]⟩, .int .i64 0, .int .i64 0, .int .i64 0, .string ⟨#[]⟩, .slice none 0 0, .slice none 0 0], .bool false]) ?_ rfl ⟨_, [], by rw [Hf.out.1], Grow.inner hgw he (by intro i hi; have : i = w.heap.size + 1 := hi; omega), by rw [Hf.out.2]; exact ⟨_, rfl, itm_zeroF _⟩, Free.nil _ _⟩
    simp [results, Try.results47, go_sem, s0, s1, s2, s3, s4, s5, s6]
  have Hm := Lib.hid hm
  obtain ⟨hgb, hlb, hgi, hnm⟩ := gt_yes hv hm
  have Hgb := Lib.hid hgb
  have Hgi := Lib.hid hgi
  have Hgood := Lib.hid (storeB_good hv)
  have k1 : ((lbound (nmL s.1) nm : Nat) : Int) < (s.1.length : Int) := by omega
  have k0 : (0 : Int) ≤ ((lbound (nmL s.1) nm : Nat) : Int) := by omega
  clear hv hm hgb hgi hnm
  go_enter Try.func47, Try.ntmps47
  go_wp2_with fail
  refine (ValidStore_ok s _ _ (HS.out.grow (by repeat (first | with_reducible exact Ext.refl _ _ | with_reducible refine Ext.trans ?_ (by assumption) | with_reducible refine Ext.drew ?_ | with_reducible refine Ext.drewN ?_ _ | with_reducible refine Ext.alloc ?_ _ | with_reducible refine Ext.setNew ?_ (by simp; done) _ | with_reducible refine Ext.setNew ?_ (by simp; omega) _)))).mono ?_
  rintro e w2 ⟨rfl, hg2⟩
  simp only [Hv.out]
  replace HB0 := Lib.hid (HB0.out.grow hg2)
  have q0 := HB0.out.cell 0 _ rfl
  have q1 := HB0.out.cell 1 _ rfl
  go_wp2_with fail
  refine (findItem_ok s.1 _ _ nm _ (Hs.out.grow (by repeat (first | with_reducible exact Ext.refl _ _ | with_reducible refine Ext.trans ?_ (by assumption) | with_reducible refine Ext.drew ?_ | with_reducible refine Ext.drewN ?_ _ | with_reducible refine Ext.alloc ?_ _ | with_reducible refine Ext.setNew ?_ (by simp; done) _ | with_reducible refine Ext.setNew ?_ (by simp; omega) _))) Hasc.out (by omega)).mono ?_
  rintro e w3 ⟨rfl, hg3⟩
  simp only [Hm.out]
  have hgw : Grow w w3 := (by repeat (first | with_reducible exact Ext.refl _ _ | with_reducible refine Ext.trans ?_ (by assumption) | with_reducible refine Ext.drew ?_ | with_reducible refine Ext.drewN ?_ _ | with_reducible refine Ext.alloc ?_ _ | with_reducible refine Ext.setNew ?_ (by simp; done) _ | with_reducible refine Ext.setNew ?_ (by simp; omega) _))
  clear q0 q1
  replace HB0 := Lib.hid (HB0.out.grow hg3)
  replace HB1 := Lib.hid ((HB1.out.grow hg2).grow hg3)
  have q0 := HB0.out.cell 0 _ rfl
  have q1 := HB0.out.cell 1 _ rfl
  obtain ⟨_, _, hks⟩ := (Hs.out).grow hgw
  rcases hks with hks | ⟨bk, ok, rfl, _, hkr⟩
  · exfalso; rw [hks] at hlb; simp at hlb
  obtain ⟨k, hk⟩ : ∃ k, k = lbound (nmL s.1) nm := ⟨_, rfl⟩
  rw [← hk] at k1 k0 ⊢
  have hkl : k < s.1.length := by rw [hk]; exact hlb
  obtain ⟨cs, hcs, hx⟩ := hkr k hkl
  obtain ⟨na0, nc0, ka0, kc0, rfl, hsz0, h0⟩ := itmRep_open hx
  rw [itmRep_n] at hcs
  have x0 : w3.cell? ⟨bk, ok + k * 7, none⟩ = _ := hcs 0 _ rfl
  have x1 := hcs 1 _ rfl
  have x2 := hcs 2 _ rfl
  have x3 := hcs 3 _ rfl
  have x4 := hcs 4 _ rfl
  have x5 := hcs 5 _ rfl
  have x6 := hcs 6 _ rfl
  have Hx := Lib.hid hx
  have Hgi2 : Hid (gtI s nm = s.1[k]) := Lib.hid (by rw [Hgi.out]; simp only [hk])
  have HB3 := Lib.hid HB1.out
  clear hkr hcs hx h0 hsz0 hk
  go_wp2_with fail
  refine (copyItem_ok s.1[k] _ _ (Hgood.out _ (List.getElem_mem hkl)) Hx.out).mono ?_
  rintro e w4 ⟨cs', fp, rfl, hg4, hF, hfr⟩
  obtain ⟨na2, nc2, ka2, kc2, rfl, _, _⟩ := itmRep_openF hF
  have HF := Lib.hid hF
  have Hfr := Lib.hid hfr
  have HB1 := Lib.hid (HB3.out.grow hg4)
  have z4 := hg4.size
  have z3 := HB3.out.lt
  clear hF hfr x0 x1 x2 x3 x4 x5 x6 q0 q1
  unfold itmL at *
  have r0 := HB1.out.cell 0 _ rfl
  have r1 := HB1.out.cell 1 _ rfl
  have r2 := HB1.out.cell 2 _ rfl
  have r3 := HB1.out.cell 3 _ rfl
  have r4 := HB1.out.cell 4 _ rfl
  have r5 := HB1.out.cell 5 _ rfl
  have r6 := HB1.out.cell 6 _ rfl
  have rf := HB1.out.fr
  have zr := HB1.out.lt
  go_wp2_with fail
  clear r0 r1 r2 r3 r4 r5 r6 rf
  have BF := ((((((HB1.out.set 0 (by simp) (.string s.1[k].1)).set 1 (by simp) (.int .i64 s.1[k].2.1)).set 2 (by simp) (.int .i64 s.1[k].2.2.kind)).set 3 (by simp) (.int .i64 s.1[k].2.2.num)).set 4 (by simp) (.string s.1[k].2.2.text)).set 5 (by simp) (.slice na2 s.1[k].2.2.names.length nc2)).set 6 (by simp) (.slice ka2 s.1[k].2.2.kids.length kc2)
  have s0 := BF.cell 0 _ rfl
  have s1 := BF.cell 1 _ rfl
  have s2 := BF.cell 2 _ rfl
  have s3 := BF.cell 3 _ rfl
  have s4 := BF.cell 4 _ rfl
  have s5 := BF.cell 5 _ rfl
  have s6 := BF.cell 6 _ rfl
  have he := st7_ext w4 (w.heap.size + 1) (.string s.1[k].1) (.int .i64 s.1[k].2.1) (.int .i64 s.1[k].2.2.kind) (.int .i64 s.1[k].2.2.num) (.string s.1[k].2.2.text) (.slice na2 s.1[k].2.2.names.length nc2) (.slice ka2 s.1[k].2.2.kids.length kc2)
  have hx2 : ∀ b ∈ fp, ¬ b = w.heap.size + 1 := fun b hb e => by have := (Hfr.out.2 b hb).1; omega
  have hfin : FV itmRep packA (st7 w4 (w.heap.size + 1) (.string s.1[k].1) (.int .i64 s.1[k].2.1) (.int .i64 s.1[k].2.2.kind) (.int .i64 s.1[k].2.2.num) (.string s.1[k].2.2.text) (.slice na2 s.1[k].2.2.names.length nc2) (.slice ka2 s.1[k].2.2.kids.length kc2)) (gtI s nm) (.agg #[.string s.1[k].1, .int .i64 s.1[k].2.1, .int .i64 s.1[k].2.2.kind, .int .i64 s.1[k].2.2.num, .string s.1[k].2.2.text, .slice na2 s.1[k].2.2.names.length nc2, .slice ka2 s.1[k].2.2.kids.length kc2]) fp := by
    rw [Hgi2.out]; exact ⟨_, rfl, itmRep.keep HF.out (he.keeps Hfr.out hx2)⟩
  refine bodyPost_ret (v := .tuple #[.agg #[.string s.1[k].1, .int .i64 s.1[k].2.1, .int .i64 s.1[k].2.2.kind, .int .i64 s.1[k].2.2.num, .string s.1[k].2.2.text, .slice na2 s.1[k].2.2.names.length nc2, .slice ka2 s.1[k].2.2.kids.length kc2], .bool true]) ?_ rfl ⟨_, fp, by rw [Hgb.out], Grow.inner (hgw.trans hg4) he (by intro i hi; have : i = w.heap.size + 1 := hi; omega), hfin, (Hfr.out.ext he hx2).mono (by have := hgw.size; omega)⟩
  simp [results, Try.results47, go_sem, s0, s1, s2, s3, s4, s5, s6]

end Go.Proofs.Ytmeobmegnneegaa

/-
  The walk of spec.copyNode.
-/
namespace Go.Proofs.Ytmeobmegnneegaa
open Go.RowKit

theorem NodesR.mono' {w : World} {S T : Nat → Prop} {a : Option Addr} {c : Nat} {l : List Nd} (h : NodesR w S a c l) (hS : ∀ k, S k → T k) : NodesR w T a c l := by
  obtain ⟨h1, h2, h3⟩ := h
  refine ⟨h1, h2, h3.imp id ?_⟩
  rintro ⟨b, o, e, hb, hk⟩
  exact ⟨b, o, e, hS b hb, KidsR.mono hS hk⟩

def CopyOk (n : Nd) : Prop := ∀ (v : Value) (w : World), Good n → NodeR w any n v →
    Calls Try.prog 113 #[v] w fun e w' => ∃ v', e = .returned v' ∧ Grow w w' ∧ NodeR w' (upB w.heap.size) n v'

/-- What the loop of copyNode holds. -/
def CopyRel (w : World) (n : Nd) (t3 i : Value) (wr : World) : Prop :=
  ∃ (v3 : Value) (k : Nat) (cs : List Value), v3 = t3 ∧ k ≤ n.kids.length ∧ i = .int .i64 k ∧ wr.ownsRow (w.heap.size + 2) 39 5 v3 k cs ∧ NCells wr (offRow (w.heap.size + 2) v3) (n.kids.take k) cs

/-- What the result's box holds at the end. -/
def CopyK (w : World) (n : Nd) (la : Option Addr) (lc : Nat) (w' : World) : Prop :=
  ∃ a c, BoxN w' (w.heap.size + 1) [.int .i64 n.kind, .int .i64 n.num, .string n.text, .slice a n.names.length c, .slice la n.kids.length lc] ∧ StrsR w' (upB (w.heap.size + 2)) a c n.names

set_option maxRecDepth 100000 in
set_option maxHeartbeats 4000000 in
theorem copyNode_of (n : Nd) (ih : ∀ k ∈ n.kids, CopyOk k) : CopyOk n := by
  intro v w hg hn
  obtain ⟨na, nc, ka, kc, rfl, hc⟩ := hn
  obtain ⟨htx, hns, hks⟩ := hc.parts
  have l6 := hg.kids6
  have Htx := Lib.hid htx
  have Hns := Lib.hid hns
  have Hks := Lib.hid hks
  have Ih := Lib.hid ih
  have Hg := Lib.hid hg
  clear hc hns hks ih hg htx
  unfold nodeV
  obtain ⟨i0, hi, hz0, hz1, hz2⟩ := info_parts info_Node
  go_enter Try.func113, Try.ntmps113
  go_wp2_with fail
  go_loopw [3, 4] (fun t3 i wr => Grow w wr ∧ BoxN wr w.heap.size (nodeL n na nc ka kc) ∧ BoxN wr (w.heap.size + 1) [.int .i64 0, .int .i64 0, .string ⟨#[]⟩, .slice none 0 0, .slice none 0 0] ∧ CopyRel w n t3 i wr) (fun _ i _ => n.kids.length - (intOf i).toNat)
  case atStart =>
    refine ⟨(by repeat (first | with_reducible exact Ext.refl _ _ | with_reducible refine Ext.trans ?_ (by assumption) | with_reducible refine Ext.drew ?_ | with_reducible refine Ext.drewN ?_ _ | with_reducible refine Ext.alloc ?_ _ | with_reducible refine Ext.setNew ?_ (by simp; done) _ | with_reducible refine Ext.setNew ?_ (by simp; omega) _)), ((BoxN.new w (nodeL n na nc ka kc) _).grow ((Ext.refl nil _).alloc _)).grow ((Ext.refl nil _).alloc _), (BoxN.new1 w _ [.int .i64 0, .int .i64 0, .string ⟨#[]⟩, .slice none 0 0, .slice none 0 0] _).grow ((Ext.refl nil _).alloc _), _, 0, [], rfl, Nat.zero_le _, rfl, ?_, rfl⟩
    have := World.ownsRow_made (e := 39) (size := 5) (base := w.heap.size + 2) ((w.alloc (.cells #[.int .i64 n.kind, .int .i64 n.num, .string n.text, .slice na n.names.length nc, .slice ka n.kids.length kc] 39)).alloc (.cells #[.int .i64 0, .int .i64 0, .string ⟨#[]⟩, .slice none 0 0, .slice none 0 0] 39)) #[] 0 (by simp) (by unfold maxLen; omega) rfl
    simpa using this
  case round =>
    obtain ⟨hg0, B1, B2, t3, k, cs, rfl, hk, rfl, hrow, hnc⟩ := hrel
    have HB1 := Lib.hid B1
    have HB2 := Lib.hid B2
    have Hrow := Lib.hid hrow
    have Hnc := Lib.hid hnc
    have p4 := B1.cell 4 _ rfl
    clear B1 B2 hrow hnc
    by_cases hlt : k < n.kids.length
    · rcases Hks.out.2.2 with hh | ⟨bk, ok, rfl, _, hkr⟩
      · rw [hh] at hlt; simp at hlt
      obtain ⟨na', nc', ka', kc', c0, c1, c2, c3, c4, hkc⟩ := (hkr.ext hg0 (fun _ _ h => h) (fun h => h)).get k hlt
      have Hkc : Hid (NodeR wr any n.kids[k] (nodeV n.kids[k] na' nc' ka' kc')) := Lib.hid ⟨_, _, _, _, rfl, hkc⟩
      clear hkr hkc
      go_wp2_with fail
      refine (Ih.out _ (List.getElem_mem hlt) _ _ (Hg.out.kid (List.getElem_mem hlt)) Hkc.out).mono ?_
      rintro e w2 ⟨v', rfl, hg2, hr2⟩
      obtain ⟨na2, nc2, ka2, kc2, rfl, hc2⟩ := hr2
      have hrow2 := row_grow Hrow.out hg2
      have hsz2 : wr.heap.size ≤ w2.heap.size := hg2.size
      have hb0 : w.heap.size + 2 ≤ wr.heap.size := by have := HB2.out.lt; omega
      have hnc2 : NCells w2 (offRow (w.heap.size + 2) t3) (n.kids.take k ++ [n.kids[k]]) (cs ++ nodeL n.kids[k] na2 nc2 ka2 kc2) := by
        refine NCells.append (Hnc.out.ext hg2 (fun _ _ h => h)) (NCells.one (hc2.mono (fun b hb => ⟨?_, fun e => ?_⟩)))
        · unfold upB at hb; omega
        · have := (Hrow.out.lt b e).2; unfold upB at hb; omega
      have Hrow2 := Lib.hid (row_grow hrow2 ((Ext.refl nil w2).alloc (.cells #[.int .i64 n.kids[k].kind, .int .i64 n.kids[k].num, .string n.kids[k].text, .slice na2 n.kids[k].names.length nc2, .slice ka2 n.kids[k].kids.length kc2] 39)))
      have Hnc2 := Lib.hid (hnc2.ext ((Ext.refl nil w2).alloc (.cells #[.int .i64 n.kids[k].kind, .int .i64 n.kids[k].num, .string n.kids[k].text, .slice na2 n.kids[k].names.length nc2, .slice ka2 n.kids[k].kids.length kc2] 39)) (fun _ _ h => h))
      have Hcell : Hid (∀ i v, (nodeL n.kids[k] na2 nc2 ka2 kc2)[i]? = some v → (w2.alloc (.cells #[.int .i64 n.kids[k].kind, .int .i64 n.kids[k].num, .string n.kids[k].text, .slice na2 n.kids[k].names.length nc2, .slice ka2 n.kids[k].kids.length kc2] 39)).cell? ((⟨w2.heap.size, 0, none⟩ : Addr).add i) = some v) := Lib.hid (by
        intro i v hi
        rw [addr_add, Nat.zero_add]
        exact (BoxN.new w2 (nodeL n.kids[k] na2 nc2 ka2 kc2) _).cell i v hi)
      clear hc2 c0 c1 c2 c3 c4 p4 hrow2 hnc2
      unfold nodeV
      go_wp2_with (at_builtin; refine wpList_append2 _ rfl _ _ 37 rfl (w.heap.size + 2) 39 i0 _ 5 80 Try.underlying37 hi hz0 hz1 hz2 rfl (by decide) t3 k cs rfl Hrow2.out ⟨w2.heap.size, 0, none⟩ 1 1 (nodeL n.kids[k] na2 nc2 ka2 kc2) rfl ?c1 Hcell.out ?c2 ?c3 ?c4 ?c5 ?_)
      case c1 => rfl
      case c2 => intro u hu; simp [nodeL] at hu; rcases hu with rfl | rfl | rfl | rfl | rfl <;> simp [Value.oneCell']
      case c3 => unfold maxLen; omega
      case c4 => omega
      case c5 => simp; omega
      intro v' w3 hown3 hgrow hv'
      have hnc3 := Hnc2.out.grown' hgrow (by simpa using hv')
      have hb3 : ∀ b, t3.ownBlock = some b → w.heap.size + 1 < b := fun b e => by have := (Hrow.out.lt b e).1; omega
      have B1 := (HB1.out.grow ((hg2).alloc _)).grown hgrow (fun b e => by have := hb3 b e; omega)
      have B2 := (HB2.out.grow ((hg2).alloc _)).grown hgrow hb3
      have hg3 : Grow w w3 := grown_ext ((hg0.trans hg2).alloc _) hgrow (fun b e => by have := hb3 b e; omega)
      have Hown3 := Lib.hid hown3
      have Hnc3 := Lib.hid hnc3
      have HB1 := Lib.hid B1
      have HB2 := Lib.hid B2
      clear hown3 hnc3 hgrow hv' hb3 B1 B2
      go_wp2_with fail
      go_roundw
      case rel => exact ⟨hg3, HB1.out, HB2.out, _, k + 1, _, rfl, by omega, by go_num, Hown3.out, by rw [take_snoc' _ _ hlt]; exact Hnc3.out⟩
      case measure => simp [intOf]; omega
    · have hke : k = n.kids.length := by omega
      subst hke
      have hnc := Hnc.out
      rw [List.take_length] at hnc
      have hb0 : w.heap.size + 2 ≤ wr.heap.size := by have := HB2.out.lt; omega
      obtain ⟨la, lc, hv3, hls⟩ := nodes_of_row (S := upB (w.heap.size + 2)) Hrow.out (hnc.mono (fun k h => h.1)) (fun k h => h)
      subst hv3
      have Hls := Lib.hid hls
      have Hns' := Lib.hid (Hns.out.lt.grow hg0)
      (have p0 := HB1.out.cell 0 _ rfl; have p1 := HB1.out.cell 1 _ rfl; have p2 := HB1.out.cell 2 _ rfl; have p3 := HB1.out.cell 3 _ rfl; have p4 := HB1.out.cell 4 _ rfl)
      (have q0 := HB2.out.cell 0 _ rfl; have q1 := HB2.out.cell 1 _ rfl; have q2 := HB2.out.cell 2 _ rfl; have q3 := HB2.out.cell 3 _ rfl; have q4 := HB2.out.cell 4 _ rfl)
      have hnl : n.names.length ≤ 6 := by have := Hg.out.len; omega
      have HKd : CopyK w n la lc wr → CopyK w n la lc wr.drew := fun ⟨a, c, h1, h2⟩ => ⟨a, c, h1.grow ((Ext.refl nil wr).drew), h2.grow ((Ext.refl nil wr).drew)⟩
      have HKg : ∀ W W' : World, Grow W W' → CopyK w n la lc W → CopyK w n la lc W' := fun W W' hg ⟨a, c, h1, h2⟩ => ⟨a, c, h1.grow hg, h2.grow hg⟩
      have hrow2 : RowIn wr (w.heap.size + 1) 5 := ⟨HB2.out.lt, fun j hj => by
        match j, hj with
        | 0, _ => exact ⟨_, q0⟩
        | 1, _ => exact ⟨_, q1⟩
        | 2, _ => exact ⟨_, q2⟩
        | 3, _ => exact ⟨_, q3⟩
        | 4, _ => exact ⟨_, q4⟩, HB2.out.fr⟩
      obtain ⟨i9, hi9, hy0, hy1, hy2⟩ := info_parts info_string
      have HKd := Lib.hid HKd
      have HKg := Lib.hid HKg
      have Hrow2 := Lib.hid hrow2
      clear hnc hls hrow2 q0 q1 q2 q3 q4
      go_wp2_with fail
      refine wp_region_stab (RB (w.heap.size + 1) 5 (CopyK w n la lc))
        (fun i => if i = 6 then some (fun v w' => ∃ g, v = .slice (some ⟨g, 0, none⟩) 0 0 ∧ w.heap.size + 2 ≤ g ∧ w'.heap[g]? = some (.cells #[] 9 (0, 0))) else if i = 9 then some (fun v w' => ∃ a c, v = .slice a n.names.length c ∧ StrsR w' (upB (w.heap.size + 2)) a c n.names)
          else if i = 12 then some (fun v w' => v = undef ∧ CopyK w n la lc w') else none)
        (by kernel_rfl) (by kernel_rfl) ⟨RB.refl _ _ _, fun _ _ h1 h2 => h2.trans h1, ?_⟩ ?_
      · intro i V hV v w1 w2 hr hv
        by_cases h6 : i = 6
        · simp only [h6, if_true, Option.some.injEq] at hV; subst hV
          obtain ⟨g, hv, hg, hh⟩ := hv
          refine ⟨g, hv, hg, ?_⟩
          rw [hr.1.block g (Array.getElem?_eq_some_iff.1 hh).1 (by omega)]; exact hh
        · by_cases h9 : i = 9
          · simp [h9] at hV; subst hV
            obtain ⟨a, c, hv, hs⟩ := hv
            exact ⟨a, c, hv, hs.ext hr.1 (fun k hk e => by unfold upB at hk; omega)⟩
          · by_cases h12 : i = 12
            · simp [h12] at hV; subst hV
              exact ⟨hv.1, hr.2.2 hv.2⟩
            · simp [h6, h9, h12] at hV
      replace HKd := HKd.out
      (repeat (refine stabB_quiet HKd (by kernel_rfl) (by kernel_rfl) (by simp; done) ?_; intro K hK; go_big_quiet_op; go_big_quiet_on))
      refine stabB_made (fun v w' => ∃ g, v = .slice (some ⟨g, 0, none⟩) 0 0 ∧ w.heap.size + 2 ≤ g ∧ w'.heap[g]? = some (.cells #[] 9 (0, 0))) HKd ?_ ?_ ?_ ?_
      · kernel_rfl
      · simp
      · intro y _
        refine stabB_val (v := .slice (some ⟨(laterB wr y).heap.size, 0, none⟩) 0 0) (w' := (laterB wr y).alloc (.cells #[] 9)) ?_ ((Ext.refl nil _).alloc _) (HKg.out _ _ ((Ext.refl nil _).alloc _)) ⟨_, rfl, ?_, heap_alloc_new _ _⟩
        · go_simp
        · have := (laterB_rel wr y).1.size; omega
      rintro v ⟨y, g, rfl, hgb, hcl⟩
      go_frame
      clear hcl y
      (repeat (refine stabB_quiet HKd (by kernel_rfl) (by kernel_rfl) (by simp; done) ?_; intro K hK; go_big_quiet_op; go_big_quiet_on))
      refine stabB_made (fun v w' => ∃ a c, v = .slice a n.names.length c ∧ StrsR w' (upB (w.heap.size + 2)) a c n.names) HKd ?_ ?_ ?_ ?_
      · kernel_rfl
      · simp
      · intro y hE
        obtain ⟨g', hgv, hg1, hg2⟩ := (hE ⟨6, .data⟩ (by simp) (by decide)).2 rfl
        cases hgv
        clear hE
        have hst : StrsR (laterB wr y) (fun k => any k ∧ k < w.heap.size) na nc n.names := Hns'.out.ext (laterB_rel wr y).1 (fun k hk e => by have := hk.2; omega)
        have hsz := (laterB_rel wr y).1.size
        obtain ⟨v', w', hr, hown, hgr⟩ := run_append_lit (P := Try.prog) (laterB wr y) (w.heap.size + 2) 25 25 9 i9 _ 1 16 Try.underlying25 hi9 hy0 hy1 hy2 rfl (by decide) g hg2 hg1 na n.names.length nc (n.names.map Value.string) (by simp) (Src.strs hst) (by intro u hu; simp at hu; obtain ⟨x, _, rfl⟩ := hu; simp [Value.oneCell']) (by unfold maxLen; omega) (by omega) (by omega)
        refine stabB_val (exec_append _ _ _ rfl _ _ _ rfl rfl hr) hgr (HKg.out _ _ hgr) ?_
        exact strs_of_row' hown hst.2.2.1 (fun k h => h)
      rintro v ⟨y, a9, c9, rfl, hcl⟩
      go_frame
      clear hcl y
      (repeat (refine stabB_quiet HKd (by kernel_rfl) (by kernel_rfl) (by simp; done) ?_; intro K hK; go_big_quiet_op; go_big_quiet_on))
      refine stabB_made (fun v w' => v = undef ∧ CopyK w n la lc w') HKd ?_ ?_ ?_ ?_
      · kernel_rfl
      · simp
      · intro y hE
        obtain ⟨a', c', hv9, hs9⟩ := (hE ⟨9, .phase⟩ (by simp) (by decide)).2 rfl
        cases hv9
        clear hE
        have hrow := (laterB_rel wr y).2.1 Hrow2.out
        have hfz := hrow.2.2
        obtain ⟨v0, x0⟩ := hrow.2.1 0 (by omega)
        obtain ⟨v1, x1⟩ := hrow.2.1 1 (by omega)
        obtain ⟨v2, x2⟩ := hrow.2.1 2 (by omega)
        obtain ⟨v3, x3⟩ := hrow.2.1 3 (by omega)
        obtain ⟨v4, x4⟩ := hrow.2.1 4 (by omega)
        have hk : CopyK w n la lc (storeL (laterB wr y) (w.heap.size + 1) 0 [.int .i64 n.kind, .int .i64 n.num, .string n.text, .slice a9 n.names.length c9, .slice la n.kids.length lc]) := by
          refine ⟨a9, c9, ⟨fun i v hi => ?_, fun o => (storeL_row (w.heap.size + 1) _ 0 hrow).2.2 o, (storeL_row (w.heap.size + 1) _ 0 hrow).1⟩, hs9.ext (storeL_ext _ _ _ _) (fun k hk e => by unfold upB at hk; omega)⟩
          have := storeL_at (o := 0) hrow (by simp) i v hi
          rwa [Nat.zero_add] at this
        have Hk := Lib.hid hk
        clear hk hs9
        refine stabB_store (vs := [.int .i64 n.kind, .int .i64 n.num, .string n.text, .slice a9 n.names.length c9, .slice la n.kids.length lc]) ?_ (fun _ => Hk.out) ⟨rfl, Hk.out⟩
        clear Hk hrow
        go_simp
        rfl
      rintro v ⟨y, rfl, hcl⟩
      go_frame
      clear hcl y
      refine stabB_end HKd ?_
      intro w4 hr4 hE
      obtain ⟨_, a5, c5, hbox, hs5⟩ := (hE 12).2 rfl
      clear hE
      have hg4 : Grow w w4 := hg0.inner hr4.1 (by intro i hi; omega)
      have Hls4 := Hls.out.ext hr4.1 (fun k hk e => by unfold upB at hk; omega)
      have r0 := hbox.cell 0 _ rfl
      have r1 := hbox.cell 1 _ rfl
      have r2 := hbox.cell 2 _ rfl
      have r3 := hbox.cell 3 _ rfl
      have r4 := hbox.cell 4 _ rfl
      go_wp2_with fail
      refine bodyPost_ret (v := nodeV n a5 c5 la lc) ?_ rfl ?_
      · simp [results, Try.results113, go_sem, nodeV, r0, r1, r2, r3, r4]
      · exact ⟨_, rfl, hg4, _, _, _, _, rfl, NodeC.mk Htx.out (hs5.mono (fun k hk => by unfold upB at *; omega)) ((NodesR.mono' Hls4 (fun k hk => by unfold upB at *; omega)))⟩

theorem copyNode_ok : ∀ n, CopyOk n := Nd.ind' CopyOk copyNode_of

end Go.Proofs.Ytmeobmegnneegaa

/-
  The walk of spec.validStore.
-/
namespace Go.Proofs.Ytmeobmegnneegaa
open Go.RowKit

theorem validName_same (x : ByteArray) (w : World) (hs : x.size ≤ big) : Calls Try.prog 71 #[.string x] w fun e w' => e = .returned (.bool (nameB x)) ∧ w' = w :=
  (validName_ok x w hs).mono fun _ _ ⟨h1, h2⟩ => ⟨h1, h2.symm⟩

set_option maxHeartbeats 8000000 in
theorem validStore_ok (s : Sto) (v : Value) (w : World) (h : RV stoRep packA w any s v) :
    Calls Try.prog 70 #[v] w fun e w' => e = .returned (.bool (storeB s)) ∧ Grow w w' := by
  obtain ⟨a, c, rfl, hs⟩ := sto_open h
  have hbig : s.1.length ≤ 9223372036854775807 := hs.2.1
  have Hs := Lib.hid hs
  clear h hs
  unfold stoV
  have Hb : Hid (storeB s = (decide (s.1.length ≤ 10) && inR s.2 0 999 && itmsB s.2 s.1)) := Lib.hid rfl
  have HB := Lib.hid (BoxN.new w [.slice a s.1.length c, .int .i64 s.2] 33)
  go_enter Try.func70, Try.ntmps70
  go_wp2_with fail
  go_loopw [2, 3, 4] (fun n i _ wr => n = .bool false ∧ Grow w wr ∧ BoxN wr w.heap.size [.slice a s.1.length c, .int .i64 s.2] ∧ ∃ k : Nat, k ≤ s.1.length ∧ i = .int .i64 k ∧ Hid (itmsB s.2 s.1 = itmsAt s.2 s.1 k)) (fun _ i _ _ => s.1.length - (intOf i).toNat)
  case atStart => exact ⟨rfl, (by repeat (first | with_reducible exact Ext.refl _ _ | with_reducible refine Ext.trans ?_ (by assumption) | with_reducible refine Ext.drew ?_ | with_reducible refine Ext.drewN ?_ _ | with_reducible refine Ext.alloc ?_ _ | with_reducible refine Ext.setNew ?_ (by simp; done) _ | with_reducible refine Ext.setNew ?_ (by simp; omega) _)), HB.out, 0, Nat.zero_le _, rfl, Lib.hid (itmsAt_zero _ _).symm⟩
  case round =>
    obtain ⟨rfl, hg, hB, k, hk, rfl, Hr⟩ := hrel
    have HB := Lib.hid hB
    have zB := hB.lt
    clear hB
    have q0 := HB.out.cell 0 _ rfl
    have q1 := HB.out.cell 1 _ rfl
    by_cases hlt : k < s.1.length
    · obtain ⟨_, _, hks⟩ := (Hs.out).grow hg
      rcases hks with hks | ⟨bk, ok, rfl, _, hkr⟩
      · simp [hks] at hlt
      obtain ⟨cs, hcs, hx⟩ := hkr k hlt
      obtain ⟨na0, nc0, ka0, kc0, rfl, hsz, h0⟩ := itmRep_open hx
      rw [itmRep_n] at hcs
      have x0 : wr.cell? ⟨bk, ok + k * 7, none⟩ = _ := hcs 0 _ rfl
      have x1 := hcs 1 _ rfl
      have x2 := hcs 2 _ rfl
      have x3 := hcs 3 _ rfl
      have x4 := hcs 4 _ rfl
      have x5 := hcs 5 _ rfl
      have x6 := hcs 6 _ rfl
      have zb : bk < wr.heap.size := lt_of_cell x0
      have H0 := Lib.hid h0
      have prev : ∀ h0 : 0 < k, wr.cell? ⟨bk, ok + (k - 1) * 7, none⟩ = some (.string (s.1[k - 1]'(by omega)).1) := fun h0 => by
        obtain ⟨cs', hcs', hx'⟩ := hkr (k - 1) (by omega)
        obtain ⟨_, _, _, _, rfl, _, _⟩ := itmRep_open hx'
        rw [itmRep_n] at hcs'
        exact hcs' 0 _ rfl
      have Prev := Lib.hid prev
      have HVc : Hid (∀ w', Grow wr w' → Calls Try.prog 72 #[.agg #[.int .i64 s.1[k].2.2.kind, .int .i64 s.1[k].2.2.num, .string s.1[k].2.2.text, .slice na0 s.1[k].2.2.names.length nc0, .slice ka0 s.1[k].2.2.kids.length kc0]] w' fun e w'' => e = .returned (.bool (validB s.1[k].2.2)) ∧ Grow w' w'') := Lib.hid (fun w' hg => validNode_ok s.1[k].2.2 _ _ ⟨_, _, _, _, rfl, H0.out.grow' hg⟩)
      clear hkr hcs hx h0 prev
      by_cases hbad : itmB s.2 s.1[k] = false ∨ (0 < k ∧ lt (s.1[k - 1]'(by omega)).1 s.1[k].1 = false)
      · have Hs' : Hid (itmsAt s.2 s.1 k = false) := Lib.hid (itmsAt_bad hlt hbad)
        have Hsb : Hid (storeB s = false) := Lib.hid (by rw [Hb.out, Hr.out, Hs'.out]; simp)
        cases hn : nameB s.1[k].1
        · have Hn := Lib.hid hn
          clear hn hbad
          go_wp2_with fail
          (refine wp_region_later (by kernel_rfl) (by kernel_rfl) ?_; (repeat (first | go_big_quiet_step ((first | (go_at_call 71; exact later_call_same (v := .bool false) (by simpa only [Hn.out] using validName_same s.1[k].1 _ hsz)) | (go_at_call 72; exact later_call (v := .bool false) (by simpa only [Hv.out] using HVc.out _ (((Ext.refl nil _).alloc _).trans (later_grow _ _)))) | (go_at_call 95; exact later_call_same (v := .bool false) (by simpa only [Hi.out] using inRange_ok s.1[k].2.1 1 s.2 _)))) | quiet_step ((first | (go_at_call 71; exact later_call_same (v := .bool false) (by simpa only [Hn.out] using validName_same s.1[k].1 _ hsz)) | (go_at_call 72; exact later_call (v := .bool false) (by simpa only [Hv.out] using HVc.out _ (((Ext.refl nil _).alloc _).trans (later_grow _ _)))) | (go_at_call 95; exact later_call_same (v := .bool false) (by simpa only [Hi.out] using inRange_ok s.1[k].2.1 1 s.2 _)))))); refine wpQuiet_nil ?_; rintro _ ⟨x_w2, rfl⟩; have hg_w2 := later_grow _ x_w2; generalize later _ x_w2 = w2 at hg_w2 ⊢)
          go_wp2_with fail
          go_ret
          exact ⟨by simp [Hsb.out], (by repeat (first | with_reducible exact Ext.refl _ _ | with_reducible refine Ext.trans ?_ (by assumption) | with_reducible refine Ext.drew ?_ | with_reducible refine Ext.drewN ?_ _ | with_reducible refine Ext.alloc ?_ _ | with_reducible refine Ext.setNew ?_ (by simp; done) _ | with_reducible refine Ext.setNew ?_ (by simp; omega) _))⟩
        have Hn := Lib.hid hn
        cases hv : validB s.1[k].2.2
        · have Hv := Lib.hid hv
          clear hv hn hbad
          go_wp2_with fail
          (refine wp_region_later (by kernel_rfl) (by kernel_rfl) ?_; (repeat (first | go_big_quiet_step ((first | (go_at_call 71; exact later_call_same (v := .bool true) (by simpa only [Hn.out] using validName_same s.1[k].1 _ hsz)) | (go_at_call 72; exact later_call (v := .bool false) (by simpa only [Hv.out] using HVc.out _ (((Ext.refl nil _).alloc _).trans (later_grow _ _)))) | (go_at_call 95; exact later_call_same (v := .bool false) (by simpa only [Hi.out] using inRange_ok s.1[k].2.1 1 s.2 _)))) | quiet_step ((first | (go_at_call 71; exact later_call_same (v := .bool true) (by simpa only [Hn.out] using validName_same s.1[k].1 _ hsz)) | (go_at_call 72; exact later_call (v := .bool false) (by simpa only [Hv.out] using HVc.out _ (((Ext.refl nil _).alloc _).trans (later_grow _ _)))) | (go_at_call 95; exact later_call_same (v := .bool false) (by simpa only [Hi.out] using inRange_ok s.1[k].2.1 1 s.2 _)))))); refine wpQuiet_nil ?_; rintro _ ⟨x_w2, rfl⟩; have hg_w2 := later_grow _ x_w2; generalize later _ x_w2 = w2 at hg_w2 ⊢)
          go_wp2_with fail
          go_ret
          exact ⟨by simp [Hsb.out], (by repeat (first | with_reducible exact Ext.refl _ _ | with_reducible refine Ext.trans ?_ (by assumption) | with_reducible refine Ext.drew ?_ | with_reducible refine Ext.drewN ?_ _ | with_reducible refine Ext.alloc ?_ _ | with_reducible refine Ext.setNew ?_ (by simp; done) _ | with_reducible refine Ext.setNew ?_ (by simp; omega) _))⟩
        have Hv := Lib.hid hv
        cases hi : inR s.1[k].2.1 1 s.2
        · have Hi := Lib.hid hi
          clear hi hv hn hbad
          go_wp2_with fail
          (refine wp_region_later (by kernel_rfl) (by kernel_rfl) ?_; (repeat (first | go_big_quiet_step ((first | (go_at_call 71; exact later_call_same (v := .bool true) (by simpa only [Hn.out] using validName_same s.1[k].1 _ hsz)) | (go_at_call 72; exact later_call (v := .bool true) (by simpa only [Hv.out] using HVc.out _ (((Ext.refl nil _).alloc _).trans (later_grow _ _)))) | (go_at_call 95; exact later_call_same (v := .bool false) (by simpa only [Hi.out] using inRange_ok s.1[k].2.1 1 s.2 _)))) | quiet_step ((first | (go_at_call 71; exact later_call_same (v := .bool true) (by simpa only [Hn.out] using validName_same s.1[k].1 _ hsz)) | (go_at_call 72; exact later_call (v := .bool true) (by simpa only [Hv.out] using HVc.out _ (((Ext.refl nil _).alloc _).trans (later_grow _ _)))) | (go_at_call 95; exact later_call_same (v := .bool false) (by simpa only [Hi.out] using inRange_ok s.1[k].2.1 1 s.2 _)))))); refine wpQuiet_nil ?_; rintro _ ⟨x_w2, rfl⟩; have hg_w2 := later_grow _ x_w2; generalize later _ x_w2 = w2 at hg_w2 ⊢)
          go_wp2_with fail
          go_ret
          exact ⟨by simp [Hsb.out], (by repeat (first | with_reducible exact Ext.refl _ _ | with_reducible refine Ext.trans ?_ (by assumption) | with_reducible refine Ext.drew ?_ | with_reducible refine Ext.drewN ?_ _ | with_reducible refine Ext.alloc ?_ _ | with_reducible refine Ext.setNew ?_ (by simp; done) _ | with_reducible refine Ext.setNew ?_ (by simp; omega) _))⟩
        have Hi := Lib.hid hi
        obtain ⟨hk0, hlt'⟩ := hbad.resolve_left (by simp [itmB, hn, hv, hi])
        have hki : (0 : Int) < (k : Int) := by omega
        have y0 := Prev.out hk0
        have k1 : ((k : Int) - 1).toNat = k - 1 := by omega
        have k2 : (0 : Int) ≤ (k : Int) - 1 := by omega
        have k3 : (k : Int) - 1 < (s.1.length : Int) := by omega
        clear hn hv hi
        rcases bl_cases (s.1[k - 1]'(by omega)).1 s.1[k].1 with ⟨l1, l2, l3, l4, _⟩ | ⟨l1, l2, l3, l4, _⟩ | l0
        · have := hlt'.symm.trans l1; cases this
        · clear hlt'
          go_wp2_with fail
          (refine wp_region_later (by kernel_rfl) (by kernel_rfl) ?_; (repeat (first | go_big_quiet_step ((first | (go_at_call 71; exact later_call_same (v := .bool true) (by simpa only [Hn.out] using validName_same s.1[k].1 _ hsz)) | (go_at_call 72; exact later_call (v := .bool true) (by simpa only [Hv.out] using HVc.out _ (((Ext.refl nil _).alloc _).trans (later_grow _ _)))) | (go_at_call 95; exact later_call_same (v := .bool true) (by simpa only [Hi.out] using inRange_ok s.1[k].2.1 1 s.2 _)))) | quiet_step ((first | (go_at_call 71; exact later_call_same (v := .bool true) (by simpa only [Hn.out] using validName_same s.1[k].1 _ hsz)) | (go_at_call 72; exact later_call (v := .bool true) (by simpa only [Hv.out] using HVc.out _ (((Ext.refl nil _).alloc _).trans (later_grow _ _)))) | (go_at_call 95; exact later_call_same (v := .bool true) (by simpa only [Hi.out] using inRange_ok s.1[k].2.1 1 s.2 _)))))); refine wpQuiet_nil ?_; rintro _ ⟨x_w2, rfl⟩; have hg_w2 := later_grow _ x_w2; generalize later _ x_w2 = w2 at hg_w2 ⊢)
          go_wp2_with fail
          go_ret
          exact ⟨by simp [Hsb.out], (by repeat (first | with_reducible exact Ext.refl _ _ | with_reducible refine Ext.trans ?_ (by assumption) | with_reducible refine Ext.drew ?_ | with_reducible refine Ext.drewN ?_ _ | with_reducible refine Ext.alloc ?_ _ | with_reducible refine Ext.setNew ?_ (by simp; done) _ | with_reducible refine Ext.setNew ?_ (by simp; omega) _))⟩
        · rw [l0] at y0
          clear l0 hlt'
          have l1 := blF_irrefl s.1[k].1
          go_wp2_with fail
          (refine wp_region_later (by kernel_rfl) (by kernel_rfl) ?_; (repeat (first | go_big_quiet_step ((first | (go_at_call 71; exact later_call_same (v := .bool true) (by simpa only [Hn.out] using validName_same s.1[k].1 _ hsz)) | (go_at_call 72; exact later_call (v := .bool true) (by simpa only [Hv.out] using HVc.out _ (((Ext.refl nil _).alloc _).trans (later_grow _ _)))) | (go_at_call 95; exact later_call_same (v := .bool true) (by simpa only [Hi.out] using inRange_ok s.1[k].2.1 1 s.2 _)))) | quiet_step ((first | (go_at_call 71; exact later_call_same (v := .bool true) (by simpa only [Hn.out] using validName_same s.1[k].1 _ hsz)) | (go_at_call 72; exact later_call (v := .bool true) (by simpa only [Hv.out] using HVc.out _ (((Ext.refl nil _).alloc _).trans (later_grow _ _)))) | (go_at_call 95; exact later_call_same (v := .bool true) (by simpa only [Hi.out] using inRange_ok s.1[k].2.1 1 s.2 _)))))); refine wpQuiet_nil ?_; rintro _ ⟨x_w2, rfl⟩; have hg_w2 := later_grow _ x_w2; generalize later _ x_w2 = w2 at hg_w2 ⊢)
          go_wp2_with fail
          go_ret
          exact ⟨by simp [Hsb.out], (by repeat (first | with_reducible exact Ext.refl _ _ | with_reducible refine Ext.trans ?_ (by assumption) | with_reducible refine Ext.drew ?_ | with_reducible refine Ext.drewN ?_ _ | with_reducible refine Ext.alloc ?_ _ | with_reducible refine Ext.setNew ?_ (by simp; done) _ | with_reducible refine Ext.setNew ?_ (by simp; omega) _))⟩
      · have hgood : itmB s.2 s.1[k] = true := by
          cases h : itmB s.2 s.1[k]
          · exact absurd (.inl h) hbad
          · rfl
        have hord : ∀ h0 : 0 < k, lt (s.1[k - 1]'(by omega)).1 s.1[k].1 = true := fun h0 => by
          cases h : lt (s.1[k - 1]'(by omega)).1 s.1[k].1
          · exact absurd (.inr ⟨h0, h⟩) hbad
          · rfl
        have Hord := Lib.hid hord
        have Hs' : Hid (itmsAt s.2 s.1 k = itmsAt s.2 s.1 (k + 1)) := Lib.hid (itmsAt_good hlt hgood hord)
        unfold itmB at hgood
        simp only [Bool.and_eq_true] at hgood
        have Hn := Lib.hid hgood.1.1
        have Hi := Lib.hid hgood.1.2
        have Hv := Lib.hid hgood.2
        clear hbad hgood hord
        by_cases hk0 : 0 < k
        · have hki : (0 : Int) < (k : Int) := by omega
          have y0 := Prev.out hk0
          have k1 : ((k : Int) - 1).toNat = k - 1 := by omega
          have k2 : (0 : Int) ≤ (k : Int) - 1 := by omega
          have k3 : (k : Int) - 1 < (s.1.length : Int) := by omega
          have l1 : lt (s.1[k - 1]'(by omega)).1 s.1[k].1 = true := Hord.out hk0
          have l2 : Op.bytesLess s.1[k].1.toList (s.1[k - 1]'(by omega)).1.toList = false := bl_asymm _ _ l1
          have l3 : ((s.1[k - 1]'(by omega)).1.toList == s.1[k].1.toList) = false := bl_ne l1
          have l4 : (s.1[k].1.toList == (s.1[k - 1]'(by omega)).1.toList) = false := by rw [beq_toList] at l3 ⊢; simp only [decide_eq_false_iff_not] at l3 ⊢; exact fun e => l3 e.symm
          go_wp2_with fail
          (refine wp_region_later (by kernel_rfl) (by kernel_rfl) ?_; (repeat (first | go_big_quiet_step ((first | (go_at_call 71; exact later_call_same (v := .bool true) (by simpa only [Hn.out] using validName_same s.1[k].1 _ hsz)) | (go_at_call 72; exact later_call (v := .bool true) (by simpa only [Hv.out] using HVc.out _ (((Ext.refl nil _).alloc _).trans (later_grow _ _)))) | (go_at_call 95; exact later_call_same (v := .bool true) (by simpa only [Hi.out] using inRange_ok s.1[k].2.1 1 s.2 _)))) | quiet_step ((first | (go_at_call 71; exact later_call_same (v := .bool true) (by simpa only [Hn.out] using validName_same s.1[k].1 _ hsz)) | (go_at_call 72; exact later_call (v := .bool true) (by simpa only [Hv.out] using HVc.out _ (((Ext.refl nil _).alloc _).trans (later_grow _ _)))) | (go_at_call 95; exact later_call_same (v := .bool true) (by simpa only [Hi.out] using inRange_ok s.1[k].2.1 1 s.2 _)))))); refine wpQuiet_nil ?_; rintro _ ⟨x_w2, rfl⟩; have hg_w2 := later_grow _ x_w2; generalize later _ x_w2 = w2 at hg_w2 ⊢)
          have hgr : Grow wr w2 := (by repeat (first | with_reducible exact Ext.refl _ _ | with_reducible refine Ext.trans ?_ (by assumption) | with_reducible refine Ext.drew ?_ | with_reducible refine Ext.drewN ?_ _ | with_reducible refine Ext.alloc ?_ _ | with_reducible refine Ext.setNew ?_ (by simp; done) _ | with_reducible refine Ext.setNew ?_ (by simp; omega) _))
          go_wp2_with fail
          go_roundw
          case rel => exact ⟨rfl, hg.trans hgr, HB.out.grow hgr, k + 1, by omega, by go_num, Lib.hid (by rw [Hr.out, Hs'.out])⟩
          case measure => simp [intOf]; omega
        · have hki : ¬ (0 : Int) < (k : Int) := by omega
          go_wp2_with fail
          (refine wp_region_later (by kernel_rfl) (by kernel_rfl) ?_; (repeat (first | go_big_quiet_step ((first | (go_at_call 71; exact later_call_same (v := .bool true) (by simpa only [Hn.out] using validName_same s.1[k].1 _ hsz)) | (go_at_call 72; exact later_call (v := .bool true) (by simpa only [Hv.out] using HVc.out _ (((Ext.refl nil _).alloc _).trans (later_grow _ _)))) | (go_at_call 95; exact later_call_same (v := .bool true) (by simpa only [Hi.out] using inRange_ok s.1[k].2.1 1 s.2 _)))) | quiet_step ((first | (go_at_call 71; exact later_call_same (v := .bool true) (by simpa only [Hn.out] using validName_same s.1[k].1 _ hsz)) | (go_at_call 72; exact later_call (v := .bool true) (by simpa only [Hv.out] using HVc.out _ (((Ext.refl nil _).alloc _).trans (later_grow _ _)))) | (go_at_call 95; exact later_call_same (v := .bool true) (by simpa only [Hi.out] using inRange_ok s.1[k].2.1 1 s.2 _)))))); refine wpQuiet_nil ?_; rintro _ ⟨x_w2, rfl⟩; have hg_w2 := later_grow _ x_w2; generalize later _ x_w2 = w2 at hg_w2 ⊢)
          have hgr : Grow wr w2 := (by repeat (first | with_reducible exact Ext.refl _ _ | with_reducible refine Ext.trans ?_ (by assumption) | with_reducible refine Ext.drew ?_ | with_reducible refine Ext.drewN ?_ _ | with_reducible refine Ext.alloc ?_ _ | with_reducible refine Ext.setNew ?_ (by simp; done) _ | with_reducible refine Ext.setNew ?_ (by simp; omega) _))
          go_wp2_with fail
          go_roundw
          case rel => exact ⟨rfl, hg.trans hgr, HB.out.grow hgr, k + 1, by omega, by go_num, Lib.hid (by rw [Hr.out, Hs'.out])⟩
          case measure => simp [intOf]; omega
    · have He := Lib.hid (itmsAt_end s.2 s.1 k hlt)
      by_cases hl : s.1.length ≤ 10
      · have Hf : Hid (storeB s = inR s.2 0 999) := Lib.hid (by rw [Hb.out, Hr.out, He.out]; simp [hl])
        go_wp2_with (go_at_call 95; refine (inRange_ok _ _ _ _).mono ?_; rintro e w' ⟨rfl, rfl⟩)
        go_ret
        exact ⟨by simp [Hf.out], hg⟩
      · have Hf : Hid (storeB s = false) := Lib.hid (by rw [Hb.out]; simp [hl])
        go_wp2_with fail
        go_ret
        exact ⟨by simp [Hf.out], hg⟩

end Go.Proofs.Ytmeobmegnneegaa

/-
  Copies of stores: the walks of spec.copyStore and spec.GetItem.
-/
namespace Go.Proofs.Ytmeobmegnneegaa
open Go Go.RowKit

section
variable {α : Type}
/-- One datum more, which reads, in a region that draws its order. -/
theorem step_appR {P : Program} {w : World} {ops : Array Oper} {o : Oper} {a : Act} {K : Act → World → Prop} {Q : Exit → Act → World → Prop} {EE : Prop} (hgd : o.guard = none) (s y : Operand) (tt : TypeId)
    (ho : o.op = .call { callee := .builtin .append, args := #[s, y], argTypes := #[tt, tt] }) (E : Rep α)
    (B : Nat) (e : TypeId) (i : TypeInfo) (z : Value) (bytes : Nat) (ht : P.underlying tt = some (.slice e)) (hi : P.info? e = some i) (hz : i.zero = some z)
    (hsize : i.size = E.n) (hby : i.bytes = bytes) (hzs : z.cells.size = E.n) (hsz : 0 < E.n)
    (t : Value) (l : List α) (hs : a.eval s = t) (w0 : World) (hrow : RowR E B e w0 t l) (hg : Grow w0 w)
    (ad : Addr) (c0 : Nat) (x : α) (c : List Value) (hy : a.eval y = .slice (some ad) 1 c0) (hx : E.R w (offRow B t) x c)
    (hcell : ∀ j u, c[j]? = some u → w.cell? (ad.add j) = some u) (h1 : ∀ u ∈ c, u.oneCell' = true)
    (h63 : l.length + 1 ≤ maxLen) (hbytes : (l.length + 1) * bytes ≤ 140737488355328) (hbase : B ≤ w.heap.size)
    (h : ∀ g cap w', RowR E B e w' (.slice (some ⟨g, 0, none⟩) (l.length + 1) cap) (l ++ [x]) → Ext (rowB t) w w' → K (a.put o.dst (.slice (some ⟨g, 0, none⟩) (l.length + 1) cap)) w') :
    if Region.wanted o (yielded ops a.tmps) = true then Oper.wp P o a w K Q else EE := by
  obtain ⟨cs, hown, hR⟩ := hrow
  refine step_append_lies w hgd s y tt ho B e i z E.n bytes ht hi hz hsize hby hzs hsz t l.length cs hs (row_grow hown hg) ad 1 c0 c hy (by rw [E.rlen hx]; omega) hcell h1 (by omega) h63 hbytes hbase _ rfl ?_
  intro g cap w' h2 h3 h4 _
  refine h g cap w' (RowR.snoc (row_grow hown hg) (hR.ext hg (fun _ _ h => h)).lt (E.lt hx) h2 h3 ?_) (grownBy_rowB h3)
  rcases h4 with h4 | h4
  · left; rw [h4]; rfl
  · right; rw [← h4]; rfl
end

theorem upB_off {E : Rep Itm} {B : Nat} {T : TypeId} {wr : World} {t : Value} {l : List Itm} (h : RowR E B T wr t l) (hB : B ≤ wr.heap.size) {k : Nat} (hk : upB wr.heap.size k) : offRow B t k :=
  ⟨Nat.le_trans hB hk, fun e => by have := (h.low k e).2; unfold upB at hk; omega⟩

/-- One document more, fresh, in a region that draws its order. -/
theorem step_itmR {wr w2 v : World} {ops : Array Oper} {o : Oper} {a : Act} {K : Act → World → Prop} {Q : Exit → Act → World → Prop} {EE : Prop} {B k : Nat} {ta : Option Addr} {tc : Nat} {l : List Itm} {x : Itm} {na : Option Addr} {nc : Nat} {ka : Option Addr} {kc : Nat}
    (Hrow : Hid (RowR itmRep B 62 wr (.slice ta k tc) l)) (Hl : Hid (l.length = k)) (hk : k < 1000000) (hB : B ≤ wr.heap.size)
    (hg : Grow wr w2) (hgv : Grow w2 v) (Hsz : Hid (x.1.size ≤ big)) (HN : Hid (NodeC w2 (upB wr.heap.size) x.2.2 na nc ka kc))
    (hgd : o.guard = none) (s y : Operand) (ho : o.op = .call { callee := .builtin .append, args := #[s, y], argTypes := #[31, 31] })
    (hs : a.eval s = .slice ta k tc) (hy : a.eval y = .slice (some ⟨v.heap.size, 0, none⟩) 1 1)
    (h : ∀ g cap w', RowR itmRep B 62 w' (.slice (some ⟨g, 0, none⟩) ((k : Nat) + 1) cap) (l ++ [x]) → Ext (rowB (.slice ta k tc)) wr w' → (∀ b o u, b < B → wr.cell? ⟨b, o, none⟩ = some u → w'.cell? ⟨b, o, none⟩ = some u) → K (a.put o.dst (.slice (some ⟨g, 0, none⟩) (k + 1) cap)) w') :
    if Region.wanted o (yielded ops a.tmps) = true then Oper.wp Try.prog o a (v.alloc (.cells #[.string x.1, .int .i64 x.2.1, .int .i64 x.2.2.kind, .int .i64 x.2.2.num, .string x.2.2.text, .slice na x.2.2.names.length nc, .slice ka x.2.2.kids.length kc] 62)) K Q else EE := by
  obtain ⟨i0, hi0, hz0, hz1, hz2⟩ := info_parts info_Item
  have hl := Hl.out
  subst hl
  have hgw : Grow wr (v.alloc (.cells #[.string x.1, .int .i64 x.2.1, .int .i64 x.2.2.kind, .int .i64 x.2.2.num, .string x.2.2.text, .slice na x.2.2.names.length nc, .slice ka x.2.2.kids.length kc] 62)) := (hg.trans hgv).alloc _
  refine step_appR hgd s y _ ho itmRep B 62 i0 _ 104 Try.underlying31 hi0 hz0 hz1 hz2 rfl itmRep_pos _ l hs wr Hrow.out hgw ⟨v.heap.size, 0, none⟩ 1 x (itmL x na nc ka kc) hy
    (itmRep_shut Hsz.out ((HN.out.mono (fun b hb => upB_off Hrow.out hB hb)).ext (hgv.alloc _) (fun _ _ h => h))) (World.news_of_block (heap_alloc_new _ _)) ?_ (by unfold maxLen; omega) (by omega) (Nat.le_trans hB hgw.size) ?_
  · intro u hu
    simp only [itmL, List.mem_cons, List.not_mem_nil, or_false] at hu
    rcases hu with rfl | rfl | rfl | rfl | rfl | rfl | rfl <;> simp [Value.oneCell']
  · intro g cap w' h1 h2
    exact h g cap w' h1 ((hgw.mono (fun _ h => False.elim h)).trans h2) (fun b o u hb hu => h2.some (hgw.some hu) (fun e => by have := (Hrow.out.low b e).1; omega))

def CsRel (w : World) (l : List Itm) (t i : Value) (wr : World) : Prop := ∃ k : Nat, k ≤ l.length ∧ i = .int .i64 k ∧ RowR itmRep (w.heap.size + 2) 62 wr t (l.take k)

set_option maxRecDepth 100000 in
set_option maxHeartbeats 4000000 in
theorem copyStore_ok (s : Sto) (v : Value) (w : World) (hgood : ∀ x ∈ s.1, Good x.2.2) (hlen : s.1.length ≤ 1000000) (h : RV stoRep packA w any s v) :
    Calls Try.prog 100 #[v] w fun e w' => ∃ r, e = .returned r ∧ Grow w w' ∧ RV stoRep packA w' (upB (w.heap.size + 2)) s r := by
  obtain ⟨a, c, rfl, hs⟩ := sto_open h
  have Hs := Lib.hid hs
  have Hgood := Lib.hid hgood
  clear h hs hgood
  unfold stoV
  obtain ⟨i0, hi0, hz0, hz1, hz2⟩ := info_parts info_Item
  have hb0 := ((BoxN.new w [.slice a s.1.length c, .int .i64 s.2] 33).grow ((Ext.refl nil _).alloc (.cells #[.slice none 0 0, .int .i64 0] 33))).grow ((Ext.refl nil _).alloc (.cells #[] 62))
  have hb1 := (BoxN.new1 w (.cells #[.slice a s.1.length c, .int .i64 s.2] 33) [.slice none 0 0, .int .i64 0] 33).grow ((Ext.refl nil _).alloc (.cells #[] 62))
  have hrow0 := RowR.made (E := itmRep) (T := 62) (w := (w.alloc (.cells #[.slice a s.1.length c, .int .i64 s.2] 33)).alloc (.cells #[.slice none 0 0, .int .i64 0] 33)) (B := w.heap.size + 2) (by simp)
  simp only [World.size_alloc] at hrow0
  have HB0 := Lib.hid hb0
  have HB1 := Lib.hid hb1
  have Hrow0 := Lib.hid hrow0
  clear hb0 hb1 hrow0
  go_enter Try.func100, Try.ntmps100
  go_wp2_with fail
  go_loopw [3, 4] (fun t i wr => Grow w wr ∧ BoxN wr w.heap.size [.slice a s.1.length c, .int .i64 s.2] ∧ BoxN wr (w.heap.size + 1) [.slice none 0 0, .int .i64 0] ∧ CsRel w s.1 t i wr) (fun _ i _ => s.1.length - (intOf i).toNat)
  case atStart => exact ⟨(by repeat (first | with_reducible exact Ext.refl _ _ | with_reducible refine Ext.trans ?_ (by assumption) | with_reducible refine Ext.drew ?_ | with_reducible refine Ext.drewN ?_ _ | with_reducible refine Ext.alloc ?_ _ | with_reducible refine Ext.setNew ?_ (by simp; done) _ | with_reducible refine Ext.setNew ?_ (by simp; omega) _)), HB0.out, HB1.out, 0, Nat.zero_le _, rfl, Hrow0.out⟩
  case round =>
    obtain ⟨hg0, hb0, hb1, k, hk, rfl, hrow⟩ := hrel
    clear HB0 HB1 Hrow0
    have HC0 := Lib.hid hb0
    have HC1 := Lib.hid hb1
    have Hrow := Lib.hid hrow
    have q0 := hb0.cell 0 _ rfl
    have q1 := hb0.cell 1 _ rfl
    have zb0 := hb0.lt
    have zb1 := hb1.lt
    clear hb0 hb1 hrow
    by_cases hlt : k < s.1.length
    · obtain ⟨_, _, hks⟩ := Hs.out
      rcases hks with hks | ⟨bk, ok, rfl, _, hkr⟩
      · simp [hks] at hlt
      obtain ⟨cs, hcs, hx⟩ := hkr k hlt
      obtain ⟨na0, nc0, ka0, kc0, rfl, hsz, h0⟩ := itmRep_open hx
      rw [itmRep_n] at hcs
      have zbw : bk < w.heap.size := lt_of_cell (hcs 0 _ rfl)
      have x0 : wr.cell? ⟨bk, ok + k * 7, none⟩ = _ := hg0.some (hcs 0 _ rfl)
      have x1 := hg0.some (hcs 1 _ rfl)
      have x2 := hg0.some (hcs 2 _ rfl)
      have x3 := hg0.some (hcs 3 _ rfl)
      have x4 := hg0.some (hcs 4 _ rfl)
      have x5 := hg0.some (hcs 5 _ rfl)
      have x6 := hg0.some (hcs 6 _ rfl)
      have zbk : bk < wr.heap.size := lt_of_cell x0
      have Hlow := Lib.hid Hrow.out.low
      have Hc : Hid (∀ w', Grow wr w' → Calls Try.prog 113 #[.agg #[.int .i64 s.1[k].2.2.kind, .int .i64 s.1[k].2.2.num, .string s.1[k].2.2.text, .slice na0 s.1[k].2.2.names.length nc0, .slice ka0 s.1[k].2.2.kids.length kc0]] w' fun e w'' => ∃ v', e = .returned v' ∧ Grow w' w'' ∧ NodeR w'' (upB w'.heap.size) s.1[k].2.2 v') := Lib.hid (fun w' hg' => copyNode_ok s.1[k].2.2 _ _ (Hgood.out _ (List.getElem_mem hlt)) ⟨_, _, _, _, rfl, (h0.ext hg0 (fun _ _ h => h)).ext hg' (fun _ _ h => h)⟩)
      have Hsz := Lib.hid hsz
      obtain ⟨ta, tc, rfl⟩ := Hrow.out.slice
      have hlk : (s.1.take k).length = k := by simp; omega
      have Hlk := Lib.hid hlk
      rw [hlk] at Hrow
      rw [hlk]
      have k1 : (k : Int) < (s.1.length : Int) := by omega
      have k0 : (0 : Int) ≤ (k : Int) := by omega
      clear hkr hcs hx h0 hsz hlk
      go_wp2_with fail
      go_region_held3 (fun w' => w'.cell? ⟨w.heap.size, 0, none⟩ = some (.slice (some ⟨bk, ok, none⟩) s.1.length c) ∧ w'.cell? ⟨bk, ok + k * 7, none⟩ = some (.string s.1[k].1) ∧ w'.cell? ⟨bk, ok + k * 7 + 1, none⟩ = some (.int .i64 s.1[k].2.1) ∧ w'.cell? ⟨bk, ok + k * 7 + 2, none⟩ = some (.int .i64 s.1[k].2.2.kind) ∧ w'.cell? ⟨bk, ok + k * 7 + 3, none⟩ = some (.int .i64 s.1[k].2.2.num) ∧ w'.cell? ⟨bk, ok + k * 7 + 4, none⟩ = some (.string s.1[k].2.2.text) ∧ w'.cell? ⟨bk, ok + k * 7 + 5, none⟩ = some (.slice na0 s.1[k].2.2.names.length nc0) ∧ w'.cell? ⟨bk, ok + k * 7 + 6, none⟩ = some (.slice ka0 s.1[k].2.2.kids.length kc0))
        (first | (go_keep; done) | (with_reducible exact ⟨hfar _ _ _ (by omega) q0, hfar _ _ _ (by omega) x0, hfar _ _ _ (by omega) x1, hfar _ _ _ (by omega) x2, hfar _ _ _ (by omega) x3, hfar _ _ _ (by omega) x4, hfar _ _ _ (by omega) x5, hfar _ _ _ (by omega) x6⟩) | (with_reducible exact ⟨hg2'.some q0, hg2'.some x0, hg2'.some x1, hg2'.some x2, hg2'.some x3, hg2'.some x4, hg2'.some x5, hg2'.some x6⟩))
        ((first | (go_at_call 113; refine (Hc.out _ ((Ext.refl nil wr).drewN _)).mono ?_; rintro e w2 ⟨v', rfl, hg2, hr2⟩; obtain ⟨na2, nc2, ka2, kc2, rfl, hc2⟩ := hr2; have hg2' : Grow wr w2 := (Ext.drewN (Ext.refl nil wr) _).trans hg2; have Hc2 := Lib.hid hc2; clear hc2; unfold nodeV) | (refine step_itmR Hrow Hlk (by omega) (by omega) hg2' (Ext.refl nil w2) Hsz Hc2 (by rfl) _ _ (by rfl) (by rfl) (by rfl) ?_; intro g cap w5 hrow5 he5 hfar)))
      rename_i hHeld
      clear hHeld x0 x1 x2 x3 x4 x5 x6 q0 q1 hfar
      have hb5 : ∀ q, rowB (.slice ta k tc) q → w.heap.size + 1 < q := fun q hq => by have := (Hrow.out.low q hq).1; omega
      have hg5 : Grow w w5 := Grow.rowed hg0 he5 (fun q hq => by have := hb5 q hq; omega)
      have B0 := HC0.out.rowed he5 (fun q hq => by have := hb5 q hq; omega)
      have B1 := HC1.out.rowed he5 (fun q hq => by have := hb5 q hq; omega)
      have htk : s.1.take k ++ [s.1[k]] = s.1.take (k + 1) := by rw [List.take_add_one, List.getElem?_eq_getElem hlt]; rfl
      rw [htk] at hrow5
      have Hrow5 := Lib.hid hrow5
      have HB05 := Lib.hid B0
      have HB15 := Lib.hid B1
      have Hg5 := Lib.hid hg5
      clear hrow5 he5 hb5 hg5 B0 B1 htk hg0 hg2 hg2'
      go_wp2_with fail
      go_roundw
      case rel => exact ⟨Hg5.out, HB05.out, HB15.out, k + 1, hlt, rfl, Hrow5.out⟩
      case measure => simp [intOf]; omega
    · have hkl : k = s.1.length := by omega
      subst hkl
      obtain ⟨ta, tc, rfl⟩ := Hrow.out.slice
      rw [List.take_length] at Hrow ⊢
      have Hg0 := Lib.hid hg0
      clear hg0
      have k1 : ¬ ((s.1.length : Int) < (s.1.length : Int)) := by omega
      have r0 := HC1.out.cell 0 _ rfl
      have r1 := HC1.out.cell 1 _ rfl
      have rf := HC1.out.fr
      go_wp2_with fail
      clear r0 r1 rf
      have BF := (HC1.out.set 0 (by simp) (.slice ta s.1.length tc)).set 1 (by simp) (.int .i64 s.2)
      have s0 := BF.cell 0 _ rfl
      have s1 := BF.cell 1 _ rfl
      have he : Ext (fun k => k = w.heap.size + 1) wr ((wr.setCell ⟨w.heap.size + 1, 0, none⟩ (.slice ta s.1.length tc)).setCell ⟨w.heap.size + 1, 1, none⟩ (.int .i64 s.2)) := (set_ext _ _ _ _).trans (set_ext _ _ _ _)
      obtain ⟨ta', tc', hteq, hsl⟩ := Hrow.out.slR
      cases hteq
      have hrv := sto_shut (s := s) (hsl.ext he (fun k hk e => by subst e; unfold upB at hk; omega))
      unfold stoV at hrv
      refine bodyPost_ret (v := .agg #[.slice ta s.1.length tc, .int .i64 s.2]) ?_ rfl ⟨_, rfl, Grow.inner Hg0.out he (by intro i hi; have : i = w.heap.size + 1 := hi; omega), hrv⟩
      simp [results, Try.results100, go_sem, s0, s1]

end Go.Proofs.Ytmeobmegnneegaa

/-
  The walk of spec.GetItem.
-/
namespace Go.Proofs.Ytmeobmegnneegaa
open Go.RowKit

/-- What the result's box holds at the end. -/
def GtK (w : World) (x : Itm) (w' : World) : Prop := ∃ cs, BoxN w' (w.heap.size + 1) cs ∧ itmRep.R w' (upB (w.heap.size + 2)) x cs
theorem GtK.grow {w W W' : World} {x : Itm} (h : GtK w x W) (hg : Grow W W') : GtK w x W' := by
  obtain ⟨cs, h1, h2⟩ := h
  exact ⟨cs, h1.grow hg, itmRep.ext hg (fun _ _ h => h) h2⟩

set_option maxRecDepth 100000 in
set_option maxHeartbeats 4000000 in
theorem specGetItem_ok (s : Sto) (nm : ByteArray) (v : Value) (w : World) (_ : nm.size ≤ big) (h : RV stoRep packA w any s v) :
    Calls Try.prog 50 #[v, .string nm] w fun e w' => ∃ r, e = .returned (.tuple #[r, .bool (gtB s nm)]) ∧ Grow w w' ∧ RV itmRep packA w' any (gtI s nm) r := by
  obtain ⟨a, c, rfl, hs⟩ := sto_open h
  have HS := Lib.hid h
  have Hs := Lib.hid hs
  clear h hs
  unfold stoV at *
  have hb0 := (BoxN.new w [.slice a s.1.length c, .int .i64 s.2] 33).grow ((Ext.refl nil _).alloc (.cells #[.string ⟨#[]⟩, .int .i64 0, .int .i64 0, .int .i64 0, .string ⟨#[]⟩, .slice none 0 0, .slice none 0 0] 62))
  have hb1 := BoxN.new1 w (.cells #[.slice a s.1.length c, .int .i64 s.2] 33) [.string ⟨#[]⟩, .int .i64 0, .int .i64 0, .int .i64 0, .string ⟨#[]⟩, .slice none 0 0, .slice none 0 0] 62
  have HB0 := Lib.hid hb0
  have HB1 := Lib.hid hb1
  clear hb0 hb1
  cases hv : storeB s
  · have Hv := Lib.hid hv
    have Hf := Lib.hid (gt_no (nm := nm) (.inl hv))
    clear hv
    go_enter Try.func50, Try.ntmps50
    go_wp2_with fail
    refine (validStore_ok s _ _ (HS.out.grow (by repeat (first | with_reducible exact Ext.refl _ _ | with_reducible refine Ext.trans ?_ (by assumption) | with_reducible refine Ext.drew ?_ | with_reducible refine Ext.drewN ?_ _ | with_reducible refine Ext.alloc ?_ _ | with_reducible refine Ext.setNew ?_ (by simp; done) _ | with_reducible refine Ext.setNew ?_ (by simp; omega) _)))).mono ?_
    rintro e w2 ⟨rfl, hg2⟩
    simp only [Hv.out]
    have hgw : Grow w w2 := (by repeat (first | with_reducible exact Ext.refl _ _ | with_reducible refine Ext.trans ?_ (by assumption) | with_reducible refine Ext.drew ?_ | with_reducible refine Ext.drewN ?_ _ | with_reducible refine Ext.alloc ?_ _ | with_reducible refine Ext.setNew ?_ (by simp; done) _ | with_reducible refine Ext.setNew ?_ (by simp; omega) _))
    replace HB1 := Lib.hid (HB1.out.grow hg2)
    have r0 := HB1.out.cell 0 _ rfl
    have r1 := HB1.out.cell 1 _ rfl
    have r2 := HB1.out.cell 2 _ rfl
    have r3 := HB1.out.cell 3 _ rfl
    have r4 := HB1.out.cell 4 _ rfl
    have r5 := HB1.out.cell 5 _ rfl
    have r6 := HB1.out.cell 6 _ rfl
    have rf := HB1.out.fr
    have zr := HB1.out.lt
    go_wp2_with fail
    clear r0 r1 r2 r3 r4 r5 r6 rf
    have BF := ((((((HB1.out.set 0 (by simp) (.string ⟨#[]⟩)).set 1 (by simp) (.int .i64 0)).set 2 (by simp) (.int .i64 0)).set 3 (by simp) (.int .i64 0)).set 4 (by simp) (.string ⟨#[]⟩)).set 5 (by simp) (.slice none 0 0)).set 6 (by simp) (.slice none 0 0)
    have s0 := BF.cell 0 _ rfl
    have s1 := BF.cell 1 _ rfl
    have s2 := BF.cell 2 _ rfl
    have s3 := BF.cell 3 _ rfl
    have s4 := BF.cell 4 _ rfl
    have s5 := BF.cell 5 _ rfl
    have s6 := BF.cell 6 _ rfl
    have he := st7_ext w2 (w.heap.size + 1) (.string ⟨#[]⟩) (.int .i64 0) (.int .i64 0) (.int .i64 0) (.string ⟨#[]⟩) (.slice none 0 0) (.slice none 0 0)
    refine bodyPost_ret (v := .tuple #[.agg #[.string ⟨#[]⟩, .int .i64 0, .int .i64 0, .int .i64 0, .string ⟨#[]⟩, .slice none 0 0, .slice none 0 0], .bool false]) ?_ rfl ⟨_, by rw [Hf.out.1], Grow.inner hgw he (by intro i hi; have : i = w.heap.size + 1 := hi; omega), by rw [Hf.out.2]; exact (show FV itmRep packA _ Itm.zero _ [] from ⟨_, rfl, itm_zeroF _⟩).rv⟩
    simp [results, Try.results50, go_sem, s0, s1, s2, s3, s4, s5, s6]
  have Hv := Lib.hid hv
  have Hasc := Lib.hid (storeB_asc hv)
  have hl10 : s.1.length ≤ 10 := (storeB_parts hv).1
  cases hm : mem (nmL s.1) nm
  · have Hm := Lib.hid (show fIx s.1 nm = -1 by unfold fIx; rw [hm]; rfl)
    have Hf := Lib.hid (gt_no (s := s) (nm := nm) (.inr hm))
    clear hv hm
    go_enter Try.func50, Try.ntmps50
    go_wp2_with fail
    refine (validStore_ok s _ _ (HS.out.grow (by repeat (first | with_reducible exact Ext.refl _ _ | with_reducible refine Ext.trans ?_ (by assumption) | with_reducible refine Ext.drew ?_ | with_reducible refine Ext.drewN ?_ _ | with_reducible refine Ext.alloc ?_ _ | with_reducible refine Ext.setNew ?_ (by simp; done) _ | with_reducible refine Ext.setNew ?_ (by simp; omega) _)))).mono ?_
    rintro e w2 ⟨rfl, hg2⟩
    simp only [Hv.out]
    replace HB0 := Lib.hid (HB0.out.grow hg2)
    have q0 := HB0.out.cell 0 _ rfl
    have q1 := HB0.out.cell 1 _ rfl
    go_wp2_with fail
    refine (find_ok s nm _ _ (HS.out.grow (by repeat (first | with_reducible exact Ext.refl _ _ | with_reducible refine Ext.trans ?_ (by assumption) | with_reducible refine Ext.drew ?_ | with_reducible refine Ext.drewN ?_ _ | with_reducible refine Ext.alloc ?_ _ | with_reducible refine Ext.setNew ?_ (by simp; done) _ | with_reducible refine Ext.setNew ?_ (by simp; omega) _))) Hasc.out).mono ?_
    rintro e w3 ⟨rfl, hg3⟩
    simp only [Hm.out]
    have hgw : Grow w w3 := (by repeat (first | with_reducible exact Ext.refl _ _ | with_reducible refine Ext.trans ?_ (by assumption) | with_reducible refine Ext.drew ?_ | with_reducible refine Ext.drewN ?_ _ | with_reducible refine Ext.alloc ?_ _ | with_reducible refine Ext.setNew ?_ (by simp; done) _ | with_reducible refine Ext.setNew ?_ (by simp; omega) _))
    clear q0 q1
    replace HB1 := Lib.hid ((HB1.out.grow hg2).grow hg3)
    have r0 := HB1.out.cell 0 _ rfl
    have r1 := HB1.out.cell 1 _ rfl
    have r2 := HB1.out.cell 2 _ rfl
    have r3 := HB1.out.cell 3 _ rfl
    have r4 := HB1.out.cell 4 _ rfl
    have r5 := HB1.out.cell 5 _ rfl
    have r6 := HB1.out.cell 6 _ rfl
    have rf := HB1.out.fr
    have zr := HB1.out.lt
    go_wp2_with fail
    clear r0 r1 r2 r3 r4 r5 r6 rf
    have BF := ((((((HB1.out.set 0 (by simp) (.string ⟨#[]⟩)).set 1 (by simp) (.int .i64 0)).set 2 (by simp) (.int .i64 0)).set 3 (by simp) (.int .i64 0)).set 4 (by simp) (.string ⟨#[]⟩)).set 5 (by simp) (.slice none 0 0)).set 6 (by simp) (.slice none 0 0)
    have s0 := BF.cell 0 _ rfl
    have s1 := BF.cell 1 _ rfl
    have s2 := BF.cell 2 _ rfl
    have s3 := BF.cell 3 _ rfl
    have s4 := BF.cell 4 _ rfl
    have s5 := BF.cell 5 _ rfl
    have s6 := BF.cell 6 _ rfl
    have he := st7_ext w3 (w.heap.size + 1) (.string ⟨#[]⟩) (.int .i64 0) (.int .i64 0) (.int .i64 0) (.string ⟨#[]⟩) (.slice none 0 0) (.slice none 0 0)
    refine bodyPost_ret (v := .tuple #[.agg #[.string ⟨#[]⟩, .int .i64 0, .int .i64 0, .int .i64 0, .string ⟨#[]⟩, .slice none 0 0, .slice none 0 0], .bool false]) ?_ rfl ⟨_, by rw [Hf.out.1], Grow.inner hgw he (by intro i hi; have : i = w.heap.size + 1 := hi; omega), by rw [Hf.out.2]; exact (show FV itmRep packA _ Itm.zero _ [] from ⟨_, rfl, itm_zeroF _⟩).rv⟩
    simp [results, Try.results50, go_sem, s0, s1, s2, s3, s4, s5, s6]
  obtain ⟨hgb, hlb, hgi, hnm⟩ := gt_yes hv hm
  have hfx : fIx s.1 nm = (lbound (nmL s.1) nm : Nat) := by unfold fIx; rw [hm]; rfl
  obtain ⟨k, hk⟩ : ∃ k, k = lbound (nmL s.1) nm := ⟨_, rfl⟩
  rw [← hk] at hfx
  have hkl : k < s.1.length := by rw [hk]; exact hlb
  have Hgb := Lib.hid hgb
  have Hgi : Hid (gtI s nm = s.1[k]) := Lib.hid (by rw [hgi]; simp only [hk])
  have Hgood := Lib.hid (storeB_good hv)
  have Hm := Lib.hid hfx
  have k1 : (k : Int) < (s.1.length : Int) := by omega
  have k0 : (0 : Int) ≤ (k : Int) := by omega
  have k2 : ¬ ((k : Int) < 0) := by omega
  clear hv hm hgb hgi hnm hfx hk hlb
  go_enter Try.func50, Try.ntmps50
  go_wp2_with fail
  refine (validStore_ok s _ _ (HS.out.grow (by repeat (first | with_reducible exact Ext.refl _ _ | with_reducible refine Ext.trans ?_ (by assumption) | with_reducible refine Ext.drew ?_ | with_reducible refine Ext.drewN ?_ _ | with_reducible refine Ext.alloc ?_ _ | with_reducible refine Ext.setNew ?_ (by simp; done) _ | with_reducible refine Ext.setNew ?_ (by simp; omega) _)))).mono ?_
  rintro e w2 ⟨rfl, hg2⟩
  simp only [Hv.out]
  replace HB0 := Lib.hid (HB0.out.grow hg2)
  have q0 := HB0.out.cell 0 _ rfl
  have q1 := HB0.out.cell 1 _ rfl
  go_wp2_with fail
  refine (find_ok s nm _ _ (HS.out.grow (by repeat (first | with_reducible exact Ext.refl _ _ | with_reducible refine Ext.trans ?_ (by assumption) | with_reducible refine Ext.drew ?_ | with_reducible refine Ext.drewN ?_ _ | with_reducible refine Ext.alloc ?_ _ | with_reducible refine Ext.setNew ?_ (by simp; done) _ | with_reducible refine Ext.setNew ?_ (by simp; omega) _))) Hasc.out).mono ?_
  rintro e w3 ⟨rfl, hg3⟩
  simp only [Hm.out]
  have hgw : Grow w w3 := (by repeat (first | with_reducible exact Ext.refl _ _ | with_reducible refine Ext.trans ?_ (by assumption) | with_reducible refine Ext.drew ?_ | with_reducible refine Ext.drewN ?_ _ | with_reducible refine Ext.alloc ?_ _ | with_reducible refine Ext.setNew ?_ (by simp; done) _ | with_reducible refine Ext.setNew ?_ (by simp; omega) _))
  clear q0 q1
  replace HB0 := Lib.hid (HB0.out.grow hg3)
  replace HB1 := Lib.hid ((HB1.out.grow hg2).grow hg3)
  have HSw := Lib.hid (HS.out.under.grow hgw)
  (have q0 := HB0.out.cell 0 _ rfl; have q1 := HB0.out.cell 1 _ rfl)
  (have r0 := HB1.out.cell 0 _ rfl; have r1 := HB1.out.cell 1 _ rfl; have r2 := HB1.out.cell 2 _ rfl; have r3 := HB1.out.cell 3 _ rfl; have r4 := HB1.out.cell 4 _ rfl; have r5 := HB1.out.cell 5 _ rfl; have r6 := HB1.out.cell 6 _ rfl)
  have hrow2 : RowIn w3 (w.heap.size + 1) 7 := ⟨HB1.out.lt, fun j hj => by
    match j, hj with
    | 0, _ => exact ⟨_, r0⟩
    | 1, _ => exact ⟨_, r1⟩
    | 2, _ => exact ⟨_, r2⟩
    | 3, _ => exact ⟨_, r3⟩
    | 4, _ => exact ⟨_, r4⟩
    | 5, _ => exact ⟨_, r5⟩
    | 6, _ => exact ⟨_, r6⟩, HB1.out.fr⟩
  have Hrow2 := Lib.hid hrow2
  clear hrow2 r0 r1 r2 r3 r4 r5 r6
  have HKg := Lib.hid (fun (W W' : World) (hg : Grow W W') (h : GtK w s.1[k] W) => h.grow hg)
  have HKd := Lib.hid (fun (h : GtK w s.1[k] w3) => h.grow ((Ext.refl nil w3).drew))
  go_wp2_with fail
  refine wp_region_stab (RB (w.heap.size + 1) 7 (GtK w s.1[k]))
    (fun i => if i = 1 then some (fun v w' => ∃ b o c, v = .agg #[.slice (some ⟨b, o, none⟩) s.1.length c, .int .i64 s.2] ∧ SlR itmRep w' (upB (w.heap.size + 2)) (some ⟨b, o, none⟩) c s.1)
      else if i = 2 then some (fun v w' => ∃ b o c, v = .slice (some ⟨b, o, none⟩) s.1.length c ∧ SlR itmRep w' (upB (w.heap.size + 2)) (some ⟨b, o, none⟩) c s.1)
      else if i = 5 then some (fun v _ => v = .int .i64 k)
      else if i = 6 then some (fun v w' => ∃ b o c, v = .pointer (some ⟨b, o + k * 7, none⟩) ∧ SlR itmRep w' (upB (w.heap.size + 2)) (some ⟨b, o, none⟩) c s.1)
      else if i = 7 then some (fun v w' => RV itmRep packA w' (upB (w.heap.size + 2)) s.1[k] v)
      else if i = 8 then some (fun v w' => v = undef ∧ GtK w s.1[k] w') else none)
    (by kernel_rfl) (by kernel_rfl) ⟨RB.refl _ _ _, fun _ _ h1 h2 => h2.trans h1, ?_⟩ ?_
  · intro i V hV v w1 w2 hr hv
    have hoff : ∀ q, upB (w.heap.size + 2) q → ¬ (q = w.heap.size + 1) := fun q hq e => by unfold upB at hq; omega
    by_cases h1 : i = 1
    · simp only [h1, if_true, Option.some.injEq] at hV; subst hV
      obtain ⟨b, o, c, hv, hh⟩ := hv
      exact ⟨b, o, c, hv, hh.ext hr.1 hoff⟩
    by_cases h2 : i = 2
    · simp [h2] at hV; subst hV
      obtain ⟨b, o, c, hv, hh⟩ := hv
      exact ⟨b, o, c, hv, hh.ext hr.1 hoff⟩
    by_cases h5 : i = 5
    · simp [h5] at hV; subst hV
      exact hv
    by_cases h6 : i = 6
    · simp [h6] at hV; subst hV
      obtain ⟨b, o, c, hv, hh⟩ := hv
      exact ⟨b, o, c, hv, hh.ext hr.1 hoff⟩
    by_cases h7 : i = 7
    · simp [h7] at hV; subst hV
      exact hv.ext hr.1 hoff
    by_cases h8 : i = 8
    · simp [h8] at hV; subst hV
      exact ⟨hv.1, hr.2.2 hv.2⟩
    simp [h1, h2, h5, h6, h7, h8] at hV
  replace HKd := HKd.out
  (repeat (refine stabB_quiet HKd (by kernel_rfl) (by kernel_rfl) (by simp; done) ?_; intro K hK; go_big_quiet_op; go_big_quiet_on))
  refine stabB_made (fun v w' => ∃ b o c, v = .agg #[.slice (some ⟨b, o, none⟩) s.1.length c, .int .i64 s.2] ∧ SlR itmRep w' (upB (w.heap.size + 2)) (some ⟨b, o, none⟩) c s.1) HKd ?_ ?_ ?_ ?_
  · kernel_rfl
  · simp
  · intro y _
    have hsv := (HSw.out.ext (laterB_rel w3 y).1 (fun k hk e => by omega)).any
    have hsz := (laterB_rel w3 y).1.size
    have hwz := hgw.size
    refine stabB_call (f := 100) (args := #[.agg #[.slice a s.1.length c, .int .i64 s.2]]) ?_ (HKg.out _) ((copyStore_ok s _ _ Hgood.out (by omega) hsv).mono ?_)
    · go_simp
    · rintro e w' ⟨r, rfl, hg, hr⟩
      obtain ⟨a', c', rfl, hs'⟩ := sto_open hr
      obtain ⟨b1, o1, rfl⟩ : ∃ b o, a' = some ⟨b, o, none⟩ := by
        rcases hs'.2.2 with h | ⟨b, o, h, _⟩
        · rw [h] at hkl; simp at hkl
        · exact ⟨b, o, h⟩
      exact ⟨_, rfl, hg, b1, o1, c', rfl, hs'.mono (fun q hq => by unfold upB at *; omega)⟩
  rintro v ⟨y, b1, o1, c1, rfl, hcl⟩
  go_frame
  clear hcl y
  refine stabB_made (fun v w' => ∃ b o c, v = .slice (some ⟨b, o, none⟩) s.1.length c ∧ SlR itmRep w' (upB (w.heap.size + 2)) (some ⟨b, o, none⟩) c s.1) HKd ?_ ?_ ?_ ?_
  · kernel_rfl
  · simp
  · intro y hE
    obtain ⟨b2, o2, c2, hv2, hs2⟩ := (hE ⟨1, .data⟩ (by simp) (by decide)).2 rfl
    cases hv2
    clear hE
    refine stabB_val (v := .slice (some ⟨b1, o1, none⟩) s.1.length c1) (w' := laterB w3 y) ?_ (Ext.refl nil _) id ⟨_, _, _, rfl, hs2⟩
    go_simp
    kernel_rfl
  rintro v ⟨y, b2, o2, c2, rfl, hcl⟩
  go_frame
  clear hcl y
  (repeat (refine stabB_quiet HKd (by kernel_rfl) (by kernel_rfl) (by simp; done) ?_; intro K hK; go_big_quiet_op; go_big_quiet_on))
  refine stabB_made (fun v _ => v = .int .i64 k) HKd ?_ ?_ ?_ ?_
  · kernel_rfl
  · simp
  · intro y _
    have hsv := (HSw.out.ext (laterB_rel w3 y).1 (fun k hk e => by omega)).any
    refine stabB_call (f := 99) (args := #[.agg #[.slice a s.1.length c, .int .i64 s.2], .string nm]) ?_ (HKg.out _) ((find_ok s nm _ _ hsv Hasc.out).mono ?_)
    · go_simp
    · rintro e w' ⟨rfl, hg⟩
      exact ⟨_, rfl, hg, by rw [Hm.out]⟩
  rintro v ⟨y, rfl⟩
  go_frame
  clear y
  refine stabB_made (fun v w' => ∃ b o c, v = .pointer (some ⟨b, o + k * 7, none⟩) ∧ SlR itmRep w' (upB (w.heap.size + 2)) (some ⟨b, o, none⟩) c s.1) HKd ?_ ?_ ?_ ?_
  · kernel_rfl
  · simp
  · intro y hE
    obtain ⟨b3, o3, c3, hv3, hs3⟩ := (hE ⟨2, .data⟩ (by simp) (by decide)).1.2 rfl
    cases hv3
    clear hE
    refine stabB_val (v := .pointer (some ⟨b2, o2 + k * 7, none⟩)) (w' := laterB w3 y) ?_ (Ext.refl nil _) id ⟨_, _, _, rfl, hs3⟩
    clear hs3
    go_simp
  rintro v ⟨y, b4, o4, c4, rfl, hcl⟩
  go_frame
  clear hcl y
  refine stabB_made (fun v w' => RV itmRep packA w' (upB (w.heap.size + 2)) s.1[k] v) HKd ?_ ?_ ?_ ?_
  · kernel_rfl
  · simp
  · intro y hE
    obtain ⟨b5, o5, c5, hv5, _, _, hs5⟩ := (hE ⟨6, .data⟩ (by simp) (by decide)).2 rfl
    clear hE
    rcases hs5 with h | ⟨b6, o6, h6, _, hkr⟩
    · exfalso; rw [h] at hkl; simp at hkl
    obtain ⟨rfl, rfl⟩ : b5 = b6 ∧ o5 = o6 := by simpa using h6
    obtain ⟨rfl, h7⟩ : b4 = b5 ∧ o4 + k * 7 = o5 + k * 7 := by simpa using hv5
    obtain rfl : o4 = o5 := by omega
    obtain ⟨cs, hcs, hx⟩ := hkr k hkl
    have hx' := hx
    obtain ⟨na0, nc0, ka0, kc0, rfl, hsz0, h0⟩ := itmRep_open hx
    rw [itmRep_n] at hcs
    have x0 : (laterB w3 y).cell? ⟨b4, o4 + k * 7, none⟩ = _ := hcs 0 _ rfl
    have x1 := hcs 1 _ rfl
    have x2 := hcs 2 _ rfl
    have x3 := hcs 3 _ rfl
    have x4 := hcs 4 _ rfl
    have x5 := hcs 5 _ rfl
    have x6 := hcs 6 _ rfl
    refine stabB_val (v := packA (itmL s.1[k] na0 nc0 ka0 kc0)) (w' := laterB w3 y) ?_ (Ext.refl nil _) id ⟨_, rfl, hx'⟩
    clear hkr hcs hx hx' h0
    unfold packA itmL
    go_simp
  rintro v ⟨y, cs7, rfl, hcl⟩
  obtain ⟨na0, nc0, ka0, kc0, rfl, hcl1, hcl2⟩ := itmRep_open hcl
  go_frame
  clear hcl hcl1 hcl2 y
  refine stabB_made (fun v w' => v = undef ∧ GtK w s.1[k] w') HKd ?_ ?_ ?_ ?_
  · kernel_rfl
  · simp
  · intro y hE
    obtain ⟨cs8, hv8, hx8⟩ := (hE ⟨7, .data⟩ (by simp) (by decide)).2 rfl
    clear hE
    obtain ⟨na1, nc1, ka1, kc1, rfl, _, _⟩ := itmRep_open hx8
    unfold packA at hv8
    have hrow := (laterB_rel w3 y).2.1 Hrow2.out
    have hfz := hrow.2.2
    obtain ⟨v0, x0⟩ := hrow.2.1 0 (by omega)
    obtain ⟨v1, x1⟩ := hrow.2.1 1 (by omega)
    obtain ⟨v2, x2⟩ := hrow.2.1 2 (by omega)
    obtain ⟨v3, x3⟩ := hrow.2.1 3 (by omega)
    obtain ⟨v4, x4⟩ := hrow.2.1 4 (by omega)
    obtain ⟨v5, x5⟩ := hrow.2.1 5 (by omega)
    obtain ⟨v6, x6⟩ := hrow.2.1 6 (by omega)
    have heq : itmL s.1[k] na0 nc0 ka0 kc0 = itmL s.1[k] na1 nc1 ka1 kc1 := by simpa using hv8
    rw [← heq] at hx8
    have hk : GtK w s.1[k] (storeL (laterB w3 y) (w.heap.size + 1) 0 (itmL s.1[k] na0 nc0 ka0 kc0)) := by
      refine ⟨itmL s.1[k] na0 nc0 ka0 kc0, ⟨fun i v hi => ?_, fun o => (storeL_row (w.heap.size + 1) _ 0 hrow).2.2 o, (storeL_row (w.heap.size + 1) _ 0 hrow).1⟩, itmRep.ext (storeL_ext _ _ _ _) (fun k hk e => by unfold upB at hk; omega) hx8⟩
      have := storeL_at (o := 0) hrow (by simp [itmL]) i v hi
      rwa [Nat.zero_add] at this
    have Hk := Lib.hid hk
    clear hk hx8 heq hv8
    unfold packA itmL at *
    refine stabB_store (vs := [.string s.1[k].1, .int .i64 s.1[k].2.1, .int .i64 s.1[k].2.2.kind, .int .i64 s.1[k].2.2.num, .string s.1[k].2.2.text, .slice na0 s.1[k].2.2.names.length nc0, .slice ka0 s.1[k].2.2.kids.length kc0]) ?_ (fun _ => Hk.out) ⟨rfl, Hk.out⟩
    clear Hk hrow
    go_simp
    rfl
  rintro v ⟨y, rfl, hcl⟩
  go_frame
  clear hcl y
  (repeat (refine stabB_quiet HKd (by kernel_rfl) (by kernel_rfl) (by simp; done) ?_; intro K hK; go_big_quiet_op; go_big_quiet_on))
  refine stabB_end HKd ?_
  intro w4 hr4 hE
  obtain ⟨_, cs9, hbox, hx9⟩ := (hE 8).2 rfl
  clear hE
  obtain ⟨na9, nc9, ka9, kc9, rfl, _, _⟩ := itmRep_open hx9
  have hg4 : Grow w w4 := hgw.inner hr4.1 (by intro i hi; omega)
  have r0 := hbox.cell 0 _ rfl
  have r1 := hbox.cell 1 _ rfl
  have r2 := hbox.cell 2 _ rfl
  have r3 := hbox.cell 3 _ rfl
  have r4 := hbox.cell 4 _ rfl
  have r5 := hbox.cell 5 _ rfl
  have r6 := hbox.cell 6 _ rfl
  go_wp2_with fail
  refine bodyPost_ret (v := .tuple #[packA (itmL s.1[k] na9 nc9 ka9 kc9), .bool true]) ?_ rfl ⟨_, by rw [Hgb.out], hg4, by rw [Hgi.out]; exact ⟨_, rfl, itmRep.mono (fun _ _ => trivial) hx9⟩⟩
  unfold packA itmL
  simp [results, Try.results50, go_sem, r0, r1, r2, r3, r4, r5, r6]

end Go.Proofs.Ytmeobmegnneegaa

/-
  The laws' helpers on one document, in the form of XUni.
-/
namespace Go.Proofs.Ytmeobmegnneegaa
open Go.RowKit

def itmV (x : Itm) (na : Option Addr) (nc : Nat) (ka : Option Addr) (kc : Nat) : Value := .agg #[.string x.1, .int .i64 x.2.1, .int .i64 x.2.2.kind, .int .i64 x.2.2.num, .string x.2.2.text, .slice na x.2.2.names.length nc, .slice ka x.2.2.kids.length kc]
theorem itm_open {w : World} {S : Nat → Prop} {x : Itm} {v : Value} (h : RV itmRep packA w S x v) : ∃ na nc ka kc, v = itmV x na nc ka kc ∧ x.1.size ≤ big ∧ NodeC w S x.2.2 na nc ka kc := by
  obtain ⟨cs, rfl, h⟩ := h
  obtain ⟨na, nc, ka, kc, rfl, h1, h2⟩ := itmRep_open h
  exact ⟨na, nc, ka, kc, rfl, h1, h2⟩
theorem openV_itm {w : World} {S : Nat → Prop} {x : Itm} {v : Value} (h : RV itmRep packA w S x v) : ∃ na nc ka kc, v = itmV x na nc ka kc := by
  obtain ⟨na, nc, ka, kc, h, _⟩ := itm_open h; exact ⟨na, nc, ka, kc, h⟩
theorem itm_openF {w : World} {x : Itm} {v : Value} {fp : List Nat} (h : FV itmRep packA w x v fp) : ∃ na nc ka kc, v = itmV x na nc ka kc ∧ x.1.size ≤ big ∧ NodeF w x.2.2 na nc ka kc fp := by
  obtain ⟨cs, rfl, _, _, f0, g0, rfl, rfl, ⟨rfl, h1, rfl⟩, _, _, f1, g1, rfl, rfl, ⟨rfl, rfl⟩, na, nc, ka, kc, rfl, h2⟩ := h
  exact ⟨na, nc, ka, kc, rfl, h1, by simpa using h2⟩
def cntItmT (x : Itm) : Nat := cntT x.2.2
def mkItmT (k : Nat) (x : Itm) : Itm := (x.1, x.2.1, mkT k x.2.2)
theorem cntItmT_le (x : Itm) : cntItmT x ≤ 3 * costItm x := by have := cntT_le x.2.2; unfold cntItmT costItm; omega
theorem gtI_cnt (s : Sto) (nm : ByteArray) : cntItmT (gtI s nm) ≤ 3 * costSto s := by
  have h0 : cntItmT Itm.zero = 0 := by unfold cntItmT cntT Itm.zero Nd.zero; simp [cntL]
  unfold gtI
  split
  · rw [List.getD_getElem?]
    split
    · rename_i h
      have h1 := cntItmT_le s.1[lbound (nmL s.1) nm]
      have h2 := costItm_get s.1 _ h
      unfold costSto; omega
    · rw [h0]; omega
  · rw [h0]; omega
theorem uEqItm (x : Itm) (v u : Value) (w : World) (h : RV itmRep packA w any x v) (h' : RV itmRep packA w any x u) :
    Calls Try.prog 57 #[v, u] w fun e w' => e = .returned (.bool true) ∧ Grow w w' := by
  obtain ⟨cs, rfl, h⟩ := h
  obtain ⟨ds, rfl, h'⟩ := h'
  exact eqItem_same x cs ds w h h'

set_option maxRecDepth 100000 in
set_option maxHeartbeats 1000000 in
theorem uMarkItm (x : Itm) (v : Value) (fp : List Nat) (B k : Nat) (i : Int) (w : World) (hi : i = (k : Int)) (hF : FV itmRep packA w x v fp) (hfr : Free B w fp) (h1 : 0 < k) (h2 : k + cntItmT x ≤ 1000000000) :
    Calls Try.prog 58 #[v, .int .i64 i] w fun e w' => e = .returned (.int .i64 ((k + cntItmT x : Nat) : Int)) ∧ Ext (inl fp) w w' ∧ Free B w' fp ∧ FV itmRep packA w' (mkItmT k x) v fp := by
  obtain ⟨na, nc, ka, kc, rfl, hsz, hN⟩ := itm_openF hF
  subst hi
  have HN := Lib.hid hN
  have Hfr := Lib.hid hfr
  have Hsz := Lib.hid hsz
  unfold cntItmT at *
  clear hN hfr hF hsz
  unfold itmV
  go_enter Try.func58, Try.ntmps58
  go_wp2_with fail
  have hg : Grow w (w.alloc (.cells #[.string x.1, .int .i64 x.2.1, .int .i64 x.2.2.kind, .int .i64 x.2.2.num, .string x.2.2.text, .slice na x.2.2.names.length nc, .slice ka x.2.2.kids.length kc] 62)) := (Ext.refl nil w).alloc _
  refine (markNode_ok x.2.2 na nc ka kc fp B k _ _ rfl (HN.out.keep (hg.keeps Hfr.out (fun _ _ h => h))) (Hfr.out.ext hg (fun _ _ h => h)) h1 h2).mono ?_
  rintro e w2 ⟨rfl, he, hf, hF⟩
  have Hf := Lib.hid hf
  have HF := Lib.hid hF
  have He := Lib.hid ((hg.toX' (X := inl fp)).trans he)
  clear hf hF he hg
  go_wp2_with fail
  go_ret
  refine ⟨rfl, He.out, Hf.out, ?_⟩
  have := itmRep_shutF (x := mkItmT k x) Hsz.out HF.out
  refine ⟨_, ?_, this⟩
  unfold packA itmL mkItmT mkT
  simp only [mkS_len, mkL_len]

set_option maxRecDepth 100000 in
set_option maxHeartbeats 1000000 in
theorem uHeldItm (x : Itm) (v : Value) (k : Nat) (i : Int) (w : World) (hi : i = (k : Int)) (h : RV itmRep packA w any (mkItmT k x) v) (h1 : 0 < k) (h2 : k + cntItmT x ≤ 1000000000) :
    Calls Try.prog 59 #[v, .int .i64 i] w fun e w' => e = .returned (.int .i64 ((k + cntItmT x : Nat) : Int)) ∧ Grow w w' := by
  obtain ⟨na, nc, ka, kc, rfl, hsz, hN⟩ := itm_open h
  subst hi
  unfold cntItmT at *
  have HN := Lib.hid hN
  clear h hN hsz
  have hc : Hid (∀ w', Grow w w' → Calls Try.prog 107 #[nodeV (mkT k x.2.2) na nc ka kc, .int .i64 ((k : Nat) : Int)] w' fun e w' => e = .returned (.int .i64 ((k + cntT x.2.2 : Nat) : Int)) ∧ Grow _ w') := Lib.hid (fun w' hg => heldNode_ok x.2.2 na nc ka kc k _ w' rfl ⟨_, _, _, _, rfl, HN.out.ext hg (fun _ _ h => h)⟩ h1 h2)
  unfold nodeV at hc
  unfold itmV mkItmT
  go_enter Try.func59, Try.ntmps59
  go_wp2_with fail
  refine (hc.out _ (by repeat (first | with_reducible exact Ext.refl _ _ | with_reducible refine Ext.trans ?_ (by assumption) | with_reducible refine Ext.drew ?_ | with_reducible refine Ext.drewN ?_ _ | with_reducible refine Ext.alloc ?_ _ | with_reducible refine Ext.setNew ?_ (by simp; done) _ | with_reducible refine Ext.setNew ?_ (by simp; omega) _))).mono ?_
  rintro e w2 ⟨rfl, hg2⟩
  have kk : ¬ (((k + cntT x.2.2 : Nat) : Int) < 0) := by omega
  go_wp2_with fail
  go_ret
  exact ⟨rfl, (by repeat (first | with_reducible exact Ext.refl _ _ | with_reducible refine Ext.trans ?_ (by assumption) | with_reducible refine Ext.drew ?_ | with_reducible refine Ext.drewN ?_ _ | with_reducible refine Ext.alloc ?_ _ | with_reducible refine Ext.setNew ?_ (by simp; done) _ | with_reducible refine Ext.setNew ?_ (by simp; omega) _))⟩

end Go.Proofs.Ytmeobmegnneegaa

/-
  The walk of the law FnExactGetItem. (Printed by wip/genlaw.py.)
-/
namespace Go.Proofs.Ytmeobmegnneegaa
open Go.RowKit

set_option maxRecDepth 100000 in
set_option maxHeartbeats 4000000 in
theorem lawGetI_long1 (s : Sto) (nm : ByteArray) (v0 : Value) (w : World) (h0 : RV stoRep packA w any s v0) (hs : ¬ nm.size ≤ 1048576) (hb : nm.size ≤ big) :
    Calls Try.prog 13 #[v0, .string nm] w fun e w' => e = .returned (.bool true) ∧ Grow w w' := by
  unfold big at hb
  have hs' : (1048576 : Int) < (nm.size : Int) := by omega
  have HV0 := Lib.hid h0
  obtain ⟨a0, c0, rfl⟩ := openV_sto h0
  clear h0
  unfold stoV at *
  go_enter Try.func13, Try.ntmps13
  go_wp2_with fail
  go_ret
  exact ⟨by simp, (by repeat (first | with_reducible exact Ext.refl _ _ | with_reducible refine Ext.trans ?_ (by assumption) | with_reducible refine Ext.drew ?_ | with_reducible refine Ext.drewN ?_ _ | with_reducible refine Ext.alloc ?_ _ | with_reducible refine Ext.setNew ?_ (by simp; done) _ | with_reducible refine Ext.setNew ?_ (by simp; omega) _))⟩

set_option maxRecDepth 100000 in
set_option maxHeartbeats 4000000 in
theorem lawGetI_big (s : Sto) (nm : ByteArray) (v0 : Value) (w : World) (h0 : RV stoRep packA w any s v0) (hq1 : nm.size ≤ 1048576) (hbig : ¬ costSto s ≤ 1048576) :
    Calls Try.prog 13 #[v0, .string nm] w fun e w' => e = .returned (.bool true) ∧ Grow w w' := by
  have HV0 := Lib.hid h0
  obtain ⟨a0, c0, rfl⟩ := openV_sto h0
  clear h0
  unfold stoV at *
  by_cases c0 : (costSto s : Int) ≤ 1048576
  rotate_left
  ·
    have Hs0 := Lib.hid (szR_neg (c := costSto s) (left := 1048576) (by omega))
    clear c0 hbig
    have HB0 := Lib.hid (BoxN.new w [.slice a0 s.1.length c0, .int .i64 s.2] 24)
    go_enter Try.func13, Try.ntmps13
    go_wp2_with fail
    refine (uSzSto s _ _ _ (by omega) (by omega) (HV0.out.grow (by repeat (first | with_reducible exact Ext.refl _ _ | with_reducible refine Ext.trans ?_ (by assumption) | with_reducible refine Ext.drew ?_ | with_reducible refine Ext.drewN ?_ _ | with_reducible refine Ext.alloc ?_ _ | with_reducible refine Ext.setNew ?_ (by simp; done) _ | with_reducible refine Ext.setNew ?_ (by simp; omega) _)))).mono ?_
    rintro e w1 ⟨rfl, hg1⟩
    simp only [Hs0.out]
    have z1 := hg1.size
    try simp only [World.size_alloc] at z1
    go_wp2_with fail
    go_ret
    exact ⟨by simp, (by repeat (first | with_reducible exact Ext.refl _ _ | with_reducible refine Ext.trans ?_ (by assumption) | with_reducible refine Ext.drew ?_ | with_reducible refine Ext.drewN ?_ _ | with_reducible refine Ext.alloc ?_ _ | with_reducible refine Ext.setNew ?_ (by simp; done) _ | with_reducible refine Ext.setNew ?_ (by simp; omega) _))⟩
  have Hs0 := Lib.hid (szR_pos (c := costSto s) (left := 1048576) (by omega))
  omega

set_option maxRecDepth 100000 in
set_option maxHeartbeats 16000000 in
theorem lawGetI_main (s : Sto) (nm : ByteArray) (v0 : Value) (w : World) (h0 : RV stoRep packA w any s v0) (hq1 : nm.size ≤ 1048576) (hcost : costSto s ≤ 1048576) :
    Calls Try.prog 13 #[v0, .string nm] w fun e w' => e = .returned (.bool true) ∧ Grow w w' := by
  have HV0 := Lib.hid h0
  obtain ⟨a0, c0, rfl⟩ := openV_sto h0
  clear h0
  unfold stoV at *
  have Hs0 := Lib.hid (szR_pos (c := costSto s) (left := 1048576) (by omega))
  have C0 : Hid (costSto s ≤ 1048576) := Lib.hid (by omega)
  have HB0 := Lib.hid (BoxN.new w [.slice a0 s.1.length c0, .int .i64 s.2] 24)
  go_enter Try.func13, Try.ntmps13
  go_wp2_with fail
  refine (uSzSto s _ _ _ (by omega) (by omega) (HV0.out.grow (by repeat (first | with_reducible exact Ext.refl _ _ | with_reducible refine Ext.trans ?_ (by assumption) | with_reducible refine Ext.drew ?_ | with_reducible refine Ext.drewN ?_ _ | with_reducible refine Ext.alloc ?_ _ | with_reducible refine Ext.setNew ?_ (by simp; done) _ | with_reducible refine Ext.setNew ?_ (by simp; omega) _)))).mono ?_
  rintro e w1 ⟨rfl, hg1⟩
  simp only [Hs0.out]
  have z1 := hg1.size
  try simp only [World.size_alloc] at z1
  have pB := HB0.out.grow (w' := w1) (by repeat (first | with_reducible exact Ext.refl _ _ | with_reducible refine Ext.trans ?_ (by assumption) | with_reducible refine Ext.drew ?_ | with_reducible refine Ext.drewN ?_ _ | with_reducible refine Ext.alloc ?_ _ | with_reducible refine Ext.setNew ?_ (by simp; done) _ | with_reducible refine Ext.setNew ?_ (by simp; omega) _))
  have p0 := pB.cell 0 _ rfl; have p1 := pB.cell 1 _ rfl
  go_wp2_with fail
  refine (uToSto s _ _ C0.out (HV0.out.grow (by repeat (first | with_reducible exact Ext.refl _ _ | with_reducible refine Ext.trans ?_ (by assumption) | with_reducible refine Ext.drew ?_ | with_reducible refine Ext.drewN ?_ _ | with_reducible refine Ext.alloc ?_ _ | with_reducible refine Ext.setNew ?_ (by simp; done) _ | with_reducible refine Ext.setNew ?_ (by simp; omega) _)))).mono ?_
  rintro e w2 ⟨us, fs, rfl, hg2, hF, hfr⟩
  have z2 := hg2.size
  try simp only [World.size_alloc] at z2
  have RUs := Lib.hid hF.rv
  clear hF hfr p0 p1 pB
  go_wp2_with fail
  refine (specGetItem_ok s nm _ _ (by unfold big; omega) RUs.out).mono ?_
  rintro e w3 ⟨rs, rfl, hg3, hR⟩
  have z3 := hg3.size
  try simp only [World.size_alloc] at z3
  have RW := Lib.hid hR.under
  obtain ⟨nas, ncs, kas, kcs, rfl⟩ := openV_itm hR
  unfold itmV
  clear hR
  have HBs := Lib.hid (BoxN.new w3 [.string (gtI s nm).1, .int .i64 (gtI s nm).2.1, .int .i64 (gtI s nm).2.2.kind, .int .i64 (gtI s nm).2.2.num, .string (gtI s nm).2.2.text, .slice nas (gtI s nm).2.2.names.length ncs, .slice kas (gtI s nm).2.2.kids.length kcs] 62)
  have ys : w3.heap.size ≤ w3.heap.size := Nat.le_refl _
  have hpB := HB0.out.grow (w' := w3) (by repeat (first | with_reducible exact Ext.refl _ _ | with_reducible refine Ext.trans ?_ (by assumption) | with_reducible refine Ext.drew ?_ | with_reducible refine Ext.drewN ?_ _ | with_reducible refine Ext.alloc ?_ _ | with_reducible refine Ext.setNew ?_ (by simp; done) _ | with_reducible refine Ext.setNew ?_ (by simp; omega) _))
  have p0 := hpB.cell 0 _ rfl; have p1 := hpB.cell 1 _ rfl; have pz := hpB.lt
  go_wp2_with fail
  refine (uToSto s _ _ C0.out (HV0.out.grow (by repeat (first | with_reducible exact Ext.refl _ _ | with_reducible refine Ext.trans ?_ (by assumption) | with_reducible refine Ext.drew ?_ | with_reducible refine Ext.drewN ?_ _ | with_reducible refine Ext.alloc ?_ _ | with_reducible refine Ext.setNew ?_ (by simp; done) _ | with_reducible refine Ext.setNew ?_ (by simp; omega) _)))).mono ?_
  rintro e w4 ⟨y0, f0, rfl, hg4, hF, hfr⟩
  have z4 := hg4.size
  try simp only [World.size_alloc] at z4
  try simp only [World.size_alloc] at hfr
  have F0 := Lib.hid hF
  have S0 := Lib.hid (Seg.of hfr)
  obtain ⟨ax0, cx0, rfl⟩ := openV_sto hF.rv
  unfold stoV at *
  clear hF hfr p0 p1 hpB pz
  have HBx0 := Lib.hid (BoxN.new w4 [.slice ax0 s.1.length cx0, .int .i64 s.2] 33)
  go_wp2_with fail
  refine (implGetItem_ok s nm _ _ (by unfold big; omega) (F0.out.rv.grow (by repeat (first | with_reducible exact Ext.refl _ _ | with_reducible refine Ext.trans ?_ (by assumption) | with_reducible refine Ext.drew ?_ | with_reducible refine Ext.drewN ?_ _ | with_reducible refine Ext.alloc ?_ _ | with_reducible refine Ext.setNew ?_ (by simp; done) _ | with_reducible refine Ext.setNew ?_ (by simp; omega) _)))).mono ?_
  rintro e w5 ⟨rg, fg, rfl, hg5, hF, hfr⟩
  have z5 := hg5.size
  try simp only [World.size_alloc] at z5
  try simp only [World.size_alloc] at hfr
  have FG := Lib.hid hF
  have SG := Lib.hid (Seg.of hfr)
  obtain ⟨nag, ncg, kag, kcg, rfl⟩ := openV_itm hF.rv
  unfold itmV at *
  have HBg := Lib.hid (BoxN.new w5 [.string (gtI s nm).1, .int .i64 (gtI s nm).2.1, .int .i64 (gtI s nm).2.2.kind, .int .i64 (gtI s nm).2.2.num, .string (gtI s nm).2.2.text, .slice nag (gtI s nm).2.2.names.length ncg, .slice kag (gtI s nm).2.2.kids.length kcg] 62)
  clear hF hfr
  have tB := HBs.out.grow (w' := w5) (by repeat (first | with_reducible exact Ext.refl _ _ | with_reducible refine Ext.trans ?_ (by assumption) | with_reducible refine Ext.drew ?_ | with_reducible refine Ext.drewN ?_ _ | with_reducible refine Ext.alloc ?_ _ | with_reducible refine Ext.setNew ?_ (by simp; done) _ | with_reducible refine Ext.setNew ?_ (by simp; omega) _))
  have t0 := tB.cell 0 _ rfl; have t1 := tB.cell 1 _ rfl; have t2 := tB.cell 2 _ rfl; have t3 := tB.cell 3 _ rfl; have t4 := tB.cell 4 _ rfl; have t5 := tB.cell 5 _ rfl; have t6 := tB.cell 6 _ rfl; have tz := tB.lt
  go_wp2_with fail
  refine (uEqItm ((gtI s nm)) _ _ _ (FG.out.rv.grow (by repeat (first | with_reducible exact Ext.refl _ _ | with_reducible refine Ext.trans ?_ (by assumption) | with_reducible refine Ext.drew ?_ | with_reducible refine Ext.drewN ?_ _ | with_reducible refine Ext.alloc ?_ _ | with_reducible refine Ext.setNew ?_ (by simp; done) _ | with_reducible refine Ext.setNew ?_ (by simp; omega) _))) (RW.out.any.grow (by repeat (first | with_reducible exact Ext.refl _ _ | with_reducible refine Ext.trans ?_ (by assumption) | with_reducible refine Ext.drew ?_ | with_reducible refine Ext.drewN ?_ _ | with_reducible refine Ext.alloc ?_ _ | with_reducible refine Ext.setNew ?_ (by simp; done) _ | with_reducible refine Ext.setNew ?_ (by simp; omega) _)))).mono ?_
  rintro e w6 ⟨rfl, hg6⟩
  have z6 := hg6.size
  try simp only [World.size_alloc] at z6
  clear t0 t1 t2 t3 t4 t5 t6 tB tz
  go_wp2_with fail
  have pB := HBx0.out.grow (w' := w6) (by repeat (first | with_reducible exact Ext.refl _ _ | with_reducible refine Ext.trans ?_ (by assumption) | with_reducible refine Ext.drew ?_ | with_reducible refine Ext.drewN ?_ _ | with_reducible refine Ext.alloc ?_ _ | with_reducible refine Ext.setNew ?_ (by simp; done) _ | with_reducible refine Ext.setNew ?_ (by simp; omega) _))
  have p0 := pB.cell 0 _ rfl; have p1 := pB.cell 1 _ rfl
  have qB := HB0.out.grow (w' := w6) (by repeat (first | with_reducible exact Ext.refl _ _ | with_reducible refine Ext.trans ?_ (by assumption) | with_reducible refine Ext.drew ?_ | with_reducible refine Ext.drewN ?_ _ | with_reducible refine Ext.alloc ?_ _ | with_reducible refine Ext.setNew ?_ (by simp; done) _ | with_reducible refine Ext.setNew ?_ (by simp; omega) _))
  have q0 := qB.cell 0 _ rfl; have q1 := qB.cell 1 _ rfl
  refine wp_region_stab Grow (fun i => if i = 2 then some (fun v w' => RV stoRep packA w' any s v) else if i = 3 then some (fun v _ => v = .bool true) else none) (by kernel_rfl) (by kernel_rfl) ⟨Ext.refl nil, fun _ _ h1 h2 => h2.trans h1, ?_⟩ ?_
  · intro i V hV v w1 w2 hr hv
    by_cases h1 : i = 2
    · simp only [h1, if_true, Option.some.injEq] at hV; subst hV; exact RV.grow hv hr
    · by_cases h3 : i = 3
      · simp [h3] at hV; subst hV; exact hv
      · simp [h1, h3] at hV
  (refine wpStab_quiet (by kernel_rfl) (by kernel_rfl) (by simp) ?_; intro K hK; go_big_quiet_op; go_big_quiet_on)
  (refine wpStab_quiet (by kernel_rfl) (by kernel_rfl) (by simp) ?_; intro K hK; go_big_quiet_op; go_big_quiet_on)
  refine wpStab_made (fun v w' => RV stoRep packA w' any s v) ?_ ?_ ?_ ?_
  · go_simp
  · simp
  · intro y _
    refine stabAt_call (f := 25) (args := #[.agg #[.slice a0 s.1.length c0, .int .i64 s.2]]) ?_ ?_
    · go_simp
    · refine (uToSto s _ _ C0.out (HV0.out.grow (((by repeat (first | with_reducible exact Ext.refl _ _ | with_reducible refine Ext.trans ?_ (by assumption) | with_reducible refine Ext.drew ?_ | with_reducible refine Ext.drewN ?_ _ | with_reducible refine Ext.alloc ?_ _ | with_reducible refine Ext.setNew ?_ (by simp; done) _ | with_reducible refine Ext.setNew ?_ (by simp; omega) _)) : Grow w w6).trans (later_grow _ _)))).mono ?_
      rintro e w' ⟨v', fp, rfl, hg, hF, _⟩
      exact ⟨_, rfl, hg, hF.rv⟩
  intro vt
  go_frame
  refine wpStab_const (.bool true) ?_ ?_ ?_ ?_
  · go_simp
  · simp
  · intro y hE
    have Hr6 : RV stoRep packA (later w6 y) any s vt := (hE ⟨2, .data⟩ (by simp) (by decide)).2 rfl
    clear hE
    refine stabAt_call (f := 28) (args := #[.agg #[.slice ax0 s.1.length cx0, .int .i64 s.2], vt]) ?_ ?_
    · go_simp
    · refine (uEqSto s _ _ _ (F0.out.rv.grow (((by repeat (first | with_reducible exact Ext.refl _ _ | with_reducible refine Ext.trans ?_ (by assumption) | with_reducible refine Ext.drew ?_ | with_reducible refine Ext.drewN ?_ _ | with_reducible refine Ext.alloc ?_ _ | with_reducible refine Ext.setNew ?_ (by simp; done) _ | with_reducible refine Ext.setNew ?_ (by simp; omega) _)) : Grow _ w6).trans (later_grow _ _))) Hr6).mono ?_
      rintro e w' ⟨rfl, hg⟩
      exact ⟨_, rfl, hg, rfl⟩
  go_frame
  (refine wpStab_quiet (by kernel_rfl) (by kernel_rfl) (by simp) ?_; intro K hK; go_big_quiet_op; go_big_quiet_on)
  refine wpStab_end ?_
  intro w7 hg7
  clear p0 p1 pB q0 q1 qB
  have z7 := hg7.size
  replace F0 := Lib.hid (F0.out.grow S0.out (w' := w7) (by repeat (first | with_reducible exact Ext.refl _ _ | with_reducible refine Ext.trans ?_ (by assumption) | with_reducible refine Ext.drew ?_ | with_reducible refine Ext.drewN ?_ _ | with_reducible refine Ext.alloc ?_ _ | with_reducible refine Ext.setNew ?_ (by simp; done) _ | with_reducible refine Ext.setNew ?_ (by simp; omega) _)))
  replace S0 := Lib.hid (S0.out.grow (w' := w7) (by repeat (first | with_reducible exact Ext.refl _ _ | with_reducible refine Ext.trans ?_ (by assumption) | with_reducible refine Ext.drew ?_ | with_reducible refine Ext.drewN ?_ _ | with_reducible refine Ext.alloc ?_ _ | with_reducible refine Ext.setNew ?_ (by simp; done) _ | with_reducible refine Ext.setNew ?_ (by simp; omega) _)))
  replace FG := Lib.hid (FG.out.grow SG.out (w' := w7) (by repeat (first | with_reducible exact Ext.refl _ _ | with_reducible refine Ext.trans ?_ (by assumption) | with_reducible refine Ext.drew ?_ | with_reducible refine Ext.drewN ?_ _ | with_reducible refine Ext.alloc ?_ _ | with_reducible refine Ext.setNew ?_ (by simp; done) _ | with_reducible refine Ext.setNew ?_ (by simp; omega) _)))
  replace SG := Lib.hid (SG.out.grow (w' := w7) (by repeat (first | with_reducible exact Ext.refl _ _ | with_reducible refine Ext.trans ?_ (by assumption) | with_reducible refine Ext.drew ?_ | with_reducible refine Ext.drewN ?_ _ | with_reducible refine Ext.alloc ?_ _ | with_reducible refine Ext.setNew ?_ (by simp; done) _ | with_reducible refine Ext.setNew ?_ (by simp; omega) _)))
  replace RW := Lib.hid (RW.out.grow (w' := w7) (by repeat (first | with_reducible exact Ext.refl _ _ | with_reducible refine Ext.trans ?_ (by assumption) | with_reducible refine Ext.drew ?_ | with_reducible refine Ext.drewN ?_ _ | with_reducible refine Ext.alloc ?_ _ | with_reducible refine Ext.setNew ?_ (by simp; done) _ | with_reducible refine Ext.setNew ?_ (by simp; omega) _)))
  replace HB0 := Lib.hid (HB0.out.grow (w' := w7) (by repeat (first | with_reducible exact Ext.refl _ _ | with_reducible refine Ext.trans ?_ (by assumption) | with_reducible refine Ext.drew ?_ | with_reducible refine Ext.drewN ?_ _ | with_reducible refine Ext.alloc ?_ _ | with_reducible refine Ext.setNew ?_ (by simp; done) _ | with_reducible refine Ext.setNew ?_ (by simp; omega) _)))
  replace HBx0 := Lib.hid (HBx0.out.grow (w' := w7) (by repeat (first | with_reducible exact Ext.refl _ _ | with_reducible refine Ext.trans ?_ (by assumption) | with_reducible refine Ext.drew ?_ | with_reducible refine Ext.drewN ?_ _ | with_reducible refine Ext.alloc ?_ _ | with_reducible refine Ext.setNew ?_ (by simp; done) _ | with_reducible refine Ext.setNew ?_ (by simp; omega) _)))
  replace HBs := Lib.hid (HBs.out.grow (w' := w7) (by repeat (first | with_reducible exact Ext.refl _ _ | with_reducible refine Ext.trans ?_ (by assumption) | with_reducible refine Ext.drew ?_ | with_reducible refine Ext.drewN ?_ _ | with_reducible refine Ext.alloc ?_ _ | with_reducible refine Ext.setNew ?_ (by simp; done) _ | with_reducible refine Ext.setNew ?_ (by simp; omega) _)))
  replace HBg := Lib.hid (HBg.out.grow (w' := w7) (by repeat (first | with_reducible exact Ext.refl _ _ | with_reducible refine Ext.trans ?_ (by assumption) | with_reducible refine Ext.drew ?_ | with_reducible refine Ext.drewN ?_ _ | with_reducible refine Ext.alloc ?_ _ | with_reducible refine Ext.setNew ?_ (by simp; done) _ | with_reducible refine Ext.setNew ?_ (by simp; omega) _)))
  have lHB0 := HB0.out.lt
  have lHBx0 := HBx0.out.lt
  have lHBs := HBs.out.lt
  have lHBg := HBg.out.lt
  have hgA : Grow w w7 := (by repeat (first | with_reducible exact Ext.refl _ _ | with_reducible refine Ext.trans ?_ (by assumption) | with_reducible refine Ext.drew ?_ | with_reducible refine Ext.drewN ?_ _ | with_reducible refine Ext.alloc ?_ _ | with_reducible refine Ext.setNew ?_ (by simp; done) _ | with_reducible refine Ext.setNew ?_ (by simp; omega) _))
  clear hg1 hg2 hg3 hg4 hg5 hg6 hg7
  have m0 := cntSto_le s
  have mg := gtI_cnt s nm
  have p0 := HBx0.out.cell 0 _ rfl; have p1 := HBx0.out.cell 1 _ rfl
  go_wp2_with fail
  refine (uMarkSto s _ f0 _ (1) _ _ (by rfl) F0.out S0.out.1 (by omega) (by omega)).mono ?_
  rintro e w8 ⟨rfl, hx, _, _⟩
  clear p0 p1
  replace FG := Lib.hid (FG.out.keep (SG.out.keeps S0.out (by omega) hx))
  replace SG := Lib.hid (SG.out.ext S0.out (by omega) hx)
  replace HB0 := Lib.hid (S0.out.box HB0.out hx (by omega))
  replace HBx0 := Lib.hid (S0.out.box HBx0.out hx (by omega))
  replace HBs := Lib.hid (S0.out.box HBs.out hx (by omega))
  replace HBg := Lib.hid (S0.out.box HBg.out hx (by omega))
  replace RW := Lib.hid (S0.out.rv RW.out hx (by omega))
  replace hgA := S0.out.inner hgA hx (by omega)
  clear hx F0
  have r0 := HBg.out.cell 0 _ rfl; have r1 := HBg.out.cell 1 _ rfl; have r2 := HBg.out.cell 2 _ rfl; have r3 := HBg.out.cell 3 _ rfl; have r4 := HBg.out.cell 4 _ rfl; have r5 := HBg.out.cell 5 _ rfl; have r6 := HBg.out.cell 6 _ rfl
  have t0 := HBs.out.cell 0 _ rfl; have t1 := HBs.out.cell 1 _ rfl; have t2 := HBs.out.cell 2 _ rfl; have t3 := HBs.out.cell 3 _ rfl; have t4 := HBs.out.cell 4 _ rfl; have t5 := HBs.out.cell 5 _ rfl; have t6 := HBs.out.cell 6 _ rfl
  go_wp2_with fail
  refine (uEqItm ((gtI s nm)) _ _ _ FG.out.rv RW.out.any).mono ?_
  rintro e w9 ⟨rfl, hg⟩
  clear r0 r1 r2 r3 r4 r5 r6 t0 t1 t2 t3 t4 t5 t6
  replace FG := Lib.hid (FG.out.grow SG.out hg)
  replace SG := Lib.hid (SG.out.grow hg)
  replace RW := Lib.hid (RW.out.grow hg)
  replace HB0 := Lib.hid (HB0.out.grow hg)
  replace HBx0 := Lib.hid (HBx0.out.grow hg)
  replace HBs := Lib.hid (HBs.out.grow hg)
  replace HBg := Lib.hid (HBg.out.grow hg)
  replace hgA := hgA.trans hg
  clear hg
  have r0 := HBg.out.cell 0 _ rfl; have r1 := HBg.out.cell 1 _ rfl; have r2 := HBg.out.cell 2 _ rfl; have r3 := HBg.out.cell 3 _ rfl; have r4 := HBg.out.cell 4 _ rfl; have r5 := HBg.out.cell 5 _ rfl; have r6 := HBg.out.cell 6 _ rfl
  go_wp2_with fail
  refine (uMarkItm ((gtI s nm)) _ fg _ 1 _ _ (by rfl) FG.out SG.out.1 (by omega) (by omega)).mono ?_
  rintro e w10 ⟨rfl, hx, hfr, hF⟩
  clear r0 r1 r2 r3 r4 r5 r6
  replace HB0 := Lib.hid (SG.out.box HB0.out hx (by omega))
  replace HBx0 := Lib.hid (SG.out.box HBx0.out hx (by omega))
  replace HBs := Lib.hid (SG.out.box HBs.out hx (by omega))
  replace HBg := Lib.hid (SG.out.box HBg.out hx (by omega))
  replace RW := Lib.hid (SG.out.rv RW.out hx (by omega))
  replace hgA := SG.out.inner hgA hx (by omega)
  replace FG := Lib.hid hF
  replace SG := Lib.hid (SG.out.marked hfr)
  clear hx hfr hF
  have r0 := HBg.out.cell 0 _ rfl; have r1 := HBg.out.cell 1 _ rfl; have r2 := HBg.out.cell 2 _ rfl; have r3 := HBg.out.cell 3 _ rfl; have r4 := HBg.out.cell 4 _ rfl; have r5 := HBg.out.cell 5 _ rfl; have r6 := HBg.out.cell 6 _ rfl
  go_wp2_with fail
  refine (uHeldItm ((gtI s nm)) _ 1 _ _ (by rfl) FG.out.rv (by omega) (by omega)).mono ?_
  rintro e w11 ⟨rfl, hg⟩
  clear r0 r1 r2 r3 r4 r5 r6
  replace FG := Lib.hid (FG.out.grow SG.out hg)
  replace SG := Lib.hid (SG.out.grow hg)
  replace RW := Lib.hid (RW.out.grow hg)
  replace HB0 := Lib.hid (HB0.out.grow hg)
  replace HBx0 := Lib.hid (HBx0.out.grow hg)
  replace HBs := Lib.hid (HBs.out.grow hg)
  replace HBg := Lib.hid (HBg.out.grow hg)
  replace hgA := hgA.trans hg
  clear hg
  have hbb : ((1 + cntItmT ((gtI s nm)) : Nat) != (1 + cntItmT ((gtI s nm)) : Nat)) = false := by simp
  have hgc := hgA
  have pB := HB0.out.grow (w' := w11) (by repeat (first | with_reducible exact Ext.refl _ _ | with_reducible refine Ext.trans ?_ (by assumption) | with_reducible refine Ext.drew ?_ | with_reducible refine Ext.drewN ?_ _ | with_reducible refine Ext.alloc ?_ _ | with_reducible refine Ext.setNew ?_ (by simp; done) _ | with_reducible refine Ext.setNew ?_ (by simp; omega) _))
  have p0 := pB.cell 0 _ rfl; have p1 := pB.cell 1 _ rfl
  go_wp2_with fail
  refine (uToSto s _ _ C0.out (HV0.out.grow (by repeat (first | with_reducible exact Ext.refl _ _ | with_reducible refine Ext.trans ?_ (by assumption) | with_reducible refine Ext.drew ?_ | with_reducible refine Ext.drewN ?_ _ | with_reducible refine Ext.alloc ?_ _ | with_reducible refine Ext.setNew ?_ (by simp; done) _ | with_reducible refine Ext.setNew ?_ (by simp; omega) _)))).mono ?_
  rintro e w12 ⟨uh, fh, rfl, hg12, hF, hfr⟩
  have z12 := hg12.size
  try simp only [World.size_alloc] at z12
  have RUh := Lib.hid hF.rv
  clear hF hfr p0 p1 pB
  go_wp2_with fail
  refine (implGetItem_ok s nm _ _ (by unfold big; omega) RUh.out).mono ?_
  rintro e w13 ⟨rh, fh, rfl, hg13, hF, hfr⟩
  have z13 := hg13.size
  try simp only [World.size_alloc] at z13
  have hR := hF.rv
  clear hF hfr
  have RH := Lib.hid hR
  obtain ⟨nah, nch, kah, kch, rfl⟩ := openV_itm hR
  unfold itmV
  have HBh := Lib.hid (BoxN.new w13 [.string (gtI s nm).1, .int .i64 (gtI s nm).2.1, .int .i64 (gtI s nm).2.2.kind, .int .i64 (gtI s nm).2.2.num, .string (gtI s nm).2.2.text, .slice nah (gtI s nm).2.2.names.length nch, .slice kah (gtI s nm).2.2.kids.length kch] 62)
  clear hR
  have tB := HBs.out.grow (w' := w13) (by repeat (first | with_reducible exact Ext.refl _ _ | with_reducible refine Ext.trans ?_ (by assumption) | with_reducible refine Ext.drew ?_ | with_reducible refine Ext.drewN ?_ _ | with_reducible refine Ext.alloc ?_ _ | with_reducible refine Ext.setNew ?_ (by simp; done) _ | with_reducible refine Ext.setNew ?_ (by simp; omega) _))
  have t0 := tB.cell 0 _ rfl; have t1 := tB.cell 1 _ rfl; have t2 := tB.cell 2 _ rfl; have t3 := tB.cell 3 _ rfl; have t4 := tB.cell 4 _ rfl; have t5 := tB.cell 5 _ rfl; have t6 := tB.cell 6 _ rfl; have tz := tB.lt
  go_wp2_with fail
  refine (uEqItm ((gtI s nm)) _ _ _ (RH.out.grow (by repeat (first | with_reducible exact Ext.refl _ _ | with_reducible refine Ext.trans ?_ (by assumption) | with_reducible refine Ext.drew ?_ | with_reducible refine Ext.drewN ?_ _ | with_reducible refine Ext.alloc ?_ _ | with_reducible refine Ext.setNew ?_ (by simp; done) _ | with_reducible refine Ext.setNew ?_ (by simp; omega) _))) (RW.out.any.grow (by repeat (first | with_reducible exact Ext.refl _ _ | with_reducible refine Ext.trans ?_ (by assumption) | with_reducible refine Ext.drew ?_ | with_reducible refine Ext.drewN ?_ _ | with_reducible refine Ext.alloc ?_ _ | with_reducible refine Ext.setNew ?_ (by simp; done) _ | with_reducible refine Ext.setNew ?_ (by simp; omega) _)))).mono ?_
  rintro e w14 ⟨rfl, hg14⟩
  have z14 := hg14.size
  try simp only [World.size_alloc] at z14
  clear t0 t1 t2 t3 t4 t5 t6 tB tz
  have rB := HBg.out.grow (w' := w14) (by repeat (first | with_reducible exact Ext.refl _ _ | with_reducible refine Ext.trans ?_ (by assumption) | with_reducible refine Ext.drew ?_ | with_reducible refine Ext.drewN ?_ _ | with_reducible refine Ext.alloc ?_ _ | with_reducible refine Ext.setNew ?_ (by simp; done) _ | with_reducible refine Ext.setNew ?_ (by simp; omega) _))
  have r0 := rB.cell 0 _ rfl; have r1 := rB.cell 1 _ rfl; have r2 := rB.cell 2 _ rfl; have r3 := rB.cell 3 _ rfl; have r4 := rB.cell 4 _ rfl; have r5 := rB.cell 5 _ rfl; have r6 := rB.cell 6 _ rfl; have rz := rB.lt
  go_wp2_with fail
  refine (uHeldItm ((gtI s nm)) _ 1 _ _ (by rfl) (FG.out.rv.grow (by repeat (first | with_reducible exact Ext.refl _ _ | with_reducible refine Ext.trans ?_ (by assumption) | with_reducible refine Ext.drew ?_ | with_reducible refine Ext.drewN ?_ _ | with_reducible refine Ext.alloc ?_ _ | with_reducible refine Ext.setNew ?_ (by simp; done) _ | with_reducible refine Ext.setNew ?_ (by simp; omega) _))) (by omega) (by omega)).mono ?_
  rintro e w15 ⟨rfl, hg15⟩
  have z15 := hg15.size
  try simp only [World.size_alloc] at z15
  clear r0 r1 r2 r3 r4 r5 r6 rB rz
  go_wp2_with fail
  go_ret
  exact ⟨by simp, (by repeat (first | with_reducible exact Ext.refl _ _ | with_reducible refine Ext.trans ?_ (by assumption) | with_reducible refine Ext.drew ?_ | with_reducible refine Ext.drewN ?_ _ | with_reducible refine Ext.alloc ?_ _ | with_reducible refine Ext.setNew ?_ (by simp; done) _ | with_reducible refine Ext.setNew ?_ (by simp; omega) _))⟩

theorem lawGetI_ok (s : Sto) (nm : ByteArray) (v0 : Value) (w : World) (h0 : RV stoRep packA w any s v0) (hb1 : nm.size ≤ big) :
    Calls Try.prog 13 #[v0, .string nm] w fun e w' => e = .returned (.bool true) ∧ Grow w w' := by
  by_cases hq1 : nm.size ≤ 1048576
  rotate_left
  · exact lawGetI_long1 s nm v0 w h0 hq1 hb1
  by_cases hc : costSto s ≤ 1048576
  · exact lawGetI_main s nm v0 w h0 hq1 hc
  · exact lawGetI_big s nm v0 w h0 hq1 hc

end Go.Proofs.Ytmeobmegnneegaa

/-
  What an argument that is read as data tells of memory: texts, nodes.
-/
namespace Go.Proofs.Ytmeobmegnneegaa
open Go.RowKit Go.ChangeShapes Go.WideShapes Go.Deep

section
variable {H : Type} {enc : TypeId × Value → H} {W : World} {base : Nat} {sp : Nat → Bool} {held : Bool}

theorem addr_spot {w : World} {a : Addr} {v : Value} (h : w.cell? a = some v) : ∃ b o, a = ⟨b, o, none⟩ := by
  have := World.cell?_spot h
  exact ⟨a.block, a.off, by cases a; simp_all⟩

theorem add_mk (b o i : Nat) : (⟨b, o, none⟩ : Addr).add i = ⟨b, o + i, none⟩ := by
  unfold Addr.add; split
  · rename_i h; subst h; rfl
  · rfl

theorem open_strs' {fuel : Nat} {cs : List Value} {x : DataW H × List MemPlace} (h : DataW.trod enc Try.prog W base sp held fuel 25 cs = some x) :
    ∃ a c xs, cs = [.slice a xs.length c] ∧ StrsR W any a c xs := by
  rcases open_slice Try.underlying25 h with ⟨rfl, _⟩ | ⟨a, len, cap, m, n, D, Pl, rfl, _, hl, hm, hmm, _, hi⟩
  · exact ⟨none, 0, [], rfl, by simp, by simp, by simp, .inl rfl⟩
  · have hlm : len ≤ m := by rw [hmm]; split <;> omega
    have hel : ∀ i, i < len → ∃ s : ByteArray, W.cell? (a.add i) = some (.string s) ∧ s.size ≤ maxLen := fun i hi' => by
      obtain ⟨cs', h1, h2⟩ := hi i (by omega)
      have hc : Try.prog.cellsOf 9 = 1 := by kernel_rfl
      rw [hc] at h1
      obtain ⟨_, hlen, hat⟩ := World.cells?_some h1
      obtain ⟨s, rfl, _, hs⟩ := DataW.trod_string Try.underlying9 h2
      have := hat 0 (by omega)
      exact ⟨s, by simpa [Go.Deep.add_add] using this, hs⟩
    have : Inhabited ByteArray := ⟨ByteArray.empty⟩
    obtain ⟨f, hf⟩ := choose_lt hel
    refine ⟨some a, cap, (List.range len).map f, by simp, by simpa using hl, by simp; unfold maxLen at hm; unfold big; omega, ?_, ?_⟩
    · intro x hx
      obtain ⟨i, hi', rfl⟩ := List.mem_map.1 hx
      have := (hf i (List.mem_range.1 hi')).2
      unfold maxLen at this; unfold big; omega
    · by_cases h0 : len = 0
      · subst h0; exact .inl rfl
      · obtain ⟨b, o, ha⟩ := addr_spot (hf 0 (by omega)).1
        have ha' : a = ⟨b, o, none⟩ := by simpa [Addr.add] using ha
        subst ha'
        refine .inr ⟨b, o, rfl, trivial, fun i hi' => ?_⟩
        simp at hi'
        have := (hf i hi').1
        rw [add_mk] at this
        simpa using this

set_option maxRecDepth 100000 in
theorem open_node : ∀ (fuel : Nat) (cs : List Value) (x : DataW H × List MemPlace), DataW.trod enc Try.prog W base sp held fuel 28 cs = some x →
    ∃ n na nc ka kc, cs = [.int .i64 n.kind, .int .i64 n.num, .string n.text, .slice na n.names.length nc, .slice ka n.kids.length kc] ∧ NodeC W any n na nc ka kc := by
  intro fuel
  induction fuel using Nat.strongRecOn with
  | ind fuel ih =>
    intro cs x h
    obtain ⟨xs, n, rfl, _, hlen, hxs, hf⟩ := DataW.trod_struct Try.underlying28 h
    have hc : Try.prog.cellsOf 28 = 5 := by kernel_rfl
    have c3 : Try.prog.cellsOf 3 = 1 := by kernel_rfl
    have c9 : Try.prog.cellsOf 9 = 1 := by kernel_rfl
    have c23 : Try.prog.cellsOf 25 = 1 := by kernel_rfl
    have c57 : Try.prog.cellsOf 26 = 1 := by kernel_rfl
    rw [hc] at hlen
    match cs, hlen with
    | [v0, v1, v2, v3, v4], _ =>
      obtain ⟨y0, g0⟩ : ∃ y, DataW.trod enc Try.prog W base sp held n 3 [v0] = some y := ⟨xs[0]'(by simp at hxs; omega), by
        have h := hf 0 _ rfl
        rw [List.getElem?_eq_getElem (by simp at hxs; omega)] at h
        simpa [c3, c9, c23, c57] using h⟩
      obtain ⟨y1, g1⟩ : ∃ y, DataW.trod enc Try.prog W base sp held n 3 [v1] = some y := ⟨xs[1]'(by simp at hxs; omega), by
        have h := hf 1 _ rfl
        rw [List.getElem?_eq_getElem (by simp at hxs; omega)] at h
        simpa [c3, c9, c23, c57] using h⟩
      obtain ⟨y2, g2⟩ : ∃ y, DataW.trod enc Try.prog W base sp held n 9 [v2] = some y := ⟨xs[2]'(by simp at hxs; omega), by
        have h := hf 2 _ rfl
        rw [List.getElem?_eq_getElem (by simp at hxs; omega)] at h
        simpa [c3, c9, c23, c57] using h⟩
      obtain ⟨y3, g3⟩ : ∃ y, DataW.trod enc Try.prog W base sp held n 25 [v3] = some y := ⟨xs[3]'(by simp at hxs; omega), by
        have h := hf 3 _ rfl
        rw [List.getElem?_eq_getElem (by simp at hxs; omega)] at h
        simpa [c3, c9, c23, c57] using h⟩
      obtain ⟨y4, g4⟩ : ∃ y, DataW.trod enc Try.prog W base sp held n 26 [v4] = some y := ⟨xs[4]'(by simp at hxs; omega), by
        have h := hf 4 _ rfl
        rw [List.getElem?_eq_getElem (by simp at hxs; omega)] at h
        simpa [c3, c9, c23, c57] using h⟩
      clear hf
      obtain ⟨kind, e0, _, _⟩ := DataW.trod_int Try.underlying3 g0
      obtain ⟨num, e1, _, _⟩ := DataW.trod_int Try.underlying3 g1
      obtain ⟨text, e2, _, hts⟩ := DataW.trod_string Try.underlying9 g2
      obtain ⟨na, nc, names, e3, hns⟩ := open_strs' g3
      simp only [List.cons.injEq, and_true] at e0 e1 e2 e3
      subst e0 e1 e2 e3
      have htx : text.size ≤ big := by unfold maxLen at hts; unfold big; omega
      rcases DataW.trod_slice Try.underlying26 g4 with ⟨e4, _⟩ | ⟨a, len, cap, elems, rest, n', rfl, e4, _, _, hl, hm, hel, hi, _, _⟩
      · simp only [List.cons.injEq, and_true] at e4
        subst e4
        exact ⟨⟨kind, num, text, names, []⟩, na, nc, none, 0, rfl, NodeC.mk htx hns ⟨by simp, by simp, .inl rfl⟩⟩
      · simp only [List.cons.injEq, and_true] at e4
        subst e4
        rw [hc] at hi
        have key : ∀ i, i < len → ∃ (k : Nd × (Option Addr × Nat × Option Addr × Nat)), W.cell? (a.add (i * 5)) = some (.int .i64 k.1.kind) ∧ W.cell? (a.add (i * 5 + 1)) = some (.int .i64 k.1.num) ∧ W.cell? (a.add (i * 5 + 2)) = some (.string k.1.text) ∧
            W.cell? (a.add (i * 5 + 3)) = some (.slice k.2.1 k.1.names.length k.2.2.1) ∧ W.cell? (a.add (i * 5 + 4)) = some (.slice k.2.2.2.1 k.1.kids.length k.2.2.2.2) ∧ NodeC W any k.1 k.2.1 k.2.2.1 k.2.2.2.1 k.2.2.2.2 := fun i hi' => by
          have h := hi i hi'
          rw [List.getElem?_eq_getElem (by omega)] at h
          obtain ⟨cs', h1, h2⟩ := Option.bind_eq_some_iff.1 h
          obtain ⟨_, hl5, hat⟩ := World.cells?_some h1
          obtain ⟨m, na', nc', ka', kc', rfl, hn'⟩ := ih n' (by omega) cs' _ h2
          refine ⟨⟨m, na', nc', ka', kc'⟩, ?_, ?_, ?_, ?_, ?_, hn'⟩
          · simpa [Go.Deep.add_add] using hat 0 (by omega)
          · simpa [Go.Deep.add_add] using hat 1 (by omega)
          · simpa [Go.Deep.add_add] using hat 2 (by omega)
          · simpa [Go.Deep.add_add] using hat 3 (by omega)
          · simpa [Go.Deep.add_add] using hat 4 (by omega)
        have : Inhabited (Nd × (Option Addr × Nat × Option Addr × Nat)) := ⟨⟨⟨0, 0, ByteArray.empty, [], []⟩, none, 0, none, 0⟩⟩
        obtain ⟨f, hf⟩ := choose_lt key
        have hkl : ((List.range len).map fun i => (f i).1).length = len := by simp
        have hbig : len ≤ big := by unfold maxLen at hm; unfold big; omega
        refine ⟨⟨kind, num, text, names, (List.range len).map fun i => (f i).1⟩, na, nc, some a, cap, by simp, NodeC.mk htx hns ⟨by rw [hkl]; exact hl, by rw [hkl]; exact hbig, ?_⟩⟩
        by_cases h0 : len = 0
        · subst h0; exact .inl rfl
        · obtain ⟨b, o, ha⟩ := addr_spot (hf 0 (by omega)).1
          have ha' : a = ⟨b, o, none⟩ := by simpa [Addr.add] using ha
          subst ha'
          refine .inr ⟨b, o, rfl, trivial, KidsR.of_get (fun i hi' => ?_)⟩
          rw [hkl] at hi'
          obtain ⟨k0, k1, k2, k3, k4, kn⟩ := hf i hi'
          rw [add_mk] at k0 k1 k2 k3 k4
          simp only [List.getElem_map, List.getElem_range]
          exact ⟨_, _, _, _, k0, by rw [Nat.add_assoc]; exact k1, by rw [Nat.add_assoc]; exact k2, by rw [Nat.add_assoc]; exact k3, by rw [Nat.add_assoc]; exact k4, kn⟩

end
end Go.Proofs.Ytmeobmegnneegaa

/-
  The walks of what makes lists of tags, operations and requests valid.
-/
namespace Go.Proofs.Ytmeobmegnneegaa
open Go.RowKit

def star : ByteArray := { data := #[42] }
def tagsB1 (s : ByteArray) : Bool := (s.toList == star.toList) || tagB s
def tagsB (l : List ByteArray) : Bool := decide (l.length ≤ 4) && l.all tagsB1

theorem star_cases (s : ByteArray) : (s.toList = [42] ∧ tagsB1 s = true) ∨ (¬ s.toList = [42] ∧ tagB s = true ∧ tagsB1 s = true) ∨
    (¬ s.toList = [42] ∧ tagB s = false ∧ tagsB1 s = false) := by
  have hs : star.toList = [42] := by rw [ByteArray.toList_eq]; rfl
  unfold tagsB1
  rw [hs]
  by_cases h : s.toList = [42] <;> cases h2 : tagB s <;> simp [h]

end Go.Proofs.Ytmeobmegnneegaa

/-
  Operations and requests, and the walks of what makes them valid.
-/
namespace Go.Proofs.Ytmeobmegnneegaa
open Go.RowKit

/-- An operation, told by itself. -/
structure Opn where
  kind : Int
  path : List ByteArray
  frm : List ByteArray
  val : Nd

def opV (o : Opn) (pa : Option Addr) (pc : Nat) (fa : Option Addr) (fc : Nat) (na : Option Addr) (nc : Nat) (ka : Option Addr) (kc : Nat) : Value :=
  .agg #[.int .i64 o.kind, .slice pa o.path.length pc, .slice fa o.frm.length fc, .int .i64 o.val.kind, .int .i64 o.val.num, .string o.val.text, .slice na o.val.names.length nc, .slice ka o.val.kids.length kc]
def OpC (w : World) (S : Nat → Prop) (o : Opn) (pa : Option Addr) (pc : Nat) (fa : Option Addr) (fc : Nat) (na : Option Addr) (nc : Nat) (ka : Option Addr) (kc : Nat) : Prop :=
  StrsR w S pa pc o.path ∧ StrsR w S fa fc o.frm ∧ NodeC w S o.val na nc ka kc
def OpR (w : World) (S : Nat → Prop) (o : Opn) (v : Value) : Prop := ∃ pa pc fa fc na nc ka kc, v = opV o pa pc fa fc na nc ka kc ∧ OpC w S o pa pc fa fc na nc ka kc

/-- A slice of operations. -/
def OpsR (w : World) (S : Nat → Prop) (a : Option Addr) (c : Nat) (l : List Opn) : Prop :=
  l.length ≤ c ∧ l.length ≤ big ∧ (l = [] ∨ ∃ b o, a = some ⟨b, o, none⟩ ∧ S b ∧ ∀ i (h : i < l.length), ∃ pa pc fa fc na nc ka kc,
    w.cell? ⟨b, o + i * 8, none⟩ = some (.int .i64 l[i].kind) ∧ w.cell? ⟨b, o + i * 8 + 1, none⟩ = some (.slice pa l[i].path.length pc) ∧ w.cell? ⟨b, o + i * 8 + 2, none⟩ = some (.slice fa l[i].frm.length fc) ∧
    w.cell? ⟨b, o + i * 8 + 3, none⟩ = some (.int .i64 l[i].val.kind) ∧ w.cell? ⟨b, o + i * 8 + 4, none⟩ = some (.int .i64 l[i].val.num) ∧ w.cell? ⟨b, o + i * 8 + 5, none⟩ = some (.string l[i].val.text) ∧
    w.cell? ⟨b, o + i * 8 + 6, none⟩ = some (.slice na l[i].val.names.length nc) ∧ w.cell? ⟨b, o + i * 8 + 7, none⟩ = some (.slice ka l[i].val.kids.length kc) ∧ OpC w S l[i] pa pc fa fc na nc ka kc)

theorem OpC.ext {X S : Nat → Prop} {w w' : World} (h : Ext X w w') (hS : ∀ k, S k → ¬ X k) {o : Opn} {pa : Option Addr} {pc : Nat} {fa : Option Addr} {fc : Nat} {na : Option Addr} {nc : Nat} {ka : Option Addr} {kc : Nat}
    (hs : OpC w S o pa pc fa fc na nc ka kc) : OpC w' S o pa pc fa fc na nc ka kc := ⟨hs.1.ext h hS, hs.2.1.ext h hS, hs.2.2.ext h hS⟩
theorem OpC.grow {S : Nat → Prop} {w w' : World} {o : Opn} {pa : Option Addr} {pc : Nat} {fa : Option Addr} {fc : Nat} {na : Option Addr} {nc : Nat} {ka : Option Addr} {kc : Nat}
    (hs : OpC w S o pa pc fa fc na nc ka kc) (h : Grow w w') : OpC w' S o pa pc fa fc na nc ka kc := hs.ext h (fun _ _ h => h)
theorem OpR.ext {X S : Nat → Prop} {w w' : World} (h : Ext X w w') (hS : ∀ k, S k → ¬ X k) {o : Opn} {v : Value} (hs : OpR w S o v) : OpR w' S o v := by
  obtain ⟨pa, pc, fa, fc, na, nc, ka, kc, hv, hc⟩ := hs
  exact ⟨pa, pc, fa, fc, na, nc, ka, kc, hv, hc.ext h hS⟩
theorem OpR.grow {S : Nat → Prop} {w w' : World} {o : Opn} {v : Value} (hs : OpR w S o v) (h : Grow w w') : OpR w' S o v := hs.ext h (fun _ _ h => h)
theorem OpsR.ext {X S : Nat → Prop} {w w' : World} (h : Ext X w w') (hS : ∀ k, S k → ¬ X k) {a : Option Addr} {c : Nat} {l : List Opn} (hs : OpsR w S a c l) : OpsR w' S a c l := by
  obtain ⟨h1, h2, h4⟩ := hs
  refine ⟨h1, h2, h4.imp id ?_⟩
  rintro ⟨b, o, rfl, hb, hc⟩
  refine ⟨b, o, rfl, hb, fun i hi => ?_⟩
  obtain ⟨pa, pc, fa, fc, na, nc, ka, kc, g0, g1, g2, g3, g4, g5, g6, g7, g⟩ := hc i hi
  exact ⟨pa, pc, fa, fc, na, nc, ka, kc, h.some g0 (hS b hb), h.some g1 (hS b hb), h.some g2 (hS b hb), h.some g3 (hS b hb), h.some g4 (hS b hb), h.some g5 (hS b hb), h.some g6 (hS b hb), h.some g7 (hS b hb), g.ext h hS⟩
theorem OpsR.grow {S : Nat → Prop} {w w' : World} {a : Option Addr} {c : Nat} {l : List Opn} (hs : OpsR w S a c l) (h : Grow w w') : OpsR w' S a c l := hs.ext h (fun _ _ h => h)

def opB (o : Opn) : Bool := inR o.kind 1 6 && pathB o.path && pathB o.frm && validB o.val
def opsB (l : List Opn) : Bool := decide (l.length ≤ 12) && l.all opB

end Go.Proofs.Ytmeobmegnneegaa

/-
  Requests, and the walks of what makes patches and requests valid.
-/
namespace Go.Proofs.Ytmeobmegnneegaa
open Go.RowKit

/-- A request, told by itself. -/
structure Reqn where
  method : Int
  name : ByteArray
  want : List ByteArray
  avoid : List ByteArray
  body : Nd
  ops : List Opn

def reqCells (q : Reqn) (wa : Option Addr) (wc : Nat) (va : Option Addr) (vc : Nat) (na : Option Addr) (nc : Nat) (ka : Option Addr) (kc : Nat) (oa : Option Addr) (oc : Nat) : Array Value :=
  #[.int .i64 q.method, .string q.name, .slice wa q.want.length wc, .slice va q.avoid.length vc, .int .i64 q.body.kind, .int .i64 q.body.num, .string q.body.text, .slice na q.body.names.length nc, .slice ka q.body.kids.length kc, .slice oa q.ops.length oc]
def ReqC (w : World) (S : Nat → Prop) (q : Reqn) (wa : Option Addr) (wc : Nat) (va : Option Addr) (vc : Nat) (na : Option Addr) (nc : Nat) (ka : Option Addr) (kc : Nat) (oa : Option Addr) (oc : Nat) : Prop :=
  q.name.size ≤ big ∧ StrsR w S wa wc q.want ∧ StrsR w S va vc q.avoid ∧ NodeC w S q.body na nc ka kc ∧ OpsR w S oa oc q.ops
def ReqR (w : World) (S : Nat → Prop) (q : Reqn) (v : Value) : Prop := ∃ wa wc va vc na nc ka kc oa oc, v = .agg (reqCells q wa wc va vc na nc ka kc oa oc) ∧ ReqC w S q wa wc va vc na nc ka kc oa oc

theorem ReqR.ext {X S : Nat → Prop} {w w' : World} (h : Ext X w w') (hS : ∀ k, S k → ¬ X k) {q : Reqn} {v : Value} (hs : ReqR w S q v) : ReqR w' S q v := by
  obtain ⟨wa, wc, va, vc, na, nc, ka, kc, oa, oc, hv, h1, h2, h3, h4, h5⟩ := hs
  exact ⟨wa, wc, va, vc, na, nc, ka, kc, oa, oc, hv, h1, h2.ext h hS, h3.ext h hS, h4.ext h hS, h5.ext h hS⟩
theorem ReqR.grow {S : Nat → Prop} {w w' : World} {q : Reqn} {v : Value} (hs : ReqR w S q v) (h : Grow w w') : ReqR w' S q v := hs.ext h (fun _ _ h => h)

def reqB (q : Reqn) : Bool := inR q.method 1 5 && nameB q.name && tagsB q.want && tagsB q.avoid && validB q.body && opsB q.ops

end Go.Proofs.Ytmeobmegnneegaa

/-
  What an argument that is read as data tells of memory: operations, requests.
-/
namespace Go.Proofs.Ytmeobmegnneegaa
open Go.RowKit Go.ChangeShapes Go.WideShapes Go.Deep

section
variable {H : Type} {enc : TypeId × Value → H} {W : World} {base : Nat} {sp : Nat → Bool} {held : Bool}

end
end Go.Proofs.Ytmeobmegnneegaa

/-
  What an argument that is read as data tells of memory: slices of represented types, entries.
-/
namespace Go.Proofs.Ytmeobmegnneegaa
open Go.RowKit Go.ChangeShapes Go.WideShapes Go.Deep

section
variable {H : Type} {enc : TypeId × Value → H} {W : World} {base : Nat} {sp : Nat → Bool} {held : Bool}

theorem open_slR {α : Type} [Inhabited α] (E : Rep α) (hpos : 0 < E.n) (TS T : TypeId) (hu : Try.prog.underlying TS = some (.slice T)) (hc : Try.prog.cellsOf T = E.n)
    (hel : ∀ (fuel : Nat) (cs : List Value) (x : DataW H × List MemPlace), DataW.trod enc Try.prog W base sp held fuel T cs = some x → ∃ y, E.R W any y cs)
    {fuel : Nat} {cs : List Value} {x : DataW H × List MemPlace} (h : DataW.trod enc Try.prog W base sp held fuel TS cs = some x) :
    ∃ a c l, cs = [.slice a (l : List α).length c] ∧ SlR E W any a c l := by
  rcases open_slice hu h with ⟨rfl, _⟩ | ⟨a, len, cap, m, n, D, Pl, rfl, _, hl, hm, hmm, _, hi⟩
  · exact ⟨none, 0, [], rfl, by simp, by simp, .inl rfl⟩
  · have hlm : len ≤ m := by rw [hmm]; split <;> omega
    rw [hc] at hi
    have key : ∀ i, i < len → ∃ k : α × List Value, (∀ j v, k.2[j]? = some v → W.cell? (a.add (i * E.n + j)) = some v) ∧ E.R W any k.1 k.2 := fun i hi' => by
      obtain ⟨cs', h1, h2⟩ := hi i (by omega)
      obtain ⟨_, hlen, hat⟩ := World.cells?_some h1
      obtain ⟨y, hy⟩ := hel _ _ _ h2
      refine ⟨⟨y, cs'⟩, fun j v hv => ?_, hy⟩
      have hj : j < E.n := by
        have h3 : j < cs'.length := (List.getElem?_eq_some_iff.1 hv).1
        omega
      have := hat j hj
      rw [hv] at this
      simpa [Go.Deep.add_add] using this
    have : Inhabited (α × List Value) := ⟨⟨default, []⟩⟩
    obtain ⟨f, hf⟩ := choose_lt key
    have hkl : ((List.range len).map fun i => (f i).1).length = len := by simp
    have hbig : len ≤ big := by unfold maxLen at hm; unfold big; omega
    refine ⟨some a, cap, (List.range len).map fun i => (f i).1, by simp, by rw [hkl]; exact hl, by rw [hkl]; exact hbig, ?_⟩
    by_cases h0 : len = 0
    · subst h0; exact .inl rfl
    · have hr0 := (hf 0 (by omega)).2
      have hl0 := E.rlen hr0
      obtain ⟨v0, hv0⟩ : ∃ v0, (f 0).2[0]? = some v0 := ⟨_, List.getElem?_eq_getElem (by omega)⟩
      obtain ⟨b, o, ha⟩ := addr_spot ((hf 0 (by omega)).1 0 v0 hv0)
      have ha' : a = ⟨b, o, none⟩ := by simpa [Addr.add] using ha
      subst ha'
      refine .inr ⟨b, o, rfl, trivial, fun i hi' => ?_⟩
      rw [hkl] at hi'
      obtain ⟨k1, k2⟩ := hf i hi'
      simp only [List.getElem_map, List.getElem_range]
      refine ⟨_, fun j v hv => ?_, k2⟩
      have := k1 j v hv
      rw [add_mk] at this
      rw [Nat.add_assoc]; exact this

end

end Go.Proofs.Ytmeobmegnneegaa

/-
  What an argument that is a store tells of memory.
-/
namespace Go.Proofs.Ytmeobmegnneegaa
open Go.RowKit Go.ChangeShapes Go.WideShapes Go.Deep

section
variable {H : Type} {enc : TypeId × Value → H} {W : World} {base : Nat} {sp : Nat → Bool} {held : Bool}

set_option maxRecDepth 100000 in
theorem open_item (fuel : Nat) (cs : List Value) (x : DataW H × List MemPlace) (h : DataW.trod enc Try.prog W base sp held fuel 117 cs = some x) : ∃ y, itmRep.R W any y cs := by
  obtain ⟨xs, n, rfl, _, hlen, hxs, hf⟩ := DataW.trod_struct Try.underlying117 h
  have hc : Try.prog.cellsOf 117 = 7 := by kernel_rfl
  have c9 : Try.prog.cellsOf 9 = 1 := by kernel_rfl
  have cI : Try.prog.cellsOf 3 = 1 := by kernel_rfl
  have cN : Try.prog.cellsOf 28 = 5 := by kernel_rfl
  rw [hc] at hlen
  match cs, hlen with
  | [v0, v1, v2, v3, v4, v5, v6], _ =>
    obtain ⟨y0, g0⟩ : ∃ y, DataW.trod enc Try.prog W base sp held n 9 [v0] = some y := ⟨xs[0]'(by simp at hxs; omega), by
      have h := hf 0 _ rfl
      rw [List.getElem?_eq_getElem (by simp at hxs; omega)] at h
      simpa [c9, cI, cN] using h⟩
    obtain ⟨y1, g1⟩ : ∃ y, DataW.trod enc Try.prog W base sp held n 3 [v1] = some y := ⟨xs[1]'(by simp at hxs; omega), by
      have h := hf 1 _ rfl
      rw [List.getElem?_eq_getElem (by simp at hxs; omega)] at h
      simpa [c9, cI, cN] using h⟩
    obtain ⟨y2, g2⟩ : ∃ y, DataW.trod enc Try.prog W base sp held n 28 [v2, v3, v4, v5, v6] = some y := ⟨xs[2]'(by simp at hxs; omega), by
      have h := hf 2 _ rfl
      rw [List.getElem?_eq_getElem (by simp at hxs; omega)] at h
      simpa [c9, cI, cN] using h⟩
    obtain ⟨s, e0, _, hs⟩ := DataW.trod_string Try.underlying9 g0
    obtain ⟨k, e1, _⟩ := DataW.trod_int Try.underlying3 g1
    obtain ⟨q, na, nc, ka, kc, e2, hq⟩ := open_node _ _ _ g2
    have e0' : v0 = .string s := by simpa using e0
    have e1' : v1 = .int .i64 k := by simpa using e1
    exact ⟨(s, k, q), [v0], [v1, v2, v3, v4, v5, v6], rfl, ⟨by simp [e0'], by show s.size ≤ big; unfold maxLen at hs; unfold big; omega⟩, [v1], [v2, v3, v4, v5, v6], rfl, by simp [e1', intRep], na, nc, ka, kc, e2, hq⟩

theorem open_items {fuel : Nat} {cs : List Value} {x : DataW H × List MemPlace} (h : DataW.trod enc Try.prog W base sp held fuel 22 cs = some x) :
    ∃ a c l, cs = [.slice a (l : List Itm).length c] ∧ SlR itmRep W any a c l :=
  have : Inhabited Itm := ⟨(ByteArray.empty, 0, ⟨0, 0, ByteArray.empty, [], []⟩)⟩
  open_slR itmRep (by rw [itmRep_n]; omega) _ _ Try.underlying22 (by rw [itmRep_n]; kernel_rfl) open_item h

set_option maxRecDepth 100000 in
theorem rv_sto {fuel : Nat} {cs : Array Value} {x : DataW H × List MemPlace} (h : DataW.trod enc Try.prog W base sp held fuel 24 cs.toList = some x) : ∃ y, RV stoRep packA W any y (.agg cs) := by
  obtain ⟨xs, n, rfl, _, hlen, hxs, hf⟩ := DataW.trod_struct Try.underlying24 h
  have hc : Try.prog.cellsOf 24 = 2 := by kernel_rfl
  have cI : Try.prog.cellsOf 3 = 1 := by kernel_rfl
  have cS : Try.prog.cellsOf 22 = 1 := by kernel_rfl
  rw [hc] at hlen
  obtain ⟨l⟩ := cs
  match l, hlen with
  | [v0, v1], _ =>
    obtain ⟨y0, g0⟩ : ∃ y, DataW.trod enc Try.prog W base sp held n 22 [v0] = some y := ⟨xs[0]'(by simp at hxs; omega), by
      have h := hf 0 _ rfl
      rw [List.getElem?_eq_getElem (by simp at hxs; omega)] at h
      simpa [cS, cI] using h⟩
    obtain ⟨y1, g1⟩ : ∃ y, DataW.trod enc Try.prog W base sp held n 3 [v1] = some y := ⟨xs[1]'(by simp at hxs; omega), by
      have h := hf 1 _ rfl
      rw [List.getElem?_eq_getElem (by simp at hxs; omega)] at h
      simpa [cS, cI] using h⟩
    obtain ⟨a, c, l, e0, hl⟩ := open_items g0
    obtain ⟨k, e1, _⟩ := DataW.trod_int Try.underlying3 g1
    have e1' : v1 = .int .i64 k := by simpa using e1
    exact ⟨(l, k), [v0, v1], rfl, [v0], [v1], rfl, ⟨a, c, e0, hl⟩, by simp [e1', intRep]⟩

theorem rv_node {fuel : Nat} {cs : Array Value} {x : DataW H × List MemPlace} (h : DataW.trod enc Try.prog W base sp held fuel 28 cs.toList = some x) : ∃ y, RV nodeRep packA W any y (.agg cs) := by
  obtain ⟨q, na, nc, ka, kc, e2, hq⟩ := open_node _ _ _ h
  exact ⟨q, cs.toList, rfl, na, nc, ka, kc, e2, hq⟩

theorem rv_strs {fuel : Nat} {v : Value} {x : DataW H × List MemPlace} (h : DataW.trod enc Try.prog W base sp held fuel 25 [v] = some x) : ∃ y, RV strsRep packO W any y v := by
  obtain ⟨a, c, xs, e, hs⟩ := open_strs' h
  exact ⟨xs, [v], rfl, a, c, e, hs⟩

theorem rv_str {fuel : Nat} {s : ByteArray} {x : DataW H × List MemPlace} (h : DataW.trod enc Try.prog W base sp held fuel 9 [.string s] = some x) : s.size ≤ big := by
  obtain ⟨s', e, _, hs⟩ := DataW.trod_string Try.underlying9 h
  simp at e
  subst e
  unfold maxLen at hs; unfold big; omega
end

end Go.Proofs.Ytmeobmegnneegaa
