/-
  FnExactAllPages returns true whatever the arguments, and they read behind the call as they read before. No condition.
-/
import Derived.ProofKit
import Derived.Deep.Slices
import Derived.Deep.Fields
import Derived.Test.YtmeobmegnneegaaApC

/-
  All pages: what they are, and the walk of impl.AllPages.
-/
namespace Go.Proofs.Ytmeobmegnneegaa
open Go.RowKit

def pgs : Nat → Sto → ByteArray → Int → List (List ByteArray)
  | 0, _, _, _ => []
  | n + 1, s, af, lim => pgL s af lim :: (if (pgN s af lim).toList.isEmpty = true then [] else pgs n s (pgN s af lim) lim)
def apL (s : Sto) (lim : Int) : List (List ByteArray) := if storeB s && inR lim 1 10 then pgs 11 s ⟨#[]⟩ lim else []
theorem apL_bad {s : Sto} {lim : Int} (h : storeB s = false ∨ inR lim 1 10 = false) : apL s lim = [] := by
  unfold apL
  rcases h with h | h <;> rw [h] <;> simp
theorem apL_good {s : Sto} {lim : Int} (h : storeB s = true) (h' : inR lim 1 10 = true) : apL s lim = pgs 11 s ⟨#[]⟩ lim := by
  unfold apL; rw [h, h']; rfl
theorem filt_lt {α : Type} (p q : α → Bool) : ∀ (l : List α), (∀ x ∈ l, p x = true → q x = true) → (∃ y ∈ l, q y = true ∧ p y = false) → (l.filter p).length < (l.filter q).length
  | [], _, h => by obtain ⟨y, hy, _⟩ := h; cases hy
  | x :: l, h1, h2 => by
    have hle : ∀ l : List α, (∀ x ∈ l, p x = true → q x = true) → (l.filter p).length ≤ (l.filter q).length := by
      intro l
      induction l with
      | nil => intro _; simp
      | cons z l ih =>
        intro h
        have := ih (fun x hx => h x (by simp [hx]))
        have hz := h z (by simp)
        simp only [List.filter_cons]
        cases hp : p z <;> cases hq : q z <;> simp_all
        omega
    have hl := hle l (fun x hx => h1 x (by simp [hx]))
    have hx := h1 x (by simp)
    obtain ⟨y, hy, hq, hp⟩ := h2
    simp only [List.filter_cons]
    rcases List.mem_cons.1 hy with rfl | hy
    · rw [hq, hp]; simp; omega
    · have ih := filt_lt p q l (fun x hx => h1 x (by simp [hx])) ⟨y, hy, hq, hp⟩
      cases hpx : p x
      · cases hqx : q x <;> simp <;> omega
      · rw [hx hpx]; simp; omega
theorem pgN_mem {s : Sto} {af : ByteArray} {lim : Int} (h : (pgN s af lim).toList.isEmpty = false) : pgN s af lim ∈ behind af s.1 := by
  unfold pgN at h ⊢
  split at h
  · rename_i hc
    rw [if_pos hc]
    simp only [Bool.and_eq_true, decide_eq_true_eq] at hc
    have hi : lim.toNat - 1 < (behind af s.1).length := by
      have h1 := hc.1.2
      simp only [inR, Bool.and_eq_true, decide_eq_true_eq] at h1
      omega
    rw [List.getElem?_eq_getElem hi]
    exact List.getElem_mem hi
  · simp at h
theorem pgN_less {s : Sto} {af : ByteArray} {lim : Int} (h : (pgN s af lim).toList.isEmpty = false) : (behind (pgN s af lim) s.1).length < (behind af s.1).length := by
  have hm := pgN_mem h
  have hm' := hm
  unfold behind at hm'
  obtain ⟨e, he, hee⟩ := List.mem_map.1 hm'
  obtain ⟨he1, he2⟩ := List.mem_filter.1 he
  unfold behind
  simp only [List.length_map]
  have he2' : lt af (pgN s af lim) = true := by rw [← hee]; exact he2
  exact filt_lt _ _ _ (fun x _ hx => lt_trans he2' hx) ⟨e, he1, he2, by rw [hee]; exact bl_irrefl _⟩
def strOf : Value → ByteArray
  | .string s => s
  | _ => ⟨#[]⟩
theorem info_strs : (Try.prog.info? 25).map (fun i => (i.zero, i.size, i.bytes)) = some (some (.slice none 0 0), 1, 24) := by kernel_rfl
theorem pgN_size (s : Sto) (af : ByteArray) (lim : Int) (h : ∀ e ∈ s.1, e.1.size ≤ big) : (pgN s af lim).size ≤ big := by
  cases hb : (pgN s af lim).toList.isEmpty
  · obtain ⟨e, he, h1⟩ := behind_mem (pgN_mem hb); rw [h1]; exact h e he
  · have : (pgN s af lim).toList = [] := by simpa using hb
    have h3 : (pgN s af lim).data.toList = [] := by rw [← ByteArray.toList_eq]; exact this
    have h4 : (pgN s af lim).data.size = 0 := by rw [← Array.length_toList, h3]; rfl
    show (pgN s af lim).data.size ≤ _
    omega
theorem storeB_names {s : Sto} (h : storeB s = true) : ∀ e ∈ s.1, e.1.size ≤ big := by
  intro e he
  have := (storeB_parts h).2.2.2.1 e he
  simp only [itmB, nameB, Bool.and_eq_true, decide_eq_true_eq] at this
  unfold big; omega
theorem pgs_len : ∀ (n : Nat) (s : Sto) (af : ByteArray) (lim : Int), (pgs n s af lim).length ≤ n
  | 0, _, _, _ => by simp [pgs]
  | n + 1, s, af, lim => by
    have := pgs_len n s (pgN s af lim) lim
    unfold pgs
    split <;> simp <;> omega
theorem apL_len (s : Sto) (lim : Int) : (apL s lim).length ≤ 11 := by
  unfold apL; split
  · exact pgs_len _ _ _ _
  · simp
theorem pgs_each : ∀ (n : Nat) (s : Sto) (af : ByteArray) (lim : Int), ∀ p ∈ pgs n s af lim, p.length ≤ 10
  | 0, _, _, _, p, h => by simp [pgs] at h
  | n + 1, s, af, lim, p, h => by
    unfold pgs at h
    rcases List.mem_cons.1 h with rfl | h
    · exact pgL_len _ _ _
    · split at h
      · cases h
      · exact pgs_each n s _ lim p h
theorem apL_cnt (s : Sto) (lim : Int) : cntSS (apL s lim) ≤ 110 := by
  have h1 := apL_len s lim
  have h2 : ∀ p ∈ apL s lim, p.length ≤ 10 := by
    unfold apL; split
    · exact pgs_each _ _ _ _
    · simp
  have : ∀ l : List (List ByteArray), (∀ p ∈ l, p.length ≤ 10) → cntR cntS l ≤ l.length * 10 := by
    intro l
    induction l with
    | nil => intro _; simp [cntR]
    | cons x l ih =>
      intro h
      have := ih (fun p hp => h p (by simp [hp]))
      have hx : cntS x ≤ 10 := h x (by simp)
      simp only [cntR, List.map_cons, List.sum_cons, List.length_cons] at this ⊢
      omega
  have := this _ h2
  unfold cntSS; omega

def ApRel (w : World) (B : Nat) (s : Sto) (lim : Int) (t a : Value) (wr : World) : Prop :=
  ∃ (acc : List (List ByteArray)) (af : ByteArray) (m : Nat), a = .string af ∧ af.size ≤ big ∧ RowO strsRep B 25 wr t acc ∧ apL s lim = acc ++ pgs m s af lim ∧ (behind af s.1).length < m ∧ acc.length + m ≤ 11

set_option maxRecDepth 100000 in
set_option maxHeartbeats 4000000 in
theorem implAll_own (s : Sto) (lim : Int) (v : Value) (w : World) (h : RV stoRep packA w any s v) :
    Calls Try.prog 38 #[v, .int .i64 lim] w fun e w' => ∃ r, e = .returned r ∧ Grow w w' ∧ RowO strsRep (w.heap.size + 1) 25 w' r (apL s lim) := by
  obtain ⟨a, c, rfl, hs⟩ := sto_open h
  have HS := Lib.hid h
  clear h hs
  unfold stoV at *
  cases hv : storeB s
  · have Hv := Lib.hid hv
    have Hf := Lib.hid (apL_bad (lim := lim) (.inl hv))
    clear hv
    go_enter Try.func38, Try.ntmps38
    go_wp2_with fail
    refine (ValidStore_ok s _ _ (HS.out.grow (by repeat (first | with_reducible exact Ext.refl _ _ | with_reducible refine Ext.trans ?_ (by assumption) | with_reducible refine Ext.drew ?_ | with_reducible refine Ext.drewN ?_ _ | with_reducible refine Ext.alloc ?_ _ | with_reducible refine Ext.setNew ?_ (by simp; done) _ | with_reducible refine Ext.setNew ?_ (by simp; omega) _)))).mono ?_
    rintro e w2 ⟨rfl, hg2⟩
    simp only [Hv.out]
    go_wp2_with fail
    go_ret
    exact ⟨.slice none 0 0, by simp, (by repeat (first | with_reducible exact Ext.refl _ _ | with_reducible refine Ext.trans ?_ (by assumption) | with_reducible refine Ext.drew ?_ | with_reducible refine Ext.drewN ?_ _ | with_reducible refine Ext.alloc ?_ _ | with_reducible refine Ext.setNew ?_ (by simp; done) _ | with_reducible refine Ext.setNew ?_ (by simp; omega) _)), by rw [Hf.out]; exact RowO.nil⟩
  have Hv := Lib.hid hv
  cases hl : inR lim 1 10
  · have Hl := Lib.hid hl
    have Hf := Lib.hid (apL_bad (s := s) (lim := lim) (.inr hl))
    clear hv hl
    go_enter Try.func38, Try.ntmps38
    go_wp2_with fail
    refine (ValidStore_ok s _ _ (HS.out.grow (by repeat (first | with_reducible exact Ext.refl _ _ | with_reducible refine Ext.trans ?_ (by assumption) | with_reducible refine Ext.drew ?_ | with_reducible refine Ext.drewN ?_ _ | with_reducible refine Ext.alloc ?_ _ | with_reducible refine Ext.setNew ?_ (by simp; done) _ | with_reducible refine Ext.setNew ?_ (by simp; omega) _)))).mono ?_
    rintro e w2 ⟨rfl, hg2⟩
    simp only [Hv.out]
    go_wp2_with fail
    refine (isLimit_ok lim _).mono ?_
    rintro e w3 ⟨rfl, rfl⟩
    simp only [Hl.out]
    go_wp2_with fail
    go_ret
    exact ⟨.slice none 0 0, by simp, (by repeat (first | with_reducible exact Ext.refl _ _ | with_reducible refine Ext.trans ?_ (by assumption) | with_reducible refine Ext.drew ?_ | with_reducible refine Ext.drewN ?_ _ | with_reducible refine Ext.alloc ?_ _ | with_reducible refine Ext.setNew ?_ (by simp; done) _ | with_reducible refine Ext.setNew ?_ (by simp; omega) _)), by rw [Hf.out]; exact RowO.nil⟩
  have Hl := Lib.hid hl
  have Hap := Lib.hid (apL_good hv hl)
  have Hnm := Lib.hid (storeB_names hv)
  have hl10 : s.1.length ≤ 10 := (storeB_parts hv).1
  have hb0 : (behind ⟨#[]⟩ s.1).length < 11 := by have := behind_len ⟨#[]⟩ s.1 s.1.length; rw [List.take_length] at this; omega
  clear hv hl
  go_enter Try.func38, Try.ntmps38
  go_wp2_with fail
  refine (ValidStore_ok s _ _ (HS.out.grow (by repeat (first | with_reducible exact Ext.refl _ _ | with_reducible refine Ext.trans ?_ (by assumption) | with_reducible refine Ext.drew ?_ | with_reducible refine Ext.drewN ?_ _ | with_reducible refine Ext.alloc ?_ _ | with_reducible refine Ext.setNew ?_ (by simp; done) _ | with_reducible refine Ext.setNew ?_ (by simp; omega) _)))).mono ?_
  rintro e w2 ⟨rfl, hg2⟩
  simp only [Hv.out]
  go_wp2_with fail
  refine (isLimit_ok lim _).mono ?_
  rintro e w3 ⟨rfl, rfl⟩
  simp only [Hl.out]
  have HB := Lib.hid ((BoxN.new w [.slice a s.1.length c, .int .i64 s.2] 33).grow hg2)
  go_wp2_with fail
  have hgw : Grow w w3 := (by repeat (first | with_reducible exact Ext.refl _ _ | with_reducible refine Ext.trans ?_ (by assumption) | with_reducible refine Ext.drew ?_ | with_reducible refine Ext.drewN ?_ _ | with_reducible refine Ext.alloc ?_ _ | with_reducible refine Ext.setNew ?_ (by simp; done) _ | with_reducible refine Ext.setNew ?_ (by simp; omega) _))
  go_loopw [5, 6] (fun t af wr => Grow w wr ∧ BoxN wr w.heap.size [.slice a s.1.length c, .int .i64 s.2] ∧ ApRel w (w.heap.size + 1) s lim t af wr) (fun _ af _ => (behind (strOf af) s.1).length)
  case atStart => exact ⟨hgw, HB.out, [], ⟨#[]⟩, 11, rfl, by unfold big; decide, RowO.nil, by rw [Hap.out]; rfl, hb0, by simp⟩
  case round =>
    obtain ⟨hg0, B1, acc, af, m, rfl, haf, hrow, hap, hbm, hm⟩ := hrel
    have HB1 := Lib.hid B1
    have Hrow := Lib.hid hrow
    have Hap2 := Lib.hid hap
    have lb1 := B1.lt
    obtain ⟨m', rfl⟩ : ∃ m', m = m' + 1 := ⟨m - 1, by omega⟩
    have q0 := B1.cell 0 _ rfl
    have q1 := B1.cell 1 _ rfl
    have hlow := hrow.low
    clear B1 hrow hap
    go_wp2_with fail
    refine (implPageOf_ok s af lim _ _ haf (HS.out.grow hg0)).mono ?_
    rintro e w4 ⟨r, fp, rfl, hg4, hF, hfr⟩
    obtain ⟨cs, rfl, ra, rc, rfl, hF⟩ := hF
    have HF := Lib.hid hF
    have Hfr := Lib.hid hfr
    have Hlow := Lib.hid hlow
    have HB4 := Lib.hid (HB1.out.grow hg4)
    have hz4 := hg4.size
    clear q0 q1 hF hfr hlow
    obtain ⟨i0, hi0, hz0, hz1, hz2⟩ := info_parts info_strs
    obtain ⟨ta, tc, rfl⟩ := Hrow.out.slice
    have ha : Grow w4 (w4.alloc (.cells #[.slice ra (pgL s af lim).length rc] 25)) := (Ext.refl nil w4).alloc _
    have Ha := Lib.hid ha
    clear ha
    unfold packO
    go_wp2_with (at_builtin; (refine wpList_appO _ rfl _ _ 53 rfl strsRep (w.heap.size + 1) 25 i0 (.slice none 0 0) 24 Try.underlying53 hi0 hz0 hz1 hz2 rfl strsRep_pos (.slice ta acc.length tc) acc rfl wr Hrow.out (hg4.trans Ha.out) ⟨w4.heap.size, 0, none⟩ 1 (pgL s af lim) [.slice ra (pgL s af lim).length rc] fp rfl ⟨ra, rc, rfl, HF.out.keep (Ha.out.keeps Hfr.out (fun _ _ h => h))⟩ (Hfr.out.ext Ha.out (fun _ _ h => h)) ?c2 ?c3 ?c4 ?c5 ?c6 ?_))
    case c2 =>
      intro j u hu
      rw [addr_add, Nat.zero_add]
      exact (BoxN.new w4 [.slice ra (pgL s af lim).length rc] 25).cell j u hu
    case c3 => simp [Value.oneCell']
    case c4 => unfold maxLen; omega
    case c5 => omega
    case c6 => omega
    intro t' w5 hrow5 he5
    have hb5 : ∀ k, rowB (.slice ta acc.length tc) k → w.heap.size < k := fun k hk => by have := (Hlow.out k hk).1; omega
    have hg5 : Grow w w5 := Grow.rowed ((hg0.trans hg4).trans Ha.out) he5 (fun k hk => by have := hb5 k hk; omega)
    have B5 := (HB4.out.grow Ha.out).rowed he5 hb5
    have Hrow5 := Lib.hid hrow5
    have HB5 := Lib.hid B5
    have Hg5 := Lib.hid hg5
    clear hrow5 he5 hb5 hg5 B5
    have Hst : Hid (pgs (m' + 1) s af lim = pgL s af lim :: (if (pgN s af lim).toList.isEmpty = true then [] else pgs m' s (pgN s af lim) lim)) := Lib.hid (by rw [pgs])
    cases hn : (pgN s af lim).toList.isEmpty
    · have Hless := Lib.hid (pgN_less hn)
      have Hn := Lib.hid hn
      have hn' : (!(pgN s af lim).toList.isEmpty) = true := by rw [hn]; rfl
      have Hsz := Lib.hid (pgN_size s af lim Hnm.out)
      go_wp2_with fail
      go_roundw
      case rel => exact ⟨Hg5.out, HB5.out, acc ++ [pgL s af lim], pgN s af lim, m', rfl, Hsz.out, Hrow5.out, by rw [Hap2.out, Hst.out, Hn.out]; simp, by have := Hless.out; omega, by simp; omega⟩
      case measure => have := Hless.out; simpa [strOf] using this
    · have Hn := Lib.hid hn
      go_wp2_with fail
      go_ret
      exact ⟨t', rfl, Hg5.out, by rw [Hap2.out, Hst.out, Hn.out]; exact Hrow5.out⟩

theorem implAllPages_ok (s : Sto) (lim : Int) (v : Value) (w : World) (h : RV stoRep packA w any s v) :
    Calls Try.prog 38 #[v, .int .i64 lim] w fun e w' => ∃ r fp, e = .returned r ∧ Grow w w' ∧ FV pathsRep packO w' (apL s lim) r fp ∧ Free w.heap.size w' fp :=
  (implAll_own s lim v w h).mono fun e w' ⟨r, he, hg, ho⟩ => by obtain ⟨fp, h1, h2⟩ := ho.fv (hp := strsRep_pos); exact ⟨r, fp, he, hg, h1, h2.mono (by omega)⟩

theorem specPageOf_own (s : Sto) (af : ByteArray) (lim : Int) (v : Value) (w : World) (hsz : af.size ≤ big) (h : RV stoRep packA w any s v) :
    Calls Try.prog 35 #[v, .string af, .int .i64 lim] w fun e w' => ∃ r fp, e = .returned (.tuple #[r, .string (pgN s af lim)]) ∧ Grow w w' ∧ FV strsRep packO w' (pgL s af lim) r fp ∧ Free w.heap.size w' fp :=
  (specPage_own s af lim v w hsz h).mono fun e w' ⟨r, he, hg, ho⟩ => by obtain ⟨fp, h1, h2⟩ := ho.fv; exact ⟨r, fp, he, hg, h1, h2⟩

set_option maxRecDepth 100000 in
set_option maxHeartbeats 4000000 in
theorem specAll_own (s : Sto) (lim : Int) (v : Value) (w : World) (h : RV stoRep packA w any s v) :
    Calls Try.prog 37 #[v, .int .i64 lim] w fun e w' => ∃ r, e = .returned r ∧ Grow w w' ∧ RowO strsRep (w.heap.size + 1) 25 w' r (apL s lim) := by
  obtain ⟨a, c, rfl, hs⟩ := sto_open h
  have HS := Lib.hid h
  clear h hs
  unfold stoV at *
  cases hv : storeB s
  · have Hv := Lib.hid hv
    have Hf := Lib.hid (apL_bad (lim := lim) (.inl hv))
    clear hv
    go_enter Try.func37, Try.ntmps37
    go_wp2_with fail
    refine (validStore_ok s _ _ (HS.out.grow (by repeat (first | with_reducible exact Ext.refl _ _ | with_reducible refine Ext.trans ?_ (by assumption) | with_reducible refine Ext.drew ?_ | with_reducible refine Ext.drewN ?_ _ | with_reducible refine Ext.alloc ?_ _ | with_reducible refine Ext.setNew ?_ (by simp; done) _ | with_reducible refine Ext.setNew ?_ (by simp; omega) _)))).mono ?_
    rintro e w2 ⟨rfl, hg2⟩
    simp only [Hv.out]
    go_wp2_with fail
    go_ret
    exact ⟨.slice none 0 0, by simp, (by repeat (first | with_reducible exact Ext.refl _ _ | with_reducible refine Ext.trans ?_ (by assumption) | with_reducible refine Ext.drew ?_ | with_reducible refine Ext.drewN ?_ _ | with_reducible refine Ext.alloc ?_ _ | with_reducible refine Ext.setNew ?_ (by simp; done) _ | with_reducible refine Ext.setNew ?_ (by simp; omega) _)), by rw [Hf.out]; exact RowO.nil⟩
  have Hv := Lib.hid hv
  cases hl : inR lim 1 10
  · have Hl := Lib.hid hl
    have Hf := Lib.hid (apL_bad (s := s) (lim := lim) (.inr hl))
    clear hv hl
    go_enter Try.func37, Try.ntmps37
    go_wp2_with fail
    refine (validStore_ok s _ _ (HS.out.grow (by repeat (first | with_reducible exact Ext.refl _ _ | with_reducible refine Ext.trans ?_ (by assumption) | with_reducible refine Ext.drew ?_ | with_reducible refine Ext.drewN ?_ _ | with_reducible refine Ext.alloc ?_ _ | with_reducible refine Ext.setNew ?_ (by simp; done) _ | with_reducible refine Ext.setNew ?_ (by simp; omega) _)))).mono ?_
    rintro e w2 ⟨rfl, hg2⟩
    simp only [Hv.out]
    go_wp2_with fail
    refine (inRange_ok lim 1 10 _).mono ?_
    rintro e w3 ⟨rfl, rfl⟩
    simp only [Hl.out]
    go_wp2_with fail
    go_ret
    exact ⟨.slice none 0 0, by simp, (by repeat (first | with_reducible exact Ext.refl _ _ | with_reducible refine Ext.trans ?_ (by assumption) | with_reducible refine Ext.drew ?_ | with_reducible refine Ext.drewN ?_ _ | with_reducible refine Ext.alloc ?_ _ | with_reducible refine Ext.setNew ?_ (by simp; done) _ | with_reducible refine Ext.setNew ?_ (by simp; omega) _)), by rw [Hf.out]; exact RowO.nil⟩
  have Hl := Lib.hid hl
  have Hap := Lib.hid (apL_good hv hl)
  have Hnm := Lib.hid (storeB_names hv)
  have hl10 : s.1.length ≤ 10 := (storeB_parts hv).1
  have hb0 : (behind ⟨#[]⟩ s.1).length < 11 := by have := behind_len ⟨#[]⟩ s.1 s.1.length; rw [List.take_length] at this; omega
  clear hv hl
  go_enter Try.func37, Try.ntmps37
  go_wp2_with fail
  refine (validStore_ok s _ _ (HS.out.grow (by repeat (first | with_reducible exact Ext.refl _ _ | with_reducible refine Ext.trans ?_ (by assumption) | with_reducible refine Ext.drew ?_ | with_reducible refine Ext.drewN ?_ _ | with_reducible refine Ext.alloc ?_ _ | with_reducible refine Ext.setNew ?_ (by simp; done) _ | with_reducible refine Ext.setNew ?_ (by simp; omega) _)))).mono ?_
  rintro e w2 ⟨rfl, hg2⟩
  simp only [Hv.out]
  go_wp2_with fail
  refine (inRange_ok lim 1 10 _).mono ?_
  rintro e w3 ⟨rfl, rfl⟩
  simp only [Hl.out]
  have HB := Lib.hid (((BoxN.new w [.slice a s.1.length c, .int .i64 s.2] 33).grow ((Ext.refl nil _).alloc (.cells #[] 25))).grow hg2)
  go_wp2_with fail
  have hgw : Grow w w3 := (by repeat (first | with_reducible exact Ext.refl _ _ | with_reducible refine Ext.trans ?_ (by assumption) | with_reducible refine Ext.drew ?_ | with_reducible refine Ext.drewN ?_ _ | with_reducible refine Ext.alloc ?_ _ | with_reducible refine Ext.setNew ?_ (by simp; done) _ | with_reducible refine Ext.setNew ?_ (by simp; omega) _))
  go_loopw [5, 6] (fun t af wr => Grow w wr ∧ BoxN wr w.heap.size [.slice a s.1.length c, .int .i64 s.2] ∧ ApRel w (w.heap.size + 1) s lim t af wr) (fun _ af _ => (behind (strOf af) s.1).length)
  case atStart =>
    refine ⟨hgw, HB.out, [], ⟨#[]⟩, 11, rfl, by unfold big; decide, RowO.grow ?_ hg2, by rw [Hap.out]; rfl, hb0, by simp⟩
    have := RowO.made (E := strsRep) (T := 25) (w := w.alloc (.cells #[.slice a s.1.length c, .int .i64 s.2] 33)) (B := w.heap.size + 1) (by simp)
    simpa using this
  case round =>
    obtain ⟨hg0, B1, acc, af, m, rfl, haf, hrow, hap, hbm, hm⟩ := hrel
    have HB1 := Lib.hid B1
    have Hrow := Lib.hid hrow
    have Hap2 := Lib.hid hap
    have lb1 := B1.lt
    obtain ⟨m', rfl⟩ : ∃ m', m = m' + 1 := ⟨m - 1, by omega⟩
    have q0 := B1.cell 0 _ rfl
    have q1 := B1.cell 1 _ rfl
    have hlow := hrow.low
    clear B1 hrow hap
    go_wp2_with fail
    refine (specPageOf_own s af lim _ _ haf (HS.out.grow hg0)).mono ?_
    rintro e w4 ⟨r, fp, rfl, hg4, hF, hfr⟩
    obtain ⟨cs, rfl, ra, rc, rfl, hF⟩ := hF
    have HF := Lib.hid hF
    have Hfr := Lib.hid hfr
    have Hlow := Lib.hid hlow
    have HB4 := Lib.hid (HB1.out.grow hg4)
    have hz4 := hg4.size
    clear q0 q1 hF hfr hlow
    obtain ⟨i0, hi0, hz0, hz1, hz2⟩ := info_parts info_strs
    obtain ⟨ta, tc, rfl⟩ := Hrow.out.slice
    have ha : Grow w4 (w4.alloc (.cells #[.slice ra (pgL s af lim).length rc] 25)) := (Ext.refl nil w4).alloc _
    have Ha := Lib.hid ha
    clear ha
    unfold packO
    go_wp2_with (at_builtin; (refine wpList_appO _ rfl _ _ 53 rfl strsRep (w.heap.size + 1) 25 i0 (.slice none 0 0) 24 Try.underlying53 hi0 hz0 hz1 hz2 rfl strsRep_pos (.slice ta acc.length tc) acc rfl wr Hrow.out (hg4.trans Ha.out) ⟨w4.heap.size, 0, none⟩ 1 (pgL s af lim) [.slice ra (pgL s af lim).length rc] fp rfl ⟨ra, rc, rfl, HF.out.keep (Ha.out.keeps Hfr.out (fun _ _ h => h))⟩ (Hfr.out.ext Ha.out (fun _ _ h => h)) ?c2 ?c3 ?c4 ?c5 ?c6 ?_))
    case c2 =>
      intro j u hu
      rw [addr_add, Nat.zero_add]
      exact (BoxN.new w4 [.slice ra (pgL s af lim).length rc] 25).cell j u hu
    case c3 => simp [Value.oneCell']
    case c4 => unfold maxLen; omega
    case c5 => omega
    case c6 => omega
    intro t' w5 hrow5 he5
    have hb5 : ∀ k, rowB (.slice ta acc.length tc) k → w.heap.size < k := fun k hk => by have := (Hlow.out k hk).1; omega
    have hg5 : Grow w w5 := Grow.rowed ((hg0.trans hg4).trans Ha.out) he5 (fun k hk => by have := hb5 k hk; omega)
    have B5 := (HB4.out.grow Ha.out).rowed he5 hb5
    have Hrow5 := Lib.hid hrow5
    have HB5 := Lib.hid B5
    have Hg5 := Lib.hid hg5
    clear hrow5 he5 hb5 hg5 B5
    have Hst : Hid (pgs (m' + 1) s af lim = pgL s af lim :: (if (pgN s af lim).toList.isEmpty = true then [] else pgs m' s (pgN s af lim) lim)) := Lib.hid (by rw [pgs])
    cases hn : (pgN s af lim).toList.isEmpty
    · have Hless := Lib.hid (pgN_less hn)
      have Hn := Lib.hid hn
      have hn' : (!(pgN s af lim).toList.isEmpty) = true := by rw [hn]; rfl
      have Hsz := Lib.hid (pgN_size s af lim Hnm.out)
      go_wp2_with fail
      go_roundw
      case rel => exact ⟨Hg5.out, HB5.out, acc ++ [pgL s af lim], pgN s af lim, m', rfl, Hsz.out, Hrow5.out, by rw [Hap2.out, Hst.out, Hn.out]; simp, by have := Hless.out; omega, by simp; omega⟩
      case measure => have := Hless.out; simpa [strOf] using this
    · have Hn := Lib.hid hn
      go_wp2_with fail
      go_ret
      exact ⟨t', rfl, Hg5.out, by rw [Hap2.out, Hst.out, Hn.out]; exact Hrow5.out⟩

theorem specAllPages_ok (s : Sto) (lim : Int) (v : Value) (w : World) (h : RV stoRep packA w any s v) :
    Calls Try.prog 37 #[v, .int .i64 lim] w fun e w' => ∃ r, e = .returned r ∧ Grow w w' ∧ RV pathsRep packO w' any (apL s lim) r :=
  (specAll_own s lim v w h).mono fun e w' ⟨r, he, hg, ho⟩ => by obtain ⟨fp, h1, h2⟩ := ho.fv (hp := strsRep_pos); exact ⟨r, he, hg, h1.rv⟩

end Go.Proofs.Ytmeobmegnneegaa

/-
  The walk of markItemS. (Printed by wip/genmark.py.)
-/
namespace Go.Proofs.Ytmeobmegnneegaa
open Go.RowKit

def cntItm (x : Itm) : Nat := 1 + 1 + cntK x.2.2
def mkItm (k : Nat) (x : Itm) : Itm := (mtxt (k), ((k + 1 : Nat) : Int), mkK (k + 1 + 1) x.2.2)

set_option maxRecDepth 100000 in
set_option maxHeartbeats 4000000 in
theorem markItemS_ok (l : List Itm) (a : Option Addr) (c : Nat) (fp : List Nat) (B k : Nat) (i : Int) (w : World) (hi : i = (k : Int)) (hF : SlF itmRep w a c l fp) (hfr : Free B w fp) (h1 : 0 < k) (h2 : k + cntR cntItm l ≤ 1000000000) (hl : l.length ≤ 1000000000) :
    Calls Try.prog 85 #[.slice a l.length c, .int .i64 i] w fun e w' => e = .returned (.int .i64 ((k + cntR cntItm l : Nat) : Int)) ∧ Ext (inl fp) w w' ∧ Free B w' fp ∧ SlF itmRep w' a c (mkR mkItm cntItm k l) fp := by
  subst hi
  obtain ⟨hle, hlen, hcc⟩ := hF
  rcases hcc with ⟨rfl, rfl⟩ | ⟨b, o, f, hne, rfl, rfl, hcc⟩
  · go_enter Try.func85, Try.ntmps85
    go_wp2_with fail
    go_loopw [1, 5] (fun t1 i wr => t1 = .int .i64 k ∧ i = .int .i64 0 ∧ wr = w) (fun _ _ _ => 0)
    case atStart => exact ⟨rfl, rfl, rfl⟩
    case round =>
      obtain ⟨rfl, rfl, rfl⟩ := hrel
      go_wp2_with fail
      go_ret
      exact ⟨by simp [cntR], Ext.refl _ _, hfr, ⟨by simp [mkR], by simp [mkR], .inl ⟨rfl, rfl⟩⟩⟩
  · have Hle := Lib.hid hle
    have Hlen := Lib.hid hlen
    have Hne := Lib.hid hne
    have hK0 : RowF itmRep w b o (mkR mkItm cntItm k (l.take 0) ++ l.drop 0) f := by simpa [mkR] using hcc
    clear hle hlen hne hcc
    go_enter Try.func85, Try.ntmps85
    go_wp2_with fail
    go_loopw [1, 5] (fun t1 i wr => ∃ j : Nat, j ≤ l.length ∧ i = .int .i64 j ∧ t1 = .int .i64 ((k + cntR cntItm (l.take j) : Nat) : Int) ∧ Ext (inl (b :: f)) w wr ∧ Free B wr (b :: f) ∧ RowF itmRep wr b o (mkR mkItm cntItm k (l.take j) ++ l.drop j) f) (fun _ i _ => l.length - (intOf i).toNat)
    case atStart => exact ⟨0, Nat.zero_le _, rfl, rfl, Ext.refl _ _, hfr, hK0⟩
    case round =>
      obtain ⟨j, hj, rfl, rfl, hg, hfr', hK⟩ := hrel
      have hct := cntR_take cntItm l j
      have Hg := Lib.hid hg
      have Hfr := Lib.hid hfr'
      have HK := Lib.hid hK
      clear hg hfr' hK hfr hK0
      by_cases hlt : j < l.length
      · obtain ⟨x, hx⟩ : ∃ x, x = l[j] := ⟨_, rfl⟩
        have htk : l.take (j + 1) = l.take j ++ [x] := by rw [take_snoc' _ _ hlt, hx]
        have hct2 := cntR_take cntItm l (j + 1)
        rw [htk, cntR_snoc] at hct2
        have hdr : l.drop j = x :: l.drop (j + 1) := by rw [drop_cons _ _ hlt, hx]
        have hK := HK.out
        rw [hdr] at hK
        obtain ⟨f1, f', hf, hK1, hK2⟩ := hK.split
        have hjl : (mkR mkItm cntItm k (l.take j)).length = j := by rw [mkR_len]; simp; omega
        rw [hjl] at hK2
        obtain ⟨fx, f2, cs, hf', hcs, hxF, hK3⟩ := hK2
        subst hf
        subst hf'
        have hcl := itmRep.flen hxF

        obtain ⟨_, _, fp0, fq0, rfl, hq0, ⟨rfl, h0, hz0⟩, ⟨_, _, fp1, fq1, rfl, hq1, ⟨rfl, hz1⟩, ⟨na2, nc2, ka2, kc2, rfl, h2⟩⟩⟩ := hxF
        subst hz0
        subst hz1
        obtain ⟨k', hk'⟩ : ∃ k', k' = k + cntR cntItm (l.take j) := ⟨_, rfl⟩
        have hk1 : 0 < k' := by omega
        have hb9 : k' + (1 + 1 + cntK x.2.2) ≤ 1000000000 := by have : cntItm x = 1 + 1 + cntK x.2.2 := rfl; omega
        obtain ⟨g2a, g2b, hfx2, ht2, hn2, hk2⟩ := h2.parts
        have Hck2 := Lib.hid (cntK_eq x.2.2)
        rw [← hk']
        clear hct2 hct
        have hs_g2a : ∀ y ∈ g2a, y ∈ fx := fun y hy => by simp [hq0, hq1, hfx2, hy]
        have hs_g2b : ∀ y ∈ g2b, y ∈ fx := fun y hy => by simp [hq0, hq1, hfx2, hy]
        have hbf : b ∉ f1 ++ (fx ++ f2) := (List.nodup_cons.1 Hfr.out.1).1
        have hnx : fx.Nodup := (List.nodup_append.1 (List.nodup_append.1 (List.nodup_cons.1 Hfr.out.1).2).2.1).1
        have hnx' := hnx
        simp only [hq0, hq1, hfx2] at hnx'
        simp only [List.nodup_append, List.nil_append] at hnx'
        have hn_g2a : g2a.Nodup := by simp_all
        have hb_g2a : b ∉ g2a := fun h => hbf (by simp [hs_g2a b h])
        have hf_g2a : Free B wr g2a := ⟨hn_g2a, fun y hy => Hfr.out.2 y (by simp [hs_g2a y hy])⟩
        have hn_g2b : g2b.Nodup := by simp_all
        have hb_g2b : b ∉ g2b := fun h => hbf (by simp [hs_g2b b h])
        have hf_g2b : Free B wr g2b := ⟨hn_g2b, fun y hy => Hfr.out.2 y (by simp [hs_g2b y hy])⟩
        have hd_g2a_g2b : ∀ y, y ∈ g2a → y ∈ g2b → False := by
          intro y h1 h2
          have h3 := hnx
          simp only [hq0, hq1, hfx2] at h3
          exact absurd h3 (not_nodup y (by simp [List.count_append]; have := List.count_pos_iff.2 h1; have := List.count_pos_iff.2 h2; omega))
        have he := Elm.new hcs hcl (Hfr.out.2 b (by simp)).2.2 (hcs.lt (by intro h; rw [h] at hcl; cases hcl))
        rw [itmRep_n] at he
        simp only [nodeL, List.cons_append, List.nil_append] at he
        have H_hs_g2a := Lib.hid hs_g2a
        have H_hb_g2a := Lib.hid hb_g2a
        have H_hf_g2a := Lib.hid hf_g2a
        have H_hs_g2b := Lib.hid hs_g2b
        have H_hb_g2b := Lib.hid hb_g2b
        have H_hf_g2b := Lib.hid hf_g2b
        have H_hd_g2a_g2b := Lib.hid hd_g2a_g2b
        have H_hn2 := Lib.hid hn2
        have H_hk2 := Lib.hid hk2
        have H_hfx2 := Lib.hid hfx2
        have H_hq0 := Lib.hid hq0
        have H_hq1 := Lib.hid hq1
        have H_hK1 := Lib.hid hK1
        have H_hK3 := Lib.hid hK3
        have H_htk := Lib.hid htk
        have H_hk' := Lib.hid hk'
        have HE := Lib.hid he
        clear hx hdr hK hnx hnx' hbf he hcs hcl hjl HK hs_g2a hb_g2a hf_g2a hn_g2a hs_g2b hb_g2b hf_g2b hn_g2b hd_g2a_g2b hn2 hk2 hfx2 h2 ht2 hq0 hq1 hK1 hK3 htk hk' h0
        have c0 : wr.cell? ⟨b, o + j * 7, none⟩ = _ := HE.out.cells 0 _ rfl
        have c1 := HE.out.cells 1 _ rfl
        have c2 := HE.out.cells 2 _ rfl
        have c3 := HE.out.cells 3 _ rfl
        have c4 := HE.out.cells 4 _ rfl
        have c5 := HE.out.cells 5 _ rfl
        have c6 := HE.out.cells 6 _ rfl
        have cz := HE.out.fr
        go_wp2_with fail
        have hea : Ext (inl [b]) wr wr := Ext.refl _ _
        have HA := Lib.hid hea
        clear hea
        clear c0 c1 c2 c3 c4 c5 c6 cz
        refine (markText_i (k') _ _ (by have := Hck2.out; omega) (by have := Hck2.out; omega) (by have := Hck2.out; omega)).mono ?_
        rintro e w1 ⟨rfl, hg⟩
        have he := HE.out.grow hg
        have hes : Ext (inl [b]) wr w1 := HA.out.trans hg.toX'
        clear hes HA hg HE
        have HE := Lib.hid he
        clear he
        have c0 : w1.cell? ⟨b, o + j * 7, none⟩ = _ := HE.out.cells 0 _ rfl
        have c1 := HE.out.cells 1 _ rfl
        have c2 := HE.out.cells 2 _ rfl
        have c3 := HE.out.cells 3 _ rfl
        have c4 := HE.out.cells 4 _ rfl
        have c5 := HE.out.cells 5 _ rfl
        have c6 := HE.out.cells 6 _ rfl
        have cz := HE.out.fr
        go_wp2_with fail
        obtain ⟨wa2, hwa⟩ : ∃ wa, wa = ((((w1.setCell ⟨b, o + j * 7, none⟩ (.string (mtxt (k')))).setCell ⟨b, o + j * 7 + 1, none⟩ (.int .i64 ((k' : Int) + 1))).setCell ⟨b, o + j * 7 + 2, none⟩ (.int .i64 ((k' : Int) + 1 + 1))).setCell ⟨b, o + j * 7 + 3, none⟩ (.int .i64 ((k' : Int) + 1 + 1 + 1))) := ⟨_, rfl⟩
        rw [← hwa]
        have he : Elm wr wa2 b (o + j * 7) 7 [.string (mtxt (k')), .int .i64 ((k' : Int) + 1), .int .i64 ((k' : Int) + 1 + 1), .int .i64 ((k' : Int) + 1 + 1 + 1), .string x.2.2.text, .slice na2 x.2.2.names.length nc2, .slice ka2 x.2.2.kids.length kc2] ([]) := by rw [hwa]; exact ((((HE.out.set0 (by simp) (.string (mtxt (k')))).set 1 (by simp) (.int .i64 ((k' : Int) + 1))).set 2 (by simp) (.int .i64 ((k' : Int) + 1 + 1))).set 3 (by simp) (.int .i64 ((k' : Int) + 1 + 1 + 1)))
        have hea : Ext (inl [b]) w1 wa2 := by rw [hwa]; exact (((((Ext.refl (inl [b]) w1).setIn (p := ⟨b, o + j * 7, none⟩) (by simp [inl]) (.string (mtxt (k')))).setIn (p := ⟨b, o + j * 7 + 1, none⟩) (by simp [inl]) (.int .i64 ((k' : Int) + 1))).setIn (p := ⟨b, o + j * 7 + 2, none⟩) (by simp [inl]) (.int .i64 ((k' : Int) + 1 + 1))).setIn (p := ⟨b, o + j * 7 + 3, none⟩) (by simp [inl]) (.int .i64 ((k' : Int) + 1 + 1 + 1)))
        clear hwa HE
        have HE := Lib.hid he
        clear he
        have HA := Lib.hid hea
        clear hea
        clear c0 c1 c2 c3 c4 c5 c6 cz
        refine (markText_i (k' + 1 + 1 + 1 + 1) _ _ (by have := Hck2.out; omega) (by have := Hck2.out; omega) (by have := Hck2.out; omega)).mono ?_
        rintro e w2 ⟨rfl, hg⟩
        have he := HE.out.grow hg
        have hes : Ext (inl [b]) w1 w2 := HA.out.trans hg.toX'
        clear hes HA hg HE
        have HE := Lib.hid he
        clear he
        have c0 : w2.cell? ⟨b, o + j * 7, none⟩ = _ := HE.out.cells 0 _ rfl
        have c1 := HE.out.cells 1 _ rfl
        have c2 := HE.out.cells 2 _ rfl
        have c3 := HE.out.cells 3 _ rfl
        have c4 := HE.out.cells 4 _ rfl
        have c5 := HE.out.cells 5 _ rfl
        have c6 := HE.out.cells 6 _ rfl
        have cz := HE.out.fr
        go_wp2_with fail
        obtain ⟨wa3, hwa⟩ : ∃ wa, wa = (w2.setCell ⟨b, o + j * 7 + 4, none⟩ (.string (mtxt (k' + 1 + 1 + 1 + 1)))) := ⟨_, rfl⟩
        rw [← hwa]
        have he : Elm wr wa3 b (o + j * 7) 7 [.string (mtxt (k')), .int .i64 ((k' : Int) + 1), .int .i64 ((k' : Int) + 1 + 1), .int .i64 ((k' : Int) + 1 + 1 + 1), .string (mtxt (k' + 1 + 1 + 1 + 1)), .slice na2 x.2.2.names.length nc2, .slice ka2 x.2.2.kids.length kc2] ([]) := by rw [hwa]; exact (HE.out.set 4 (by simp) (.string (mtxt (k' + 1 + 1 + 1 + 1))))
        have hea : Ext (inl [b]) w2 wa3 := by rw [hwa]; exact ((Ext.refl (inl [b]) w2).setIn (p := ⟨b, o + j * 7 + 4, none⟩) (by simp [inl]) (.string (mtxt (k' + 1 + 1 + 1 + 1))))
        clear hwa HE
        have HE := Lib.hid he
        clear he
        have HA := Lib.hid hea
        clear hea
        clear c0 c1 c2 c3 c4 c5 c6 cz
        have hni : ∀ y ∈ g2a, ¬ inl (b :: ([])) y := (fun y hy h => by simp [inl] at h; subst h; exact H_hb_g2a.out hy)
        have hko := HE.out.ext.keeps H_hf_g2a.out hni
        have hfo := H_hf_g2a.out.ext HE.out.ext hni
        have Hko := Lib.hid hko
        have Hfo := Lib.hid hfo
        clear hko hfo hni
        refine (markStringS_i na2 nc2 x.2.2.names g2a B (k' + 1 + 1 + 1 + 1 + 1) _ _ (by have := Hck2.out; omega) (H_hn2.out.keep Hko.out) Hfo.out (by have := Hck2.out; omega) (by have := Hck2.out; omega)).mono ?_
        rintro e w3 ⟨rfl, hx, hfree, hF⟩
        clear HA
        have he := HE.out.sub hx H_hb_g2a.out
        have M_g2a := Lib.hid hF
        have MF_g2a := Lib.hid hfree
        have X_g2a := Lib.hid hx
        clear hx hfree hF HE Hko Hfo
        have HE := Lib.hid he
        clear he
        have c0 : w3.cell? ⟨b, o + j * 7, none⟩ = _ := HE.out.cells 0 _ rfl
        have c1 := HE.out.cells 1 _ rfl
        have c2 := HE.out.cells 2 _ rfl
        have c3 := HE.out.cells 3 _ rfl
        have c4 := HE.out.cells 4 _ rfl
        have c5 := HE.out.cells 5 _ rfl
        have c6 := HE.out.cells 6 _ rfl
        have cz := HE.out.fr
        go_wp2_with fail
        have hea : Ext (inl [b]) w3 w3 := Ext.refl _ _
        have HA := Lib.hid hea
        clear hea
        clear c0 c1 c2 c3 c4 c5 c6 cz
        have hni : ∀ y ∈ g2b, ¬ inl (b :: ([] ++ g2a)) y := (fun y hy h => by simp [inl] at h; rcases h with h | h; subst h; exact H_hb_g2b.out hy; exact False.elim (H_hd_g2a_g2b.out y h hy))
        have hko := HE.out.ext.keeps H_hf_g2b.out hni
        have hfo := H_hf_g2b.out.ext HE.out.ext hni
        have Hko := Lib.hid hko
        have Hfo := Lib.hid hfo
        clear hko hfo hni
        refine (markNodeS_ok x.2.2.kids ka2 kc2 g2b B (k' + 1 + 1 + 1 + 1 + 1 + x.2.2.names.length) _ _ (by have := Hck2.out; omega) (H_hk2.out.keep Hko.out) Hfo.out (by have := Hck2.out; omega) (by have := Hck2.out; omega)).mono ?_
        rintro e w4 ⟨rfl, hx, hfree, hF⟩
        have hes : Ext (inl (b :: g2b)) w3 w4 := (HA.out.mono (fun y hy => by simp [inl] at hy ⊢; exact .inl hy)).trans (hx.mono (fun y hy => List.mem_cons_of_mem _ hy))
        have hnn : ∀ y ∈ g2a, ¬ inl (b :: g2b) y := (fun y hy h => by simp [inl] at h; rcases h with h | h; subst h; exact H_hb_g2a.out hy; exact H_hd_g2a_g2b.out y hy h)
        replace M_g2a := Lib.hid (M_g2a.out.keep (hes.keeps MF_g2a.out hnn))
        replace MF_g2a := Lib.hid (MF_g2a.out.ext hes hnn)
        clear hnn
        clear hes
        clear HA
        have he := HE.out.sub hx H_hb_g2b.out
        have M_g2b := Lib.hid hF
        have MF_g2b := Lib.hid hfree
        have X_g2b := Lib.hid hx
        clear hx hfree hF HE Hko Hfo
        have HE := Lib.hid he
        clear he
        have c0 : w4.cell? ⟨b, o + j * 7, none⟩ = _ := HE.out.cells 0 _ rfl
        have c1 := HE.out.cells 1 _ rfl
        have c2 := HE.out.cells 2 _ rfl
        have c3 := HE.out.cells 3 _ rfl
        have c4 := HE.out.cells 4 _ rfl
        have c5 := HE.out.cells 5 _ rfl
        have c6 := HE.out.cells 6 _ rfl
        have cz := HE.out.fr
        go_wp2_with fail
        clear c0 c1 c2 c3 c4 c5 c6 cz
        go_roundw
        case rel =>
          have he := HE.out
          have hG : ∀ y ∈ [] ++ g2a ++ g2b, y ∈ fx := by
            intro y hy
            simp at hy
            rcases hy with h | h
            · exact H_hs_g2a.out y h
            · exact H_hs_g2b.out y h
          have hes := (Ext.refl (inl [b]) w4)
          have hnn : ∀ y ∈ g2a, ¬ inl [b] y := (fun y hy h => by simp [inl] at h; subst h; exact H_hb_g2a.out hy)
          replace M_g2a := Lib.hid (M_g2a.out.keep (hes.keeps MF_g2a.out hnn))
          replace MF_g2a := Lib.hid (MF_g2a.out.ext hes hnn)
          clear hnn
          have hnn : ∀ y ∈ g2b, ¬ inl [b] y := (fun y hy h => by simp [inl] at h; subst h; exact H_hb_g2b.out hy)
          replace M_g2b := Lib.hid (M_g2b.out.keep (hes.keeps MF_g2b.out hnn))
          replace MF_g2b := Lib.hid (MF_g2b.out.ext hes hnn)
          clear hnn
          refine ⟨j + 1, by omega, by go_num, ?_, Hg.out.trans (he.ext.mono (fun y hy => ?_)), he.free Hfr.out (fun y hy q => ?_), ?_⟩
          · rw [H_htk.out, cntR_snoc]
            have h3 := H_hk'.out
            have h4 : cntItm x = 1 + 1 + cntK x.2.2 := rfl
            congr 1
            exact (by have := Hck2.out; first | omega | (unfold wrap64; omega))
          · simp only [inl, List.mem_cons] at hy ⊢
            rcases hy with hy | hy
            · exact .inl hy
            · right; simp [hG y hy]
          · simp at hy
            rcases hy with h | h
            · exact (MF_g2a.out.2 y h).2.2 q
            · exact (MF_g2b.out.2 y h).2.2 q
          · have hxF : itmRep.F _ (mkItm k' x) ([.string (mtxt (k'))] ++ ([.int .i64 ((k' + 1 : Nat) : Int)] ++ nodeL (mkK (k' + 1 + 1) x.2.2) na2 nc2 ka2 kc2)) ([] ++ ([] ++ (g2a ++ g2b))) := ⟨[.string (mtxt (k'))], ([.int .i64 ((k' + 1 : Nat) : Int)] ++ nodeL (mkK (k' + 1 + 1) x.2.2) na2 nc2 ka2 kc2), [], ([] ++ (g2a ++ g2b)), rfl, rfl, ⟨rfl, mtxt_size _ (by omega), rfl⟩, ⟨[.int .i64 ((k' + 1 : Nat) : Int)], nodeL (mkK (k' + 1 + 1) x.2.2) na2 nc2 ka2 kc2, [], (g2a ++ g2b), rfl, rfl, ⟨rfl, rfl⟩, ⟨na2, nc2, ka2, kc2, rfl, nodeF_mk (by have := Hck2.out; omega) M_g2a.out M_g2b.out⟩⟩⟩
            have hfx : fx = ([] ++ ([] ++ (g2a ++ g2b))) := by simp [H_hq0.out, H_hq1.out, H_hfx2.out]
            rw [← hfx] at hxF
            simp only [nodeL_mk] at hxF
            have hjl : (mkR mkItm cntItm k (l.take j)).length = j := by rw [mkR_len]; simp; omega
            rw [H_htk.out, mkR_snoc, ← H_hk'.out, List.append_assoc]
            exact RowF.marked H_hK1.out H_hK3.out (by rw [hjl]) he hG Hfr.out hxF
        case measure => simp [intOf]; omega
      · have hje : j = l.length := by omega
        subst hje
        have hK := HK.out
        rw [List.take_length, List.drop_length, List.append_nil] at hK
        have HK2 := Lib.hid hK
        clear hK
        simp only [List.take_length]
        go_wp2_with fail
        go_ret
        refine ⟨by simp, Hg.out, Hfr.out, ⟨by rw [mkR_len]; exact Hle.out, by rw [mkR_len]; exact Hlen.out, .inr ⟨b, o, f, ?_, rfl, rfl, HK2.out⟩⟩⟩
        intro h
        have := congrArg List.length h
        rw [mkR_len] at this
        exact Hne.out (List.length_eq_zero_iff.1 this)

end Go.Proofs.Ytmeobmegnneegaa

/-
  The walks of the laws' helpers on stores.
-/
namespace Go.Proofs.Ytmeobmegnneegaa
open Go.RowKit

theorem openV_sto {w : World} {S : Nat → Prop} {s : Sto} {v : Value} (h : RV stoRep packA w S s v) : ∃ a c, v = stoV s a c := by
  obtain ⟨a, c, h, _⟩ := sto_open h; exact ⟨a, c, h⟩
def cntSto (s : Sto) : Nat := cntR cntItm s.1
def mkSto (k : Nat) (s : Sto) : Sto := (mkR mkItm cntItm k s.1, s.2)
theorem cntItm_le (x : Itm) : cntItm x ≤ 5 + 4 * costItm x := by
  have h := cntK_le x.2.2
  unfold cntItm costItm; omega
theorem cntSto_le (s : Sto) : cntSto s ≤ 5 * costSto s := by
  unfold cntSto costSto
  induction s.1 with
  | nil => simp [cntR]
  | cons x l ih =>
    have h := cntItm_le x
    simp only [cntR, costItmL, List.map_cons, List.sum_cons, List.length_cons] at ih ⊢
    omega
theorem cntSto_len (s : Sto) : s.1.length ≤ cntSto s := by
  unfold cntSto
  induction s.1 with
  | nil => simp
  | cons x l ih =>
    simp only [cntR, List.map_cons, List.sum_cons, List.length_cons, cntItm] at ih ⊢
    omega
theorem costSto_len (s : Sto) : s.1.length ≤ costSto s := by unfold costSto costItmL; omega

theorem uSzSto (s : Sto) (v : Value) (left : Int) (w : World) (h0 : 0 ≤ left) (h1 : left ≤ 1048576) (h : RV stoRep packA w any s v) :
    Calls Try.prog 22 #[v, .int .i64 left] w fun e w' => e = .returned (.int .i64 (szR (costSto s) left)) ∧ Grow w w' := by
  obtain ⟨a, c, rfl, hs⟩ := sto_open h
  have Hs := Lib.hid hs
  clear h hs
  unfold stoV
  by_cases hb : (costSto s : Int) ≤ left
  · have Hz := Lib.hid (szR_pos hb)
    have Hz' : Hid (szR (costItmL s.1) left = left - costSto s) := Lib.hid (szR_pos hb)
    go_enter Try.func22, Try.ntmps22
    go_wp2_with fail
    refine (szItemS_ok s.1 _ _ left _ (Hs.out.grow (by repeat (first | with_reducible exact Ext.refl _ _ | with_reducible refine Ext.trans ?_ (by assumption) | with_reducible refine Ext.drew ?_ | with_reducible refine Ext.drewN ?_ _ | with_reducible refine Ext.alloc ?_ _ | with_reducible refine Ext.setNew ?_ (by simp; done) _ | with_reducible refine Ext.setNew ?_ (by simp; omega) _))) h0 h1).mono ?_
    rintro e w2 ⟨rfl, hg2⟩
    simp only [Hz'.out]
    go_wp2_with fail
    go_ret
    exact ⟨by simp [Hz.out], (by repeat (first | with_reducible exact Ext.refl _ _ | with_reducible refine Ext.trans ?_ (by assumption) | with_reducible refine Ext.drew ?_ | with_reducible refine Ext.drewN ?_ _ | with_reducible refine Ext.alloc ?_ _ | with_reducible refine Ext.setNew ?_ (by simp; done) _ | with_reducible refine Ext.setNew ?_ (by simp; omega) _))⟩
  · have Hz := Lib.hid (szR_neg (c := costSto s) (left := left) (by omega))
    have Hz' : Hid (szR (costItmL s.1) left = -1) := Lib.hid (szR_neg (by unfold costSto at hb; omega))
    clear hb
    go_enter Try.func22, Try.ntmps22
    go_wp2_with fail
    refine (szItemS_ok s.1 _ _ left _ (Hs.out.grow (by repeat (first | with_reducible exact Ext.refl _ _ | with_reducible refine Ext.trans ?_ (by assumption) | with_reducible refine Ext.drew ?_ | with_reducible refine Ext.drewN ?_ _ | with_reducible refine Ext.alloc ?_ _ | with_reducible refine Ext.setNew ?_ (by simp; done) _ | with_reducible refine Ext.setNew ?_ (by simp; omega) _))) h0 h1).mono ?_
    rintro e w2 ⟨rfl, hg2⟩
    simp only [Hz'.out]
    go_wp2_with fail
    go_ret
    exact ⟨by simp [Hz.out], (by repeat (first | with_reducible exact Ext.refl _ _ | with_reducible refine Ext.trans ?_ (by assumption) | with_reducible refine Ext.drew ?_ | with_reducible refine Ext.drewN ?_ _ | with_reducible refine Ext.alloc ?_ _ | with_reducible refine Ext.setNew ?_ (by simp; done) _ | with_reducible refine Ext.setNew ?_ (by simp; omega) _))⟩

theorem uToSto (s : Sto) (v : Value) (w : World) (hc : costSto s ≤ 1048576) (h : RV stoRep packA w any s v) :
    Calls Try.prog 25 #[v] w fun e w' => ∃ v' fp, e = .returned v' ∧ Grow w w' ∧ FV stoRep packA w' s v' fp ∧ Free w.heap.size w' fp := by
  obtain ⟨a, c, rfl, hs⟩ := sto_open h
  have Hs := Lib.hid hs
  clear h hs
  unfold stoV
  have HB0 := Lib.hid (((BoxN.new w [.slice a s.1.length c, .int .i64 s.2] 24).grow ((Ext.refl nil _).alloc (.cells #[.slice none 0 0, .int .i64 0] 33))).grow ((Ext.refl nil _).alloc (.cells #[.slice none 0 0, .int .i64 0] 33)))
  have HB1 := Lib.hid ((BoxN.new1 w (.cells #[.slice a s.1.length c, .int .i64 s.2] 24) [.slice none 0 0, .int .i64 0] 33).grow ((Ext.refl nil _).alloc (.cells #[.slice none 0 0, .int .i64 0] 33)))
  have HB2 := Lib.hid (BoxN.new2 w (.cells #[.slice a s.1.length c, .int .i64 s.2] 24) (.cells #[.slice none 0 0, .int .i64 0] 33) [.slice none 0 0, .int .i64 0] 33)
  go_enter Try.func25, Try.ntmps25
  go_wp2_with fail
  refine (toItemS_ok s.1 _ _ _ hc (Hs.out.grow (by repeat (first | with_reducible exact Ext.refl _ _ | with_reducible refine Ext.trans ?_ (by assumption) | with_reducible refine Ext.drew ?_ | with_reducible refine Ext.drewN ?_ _ | with_reducible refine Ext.alloc ?_ _ | with_reducible refine Ext.setNew ?_ (by simp; done) _ | with_reducible refine Ext.setNew ?_ (by simp; omega) _)))).mono ?_
  rintro e w2 ⟨a', c', fp, rfl, hg2, hF, hfr⟩
  have hgp : Grow w w2 := (by repeat (first | with_reducible exact Ext.refl _ _ | with_reducible refine Ext.trans ?_ (by assumption) | with_reducible refine Ext.drew ?_ | with_reducible refine Ext.drewN ?_ _ | with_reducible refine Ext.alloc ?_ _ | with_reducible refine Ext.setNew ?_ (by simp; done) _ | with_reducible refine Ext.setNew ?_ (by simp; omega) _))
  simp only [World.size_alloc] at hfr
  have HF := Lib.hid hF
  have Hfr := Lib.hid hfr
  replace HB0 := Lib.hid (HB0.out.grow hg2)
  replace HB1 := Lib.hid (HB1.out.grow hg2)
  replace HB2 := Lib.hid (HB2.out.grow hg2)
  clear hF hfr hg2
  have p0 := HB0.out.cell 0 _ rfl
  have p1 := HB0.out.cell 1 _ rfl
  have q0 := HB2.out.cell 0 _ rfl
  have q1 := HB2.out.cell 1 _ rfl
  have qf := HB2.out.fr
  have r0 := HB1.out.cell 0 _ rfl
  have r1 := HB1.out.cell 1 _ rfl
  have rf := HB1.out.fr
  have z1 := HB2.out.lt
  go_wp2_with fail
  have BF := (((HB1.out.other (p := ⟨w.heap.size + 1 + 1, 0, none⟩) (by simp) (.slice a' s.1.length c')).other (p := ⟨w.heap.size + 1 + 1, 1, none⟩) (by simp) (.int .i64 s.2)).set 0 (by simp) (.slice a' s.1.length c')).set 1 (by simp) (.int .i64 s.2)
  have s0 := BF.cell 0 _ rfl
  have s1 := BF.cell 1 _ rfl
  have x2 : ∀ b ∈ fp, ¬ (b = w.heap.size + 1 ∨ b = w.heap.size + 1 + 1) := fun b hb => by have := (Hfr.out.2 b hb).1; omega
  have ex : ∀ (w3 : World) (p : Addr) (v : Value), (p.block = w.heap.size + 1 ∨ p.block = w.heap.size + 1 + 1) → Ext (fun k => k = w.heap.size + 1 ∨ k = w.heap.size + 1 + 1) w3 (w3.setCell p v) := fun w3 p v hp => (Ext.refl _ w3).setIn hp v
  have hall := ((ex w2 ⟨w.heap.size + 1 + 1, 0, none⟩ (.slice a' s.1.length c') (.inr rfl)).trans (ex _ ⟨w.heap.size + 1 + 1, 1, none⟩ (.int .i64 s.2) (.inr rfl))).trans ((ex _ ⟨w.heap.size + 1, 0, none⟩ (.slice a' s.1.length c') (.inl rfl)).trans (ex _ ⟨w.heap.size + 1, 1, none⟩ (.int .i64 s.2) (.inl rfl)))
  refine bodyPost_ret (v := stoV s a' c') ?_ rfl ⟨_, fp, rfl, hgp.inner hall (by intro i hi; omega), sto_shutF (HF.out.keep (hall.keeps Hfr.out x2)), (Hfr.out.ext hall x2).mono (by omega)⟩
  unfold stoV
  simp [results, Try.results25, go_sem, s0, s1]

theorem uEqSto (s : Sto) (v u : Value) (w : World) (h : RV stoRep packA w any s v) (h' : RV stoRep packA w any s u) :
    Calls Try.prog 28 #[v, u] w fun e w' => e = .returned (.bool true) ∧ Grow w w' := by
  obtain ⟨a, c, rfl, hs⟩ := sto_open h
  obtain ⟨a', c', rfl, hs'⟩ := sto_open h'
  have Hs := Lib.hid hs
  have Hs' := Lib.hid hs'
  clear h hs h' hs'
  unfold stoV
  go_enter Try.func28, Try.ntmps28
  go_wp2_with fail
  refine (eqItemS_same s.1 _ _ _ _ _ (Hs.out.grow (by repeat (first | with_reducible exact Ext.refl _ _ | with_reducible refine Ext.trans ?_ (by assumption) | with_reducible refine Ext.drew ?_ | with_reducible refine Ext.drewN ?_ _ | with_reducible refine Ext.alloc ?_ _ | with_reducible refine Ext.setNew ?_ (by simp; done) _ | with_reducible refine Ext.setNew ?_ (by simp; omega) _))) (Hs'.out.grow (by repeat (first | with_reducible exact Ext.refl _ _ | with_reducible refine Ext.trans ?_ (by assumption) | with_reducible refine Ext.drew ?_ | with_reducible refine Ext.drewN ?_ _ | with_reducible refine Ext.alloc ?_ _ | with_reducible refine Ext.setNew ?_ (by simp; done) _ | with_reducible refine Ext.setNew ?_ (by simp; omega) _)))).mono ?_
  rintro e w2 ⟨rfl, hg2⟩
  have hcc := bcell hg2
  go_wp2_with fail
  go_ret
  exact ⟨by simp, (by repeat (first | with_reducible exact Ext.refl _ _ | with_reducible refine Ext.trans ?_ (by assumption) | with_reducible refine Ext.drew ?_ | with_reducible refine Ext.drewN ?_ _ | with_reducible refine Ext.alloc ?_ _ | with_reducible refine Ext.setNew ?_ (by simp; done) _ | with_reducible refine Ext.setNew ?_ (by simp; omega) _))⟩

theorem uMarkSto (s : Sto) (v : Value) (fp : List Nat) (B k : Nat) (i : Int) (w : World) (hi : i = (k : Int)) (hF : FV stoRep packA w s v fp) (hfr : Free B w fp) (h1 : 0 < k) (h2 : k + cntSto s ≤ 1000000000) :
    Calls Try.prog 30 #[v, .int .i64 i] w fun e w' => e = .returned (.int .i64 ((k + cntSto s : Nat) : Int)) ∧ Ext (inl fp) w w' ∧ Free B w' fp ∧ FV stoRep packA w' (mkSto k s) v fp := by
  have hl : s.1.length ≤ 1000000000 := by have := cntSto_len s; omega
  obtain ⟨a, c, rfl, hs⟩ := sto_openF hF
  subst hi
  have Hs := Lib.hid hs
  have Hfr := Lib.hid hfr
  clear hF hs hfr
  unfold stoV
  go_enter Try.func30, Try.ntmps30
  go_wp2_with fail
  have hg1 : Grow w (w.alloc (.cells #[.slice a s.1.length c, .int .i64 s.2] 33)) := (Ext.refl nil w).alloc _
  refine (markItemS_ok s.1 _ _ fp B k _ _ rfl (Hs.out.keep (hg1.keeps Hfr.out (fun _ _ h => h))) (Hfr.out.ext hg1 (fun _ _ h => h)) h1 h2 hl).mono ?_
  rintro e w2 ⟨rfl, hx2, hfr2, hF2⟩
  go_wp2_with fail
  go_ret
  refine ⟨rfl, hg1.toX.trans hx2, hfr2, ?_⟩
  have := sto_shutF (s := mkSto k s) hF2
  unfold stoV mkSto at this
  simp only [mkR_len] at this
  exact this

end Go.Proofs.Ytmeobmegnneegaa

/-
  The walk of the law FnExactAllPages. (Printed by wip/genlaw.py.)
-/
namespace Go.Proofs.Ytmeobmegnneegaa
open Go.RowKit

set_option maxRecDepth 100000 in
set_option maxHeartbeats 4000000 in
theorem lawAllP_big (s : Sto) (lim : Int) (v0 : Value) (w : World) (h0 : RV stoRep packA w any s v0) (hbig : ¬ costSto s ≤ 1048576) :
    Calls Try.prog 6 #[v0, .int .i64 lim] w fun e w' => e = .returned (.bool true) ∧ Grow w w' := by
  have HV0 := Lib.hid h0
  obtain ⟨a0, c0, rfl⟩ := openV_sto h0
  clear h0
  unfold stoV at *
  by_cases c0 : (costSto s : Int) ≤ 1048576
  rotate_left
  ·
    have Hs0 := Lib.hid (szR_neg (c := costSto s) (left := 1048576) (by omega))
    clear c0 hbig
    have HB0 := Lib.hid (BoxN.new w [.slice a0 s.1.length c0, .int .i64 s.2] 24)
    go_enter Try.func6, Try.ntmps6
    go_wp2_with fail
    refine (uSzSto s _ _ _ (by omega) (by omega) (HV0.out.grow (by repeat (first | with_reducible exact Ext.refl _ _ | with_reducible refine Ext.trans ?_ (by assumption) | with_reducible refine Ext.drew ?_ | with_reducible refine Ext.drewN ?_ _ | with_reducible refine Ext.alloc ?_ _ | with_reducible refine Ext.setNew ?_ (by simp; done) _ | with_reducible refine Ext.setNew ?_ (by simp; omega) _)))).mono ?_
    rintro e w1 ⟨rfl, hg1⟩
    simp only [Hs0.out]
    have z1 := hg1.size
    try simp only [World.size_alloc] at z1
    go_wp2_with fail
    go_ret
    exact ⟨by simp, (by repeat (first | with_reducible exact Ext.refl _ _ | with_reducible refine Ext.trans ?_ (by assumption) | with_reducible refine Ext.drew ?_ | with_reducible refine Ext.drewN ?_ _ | with_reducible refine Ext.alloc ?_ _ | with_reducible refine Ext.setNew ?_ (by simp; done) _ | with_reducible refine Ext.setNew ?_ (by simp; omega) _))⟩
  have Hs0 := Lib.hid (szR_pos (c := costSto s) (left := 1048576) (by omega))
  omega

set_option maxRecDepth 100000 in
set_option maxHeartbeats 16000000 in
theorem lawAllP_main (s : Sto) (lim : Int) (v0 : Value) (w : World) (h0 : RV stoRep packA w any s v0) (hcost : costSto s ≤ 1048576) :
    Calls Try.prog 6 #[v0, .int .i64 lim] w fun e w' => e = .returned (.bool true) ∧ Grow w w' := by
  have HV0 := Lib.hid h0
  obtain ⟨a0, c0, rfl⟩ := openV_sto h0
  clear h0
  unfold stoV at *
  have Hs0 := Lib.hid (szR_pos (c := costSto s) (left := 1048576) (by omega))
  have C0 : Hid (costSto s ≤ 1048576) := Lib.hid (by omega)
  have HB0 := Lib.hid (BoxN.new w [.slice a0 s.1.length c0, .int .i64 s.2] 24)
  go_enter Try.func6, Try.ntmps6
  go_wp2_with fail
  refine (uSzSto s _ _ _ (by omega) (by omega) (HV0.out.grow (by repeat (first | with_reducible exact Ext.refl _ _ | with_reducible refine Ext.trans ?_ (by assumption) | with_reducible refine Ext.drew ?_ | with_reducible refine Ext.drewN ?_ _ | with_reducible refine Ext.alloc ?_ _ | with_reducible refine Ext.setNew ?_ (by simp; done) _ | with_reducible refine Ext.setNew ?_ (by simp; omega) _)))).mono ?_
  rintro e w1 ⟨rfl, hg1⟩
  simp only [Hs0.out]
  have z1 := hg1.size
  try simp only [World.size_alloc] at z1
  have pB := HB0.out.grow (w' := w1) (by repeat (first | with_reducible exact Ext.refl _ _ | with_reducible refine Ext.trans ?_ (by assumption) | with_reducible refine Ext.drew ?_ | with_reducible refine Ext.drewN ?_ _ | with_reducible refine Ext.alloc ?_ _ | with_reducible refine Ext.setNew ?_ (by simp; done) _ | with_reducible refine Ext.setNew ?_ (by simp; omega) _))
  have p0 := pB.cell 0 _ rfl; have p1 := pB.cell 1 _ rfl
  go_wp2_with fail
  refine (uToSto s _ _ C0.out (HV0.out.grow (by repeat (first | with_reducible exact Ext.refl _ _ | with_reducible refine Ext.trans ?_ (by assumption) | with_reducible refine Ext.drew ?_ | with_reducible refine Ext.drewN ?_ _ | with_reducible refine Ext.alloc ?_ _ | with_reducible refine Ext.setNew ?_ (by simp; done) _ | with_reducible refine Ext.setNew ?_ (by simp; omega) _)))).mono ?_
  rintro e w2 ⟨us, fs, rfl, hg2, hF, hfr⟩
  have z2 := hg2.size
  try simp only [World.size_alloc] at z2
  have RUs := Lib.hid hF.rv
  clear hF hfr p0 p1 pB
  go_wp2_with fail
  refine (specAllPages_ok s lim _ _  RUs.out).mono ?_
  rintro e w3 ⟨rs, rfl, hg3, hR⟩
  have z3 := hg3.size
  try simp only [World.size_alloc] at z3
  have RW := Lib.hid hR.under
  clear hR
  have ys : w3.heap.size ≤ w3.heap.size := Nat.le_refl _
  have hpB := HB0.out.grow (w' := w3) (by repeat (first | with_reducible exact Ext.refl _ _ | with_reducible refine Ext.trans ?_ (by assumption) | with_reducible refine Ext.drew ?_ | with_reducible refine Ext.drewN ?_ _ | with_reducible refine Ext.alloc ?_ _ | with_reducible refine Ext.setNew ?_ (by simp; done) _ | with_reducible refine Ext.setNew ?_ (by simp; omega) _))
  have p0 := hpB.cell 0 _ rfl; have p1 := hpB.cell 1 _ rfl; have pz := hpB.lt
  go_wp2_with fail
  refine (uToSto s _ _ C0.out (HV0.out.grow (by repeat (first | with_reducible exact Ext.refl _ _ | with_reducible refine Ext.trans ?_ (by assumption) | with_reducible refine Ext.drew ?_ | with_reducible refine Ext.drewN ?_ _ | with_reducible refine Ext.alloc ?_ _ | with_reducible refine Ext.setNew ?_ (by simp; done) _ | with_reducible refine Ext.setNew ?_ (by simp; omega) _)))).mono ?_
  rintro e w4 ⟨y0, f0, rfl, hg4, hF, hfr⟩
  have z4 := hg4.size
  try simp only [World.size_alloc] at z4
  try simp only [World.size_alloc] at hfr
  have F0 := Lib.hid hF
  have S0 := Lib.hid (Seg.of hfr)
  obtain ⟨ax0, cx0, rfl⟩ := openV_sto hF.rv
  unfold stoV at *
  clear hF hfr p0 p1 hpB pz
  have HBx0 := Lib.hid (BoxN.new w4 [.slice ax0 s.1.length cx0, .int .i64 s.2] 33)
  go_wp2_with fail
  refine (implAllPages_ok s lim _ _  (F0.out.rv.grow (by repeat (first | with_reducible exact Ext.refl _ _ | with_reducible refine Ext.trans ?_ (by assumption) | with_reducible refine Ext.drew ?_ | with_reducible refine Ext.drewN ?_ _ | with_reducible refine Ext.alloc ?_ _ | with_reducible refine Ext.setNew ?_ (by simp; done) _ | with_reducible refine Ext.setNew ?_ (by simp; omega) _)))).mono ?_
  rintro e w5 ⟨rg, fg, rfl, hg5, hF, hfr⟩
  have z5 := hg5.size
  try simp only [World.size_alloc] at z5
  try simp only [World.size_alloc] at hfr
  have FG := Lib.hid hF
  have SG := Lib.hid (Seg.of hfr)
  clear hF hfr
  go_wp2_with fail
  refine (uEqSS (apL s lim) _ _ _ (FG.out.rv.grow (by repeat (first | with_reducible exact Ext.refl _ _ | with_reducible refine Ext.trans ?_ (by assumption) | with_reducible refine Ext.drew ?_ | with_reducible refine Ext.drewN ?_ _ | with_reducible refine Ext.alloc ?_ _ | with_reducible refine Ext.setNew ?_ (by simp; done) _ | with_reducible refine Ext.setNew ?_ (by simp; omega) _))) (RW.out.any.grow (by repeat (first | with_reducible exact Ext.refl _ _ | with_reducible refine Ext.trans ?_ (by assumption) | with_reducible refine Ext.drew ?_ | with_reducible refine Ext.drewN ?_ _ | with_reducible refine Ext.alloc ?_ _ | with_reducible refine Ext.setNew ?_ (by simp; done) _ | with_reducible refine Ext.setNew ?_ (by simp; omega) _)))).mono ?_
  rintro e w6 ⟨rfl, hg6⟩
  have z6 := hg6.size
  try simp only [World.size_alloc] at z6
  go_wp2_with fail
  have pB := HBx0.out.grow (w' := w6) (by repeat (first | with_reducible exact Ext.refl _ _ | with_reducible refine Ext.trans ?_ (by assumption) | with_reducible refine Ext.drew ?_ | with_reducible refine Ext.drewN ?_ _ | with_reducible refine Ext.alloc ?_ _ | with_reducible refine Ext.setNew ?_ (by simp; done) _ | with_reducible refine Ext.setNew ?_ (by simp; omega) _))
  have p0 := pB.cell 0 _ rfl; have p1 := pB.cell 1 _ rfl
  have qB := HB0.out.grow (w' := w6) (by repeat (first | with_reducible exact Ext.refl _ _ | with_reducible refine Ext.trans ?_ (by assumption) | with_reducible refine Ext.drew ?_ | with_reducible refine Ext.drewN ?_ _ | with_reducible refine Ext.alloc ?_ _ | with_reducible refine Ext.setNew ?_ (by simp; done) _ | with_reducible refine Ext.setNew ?_ (by simp; omega) _))
  have q0 := qB.cell 0 _ rfl; have q1 := qB.cell 1 _ rfl
  refine wp_region_stab Grow (fun i => if i = 2 then some (fun v w' => RV stoRep packA w' any s v) else if i = 3 then some (fun v _ => v = .bool true) else none) (by kernel_rfl) (by kernel_rfl) ⟨Ext.refl nil, fun _ _ h1 h2 => h2.trans h1, ?_⟩ ?_
  · intro i V hV v w1 w2 hr hv
    by_cases h1 : i = 2
    · simp only [h1, if_true, Option.some.injEq] at hV; subst hV; exact RV.grow hv hr
    · by_cases h3 : i = 3
      · simp [h3] at hV; subst hV; exact hv
      · simp [h1, h3] at hV
  (refine wpStab_quiet (by kernel_rfl) (by kernel_rfl) (by simp) ?_; intro K hK; go_big_quiet_op; go_big_quiet_on)
  (refine wpStab_quiet (by kernel_rfl) (by kernel_rfl) (by simp) ?_; intro K hK; go_big_quiet_op; go_big_quiet_on)
  refine wpStab_made (fun v w' => RV stoRep packA w' any s v) ?_ ?_ ?_ ?_
  · go_simp
  · simp
  · intro y _
    refine stabAt_call (f := 25) (args := #[.agg #[.slice a0 s.1.length c0, .int .i64 s.2]]) ?_ ?_
    · go_simp
    · refine (uToSto s _ _ C0.out (HV0.out.grow (((by repeat (first | with_reducible exact Ext.refl _ _ | with_reducible refine Ext.trans ?_ (by assumption) | with_reducible refine Ext.drew ?_ | with_reducible refine Ext.drewN ?_ _ | with_reducible refine Ext.alloc ?_ _ | with_reducible refine Ext.setNew ?_ (by simp; done) _ | with_reducible refine Ext.setNew ?_ (by simp; omega) _)) : Grow w w6).trans (later_grow _ _)))).mono ?_
      rintro e w' ⟨v', fp, rfl, hg, hF, _⟩
      exact ⟨_, rfl, hg, hF.rv⟩
  intro vt
  go_frame
  refine wpStab_const (.bool true) ?_ ?_ ?_ ?_
  · go_simp
  · simp
  · intro y hE
    have Hr6 : RV stoRep packA (later w6 y) any s vt := (hE ⟨2, .data⟩ (by simp) (by decide)).2 rfl
    clear hE
    refine stabAt_call (f := 28) (args := #[.agg #[.slice ax0 s.1.length cx0, .int .i64 s.2], vt]) ?_ ?_
    · go_simp
    · refine (uEqSto s _ _ _ (F0.out.rv.grow (((by repeat (first | with_reducible exact Ext.refl _ _ | with_reducible refine Ext.trans ?_ (by assumption) | with_reducible refine Ext.drew ?_ | with_reducible refine Ext.drewN ?_ _ | with_reducible refine Ext.alloc ?_ _ | with_reducible refine Ext.setNew ?_ (by simp; done) _ | with_reducible refine Ext.setNew ?_ (by simp; omega) _)) : Grow _ w6).trans (later_grow _ _))) Hr6).mono ?_
      rintro e w' ⟨rfl, hg⟩
      exact ⟨_, rfl, hg, rfl⟩
  go_frame
  (refine wpStab_quiet (by kernel_rfl) (by kernel_rfl) (by simp) ?_; intro K hK; go_big_quiet_op; go_big_quiet_on)
  refine wpStab_end ?_
  intro w7 hg7
  clear p0 p1 pB q0 q1 qB
  have z7 := hg7.size
  replace F0 := Lib.hid (F0.out.grow S0.out (w' := w7) (by repeat (first | with_reducible exact Ext.refl _ _ | with_reducible refine Ext.trans ?_ (by assumption) | with_reducible refine Ext.drew ?_ | with_reducible refine Ext.drewN ?_ _ | with_reducible refine Ext.alloc ?_ _ | with_reducible refine Ext.setNew ?_ (by simp; done) _ | with_reducible refine Ext.setNew ?_ (by simp; omega) _)))
  replace S0 := Lib.hid (S0.out.grow (w' := w7) (by repeat (first | with_reducible exact Ext.refl _ _ | with_reducible refine Ext.trans ?_ (by assumption) | with_reducible refine Ext.drew ?_ | with_reducible refine Ext.drewN ?_ _ | with_reducible refine Ext.alloc ?_ _ | with_reducible refine Ext.setNew ?_ (by simp; done) _ | with_reducible refine Ext.setNew ?_ (by simp; omega) _)))
  replace FG := Lib.hid (FG.out.grow SG.out (w' := w7) (by repeat (first | with_reducible exact Ext.refl _ _ | with_reducible refine Ext.trans ?_ (by assumption) | with_reducible refine Ext.drew ?_ | with_reducible refine Ext.drewN ?_ _ | with_reducible refine Ext.alloc ?_ _ | with_reducible refine Ext.setNew ?_ (by simp; done) _ | with_reducible refine Ext.setNew ?_ (by simp; omega) _)))
  replace SG := Lib.hid (SG.out.grow (w' := w7) (by repeat (first | with_reducible exact Ext.refl _ _ | with_reducible refine Ext.trans ?_ (by assumption) | with_reducible refine Ext.drew ?_ | with_reducible refine Ext.drewN ?_ _ | with_reducible refine Ext.alloc ?_ _ | with_reducible refine Ext.setNew ?_ (by simp; done) _ | with_reducible refine Ext.setNew ?_ (by simp; omega) _)))
  replace RW := Lib.hid (RW.out.grow (w' := w7) (by repeat (first | with_reducible exact Ext.refl _ _ | with_reducible refine Ext.trans ?_ (by assumption) | with_reducible refine Ext.drew ?_ | with_reducible refine Ext.drewN ?_ _ | with_reducible refine Ext.alloc ?_ _ | with_reducible refine Ext.setNew ?_ (by simp; done) _ | with_reducible refine Ext.setNew ?_ (by simp; omega) _)))
  replace HB0 := Lib.hid (HB0.out.grow (w' := w7) (by repeat (first | with_reducible exact Ext.refl _ _ | with_reducible refine Ext.trans ?_ (by assumption) | with_reducible refine Ext.drew ?_ | with_reducible refine Ext.drewN ?_ _ | with_reducible refine Ext.alloc ?_ _ | with_reducible refine Ext.setNew ?_ (by simp; done) _ | with_reducible refine Ext.setNew ?_ (by simp; omega) _)))
  replace HBx0 := Lib.hid (HBx0.out.grow (w' := w7) (by repeat (first | with_reducible exact Ext.refl _ _ | with_reducible refine Ext.trans ?_ (by assumption) | with_reducible refine Ext.drew ?_ | with_reducible refine Ext.drewN ?_ _ | with_reducible refine Ext.alloc ?_ _ | with_reducible refine Ext.setNew ?_ (by simp; done) _ | with_reducible refine Ext.setNew ?_ (by simp; omega) _)))
  have lHB0 := HB0.out.lt
  have lHBx0 := HBx0.out.lt
  have hgA : Grow w w7 := (by repeat (first | with_reducible exact Ext.refl _ _ | with_reducible refine Ext.trans ?_ (by assumption) | with_reducible refine Ext.drew ?_ | with_reducible refine Ext.drewN ?_ _ | with_reducible refine Ext.alloc ?_ _ | with_reducible refine Ext.setNew ?_ (by simp; done) _ | with_reducible refine Ext.setNew ?_ (by simp; omega) _))
  clear hg1 hg2 hg3 hg4 hg5 hg6 hg7
  have m0 := cntSto_le s
  have mg := apL_cnt s lim
  have p0 := HBx0.out.cell 0 _ rfl; have p1 := HBx0.out.cell 1 _ rfl
  go_wp2_with fail
  refine (uMarkSto s _ f0 _ (1) _ _ (by rfl) F0.out S0.out.1 (by omega) (by omega)).mono ?_
  rintro e w8 ⟨rfl, hx, _, _⟩
  clear p0 p1
  replace FG := Lib.hid (FG.out.keep (SG.out.keeps S0.out (by omega) hx))
  replace SG := Lib.hid (SG.out.ext S0.out (by omega) hx)
  replace HB0 := Lib.hid (S0.out.box HB0.out hx (by omega))
  replace HBx0 := Lib.hid (S0.out.box HBx0.out hx (by omega))
  replace RW := Lib.hid (S0.out.rv RW.out hx (by omega))
  replace hgA := S0.out.inner hgA hx (by omega)
  clear hx F0
  go_wp2_with fail
  refine (uEqSS (apL s lim) _ _ _ FG.out.rv RW.out.any).mono ?_
  rintro e w9 ⟨rfl, hg⟩
  replace FG := Lib.hid (FG.out.grow SG.out hg)
  replace SG := Lib.hid (SG.out.grow hg)
  replace RW := Lib.hid (RW.out.grow hg)
  replace HB0 := Lib.hid (HB0.out.grow hg)
  replace HBx0 := Lib.hid (HBx0.out.grow hg)
  replace hgA := hgA.trans hg
  clear hg
  go_wp2_with fail
  refine (uMarkSS (apL s lim) _ fg _ 1 _ _ (by rfl) FG.out SG.out.1 (by omega) (by omega)).mono ?_
  rintro e w10 ⟨rfl, hx, hfr, hF⟩
  replace HB0 := Lib.hid (SG.out.box HB0.out hx (by omega))
  replace HBx0 := Lib.hid (SG.out.box HBx0.out hx (by omega))
  replace RW := Lib.hid (SG.out.rv RW.out hx (by omega))
  replace hgA := SG.out.inner hgA hx (by omega)
  replace FG := Lib.hid hF
  replace SG := Lib.hid (SG.out.marked hfr)
  clear hx hfr hF
  go_wp2_with fail
  refine (uHeldSS (apL s lim) _ 1 _ _ (by rfl) FG.out.rv (by omega) (by omega)).mono ?_
  rintro e w11 ⟨rfl, hg⟩
  replace FG := Lib.hid (FG.out.grow SG.out hg)
  replace SG := Lib.hid (SG.out.grow hg)
  replace RW := Lib.hid (RW.out.grow hg)
  replace HB0 := Lib.hid (HB0.out.grow hg)
  replace HBx0 := Lib.hid (HBx0.out.grow hg)
  replace hgA := hgA.trans hg
  clear hg
  have hbb : ((1 + cntSS (apL s lim) : Nat) != (1 + cntSS (apL s lim) : Nat)) = false := by simp
  have hgc := hgA
  have pB := HB0.out.grow (w' := w11) (by repeat (first | with_reducible exact Ext.refl _ _ | with_reducible refine Ext.trans ?_ (by assumption) | with_reducible refine Ext.drew ?_ | with_reducible refine Ext.drewN ?_ _ | with_reducible refine Ext.alloc ?_ _ | with_reducible refine Ext.setNew ?_ (by simp; done) _ | with_reducible refine Ext.setNew ?_ (by simp; omega) _))
  have p0 := pB.cell 0 _ rfl; have p1 := pB.cell 1 _ rfl
  go_wp2_with fail
  refine (uToSto s _ _ C0.out (HV0.out.grow (by repeat (first | with_reducible exact Ext.refl _ _ | with_reducible refine Ext.trans ?_ (by assumption) | with_reducible refine Ext.drew ?_ | with_reducible refine Ext.drewN ?_ _ | with_reducible refine Ext.alloc ?_ _ | with_reducible refine Ext.setNew ?_ (by simp; done) _ | with_reducible refine Ext.setNew ?_ (by simp; omega) _)))).mono ?_
  rintro e w12 ⟨uh, fh, rfl, hg12, hF, hfr⟩
  have z12 := hg12.size
  try simp only [World.size_alloc] at z12
  have RUh := Lib.hid hF.rv
  clear hF hfr p0 p1 pB
  go_wp2_with fail
  refine (implAllPages_ok s lim _ _  RUh.out).mono ?_
  rintro e w13 ⟨rh, fh, rfl, hg13, hF, hfr⟩
  have z13 := hg13.size
  try simp only [World.size_alloc] at z13
  have hR := hF.rv
  clear hF hfr
  have RH := Lib.hid hR
  clear hR
  go_wp2_with fail
  refine (uEqSS (apL s lim) _ _ _ (RH.out.grow (by repeat (first | with_reducible exact Ext.refl _ _ | with_reducible refine Ext.trans ?_ (by assumption) | with_reducible refine Ext.drew ?_ | with_reducible refine Ext.drewN ?_ _ | with_reducible refine Ext.alloc ?_ _ | with_reducible refine Ext.setNew ?_ (by simp; done) _ | with_reducible refine Ext.setNew ?_ (by simp; omega) _))) (RW.out.any.grow (by repeat (first | with_reducible exact Ext.refl _ _ | with_reducible refine Ext.trans ?_ (by assumption) | with_reducible refine Ext.drew ?_ | with_reducible refine Ext.drewN ?_ _ | with_reducible refine Ext.alloc ?_ _ | with_reducible refine Ext.setNew ?_ (by simp; done) _ | with_reducible refine Ext.setNew ?_ (by simp; omega) _)))).mono ?_
  rintro e w14 ⟨rfl, hg14⟩
  have z14 := hg14.size
  try simp only [World.size_alloc] at z14
  go_wp2_with fail
  refine (uHeldSS (apL s lim) _ 1 _ _ (by rfl) (FG.out.rv.grow (by repeat (first | with_reducible exact Ext.refl _ _ | with_reducible refine Ext.trans ?_ (by assumption) | with_reducible refine Ext.drew ?_ | with_reducible refine Ext.drewN ?_ _ | with_reducible refine Ext.alloc ?_ _ | with_reducible refine Ext.setNew ?_ (by simp; done) _ | with_reducible refine Ext.setNew ?_ (by simp; omega) _))) (by omega) (by omega)).mono ?_
  rintro e w15 ⟨rfl, hg15⟩
  have z15 := hg15.size
  try simp only [World.size_alloc] at z15
  go_wp2_with fail
  go_ret
  exact ⟨by simp, (by repeat (first | with_reducible exact Ext.refl _ _ | with_reducible refine Ext.trans ?_ (by assumption) | with_reducible refine Ext.drew ?_ | with_reducible refine Ext.drewN ?_ _ | with_reducible refine Ext.alloc ?_ _ | with_reducible refine Ext.setNew ?_ (by simp; done) _ | with_reducible refine Ext.setNew ?_ (by simp; omega) _))⟩

theorem lawAllP_ok (s : Sto) (lim : Int) (v0 : Value) (w : World) (h0 : RV stoRep packA w any s v0) :
    Calls Try.prog 6 #[v0, .int .i64 lim] w fun e w' => e = .returned (.bool true) ∧ Grow w w' := by
  by_cases hc : costSto s ≤ 1048576
  · exact lawAllP_main s lim v0 w h0 hc
  · exact lawAllP_big s lim v0 w h0 hc

end Go.Proofs.Ytmeobmegnneegaa

/-
  What an argument that is read as data tells of memory: texts, nodes.
-/
namespace Go.Proofs.Ytmeobmegnneegaa
open Go.RowKit Go.ChangeShapes Go.WideShapes Go.Deep

section
variable {H : Type} {enc : TypeId × Value → H} {W : World} {base : Nat} {sp : Nat → Bool} {held : Bool}

theorem addr_spot {w : World} {a : Addr} {v : Value} (h : w.cell? a = some v) : ∃ b o, a = ⟨b, o, none⟩ := by
  have := World.cell?_spot h
  exact ⟨a.block, a.off, by cases a; simp_all⟩

theorem add_mk (b o i : Nat) : (⟨b, o, none⟩ : Addr).add i = ⟨b, o + i, none⟩ := by
  unfold Addr.add; split
  · rename_i h; subst h; rfl
  · rfl

theorem open_strs' {fuel : Nat} {cs : List Value} {x : DataW H × List MemPlace} (h : DataW.trod enc Try.prog W base sp held fuel 25 cs = some x) :
    ∃ a c xs, cs = [.slice a xs.length c] ∧ StrsR W any a c xs := by
  rcases open_slice Try.underlying25 h with ⟨rfl, _⟩ | ⟨a, len, cap, m, n, D, Pl, rfl, _, hl, hm, hmm, _, hi⟩
  · exact ⟨none, 0, [], rfl, by simp, by simp, by simp, .inl rfl⟩
  · have hlm : len ≤ m := by rw [hmm]; split <;> omega
    have hel : ∀ i, i < len → ∃ s : ByteArray, W.cell? (a.add i) = some (.string s) ∧ s.size ≤ maxLen := fun i hi' => by
      obtain ⟨cs', h1, h2⟩ := hi i (by omega)
      have hc : Try.prog.cellsOf 9 = 1 := by kernel_rfl
      rw [hc] at h1
      obtain ⟨_, hlen, hat⟩ := World.cells?_some h1
      obtain ⟨s, rfl, _, hs⟩ := DataW.trod_string Try.underlying9 h2
      have := hat 0 (by omega)
      exact ⟨s, by simpa [Go.Deep.add_add] using this, hs⟩
    have : Inhabited ByteArray := ⟨ByteArray.empty⟩
    obtain ⟨f, hf⟩ := choose_lt hel
    refine ⟨some a, cap, (List.range len).map f, by simp, by simpa using hl, by simp; unfold maxLen at hm; unfold big; omega, ?_, ?_⟩
    · intro x hx
      obtain ⟨i, hi', rfl⟩ := List.mem_map.1 hx
      have := (hf i (List.mem_range.1 hi')).2
      unfold maxLen at this; unfold big; omega
    · by_cases h0 : len = 0
      · subst h0; exact .inl rfl
      · obtain ⟨b, o, ha⟩ := addr_spot (hf 0 (by omega)).1
        have ha' : a = ⟨b, o, none⟩ := by simpa [Addr.add] using ha
        subst ha'
        refine .inr ⟨b, o, rfl, trivial, fun i hi' => ?_⟩
        simp at hi'
        have := (hf i hi').1
        rw [add_mk] at this
        simpa using this

set_option maxRecDepth 100000 in
theorem open_node : ∀ (fuel : Nat) (cs : List Value) (x : DataW H × List MemPlace), DataW.trod enc Try.prog W base sp held fuel 28 cs = some x →
    ∃ n na nc ka kc, cs = [.int .i64 n.kind, .int .i64 n.num, .string n.text, .slice na n.names.length nc, .slice ka n.kids.length kc] ∧ NodeC W any n na nc ka kc := by
  intro fuel
  induction fuel using Nat.strongRecOn with
  | ind fuel ih =>
    intro cs x h
    obtain ⟨xs, n, rfl, _, hlen, hxs, hf⟩ := DataW.trod_struct Try.underlying28 h
    have hc : Try.prog.cellsOf 28 = 5 := by kernel_rfl
    have c3 : Try.prog.cellsOf 3 = 1 := by kernel_rfl
    have c9 : Try.prog.cellsOf 9 = 1 := by kernel_rfl
    have c23 : Try.prog.cellsOf 25 = 1 := by kernel_rfl
    have c57 : Try.prog.cellsOf 26 = 1 := by kernel_rfl
    rw [hc] at hlen
    match cs, hlen with
    | [v0, v1, v2, v3, v4], _ =>
      obtain ⟨y0, g0⟩ : ∃ y, DataW.trod enc Try.prog W base sp held n 3 [v0] = some y := ⟨xs[0]'(by simp at hxs; omega), by
        have h := hf 0 _ rfl
        rw [List.getElem?_eq_getElem (by simp at hxs; omega)] at h
        simpa [c3, c9, c23, c57] using h⟩
      obtain ⟨y1, g1⟩ : ∃ y, DataW.trod enc Try.prog W base sp held n 3 [v1] = some y := ⟨xs[1]'(by simp at hxs; omega), by
        have h := hf 1 _ rfl
        rw [List.getElem?_eq_getElem (by simp at hxs; omega)] at h
        simpa [c3, c9, c23, c57] using h⟩
      obtain ⟨y2, g2⟩ : ∃ y, DataW.trod enc Try.prog W base sp held n 9 [v2] = some y := ⟨xs[2]'(by simp at hxs; omega), by
        have h := hf 2 _ rfl
        rw [List.getElem?_eq_getElem (by simp at hxs; omega)] at h
        simpa [c3, c9, c23, c57] using h⟩
      obtain ⟨y3, g3⟩ : ∃ y, DataW.trod enc Try.prog W base sp held n 25 [v3] = some y := ⟨xs[3]'(by simp at hxs; omega), by
        have h := hf 3 _ rfl
        rw [List.getElem?_eq_getElem (by simp at hxs; omega)] at h
        simpa [c3, c9, c23, c57] using h⟩
      obtain ⟨y4, g4⟩ : ∃ y, DataW.trod enc Try.prog W base sp held n 26 [v4] = some y := ⟨xs[4]'(by simp at hxs; omega), by
        have h := hf 4 _ rfl
        rw [List.getElem?_eq_getElem (by simp at hxs; omega)] at h
        simpa [c3, c9, c23, c57] using h⟩
      clear hf
      obtain ⟨kind, e0, _, _⟩ := DataW.trod_int Try.underlying3 g0
      obtain ⟨num, e1, _, _⟩ := DataW.trod_int Try.underlying3 g1
      obtain ⟨text, e2, _, hts⟩ := DataW.trod_string Try.underlying9 g2
      obtain ⟨na, nc, names, e3, hns⟩ := open_strs' g3
      simp only [List.cons.injEq, and_true] at e0 e1 e2 e3
      subst e0 e1 e2 e3
      have htx : text.size ≤ big := by unfold maxLen at hts; unfold big; omega
      rcases DataW.trod_slice Try.underlying26 g4 with ⟨e4, _⟩ | ⟨a, len, cap, elems, rest, n', rfl, e4, _, _, hl, hm, hel, hi, _, _⟩
      · simp only [List.cons.injEq, and_true] at e4
        subst e4
        exact ⟨⟨kind, num, text, names, []⟩, na, nc, none, 0, rfl, NodeC.mk htx hns ⟨by simp, by simp, .inl rfl⟩⟩
      · simp only [List.cons.injEq, and_true] at e4
        subst e4
        rw [hc] at hi
        have key : ∀ i, i < len → ∃ (k : Nd × (Option Addr × Nat × Option Addr × Nat)), W.cell? (a.add (i * 5)) = some (.int .i64 k.1.kind) ∧ W.cell? (a.add (i * 5 + 1)) = some (.int .i64 k.1.num) ∧ W.cell? (a.add (i * 5 + 2)) = some (.string k.1.text) ∧
            W.cell? (a.add (i * 5 + 3)) = some (.slice k.2.1 k.1.names.length k.2.2.1) ∧ W.cell? (a.add (i * 5 + 4)) = some (.slice k.2.2.2.1 k.1.kids.length k.2.2.2.2) ∧ NodeC W any k.1 k.2.1 k.2.2.1 k.2.2.2.1 k.2.2.2.2 := fun i hi' => by
          have h := hi i hi'
          rw [List.getElem?_eq_getElem (by omega)] at h
          obtain ⟨cs', h1, h2⟩ := Option.bind_eq_some_iff.1 h
          obtain ⟨_, hl5, hat⟩ := World.cells?_some h1
          obtain ⟨m, na', nc', ka', kc', rfl, hn'⟩ := ih n' (by omega) cs' _ h2
          refine ⟨⟨m, na', nc', ka', kc'⟩, ?_, ?_, ?_, ?_, ?_, hn'⟩
          · simpa [Go.Deep.add_add] using hat 0 (by omega)
          · simpa [Go.Deep.add_add] using hat 1 (by omega)
          · simpa [Go.Deep.add_add] using hat 2 (by omega)
          · simpa [Go.Deep.add_add] using hat 3 (by omega)
          · simpa [Go.Deep.add_add] using hat 4 (by omega)
        have : Inhabited (Nd × (Option Addr × Nat × Option Addr × Nat)) := ⟨⟨⟨0, 0, ByteArray.empty, [], []⟩, none, 0, none, 0⟩⟩
        obtain ⟨f, hf⟩ := choose_lt key
        have hkl : ((List.range len).map fun i => (f i).1).length = len := by simp
        have hbig : len ≤ big := by unfold maxLen at hm; unfold big; omega
        refine ⟨⟨kind, num, text, names, (List.range len).map fun i => (f i).1⟩, na, nc, some a, cap, by simp, NodeC.mk htx hns ⟨by rw [hkl]; exact hl, by rw [hkl]; exact hbig, ?_⟩⟩
        by_cases h0 : len = 0
        · subst h0; exact .inl rfl
        · obtain ⟨b, o, ha⟩ := addr_spot (hf 0 (by omega)).1
          have ha' : a = ⟨b, o, none⟩ := by simpa [Addr.add] using ha
          subst ha'
          refine .inr ⟨b, o, rfl, trivial, KidsR.of_get (fun i hi' => ?_)⟩
          rw [hkl] at hi'
          obtain ⟨k0, k1, k2, k3, k4, kn⟩ := hf i hi'
          rw [add_mk] at k0 k1 k2 k3 k4
          simp only [List.getElem_map, List.getElem_range]
          exact ⟨_, _, _, _, k0, by rw [Nat.add_assoc]; exact k1, by rw [Nat.add_assoc]; exact k2, by rw [Nat.add_assoc]; exact k3, by rw [Nat.add_assoc]; exact k4, kn⟩

end
end Go.Proofs.Ytmeobmegnneegaa

/-
  The walks of what makes lists of tags, operations and requests valid.
-/
namespace Go.Proofs.Ytmeobmegnneegaa
open Go.RowKit

def star : ByteArray := { data := #[42] }
def tagsB1 (s : ByteArray) : Bool := (s.toList == star.toList) || tagB s
def tagsB (l : List ByteArray) : Bool := decide (l.length ≤ 4) && l.all tagsB1

theorem star_cases (s : ByteArray) : (s.toList = [42] ∧ tagsB1 s = true) ∨ (¬ s.toList = [42] ∧ tagB s = true ∧ tagsB1 s = true) ∨
    (¬ s.toList = [42] ∧ tagB s = false ∧ tagsB1 s = false) := by
  have hs : star.toList = [42] := by rw [ByteArray.toList_eq]; rfl
  unfold tagsB1
  rw [hs]
  by_cases h : s.toList = [42] <;> cases h2 : tagB s <;> simp [h]

end Go.Proofs.Ytmeobmegnneegaa

/-
  Operations and requests, and the walks of what makes them valid.
-/
namespace Go.Proofs.Ytmeobmegnneegaa
open Go.RowKit

/-- An operation, told by itself. -/
structure Opn where
  kind : Int
  path : List ByteArray
  frm : List ByteArray
  val : Nd

def opV (o : Opn) (pa : Option Addr) (pc : Nat) (fa : Option Addr) (fc : Nat) (na : Option Addr) (nc : Nat) (ka : Option Addr) (kc : Nat) : Value :=
  .agg #[.int .i64 o.kind, .slice pa o.path.length pc, .slice fa o.frm.length fc, .int .i64 o.val.kind, .int .i64 o.val.num, .string o.val.text, .slice na o.val.names.length nc, .slice ka o.val.kids.length kc]
def OpC (w : World) (S : Nat → Prop) (o : Opn) (pa : Option Addr) (pc : Nat) (fa : Option Addr) (fc : Nat) (na : Option Addr) (nc : Nat) (ka : Option Addr) (kc : Nat) : Prop :=
  StrsR w S pa pc o.path ∧ StrsR w S fa fc o.frm ∧ NodeC w S o.val na nc ka kc
def OpR (w : World) (S : Nat → Prop) (o : Opn) (v : Value) : Prop := ∃ pa pc fa fc na nc ka kc, v = opV o pa pc fa fc na nc ka kc ∧ OpC w S o pa pc fa fc na nc ka kc

/-- A slice of operations. -/
def OpsR (w : World) (S : Nat → Prop) (a : Option Addr) (c : Nat) (l : List Opn) : Prop :=
  l.length ≤ c ∧ l.length ≤ big ∧ (l = [] ∨ ∃ b o, a = some ⟨b, o, none⟩ ∧ S b ∧ ∀ i (h : i < l.length), ∃ pa pc fa fc na nc ka kc,
    w.cell? ⟨b, o + i * 8, none⟩ = some (.int .i64 l[i].kind) ∧ w.cell? ⟨b, o + i * 8 + 1, none⟩ = some (.slice pa l[i].path.length pc) ∧ w.cell? ⟨b, o + i * 8 + 2, none⟩ = some (.slice fa l[i].frm.length fc) ∧
    w.cell? ⟨b, o + i * 8 + 3, none⟩ = some (.int .i64 l[i].val.kind) ∧ w.cell? ⟨b, o + i * 8 + 4, none⟩ = some (.int .i64 l[i].val.num) ∧ w.cell? ⟨b, o + i * 8 + 5, none⟩ = some (.string l[i].val.text) ∧
    w.cell? ⟨b, o + i * 8 + 6, none⟩ = some (.slice na l[i].val.names.length nc) ∧ w.cell? ⟨b, o + i * 8 + 7, none⟩ = some (.slice ka l[i].val.kids.length kc) ∧ OpC w S l[i] pa pc fa fc na nc ka kc)

theorem OpC.ext {X S : Nat → Prop} {w w' : World} (h : Ext X w w') (hS : ∀ k, S k → ¬ X k) {o : Opn} {pa : Option Addr} {pc : Nat} {fa : Option Addr} {fc : Nat} {na : Option Addr} {nc : Nat} {ka : Option Addr} {kc : Nat}
    (hs : OpC w S o pa pc fa fc na nc ka kc) : OpC w' S o pa pc fa fc na nc ka kc := ⟨hs.1.ext h hS, hs.2.1.ext h hS, hs.2.2.ext h hS⟩
theorem OpC.grow {S : Nat → Prop} {w w' : World} {o : Opn} {pa : Option Addr} {pc : Nat} {fa : Option Addr} {fc : Nat} {na : Option Addr} {nc : Nat} {ka : Option Addr} {kc : Nat}
    (hs : OpC w S o pa pc fa fc na nc ka kc) (h : Grow w w') : OpC w' S o pa pc fa fc na nc ka kc := hs.ext h (fun _ _ h => h)
theorem OpR.ext {X S : Nat → Prop} {w w' : World} (h : Ext X w w') (hS : ∀ k, S k → ¬ X k) {o : Opn} {v : Value} (hs : OpR w S o v) : OpR w' S o v := by
  obtain ⟨pa, pc, fa, fc, na, nc, ka, kc, hv, hc⟩ := hs
  exact ⟨pa, pc, fa, fc, na, nc, ka, kc, hv, hc.ext h hS⟩
theorem OpR.grow {S : Nat → Prop} {w w' : World} {o : Opn} {v : Value} (hs : OpR w S o v) (h : Grow w w') : OpR w' S o v := hs.ext h (fun _ _ h => h)
theorem OpsR.ext {X S : Nat → Prop} {w w' : World} (h : Ext X w w') (hS : ∀ k, S k → ¬ X k) {a : Option Addr} {c : Nat} {l : List Opn} (hs : OpsR w S a c l) : OpsR w' S a c l := by
  obtain ⟨h1, h2, h4⟩ := hs
  refine ⟨h1, h2, h4.imp id ?_⟩
  rintro ⟨b, o, rfl, hb, hc⟩
  refine ⟨b, o, rfl, hb, fun i hi => ?_⟩
  obtain ⟨pa, pc, fa, fc, na, nc, ka, kc, g0, g1, g2, g3, g4, g5, g6, g7, g⟩ := hc i hi
  exact ⟨pa, pc, fa, fc, na, nc, ka, kc, h.some g0 (hS b hb), h.some g1 (hS b hb), h.some g2 (hS b hb), h.some g3 (hS b hb), h.some g4 (hS b hb), h.some g5 (hS b hb), h.some g6 (hS b hb), h.some g7 (hS b hb), g.ext h hS⟩
theorem OpsR.grow {S : Nat → Prop} {w w' : World} {a : Option Addr} {c : Nat} {l : List Opn} (hs : OpsR w S a c l) (h : Grow w w') : OpsR w' S a c l := hs.ext h (fun _ _ h => h)

def opB (o : Opn) : Bool := inR o.kind 1 6 && pathB o.path && pathB o.frm && validB o.val
def opsB (l : List Opn) : Bool := decide (l.length ≤ 12) && l.all opB

end Go.Proofs.Ytmeobmegnneegaa

/-
  Requests, and the walks of what makes patches and requests valid.
-/
namespace Go.Proofs.Ytmeobmegnneegaa
open Go.RowKit

/-- A request, told by itself. -/
structure Reqn where
  method : Int
  name : ByteArray
  want : List ByteArray
  avoid : List ByteArray
  body : Nd
  ops : List Opn

def reqCells (q : Reqn) (wa : Option Addr) (wc : Nat) (va : Option Addr) (vc : Nat) (na : Option Addr) (nc : Nat) (ka : Option Addr) (kc : Nat) (oa : Option Addr) (oc : Nat) : Array Value :=
  #[.int .i64 q.method, .string q.name, .slice wa q.want.length wc, .slice va q.avoid.length vc, .int .i64 q.body.kind, .int .i64 q.body.num, .string q.body.text, .slice na q.body.names.length nc, .slice ka q.body.kids.length kc, .slice oa q.ops.length oc]
def ReqC (w : World) (S : Nat → Prop) (q : Reqn) (wa : Option Addr) (wc : Nat) (va : Option Addr) (vc : Nat) (na : Option Addr) (nc : Nat) (ka : Option Addr) (kc : Nat) (oa : Option Addr) (oc : Nat) : Prop :=
  q.name.size ≤ big ∧ StrsR w S wa wc q.want ∧ StrsR w S va vc q.avoid ∧ NodeC w S q.body na nc ka kc ∧ OpsR w S oa oc q.ops
def ReqR (w : World) (S : Nat → Prop) (q : Reqn) (v : Value) : Prop := ∃ wa wc va vc na nc ka kc oa oc, v = .agg (reqCells q wa wc va vc na nc ka kc oa oc) ∧ ReqC w S q wa wc va vc na nc ka kc oa oc

theorem ReqR.ext {X S : Nat → Prop} {w w' : World} (h : Ext X w w') (hS : ∀ k, S k → ¬ X k) {q : Reqn} {v : Value} (hs : ReqR w S q v) : ReqR w' S q v := by
  obtain ⟨wa, wc, va, vc, na, nc, ka, kc, oa, oc, hv, h1, h2, h3, h4, h5⟩ := hs
  exact ⟨wa, wc, va, vc, na, nc, ka, kc, oa, oc, hv, h1, h2.ext h hS, h3.ext h hS, h4.ext h hS, h5.ext h hS⟩
theorem ReqR.grow {S : Nat → Prop} {w w' : World} {q : Reqn} {v : Value} (hs : ReqR w S q v) (h : Grow w w') : ReqR w' S q v := hs.ext h (fun _ _ h => h)

def reqB (q : Reqn) : Bool := inR q.method 1 5 && nameB q.name && tagsB q.want && tagsB q.avoid && validB q.body && opsB q.ops

end Go.Proofs.Ytmeobmegnneegaa

/-
  What an argument that is read as data tells of memory: operations, requests.
-/
namespace Go.Proofs.Ytmeobmegnneegaa
open Go.RowKit Go.ChangeShapes Go.WideShapes Go.Deep

section
variable {H : Type} {enc : TypeId × Value → H} {W : World} {base : Nat} {sp : Nat → Bool} {held : Bool}

end
end Go.Proofs.Ytmeobmegnneegaa

/-
  What an argument that is read as data tells of memory: slices of represented types, entries.
-/
namespace Go.Proofs.Ytmeobmegnneegaa
open Go.RowKit Go.ChangeShapes Go.WideShapes Go.Deep

section
variable {H : Type} {enc : TypeId × Value → H} {W : World} {base : Nat} {sp : Nat → Bool} {held : Bool}

theorem open_slR {α : Type} [Inhabited α] (E : Rep α) (hpos : 0 < E.n) (TS T : TypeId) (hu : Try.prog.underlying TS = some (.slice T)) (hc : Try.prog.cellsOf T = E.n)
    (hel : ∀ (fuel : Nat) (cs : List Value) (x : DataW H × List MemPlace), DataW.trod enc Try.prog W base sp held fuel T cs = some x → ∃ y, E.R W any y cs)
    {fuel : Nat} {cs : List Value} {x : DataW H × List MemPlace} (h : DataW.trod enc Try.prog W base sp held fuel TS cs = some x) :
    ∃ a c l, cs = [.slice a (l : List α).length c] ∧ SlR E W any a c l := by
  rcases open_slice hu h with ⟨rfl, _⟩ | ⟨a, len, cap, m, n, D, Pl, rfl, _, hl, hm, hmm, _, hi⟩
  · exact ⟨none, 0, [], rfl, by simp, by simp, .inl rfl⟩
  · have hlm : len ≤ m := by rw [hmm]; split <;> omega
    rw [hc] at hi
    have key : ∀ i, i < len → ∃ k : α × List Value, (∀ j v, k.2[j]? = some v → W.cell? (a.add (i * E.n + j)) = some v) ∧ E.R W any k.1 k.2 := fun i hi' => by
      obtain ⟨cs', h1, h2⟩ := hi i (by omega)
      obtain ⟨_, hlen, hat⟩ := World.cells?_some h1
      obtain ⟨y, hy⟩ := hel _ _ _ h2
      refine ⟨⟨y, cs'⟩, fun j v hv => ?_, hy⟩
      have hj : j < E.n := by
        have h3 : j < cs'.length := (List.getElem?_eq_some_iff.1 hv).1
        omega
      have := hat j hj
      rw [hv] at this
      simpa [Go.Deep.add_add] using this
    have : Inhabited (α × List Value) := ⟨⟨default, []⟩⟩
    obtain ⟨f, hf⟩ := choose_lt key
    have hkl : ((List.range len).map fun i => (f i).1).length = len := by simp
    have hbig : len ≤ big := by unfold maxLen at hm; unfold big; omega
    refine ⟨some a, cap, (List.range len).map fun i => (f i).1, by simp, by rw [hkl]; exact hl, by rw [hkl]; exact hbig, ?_⟩
    by_cases h0 : len = 0
    · subst h0; exact .inl rfl
    · have hr0 := (hf 0 (by omega)).2
      have hl0 := E.rlen hr0
      obtain ⟨v0, hv0⟩ : ∃ v0, (f 0).2[0]? = some v0 := ⟨_, List.getElem?_eq_getElem (by omega)⟩
      obtain ⟨b, o, ha⟩ := addr_spot ((hf 0 (by omega)).1 0 v0 hv0)
      have ha' : a = ⟨b, o, none⟩ := by simpa [Addr.add] using ha
      subst ha'
      refine .inr ⟨b, o, rfl, trivial, fun i hi' => ?_⟩
      rw [hkl] at hi'
      obtain ⟨k1, k2⟩ := hf i hi'
      simp only [List.getElem_map, List.getElem_range]
      refine ⟨_, fun j v hv => ?_, k2⟩
      have := k1 j v hv
      rw [add_mk] at this
      rw [Nat.add_assoc]; exact this

end

end Go.Proofs.Ytmeobmegnneegaa

/-
  What an argument that is a store tells of memory.
-/
namespace Go.Proofs.Ytmeobmegnneegaa
open Go.RowKit Go.ChangeShapes Go.WideShapes Go.Deep

section
variable {H : Type} {enc : TypeId × Value → H} {W : World} {base : Nat} {sp : Nat → Bool} {held : Bool}

set_option maxRecDepth 100000 in
theorem open_item (fuel : Nat) (cs : List Value) (x : DataW H × List MemPlace) (h : DataW.trod enc Try.prog W base sp held fuel 117 cs = some x) : ∃ y, itmRep.R W any y cs := by
  obtain ⟨xs, n, rfl, _, hlen, hxs, hf⟩ := DataW.trod_struct Try.underlying117 h
  have hc : Try.prog.cellsOf 117 = 7 := by kernel_rfl
  have c9 : Try.prog.cellsOf 9 = 1 := by kernel_rfl
  have cI : Try.prog.cellsOf 3 = 1 := by kernel_rfl
  have cN : Try.prog.cellsOf 28 = 5 := by kernel_rfl
  rw [hc] at hlen
  match cs, hlen with
  | [v0, v1, v2, v3, v4, v5, v6], _ =>
    obtain ⟨y0, g0⟩ : ∃ y, DataW.trod enc Try.prog W base sp held n 9 [v0] = some y := ⟨xs[0]'(by simp at hxs; omega), by
      have h := hf 0 _ rfl
      rw [List.getElem?_eq_getElem (by simp at hxs; omega)] at h
      simpa [c9, cI, cN] using h⟩
    obtain ⟨y1, g1⟩ : ∃ y, DataW.trod enc Try.prog W base sp held n 3 [v1] = some y := ⟨xs[1]'(by simp at hxs; omega), by
      have h := hf 1 _ rfl
      rw [List.getElem?_eq_getElem (by simp at hxs; omega)] at h
      simpa [c9, cI, cN] using h⟩
    obtain ⟨y2, g2⟩ : ∃ y, DataW.trod enc Try.prog W base sp held n 28 [v2, v3, v4, v5, v6] = some y := ⟨xs[2]'(by simp at hxs; omega), by
      have h := hf 2 _ rfl
      rw [List.getElem?_eq_getElem (by simp at hxs; omega)] at h
      simpa [c9, cI, cN] using h⟩
    obtain ⟨s, e0, _, hs⟩ := DataW.trod_string Try.underlying9 g0
    obtain ⟨k, e1, _⟩ := DataW.trod_int Try.underlying3 g1
    obtain ⟨q, na, nc, ka, kc, e2, hq⟩ := open_node _ _ _ g2
    have e0' : v0 = .string s := by simpa using e0
    have e1' : v1 = .int .i64 k := by simpa using e1
    exact ⟨(s, k, q), [v0], [v1, v2, v3, v4, v5, v6], rfl, ⟨by simp [e0'], by show s.size ≤ big; unfold maxLen at hs; unfold big; omega⟩, [v1], [v2, v3, v4, v5, v6], rfl, by simp [e1', intRep], na, nc, ka, kc, e2, hq⟩

theorem open_items {fuel : Nat} {cs : List Value} {x : DataW H × List MemPlace} (h : DataW.trod enc Try.prog W base sp held fuel 22 cs = some x) :
    ∃ a c l, cs = [.slice a (l : List Itm).length c] ∧ SlR itmRep W any a c l :=
  have : Inhabited Itm := ⟨(ByteArray.empty, 0, ⟨0, 0, ByteArray.empty, [], []⟩)⟩
  open_slR itmRep (by rw [itmRep_n]; omega) _ _ Try.underlying22 (by rw [itmRep_n]; kernel_rfl) open_item h

set_option maxRecDepth 100000 in
theorem rv_sto {fuel : Nat} {cs : Array Value} {x : DataW H × List MemPlace} (h : DataW.trod enc Try.prog W base sp held fuel 24 cs.toList = some x) : ∃ y, RV stoRep packA W any y (.agg cs) := by
  obtain ⟨xs, n, rfl, _, hlen, hxs, hf⟩ := DataW.trod_struct Try.underlying24 h
  have hc : Try.prog.cellsOf 24 = 2 := by kernel_rfl
  have cI : Try.prog.cellsOf 3 = 1 := by kernel_rfl
  have cS : Try.prog.cellsOf 22 = 1 := by kernel_rfl
  rw [hc] at hlen
  obtain ⟨l⟩ := cs
  match l, hlen with
  | [v0, v1], _ =>
    obtain ⟨y0, g0⟩ : ∃ y, DataW.trod enc Try.prog W base sp held n 22 [v0] = some y := ⟨xs[0]'(by simp at hxs; omega), by
      have h := hf 0 _ rfl
      rw [List.getElem?_eq_getElem (by simp at hxs; omega)] at h
      simpa [cS, cI] using h⟩
    obtain ⟨y1, g1⟩ : ∃ y, DataW.trod enc Try.prog W base sp held n 3 [v1] = some y := ⟨xs[1]'(by simp at hxs; omega), by
      have h := hf 1 _ rfl
      rw [List.getElem?_eq_getElem (by simp at hxs; omega)] at h
      simpa [cS, cI] using h⟩
    obtain ⟨a, c, l, e0, hl⟩ := open_items g0
    obtain ⟨k, e1, _⟩ := DataW.trod_int Try.underlying3 g1
    have e1' : v1 = .int .i64 k := by simpa using e1
    exact ⟨(l, k), [v0, v1], rfl, [v0], [v1], rfl, ⟨a, c, e0, hl⟩, by simp [e1', intRep]⟩

theorem rv_node {fuel : Nat} {cs : Array Value} {x : DataW H × List MemPlace} (h : DataW.trod enc Try.prog W base sp held fuel 28 cs.toList = some x) : ∃ y, RV nodeRep packA W any y (.agg cs) := by
  obtain ⟨q, na, nc, ka, kc, e2, hq⟩ := open_node _ _ _ h
  exact ⟨q, cs.toList, rfl, na, nc, ka, kc, e2, hq⟩

theorem rv_strs {fuel : Nat} {v : Value} {x : DataW H × List MemPlace} (h : DataW.trod enc Try.prog W base sp held fuel 25 [v] = some x) : ∃ y, RV strsRep packO W any y v := by
  obtain ⟨a, c, xs, e, hs⟩ := open_strs' h
  exact ⟨xs, [v], rfl, a, c, e, hs⟩

theorem rv_str {fuel : Nat} {s : ByteArray} {x : DataW H × List MemPlace} (h : DataW.trod enc Try.prog W base sp held fuel 9 [.string s] = some x) : s.size ≤ big := by
  obtain ⟨s', e, _, hs⟩ := DataW.trod_string Try.underlying9 h
  simp at e
  subst e
  unfold maxLen at hs; unfold big; omega
end

end Go.Proofs.Ytmeobmegnneegaa

namespace Go.Proofs.Ytmeobmegnneegaa
open Go.ChangeShapes Go.WideShapes Go.ChangeAt Go.RowKit

set_option maxRecDepth 100000 in
set_option maxHeartbeats 4000000 in
theorem allPages_lifted (os : Os) (started : os.Started) (H : Type) (enc : TypeId × Value → H) :
    ReturnsInHanded {} Try.checked os 6 .any (Rows.fnExactAllPagesSpec.pre6 enc Try.prog Try.f6 Rows.fnExactAllPagesRow.domain false) (Rows.fnExactAllPagesSpec.post enc Try.prog Try.f6 false true false false) := by
  refine returnsInHanded_of_change (C := Try.checked) Try.own started (by kernel_rfl) Try.func6
    (ChangeSpec.witness6 (enc := enc) (C := Try.checked) false ⟨#[], #[.agg #[.slice none 0 0, .int .i64 0], .int .i64 0], []⟩ 12 (by kernel_rfl) (by kernel_rfl) (by kernel_rfl) (by kernel_rfl)) ?_
  intro W base args ds gs before hval0 hW hcnd _
  have hval : ∀ (j : Nat) t v, Try.f6.params[j]? = some t → args[j]? = some v → Value.okWide Try.prog W .any base t v := hval0
  have hW' := hW
  obtain ⟨p, q, hA0, hV, rfl, hfz, hnd⟩ := hW
  have hA : DataW.TrodAll enc Try.prog W 0 (fun _ => true) true Try.f6.params.toList args.toList ds p := hA0
  rw [Try.params6] at hA hval
  obtain ⟨v0, v1, d0, d1, p0, p1, rfl, rfl, hp, h0, h1⟩ := trodAll_two hA
  obtain ⟨rfl, rfl⟩ := trodVars_none hV
  obtain ⟨cs0, rfl, _⟩ := okWide_struct Try.underlying24 (hval 0 24 v0 rfl rfl)
  obtain ⟨fuel0, h0⟩ := h0
  obtain ⟨x0, hx0⟩ := rv_sto h0
  obtain ⟨n1, rfl⟩ := okWide_int Try.underlying3 (hval 1 3 v1 rfl rfl)
  refine (lawAllP_ok x0 n1 _ W hx0).mono fun e W' ⟨he, hg⟩ => ?_
  subst he
  refine ⟨_, rfl, post_grow rfl ?_ (by kernel_rfl) rfl hW' hg⟩
  intro t ht
  rw [Try.params6] at ht
  simp at ht
  rcases ht with rfl | rfl
  all_goals exact ⟨by kernel_rfl, of_decide_eq_true (by kernel_rfl)⟩

theorem allPages_named : Try.pinned.checked.prog.funcNamed Rows.fnExactAllPagesRow.func = some 6 := by kernel_rfl
theorem allPages_k1 : Rows.fnExactAllPagesRow.wf (OpenSpec.ofChange Rows.fnExactAllPagesSpec) = true := by kernel_rfl
theorem allPages_k2 : laidOutB Try.pinned.checked.prog = true := by kernel_rfl
theorem allPages_k3 : mapsRowed Try.pinned.checked.prog = true := by kernel_rfl
theorem allPages_k4 : Try.f6.params.all (Try.pinned.checked.prog.readableRec ·) = true := by kernel_rfl
theorem allPages_k5 : namedTie Try.pinned.checked.prog Rows.fnExactAllPagesRow.named Rows.fnExactAllPagesSpec.vars = true := by kernel_rfl
theorem allPages_k6 : (Rows.fnExactAllPagesRow.stops == []) = true := by kernel_rfl
theorem allPages_k7 : (Try.pinned.checked.prog.stops == []) = true := by kernel_rfl
theorem allPages_k8 : (Rows.fnExactAllPagesRow.knobs == []) = true := by kernel_rfl
theorem allPages_k9 : (Try.pinned.checked.prog.stopKnobs == []) = true := by kernel_rfl
theorem allPages_k10 : (Rows.fnExactAllPagesRow.inPlace == Try.pinned.checked.prog.inPlace 6) = true := by kernel_rfl
theorem allPages_k11 : (Rows.fnExactAllPagesRow.unfollowed == Try.pinned.checked.prog.unfollowed 6) = true := by kernel_rfl
theorem allPages_k12 : (Rows.fnExactAllPagesRow.recurses == Try.pinned.checked.prog.recurses 6) = true := by kernel_rfl
theorem allPages_k13 : (Rows.fnExactAllPagesRow.named == Try.pinned.checked.prog.varsNamed 6) = true := by kernel_rfl
theorem allPages_k14 : (Rows.fnExactAllPagesRow.maps == (Try.f6.params.toList ++ Rows.fnExactAllPagesSpec.plain.varTypes Try.pinned.checked.prog).any (Try.pinned.checked.prog.mapsRec ·)) = true := by kernel_rfl
theorem allPages_k15 : (Rows.fnExactAllPagesRow.ifaces == (Try.f6.params.toList ++ Rows.fnExactAllPagesSpec.plain.varTypes Try.pinned.checked.prog).any (Try.pinned.checked.prog.ifacesRec ·)) = true := by kernel_rfl
theorem allPages_k16 : (Rows.fnExactAllPagesRow.mapsOut == Try.pinned.checked.prog.mapsAmong Try.f6.resultTypes.toList) = true := by kernel_rfl
theorem allPages_k17 : (Rows.fnExactAllPagesRow.loops == (Try.f6.params.toList ++ Rows.fnExactAllPagesSpec.plain.varTypes Try.pinned.checked.prog).any (Try.pinned.checked.prog.loopsFrom ·)) = true := by kernel_rfl
theorem allPages_k18 : (Rows.fnExactAllPagesRow.wideKeys == (Try.f6.params.toList ++ Rows.fnExactAllPagesSpec.plain.varTypes Try.pinned.checked.prog ++ Try.f6.resultTypes.toList).any (Try.pinned.checked.prog.wideKeysFrom ·)) = true := by kernel_rfl
theorem allPages_k19 : Rows.fnExactAllPagesSpec.vars.all (Try.pinned.checked.prog.varReadable ·) = true := by kernel_rfl
theorem allPages_k20 : Try.f6.resultTypes.all (fun t => Try.pinned.checked.prog.readableRec t && decide (t < Try.pinned.checked.prog.types.size)) = true := by kernel_rfl
theorem allPages_k21 : (Rows.fnExactAllPagesRow.ifacesOut == Try.f6.resultTypes.toList.any (Try.pinned.checked.prog.ifacesRec ·)) = true := by kernel_rfl
theorem allPages_k22 : (Rows.fnExactAllPagesRow.loopsOut == Try.f6.resultTypes.toList.any (Try.pinned.checked.prog.loopsFrom ·)) = true := by kernel_rfl
theorem allPages_k23 : (Rows.fnExactAllPagesRow.plainKeys == Try.pinned.checked.prog.plainKeys) = true := by kernel_rfl
theorem allPages_k24 : Rows.fnExactAllPagesRow.shortTexts.isNone = true := by kernel_rfl
theorem allPages_k25 : Try.pinned.checked.prog.stopsHeard = true := by kernel_rfl
theorem allPages_k26 : Try.pinned.checked.prog.mayEnter = true := io_enter
theorem allPages_k27 : (Rows.fnExactAllPagesRow.lifted == Try.pinned.checked.prog.liftsFinal) = true := by
  show (false == Try.prog.liftsFinal) = true
  rw [io_lifts]; rfl
theorem allPages_k28 : (Try.pinned.checked.prog.make == some Rows.fnExactAllPagesRow.make) = true := by
  show (Try.prog.make == some Make.cut) = true
  rw [io_make]; rfl
theorem allPages_k29 : (Rows.fnExactAllPagesRow.kinds == (if Rows.fnExactAllPagesRow.domain.isEmpty then [] else Try.f6.params.toList.map fun t => match Try.pinned.checked.prog.underlying t with | some (.int k) => some k | _ => none)) = true := by kernel_rfl
theorem allPages_k30 : (Rows.fnExactAllPagesRow.pinned == Rows.fnExactAllPagesRow.pinnedBy) = true := by kernel_rfl
theorem allPages_k31 : (Rows.fnExactAllPagesRow.veiled == (Try.f6.params.toList ++ Rows.fnExactAllPagesSpec.plain.varTypes Try.pinned.checked.prog ++ Try.f6.resultTypes.toList).any (Try.pinned.checked.prog.veiledRec ·)) = true := by kernel_rfl
theorem allPages_k32 : Rows.fnExactAllPagesRow.veiledFits Try.pinned.checked.prog Try.f6.params.toList (Try.f6.params.toList ++ Rows.fnExactAllPagesSpec.plain.varTypes Try.pinned.checked.prog ++ Try.f6.resultTypes.toList) = true := by kernel_rfl
set_option maxRecDepth 100000 in
theorem allPages_facts : joinedFacts Try.pinned.checked.prog 6 Try.f6 Rows.fnExactAllPagesSpec Rows.fnExactAllPagesRow = true := joined_mk allPages_k1 allPages_k2 allPages_k3 allPages_k4 allPages_k5 allPages_k6 allPages_k7 allPages_k8 allPages_k9 allPages_k10 allPages_k11 allPages_k12 allPages_k13 allPages_k14 allPages_k15 allPages_k16 allPages_k17 allPages_k18 allPages_k19 allPages_k20 allPages_k21 allPages_k22 allPages_k23 allPages_k24 allPages_k25 allPages_k26 allPages_k27 allPages_k28 allPages_k29 allPages_k30 allPages_k31 allPages_k32
theorem allPages_inst : (Try.f6).isInstance Try.pinned.checked.prog Rows.fnExactAllPagesRow.origin Rows.fnExactAllPagesRow.targs := of_decide_eq_true (by kernel_rfl)
theorem allPages_wrap : (Try.f6).isWrapper Try.pinned.checked.prog Rows.fnExactAllPagesRow.wrapper Rows.fnExactAllPagesRow.mainSum := by unfold Func.isWrapper; first | (rw [if_pos (by decide +kernel)]; kernel_rfl) | (rw [if_neg (by decide +kernel)]; exact ⟨rfl, rfl⟩)
theorem allPages_holds : Rows.FnExactAllPagesSaid :=
  OpenClaim.holds_of_wide 6 Try.f6 rfl rfl rfl rfl rfl rfl rfl ⟨rfl, rfl, rfl, rfl, rfl⟩ rfl rfl rfl rfl rfl allPages_named Try.func6 allPages_facts allPages_inst allPages_wrap
    (fun os started H enc _ => allPages_lifted os started H enc)
#print axioms allPages_holds

end Go.Proofs.Ytmeobmegnneegaa
