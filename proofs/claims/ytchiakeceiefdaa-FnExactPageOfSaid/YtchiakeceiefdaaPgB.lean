/-
  Texts of this claim, joined: Mark, MarkS, MarkN, HeldN, ShapeWalk, SpecNode, ShapeSpec, Fits, Stab, Easy.
-/
import Derived.BigQuiet
import Derived.Test.YtchiakeceiefdaaPgA

/-
  Marks: the plain law, and the walks of markText, markStringS, heldStringS.
-/
namespace Go.Proofs.Ytchiakeceiefdaa
open Go.RowKit

/-- The digits of a number, none for zero. -/
def mdig : Nat → List UInt8
  | 0 => []
  | k + 1 => mdig ((k + 1) / 10) ++ dig1 ((k + 1) % 10)
decreasing_by omega
theorem mdig_pos {k : Nat} (h : 0 < k) : mdig k = mdig (k / 10) ++ dig1 (k % 10) := by
  cases k with
  | zero => omega
  | succ k => rw [mdig]
/-- The mark of a number. -/
def mtxt (k : Nat) : ByteArray := txt (109 :: mdig k)

theorem txt_append (l m : List UInt8) : txt l ++ txt m = txt (l ++ m) := by
  apply ByteArray.ext
  show ((ByteArray.mk l.toArray) ++ (ByteArray.mk m.toArray)).data = (l ++ m).toArray
  simp

def mkS : Nat → Nat → List ByteArray
  | _, 0 => []
  | k, n + 1 => mtxt k :: mkS (k + 1) n
theorem mkS_len (k n : Nat) : (mkS k n).length = n := by
  induction n generalizing k with
  | zero => rfl
  | succ n ih => simp [mkS, ih]
theorem mkS_get (k n i : Nat) (h : i < (mkS k n).length) : (mkS k n)[i] = mtxt (k + i) := by
  induction n generalizing k i with
  | zero => simp [mkS] at h
  | succ n ih =>
    cases i with
    | zero => simp [mkS]
    | succ i => simp only [mkS, List.getElem_cons_succ]; rw [ih]; congr 1; omega

theorem dig1_size (k : Nat) : (dig1 k).length = 1 := rfl
theorem mdig_len (k : Nat) : (mdig k).length ≤ k := by
  induction k using Nat.strongRecOn with
  | ind k ih =>
    cases k with
    | zero => simp [mdig]
    | succ k =>
      rw [mdig, List.length_append, dig1_size]
      have := ih ((k + 1) / 10) (by omega)
      omega
theorem txt_size (l : List UInt8) : (txt l).size = l.length := by show (txt l).data.size = _; simp [txt]
theorem mtxt_size (k : Nat) (h : k ≤ 1000000000) : (mtxt k).size ≤ big := by
  have h1 : (mtxt k).size = 1 + (mdig k).length := by
    show (txt (109 :: mdig k)).data.size = _
    simp [txt]; omega
  have := mdig_len k
  unfold big; omega

def MtRel (w : World) (k : Nat) (t0 t3 : Value) (wr : World) : Prop := Grow w wr ∧ ∃ (j : Nat) (s : ByteArray) (l : List UInt8), j ≤ k ∧ t0 = .int .i64 (j : Int) ∧ t3 = .string s ∧ s = txt l ∧ mdig k = mdig j ++ l

set_option maxRecDepth 100000 in
set_option maxHeartbeats 1000000 in
theorem markText_ok (k : Nat) (w : World) (h1 : 0 < k) (h2 : k ≤ 1000000000) :
    Calls Try.prog 70 #[.int .i64 (k : Int)] w fun e w' => e = .returned (.string (mtxt k)) ∧ Grow w w' := by
  go_enter Try.func70, Try.ntmps70
  go_wp2_with fail
  go_loopw [0, 3] (fun t0 t3 wr => MtRel w k t0 t3 wr) (fun t0 _ _ => (intOf t0).toNat)
  case atStart => exact ⟨Ext.refl _ _, k, _, [], Nat.le_refl _, rfl, rfl, rfl, by simp⟩
  case round =>
    obtain ⟨hg, j, s, l, hj, rfl, rfl, hs, hd⟩ := hrel
    have Hd := Lib.hid hd
    have Hs := Lib.hid hs
    have hsz : s.size ≤ 1000000000 := by
      have e1 := congrArg List.length hd
      rw [List.length_append] at e1
      have e2 := mdig_len k
      rw [hs, txt_size]; omega
    have hz1 : (txt (dig1 (j % 10))).size ≤ 1 := by rw [txt_size]; exact Nat.le_refl _
    clear hd hs
    by_cases h0 : 0 < j
    · have hcv := conv1 (j % 10) (by omega) wr
      rw [show (((j % 10 : Nat)) : Int) = (j : Int) % 10 by omega] at hcv
      go_wp2_with fail
      go_roundw
      case rel => exact ⟨hg.alloc _, j / 10, _, dig1 (j % 10) ++ l, by omega, by go_num, rfl, by rw [← txt_append, Hs.out], by rw [Hd.out, mdig_pos h0]; simp⟩
      case measure => simp [intOf]; omega
    · go_wp2_with fail
      go_ret
      exact ⟨by
        have h2 := Hd.out
        rw [show j = 0 by omega] at h2
        simp only [mdig, List.nil_append] at h2
        rw [mtxt, h2, Hs.out]
        exact congrArg (fun x => Ending.returned (Value.string x)) (txt_append [109] l), hg⟩

end Go.Proofs.Ytchiakeceiefdaa

/-
  The walks of markStringS and heldStringS.
-/
namespace Go.Proofs.Ytchiakeceiefdaa
open Go.RowKit

/-- Blocks of a list. -/
def inl (fp : List Nat) (k : Nat) : Prop := k ∈ fp

/-- What turns in some of one's blocks leaves all of them one's own. -/
theorem Free.sub {B : Nat} {w w' : World} {fp fx : List Nat} (h : Free B w fp) (he : Ext (inl fx) w w') (hx : ∀ b ∈ fx, ∀ o, w'.frozen? ⟨b, o, none⟩ = false) : Free B w' fp := by
  refine ⟨h.1, fun b hb => ⟨(h.2 b hb).1, Nat.lt_of_lt_of_le (h.2 b hb).2.1 he.size, fun o => ?_⟩⟩
  by_cases hbx : b ∈ fx
  · exact hx b hbx o
  · rw [he.frozen (p := ⟨b, o, none⟩) (h.2 b hb).2.1 hbx]; exact (h.2 b hb).2.2 o

theorem Grow.toX {X : Nat → Prop} {w w' : World} (h : Grow w w') : Ext X w w' := h.mono (fun _ h => False.elim h)

/-- A row in block b from place o on: its n cells are there, and it is not frozen. -/
def RowAt (w : World) (b o n : Nat) : Prop := b < w.heap.size ∧ (∀ j, j < n → ∃ u, w.cell? ⟨b, o + j, none⟩ = some u) ∧ ∀ j, w.frozen? ⟨b, j, none⟩ = false
theorem RowAt.ext {X : Nat → Prop} {w w' : World} {b o n : Nat} (h : Ext X w w') (hx : ¬ X b) (hr : RowAt w b o n) : RowAt w' b o n := by
  obtain ⟨h1, h2, h3⟩ := hr
  refine ⟨Nat.lt_of_lt_of_le h1 h.size, fun j hj => ?_, fun j => ?_⟩
  · rw [h.cell (p := ⟨b, o + j, none⟩) h1 hx]; exact h2 j hj
  · rw [h.frozen (p := ⟨b, j, none⟩) h1 hx]; exact h3 j
theorem RowAt.setCell {w : World} {b o n : Nat} (hr : RowAt w b o n) (p : Addr) (v : Value) : RowAt (w.setCell p v) b o n := by
  obtain ⟨h1, h2, h3⟩ := hr
  refine ⟨by rw [size_setCell]; exact h1, fun j hj => cell?_setCell_some (h2 j hj).choose_spec, fun j => ?_⟩
  rw [World.frozen?_setCell]; exact h3 j

/-- What marking text k, k + 1 .. leaves of texts. -/
def mkMix (k : Nat) (xs : List ByteArray) (i : Nat) : List ByteArray := mkS k i ++ xs.drop i

set_option maxHeartbeats 1000000 in
theorem markStringS_ok (a : Option Addr) (c : Nat) (xs : List ByteArray) (fp : List Nat) (B k : Nat) (w : World) (hF : StrsF w a c xs fp) (hfr : Free B w fp) (h1 : 0 < k) (h2 : k + xs.length ≤ 1000000000) :
    Calls Try.prog 23 #[.slice a xs.length c, .int .i64 (k : Int)] w fun e w' => e = .returned (.int .i64 ((k + xs.length : Nat) : Int)) ∧ Ext (inl fp) w w' ∧ Free B w' fp ∧ StrsF w' a c (mkS k xs.length) fp := by
  obtain ⟨hle, hlen, hbig, hcc⟩ := hF
  rcases hcc with ⟨rfl, rfl⟩ | ⟨b, o, hne, rfl, rfl, hcc⟩
  · go_enter Try.func23, Try.ntmps23
    go_wp2_with fail
    go_loopw [1, 5] (fun t1 i wr => t1 = .int .i64 k ∧ i = .int .i64 0 ∧ wr = w) (fun _ _ _ => 0)
    case atStart => exact ⟨rfl, rfl, rfl⟩
    case round =>
      obtain ⟨rfl, rfl, rfl⟩ := hrel
      go_wp2_with fail
      go_ret
      exact ⟨by simp, Ext.refl _ _, hfr, ⟨hle, hlen, by simp [mkS], .inl ⟨rfl, rfl⟩⟩⟩
  · have hl : xs.length ≤ 1000000000 := by omega
    have hrow : RowAt w b o xs.length := ⟨(hfr.2 b (by simp)).2.1, fun j hj => ⟨_, hcc j hj⟩, (hfr.2 b (by simp)).2.2⟩
    have Hle := Lib.hid hle
    have Hlen := Lib.hid hlen
    have Hne := Lib.hid hne
    have Hfr := Lib.hid hfr
    clear hle hlen hbig hne hfr hcc
    go_enter Try.func23, Try.ntmps23
    go_wp2_with fail
    go_loopw [1, 5] (fun t1 i wr => ∃ j : Nat, j ≤ xs.length ∧ i = .int .i64 j ∧ t1 = .int .i64 ((k + j : Nat) : Int) ∧ Ext (inl [b]) w wr ∧ RowAt wr b o xs.length ∧ Hid (∀ t, t < j → wr.cell? ⟨b, o + t, none⟩ = some (.string (mtxt (k + t))))) (fun _ i _ => xs.length - (intOf i).toNat)
    case atStart => exact ⟨0, Nat.zero_le _, rfl, rfl, Ext.refl _ _, hrow, Lib.hid (fun t ht => absurd ht (by omega))⟩
    case round =>
      obtain ⟨j, hj, rfl, rfl, hg, hr, Hm⟩ := hrel
      have Hg := Lib.hid hg
      have Hr := Lib.hid hr
      clear hg hr
      by_cases hlt : j < xs.length
      · go_wp2_with fail
        refine (markText_ok (k + j) _ (by omega) (by omega)).mono ?_
        rintro e w2 ⟨rfl, hg2⟩
        have hr2 := Hr.out.ext hg2 (fun h => h)
        have hfz := hr2.2.2
        obtain ⟨u, hu⟩ := hr2.2.1 j hlt
        have Hr2 := Lib.hid hr2
        have Hu := Lib.hid hu
        clear hr2
        go_wp2_with fail
        go_roundw
        case rel =>
          refine ⟨j + 1, by omega, by go_num, by go_num, (Hg.out.trans hg2.toX).setIn (p := ⟨b, o + j, none⟩) (by simp [inl]) _, Hr2.out.setCell _ _, Lib.hid (fun t ht => ?_)⟩
          rw [cell_set Hu.out]
          by_cases e : t = j
          · subst e; rw [if_pos rfl]
          · have hne : ¬ (⟨b, o + t, none⟩ : Addr) = ⟨b, o + j, none⟩ := by intro h'; have := congrArg Addr.off h'; simp at this; exact e this
            rw [if_neg hne]
            exact hg2.some (Hm.out t (by omega))
        case measure => simp [intOf]; omega
      · go_wp2_with fail
        go_ret
        have hx := Hr.out
        refine ⟨by rw [show j = xs.length by omega]; rfl, Hg.out, Hfr.out.sub Hg.out (fun b' hb' o' => by simp at hb'; subst hb'; exact hx.2.2 o'), ?_⟩
        refine ⟨by rw [mkS_len]; exact Hle.out, by rw [mkS_len]; exact Hlen.out, ?_, .inr ⟨b, o, ?_, rfl, rfl, fun i hi => ?_⟩⟩
        · intro x hx
          obtain ⟨i, hi, rfl⟩ := List.getElem_of_mem hx
          rw [mkS_get]; exact mtxt_size _ (by rw [mkS_len] at hi; omega)
        · intro h
          have := congrArg List.length h
          rw [mkS_len] at this
          exact Hne.out (List.length_eq_zero_iff.1 this)
        · rw [mkS_get]; rw [mkS_len] at hi; exact Hm.out i (by omega)

set_option maxHeartbeats 1000000 in
theorem heldStringS_ok (a : Option Addr) (c n k : Nat) (w : World) (ha : StrsR w any a c (mkS k n)) (h1 : 0 < k) (h2 : k + n ≤ 1000000000) :
    Calls Try.prog 24 #[.slice a n c, .int .i64 (k : Int)] w fun e w' => e = .returned (.int .i64 ((k + n : Nat) : Int)) ∧ Grow w w' := by
  have Ha := Lib.hid ha
  clear ha
  go_enter Try.func24, Try.ntmps24
  go_wp2_with fail
  go_loopw [1, 4, 5] (fun t1 t4 i wr => t4 = .int .i64 0 ∧ Grow w wr ∧ ∃ j : Nat, j ≤ n ∧ i = .int .i64 j ∧ t1 = .int .i64 ((k + j : Nat) : Int)) (fun _ _ i _ => n - (intOf i).toNat)
  case atStart => exact ⟨rfl, Ext.refl _ _, 0, Nat.zero_le _, rfl, rfl⟩
  case round =>
    obtain ⟨rfl, hg, j, hj, rfl, rfl⟩ := hrel
    by_cases hlt : j < n
    · obtain ⟨_, _, _, ha4⟩ := (Ha.out).grow hg
      rcases ha4 with hh | ⟨b, o, rfl, _, hca⟩
      · have := congrArg List.length hh; rw [mkS_len] at this; simp at this; omega
      have hx := hca j (by rw [mkS_len]; exact hlt)
      rw [mkS_get] at hx
      clear hca Ha
      go_wp2_with fail
      (refine wp_region_later (by kernel_rfl) (by kernel_rfl) ?_; (repeat (first | go_big_quiet_step ((go_at_call 70; exact later_call (v := .string (mtxt (k + j))) (markText_ok (k + j) _ (by omega) (by omega)))) | quiet_step ((go_at_call 70; exact later_call (v := .string (mtxt (k + j))) (markText_ok (k + j) _ (by omega) (by omega)))))); refine wpQuiet_nil ?_; rintro _ ⟨x_w2, rfl⟩; have hg_w2 := later_grow wr x_w2; generalize later wr x_w2 = w2 at hg_w2 ⊢)
      go_wp2_with fail
      go_roundw
      case rel => exact ⟨rfl, hg.trans hg_w2, j + 1, by omega, by go_num, by go_num⟩
      case measure => simp [intOf]; omega
    · go_wp2_with fail
      go_ret
      exact ⟨by rw [show j = n by omega]; rfl, hg⟩

theorem markText_i (k : Nat) (i : Int) (w : World) (hi : i = (k : Int)) (h1 : 0 < k) (h2 : k ≤ 1000000000) :
    Calls Try.prog 70 #[.int .i64 i] w fun e w' => e = .returned (.string (mtxt k)) ∧ Grow w w' := by
  subst hi; exact markText_ok k w h1 h2
theorem markStringS_i (a : Option Addr) (c : Nat) (xs : List ByteArray) (fp : List Nat) (B k : Nat) (i : Int) (w : World) (hi : i = (k : Int)) (hF : StrsF w a c xs fp) (hfr : Free B w fp) (h1 : 0 < k) (h2 : k + xs.length ≤ 1000000000) :
    Calls Try.prog 23 #[.slice a xs.length c, .int .i64 i] w fun e w' => e = .returned (.int .i64 ((k + xs.length : Nat) : Int)) ∧ Ext (inl fp) w w' ∧ Free B w' fp ∧ StrsF w' a c (mkS k xs.length) fp := by
  subst hi; exact markStringS_ok a c xs fp B k w hF hfr h1 h2
theorem heldStringS_i (a : Option Addr) (c n k : Nat) (i : Int) (w : World) (hi : i = (k : Int)) (ha : StrsR w any a c (mkS k n)) (h1 : 0 < k) (h2 : k + n ≤ 1000000000) :
    Calls Try.prog 24 #[.slice a n c, .int .i64 i] w fun e w' => e = .returned (.int .i64 ((k + n : Nat) : Int)) ∧ Grow w w' := by
  subst hi; exact heldStringS_ok a c n k w ha h1 h2

end Go.Proofs.Ytchiakeceiefdaa

/-
  Marks of nodes: the plain law and the walk of markNodeS, markNode.
-/
namespace Go.Proofs.Ytchiakeceiefdaa
open Go.RowKit

mutual
def cntK : Nd → Nat
  | ⟨_, _, _, names, kids⟩ => 3 + names.length + cntL kids
def cntL : List Nd → Nat
  | [] => 0
  | x :: xs => cntK x + cntL xs
end
mutual
def mkK : Nat → Nd → Nd
  | k, ⟨_, _, _, names, kids⟩ => ⟨k, (k + 1 : Nat), mtxt (k + 2), mkS (k + 3) names.length, mkL (k + 3 + names.length) kids⟩
def mkL : Nat → List Nd → List Nd
  | _, [] => []
  | k, x :: xs => mkK k x :: mkL (k + cntK x) xs
end
theorem cntK_eq (n : Nd) : cntK n = 3 + n.names.length + cntL n.kids := by cases n; simp [cntK]
theorem mkK_eq (k : Nat) (n : Nd) : mkK k n = ⟨k, (k + 1 : Nat), mtxt (k + 2), mkS (k + 3) n.names.length, mkL (k + 3 + n.names.length) n.kids⟩ := by cases n; simp [mkK]
theorem mkL_len (k : Nat) (l : List Nd) : (mkL k l).length = l.length := by
  induction l generalizing k with
  | nil => rfl
  | cons x l ih => simp [mkL, ih]
theorem mkL_snoc (k : Nat) (l : List Nd) (x : Nd) : mkL k (l ++ [x]) = mkL k l ++ [mkK (k + cntL l) x] := by
  induction l generalizing k with
  | nil => simp [mkL, cntL]
  | cons a l ih => simp only [List.cons_append, mkL, ih, cntL]; rw [Nat.add_assoc]
theorem cntL_len (l : List Nd) : l.length ≤ cntL l := by
  induction l with
  | nil => simp
  | cons a l ih => simp only [cntL, List.length_cons, cntK_eq]; omega
theorem cntL_snoc (l : List Nd) (x : Nd) : cntL (l ++ [x]) = cntL l + cntK x := by
  induction l with
  | nil => simp [cntL]
  | cons a l ih => simp only [List.cons_append, cntL, ih]; omega
theorem cntL_take_le (l : List Nd) (j : Nat) : cntL (l.take j) ≤ cntL l := by
  induction l generalizing j with
  | nil => simp
  | cons a l ih => cases j with
    | zero => simp [cntL]
    | succ j => simp only [List.take_succ_cons, cntL]; have := ih j; omega

theorem KidsF.append {w : World} {b : Nat} : ∀ {l m : List Nd} {o : Nat} {f g : List Nat}, KidsF w b o l f → KidsF w b (o + l.length * 5) m g → KidsF w b o (l ++ m) (f ++ g)
  | [], m, o, f, g, h1, h2 => by
    unfold KidsF at h1; subst h1; simpa using h2
  | x :: l, m, o, f, g, h1, h2 => by
    unfold KidsF at h1
    obtain ⟨f1, f2, rfl, hx, hr⟩ := h1
    rw [List.cons_append]; unfold KidsF
    refine ⟨f1, f2 ++ g, by simp, hx, KidsF.append hr ?_⟩
    rw [show o + 5 + l.length * 5 = o + (x :: l).length * 5 by simp; omega]
    exact h2
theorem KidsF.split {w : World} {b : Nat} : ∀ {l m : List Nd} {o : Nat} {fp : List Nat}, KidsF w b o (l ++ m) fp → ∃ f g, fp = f ++ g ∧ KidsF w b o l f ∧ KidsF w b (o + l.length * 5) m g
  | [], m, o, fp, h => ⟨[], fp, rfl, by unfold KidsF; rfl, by simpa using h⟩
  | x :: l, m, o, fp, h => by
    rw [List.cons_append] at h; unfold KidsF at h
    obtain ⟨f1, f2, rfl, hx, hr⟩ := h
    obtain ⟨f, g, rfl, h1, h2⟩ := KidsF.split hr
    rw [show o + 5 + l.length * 5 = o + (x :: l).length * 5 by simp; omega] at h2
    exact ⟨f1 ++ f, g, by simp, by unfold KidsF; exact ⟨f1, f, rfl, hx, h1⟩, h2⟩

theorem set_ne (w : World) (b p b' q : Nat) (v : Value) (h : b' ≠ b ∨ q ≠ p) : (w.setCell ⟨b, p, none⟩ v).cell? ⟨b', q, none⟩ = w.cell? ⟨b', q, none⟩ :=
  World.cell?_setCell_other _ _ _ _ (by intro e; cases e; rcases h with h | h <;> exact h rfl)

def MkOk (n : Nd) : Prop := ∀ (a : Option Addr) (c : Nat) (fp : List Nat) (B k : Nat) (w : World), NodesF w a c n.kids fp → Free B w fp → 0 < k → k + cntL n.kids ≤ 1000000000 →
    Calls Try.prog 94 #[.slice a n.kids.length c, .int .i64 (k : Int)] w fun e w' => e = .returned (.int .i64 ((k + cntL n.kids : Nat) : Int)) ∧ Ext (inl fp) w w' ∧ Free B w' fp ∧ NodesF w' a c (mkL k n.kids) fp

set_option maxRecDepth 100000 in
set_option maxHeartbeats 4000000 in
theorem markNodeS_of (l : List Nd) (ih : ∀ x ∈ l, MkOk x) (a : Option Addr) (c : Nat) (fp : List Nat) (B k : Nat) (w : World) (hF : NodesF w a c l fp) (hfr : Free B w fp) (h1 : 0 < k) (h2 : k + cntL l ≤ 1000000000) (hl : l.length ≤ 1000000000) :
    Calls Try.prog 94 #[.slice a l.length c, .int .i64 (k : Int)] w fun e w' => e = .returned (.int .i64 ((k + cntL l : Nat) : Int)) ∧ Ext (inl fp) w w' ∧ Free B w' fp ∧ NodesF w' a c (mkL k l) fp := by
  obtain ⟨hle, hlen, hcc⟩ := hF
  rcases hcc with ⟨rfl, rfl⟩ | ⟨b, o, f, hne, rfl, rfl, hcc⟩
  · go_enter Try.func94, Try.ntmps94
    go_wp2_with fail
    go_loopw [1, 5] (fun t1 i wr => t1 = .int .i64 k ∧ i = .int .i64 0 ∧ wr = w) (fun _ _ _ => 0)
    case atStart => exact ⟨rfl, rfl, rfl⟩
    case round =>
      obtain ⟨rfl, rfl, rfl⟩ := hrel
      go_wp2_with fail
      go_ret
      exact ⟨by simp [cntL], Ext.refl _ _, hfr, ⟨by simp [mkL], by simp [mkL], .inl ⟨rfl, rfl⟩⟩⟩
  · have Hle := Lib.hid hle
    have Hlen := Lib.hid hlen
    have Hne := Lib.hid hne
    have Ih := Lib.hid ih
    have hK0 : KidsF w b o (mkL k (l.take 0) ++ l.drop 0) f := by simpa [mkL] using hcc
    clear hle hlen hne hcc ih
    go_enter Try.func94, Try.ntmps94
    go_wp2_with fail
    go_loopw [1, 5] (fun t1 i wr => ∃ j : Nat, j ≤ l.length ∧ i = .int .i64 j ∧ t1 = .int .i64 ((k + cntL (l.take j) : Nat) : Int) ∧ Ext (inl (b :: f)) w wr ∧ Free B wr (b :: f) ∧ KidsF wr b o (mkL k (l.take j) ++ l.drop j) f) (fun _ i _ => l.length - (intOf i).toNat)
    case atStart => exact ⟨0, Nat.zero_le _, rfl, rfl, Ext.refl _ _, hfr, hK0⟩
    case round =>
      obtain ⟨j, hj, rfl, rfl, hg, hfr', hK⟩ := hrel
      have hct := cntL_take_le l j
      have Hg := Lib.hid hg
      have Hfr := Lib.hid hfr'
      have HK := Lib.hid hK
      clear hg hfr' hK hfr hK0
      by_cases hlt : j < l.length
      · obtain ⟨x, hx⟩ : ∃ x, x = l[j] := ⟨_, rfl⟩
        have hxm : x ∈ l := by rw [hx]; exact List.getElem_mem hlt
        have htk : l.take (j + 1) = l.take j ++ [x] := by rw [take_snoc' _ _ hlt, hx]
        have hct2 := cntL_take_le l (j + 1)
        rw [htk, cntL_snoc, cntK_eq] at hct2
        have hdr : l.drop j = x :: l.drop (j + 1) := by rw [drop_cons _ _ hlt, hx]
        have hK := HK.out
        rw [hdr] at hK
        obtain ⟨f1, f', hf, hK1, hK2⟩ := hK.split
        have hjl : (mkL k (l.take j)).length = j := by rw [mkL_len]; simp; omega
        rw [hjl] at hK2
        unfold KidsF at hK2
        obtain ⟨fx, f2, hf', ⟨na, nc, ka, kc, c0, c1, c2, c3, c4, hx5⟩, hK3⟩ := hK2
        obtain ⟨g1, g2, hfx, htx, hnm, hkd⟩ := hx5.parts
        obtain ⟨k', hk'⟩ : ∃ k', k' = k + cntL (l.take j) := ⟨_, rfl⟩
        have hb9 : k' + (3 + x.names.length + cntL x.kids) ≤ 1000000000 := by omega
        rw [← hk']
        clear hct2 hct
        have hfz := (Hfr.out.2 b (by simp)).2.2
        have hnd := Hfr.out.1
        rw [hf, hf', hfx] at hnd
        replace hnd := (List.nodup_cons.1 hnd).2
        have hnl : x.names.length ≤ 1000000000 := by omega
        have Hf := Lib.hid hf
        have Hf' := Lib.hid hf'
        have Hfx := Lib.hid hfx
        have HK1 := Lib.hid hK1
        have HK3 := Lib.hid hK3
        have Hnm := Lib.hid hnm
        have Hkd := Lib.hid hkd
        have Htk := Lib.hid htk
        have Hk' := Lib.hid hk'
        have Hnd := Lib.hid hnd
        have C0 := Lib.hid c0
        have C1 := Lib.hid c1
        have C2 := Lib.hid c2
        have C3 := Lib.hid c3
        have C4 := Lib.hid c4
        clear hx hdr hK hf hK1 hf' hK3 hfx htx hnm hkd hx5 htk hk' hnd HK hjl
        have hbw : b < wr.heap.size := lt_of_cell c0
        have hbf : b ∉ f := (List.nodup_cons.1 Hfr.out.1).1
        have hg1f : ∀ y ∈ g1, y ∈ f := fun y hy => by rw [Hf.out, Hf'.out, Hfx.out]; simp [hy]
        have hg2f : ∀ y ∈ g2, y ∈ f := fun y hy => by rw [Hf.out, Hf'.out, Hfx.out]; simp [hy]
        have hf1f : ∀ y ∈ f1, y ∈ f := fun y hy => by rw [Hf.out]; simp [hy]
        have hf2f : ∀ y ∈ f2, y ∈ f := fun y hy => by rw [Hf.out, Hf'.out]; simp [hy]
        have hnd1 : ∀ y, y ∈ f1 → y ∉ g1 ∧ y ∉ g2 := fun y hy => by
          have := (List.nodup_append.1 Hnd.out).2.2 y hy
          exact ⟨fun h => this y (by simp [h]) rfl, fun h => this y (by simp [h]) rfl⟩
        have hnd2 : ∀ y, y ∈ f2 → y ∉ g1 ∧ y ∉ g2 := fun y hy => by
          have h3 := (List.nodup_append.1 (List.nodup_append.1 Hnd.out).2.1).2.2
          exact ⟨fun h => h3 y (by simp [h]) y hy rfl, fun h => h3 y (by simp [h]) y hy rfl⟩
        have hndg : ∀ y, y ∈ g2 → y ∉ g1 := fun y hy h => (List.nodup_append.1 (List.nodup_append.1 (List.nodup_append.1 Hnd.out).2.1).1).2.2 y h y hy rfl
        have hg1n : g1.Nodup := (List.nodup_append.1 (List.nodup_append.1 (List.nodup_append.1 Hnd.out).2.1).1).1
        have hg2n : g2.Nodup := (List.nodup_append.1 (List.nodup_append.1 (List.nodup_append.1 Hnd.out).2.1).1).2.1
        have Hbf := Lib.hid hbf
        have Hg1f := Lib.hid hg1f
        have Hg2f := Lib.hid hg2f
        have Hf1f := Lib.hid hf1f
        have Hf2f := Lib.hid hf2f
        have Hnd1 := Lib.hid hnd1
        have Hnd2 := Lib.hid hnd2
        have Hndg := Lib.hid hndg
        have Hg1n := Lib.hid hg1n
        have Hg2n := Lib.hid hg2n
        have Hhxm := Lib.hid hxm
        clear hbf hg1f hg2f hf1f hf2f hnd1 hnd2 hndg hg1n hg2n hxm
        go_wp2_with fail
        refine (markText_i (k' + 2) _ _ (by omega) (by omega) (by omega)).mono ?_
        rintro e w2 ⟨rfl, hg2⟩
        obtain ⟨wa, hwa⟩ : ∃ wa, wa = (wr.setCell ⟨b, o + j * 5, none⟩ (.int .i64 k')).setCell ⟨b, o + j * 5 + 1, none⟩ (.int .i64 ((k' : Int) + 1)) := ⟨_, rfl⟩
        rw [← hwa] at hg2
        have hra : Ext (inl [b]) wr wa := by
          rw [hwa]
          exact (Ext.setIn (X := inl [b]) (Ext.refl _ wr) (p := ⟨b, o + j * 5, none⟩) (by simp [inl]) _).setIn (p := ⟨b, o + j * 5 + 1, none⟩) (by simp [inl]) _
        have a0 : wa.cell? ⟨b, o + j * 5, none⟩ = some (.int .i64 k') := by
          rw [hwa, set_ne _ _ _ _ _ _ (.inr (by omega)), cell_set C0.out, if_pos rfl]
        have a1 : wa.cell? ⟨b, o + j * 5 + 1, none⟩ = some (.int .i64 ((k' : Int) + 1)) := by
          rw [hwa]
          have : (wr.setCell ⟨b, o + j * 5, none⟩ (.int .i64 k')).cell? ⟨b, o + j * 5 + 1, none⟩ = some (.int .i64 x.num) := by rw [set_ne _ _ _ _ _ _ (.inr (by omega))]; exact C1.out
          rw [cell_set this, if_pos rfl]
        have lba : b < wa.heap.size := lt_of_cell a0
        have aq : ∀ q, q ≠ o + j * 5 → q ≠ o + j * 5 + 1 → wa.cell? ⟨b, q, none⟩ = wr.cell? ⟨b, q, none⟩ := fun q q0 q1 => by
          rw [hwa, set_ne _ _ _ _ _ _ (.inr q1), set_ne _ _ _ _ _ _ (.inr q0)]
        have az : ∀ q, wa.frozen? ⟨b, q, none⟩ = false := fun q => by
          rw [hwa, World.frozen?_setCell, World.frozen?_setCell]; exact hfz q
        have h2a := hg2.some a0
        have h2b := hg2.some a1
        have d2 : w2.cell? ⟨b, o + j * 5 + 2, none⟩ = some (.string x.text) := hg2.some (by rw [aq _ (by omega) (by omega)]; exact C2.out)
        have d3 : w2.cell? ⟨b, o + j * 5 + 3, none⟩ = some (.slice na x.names.length nc) := hg2.some (by rw [aq _ (by omega) (by omega)]; exact C3.out)
        have d4 : w2.cell? ⟨b, o + j * 5 + 4, none⟩ = some (.slice ka x.kids.length kc) := hg2.some (by rw [aq _ (by omega) (by omega)]; exact C4.out)
        have dz : ∀ q, w2.frozen? ⟨b, q, none⟩ = false := fun q => by rw [hg2.frozen (p := ⟨b, q, none⟩) lba (fun h => h)]; exact az q
        have hr2 : Ext (inl [b]) wr w2 := hra.trans hg2.toX
        have hq2 : ∀ q, q ≠ o + j * 5 → q ≠ o + j * 5 + 1 → w2.cell? ⟨b, q, none⟩ = wr.cell? ⟨b, q, none⟩ := fun q q0 q1 => by
          rw [hg2.cell (p := ⟨b, q, none⟩) lba (fun h => h)]; exact aq q q0 q1
        have H2a := Lib.hid h2a
        have H2b := Lib.hid h2b
        have D2 := Lib.hid d2
        have D3 := Lib.hid d3
        have D4 := Lib.hid d4
        have Hr2 := Lib.hid hr2
        have Hq2 := Lib.hid hq2
        have Dz := Lib.hid dz
        clear lba hwa hra a0 a1 aq az h2a h2b hg2 hr2 hq2 hfz d4 c0 c1 c2 c3 c4
        go_wp2_with fail
        obtain ⟨wb, hwb⟩ : ∃ wb, wb = w2.setCell ⟨b, o + j * 5 + 2, none⟩ (.string (mtxt (k' + 2))) := ⟨_, rfl⟩
        rw [← hwb]
        have hrb : Ext (inl [b]) wr wb := by rw [hwb]; exact Hr2.out.setIn (p := ⟨b, o + j * 5 + 2, none⟩) (by simp [inl]) _
        have Hrb := Lib.hid hrb
        have fr1 : Free B wr g1 := ⟨Hg1n.out, fun y hy => Hfr.out.2 y (by simp [Hg1f.out y hy])⟩
        have fr2 : Free B wr g2 := ⟨Hg2n.out, fun y hy => Hfr.out.2 y (by simp [Hg2f.out y hy])⟩
        have n1 : ∀ y ∈ g1, ¬ inl [b] y := fun y hy h => by simp [inl] at h; subst h; exact Hbf.out (Hg1f.out _ hy)
        have n2 : ∀ y ∈ g2, ¬ inl [b] y := fun y hy h => by simp [inl] at h; subst h; exact Hbf.out (Hg2f.out _ hy)
        refine (markStringS_i na nc x.names g1 B (k' + 3) _ wb (by omega) (Hnm.out.keep (hrb.keeps fr1 n1)) (fr1.ext hrb n1) (by omega) (by omega)).mono ?_
        rintro e w3 ⟨rfl, hg3, hfr3, hs3⟩
        have b4 : wb.cell? ⟨b, o + j * 5 + 4, none⟩ = some (.slice ka x.kids.length kc) := by rw [hwb, set_ne _ _ _ _ _ _ (.inr (by omega))]; exact D4.out
        have hb1 : ¬ inl g1 b := fun h => Hbf.out (Hg1f.out _ h)
        have e4 := hg3.some b4 hb1
        have Hg3 := Lib.hid hg3
        have Hfr3 := Lib.hid hfr3
        have Hs3 := Lib.hid hs3
        have Hwb := Lib.hid hwb
        have Hb4 := Lib.hid b4
        have Hb1 := Lib.hid hb1
        have Fr1 := Lib.hid fr1
        have Fr2 := Lib.hid fr2
        have N1 := Lib.hid n1
        have N2 := Lib.hid n2
        clear hrb fr1 fr2 n1 n2 hg3 hfr3 hs3 hwb b4 hb1 d2 d3 dz
        go_wp2_with fail
        have hr3 : Ext (inl (b :: g1)) wr w3 := (Hrb.out.mono (fun y hy => by simp [inl] at hy ⊢; exact .inl hy)).trans (Hg3.out.mono (fun y hy => by simp [inl] at hy ⊢; exact .inr hy))
        have m2 : ∀ y ∈ g2, ¬ inl (b :: g1) y := fun y hy h => by
          simp [inl] at h
          rcases h with h | h
          · subst h; exact Hbf.out (Hg2f.out _ hy)
          · exact Hndg.out y hy h
        refine (Ih.out x Hhxm.out ka kc g2 B (k' + 3 + x.names.length) w3 ?_ (Fr2.out.ext hr3 m2) (by omega) (by omega)).mono ?_
        · obtain ⟨t1, t2, t3⟩ := Hkd.out
          refine ⟨t1, t2, t3.imp id ?_⟩
          rintro ⟨bb, oo, ff, u1, u2, u3, u4⟩
          have kk := hr3.keeps Fr2.out m2
          exact ⟨bb, oo, ff, u1, u2, u3, u4.keep (fun y hy => kk y (by rw [u3]; simp [hy])) (fun o' _ _ => kk bb (by rw [u3]; simp) o')⟩
        rintro e w4 ⟨rfl, hg4, hfr4, hs4⟩
        have Hr3 := Lib.hid hr3
        have M2 := Lib.hid m2
        have Hg4 := Lib.hid hg4
        have Hfr4 := Lib.hid hfr4
        have Hs4 := Lib.hid hs4
        clear hr3 m2 hg4 hfr4 hs4 e4
        go_wp2_with fail
        go_roundw
        case rel =>
          have hb2 : ¬ inl g2 b := fun h => Hbf.out (Hg2f.out _ h)
          have hr4 : Ext (inl (b :: (g1 ++ g2))) wr w4 := (Hr3.out.mono (fun y hy => by simp [inl] at hy ⊢; rcases hy with h | h; exact .inl h; exact .inr (.inl h))).trans (Hg4.out.mono (fun y hy => by simp [inl] at hy ⊢; exact .inr (.inr hy)))
          have q4 : ∀ q, w4.cell? ⟨b, q, none⟩ = wb.cell? ⟨b, q, none⟩ := fun q => by
            have l1 : b < wb.heap.size := lt_of_cell Hb4.out
            rw [Hg4.out.cell (p := ⟨b, q, none⟩) (Nat.lt_of_lt_of_le l1 Hg3.out.size) hb2, Hg3.out.cell (p := ⟨b, q, none⟩) l1 Hb1.out]
          have qb : ∀ q, q ≠ o + j * 5 + 2 → wb.cell? ⟨b, q, none⟩ = w2.cell? ⟨b, q, none⟩ := fun q h => by rw [Hwb.out, set_ne _ _ _ _ _ _ (.inr h)]
          have z4 : ∀ q, w4.frozen? ⟨b, q, none⟩ = false := fun q => by
            have l1 : b < wb.heap.size := lt_of_cell Hb4.out
            rw [Hg4.out.frozen (p := ⟨b, q, none⟩) (Nat.lt_of_lt_of_le l1 Hg3.out.size) hb2, Hg3.out.frozen (p := ⟨b, q, none⟩) l1 Hb1.out, Hwb.out, World.frozen?_setCell]
            exact Dz.out q
          have hE : Ext (inl (b :: f)) w w4 := Hg.out.trans (hr4.mono (fun y hy => by
            simp [inl] at hy ⊢
            rcases hy with h | h | h
            · exact .inl h
            · exact .inr (Hg1f.out _ h)
            · exact .inr (Hg2f.out _ h)))
          have hFree : Free B w4 (b :: f) := by
            refine Hfr.out.sub hr4 (fun y hy q => ?_)
            rcases List.mem_cons.1 hy with rfl | hy
            · exact z4 q
            · rcases List.mem_append.1 hy with h | h
              · have := (Hfr3.out.2 y h).2
                rw [Hg4.out.frozen (p := ⟨y, q, none⟩) this.1 (fun h' => Hndg.out y h' h)]
                exact this.2 q
              · exact (Hfr4.out.2 y h).2.2 q
          refine ⟨j + 1, by omega, by go_num, ?_, hE, hFree, ?_⟩
          · rw [Htk.out, cntL_snoc, cntK_eq, Hk'.out]
            congr 1
            have := Hk'.out
            omega
          · rw [Htk.out, mkL_snoc, ← Hk'.out, Hf.out, Hf'.out, List.append_assoc]
            have keepF : ∀ y, y ∉ g1 → y ∉ g2 → y ∈ f → ∀ q, w4.cell? ⟨y, q, none⟩ = wr.cell? ⟨y, q, none⟩ := fun y y1 y2 yf q => by
              refine hr4.cell (p := ⟨y, q, none⟩) (Hfr.out.2 y (by simp [yf])).2.1 (fun h => ?_)
              simp [inl] at h
              rcases h with h | h | h
              · subst h; exact Hbf.out yf
              · exact y1 h
              · exact y2 h
            have hjl : (mkL k (l.take j)).length = j := by rw [mkL_len]; simp; omega
            refine KidsF.append (HK1.out.keep (fun y hy q => keepF y (Hnd1.out y hy).1 (Hnd1.out y hy).2 (Hf1f.out y hy) q) (fun q _ hq => ?_)) ?_
            · rw [hjl] at hq
              rw [q4, qb _ (by omega)]
              exact Hq2.out q (by omega) (by omega)
            · rw [hjl]
              show KidsF w4 b (o + j * 5) (mkK k' x :: l.drop (j + 1)) (fx ++ f2)
              unfold KidsF
              refine ⟨fx, f2, rfl, ⟨na, nc, ka, kc, ?_, ?_, ?_, ?_, ?_, ?_⟩, HK3.out.keep (fun y hy q => keepF y (Hnd2.out y hy).1 (Hnd2.out y hy).2 (Hf2f.out y hy) q) (fun q hq _ => ?_)⟩
              · rw [q4, qb _ (by omega), H2a.out, mkK_eq]
              · rw [q4, qb _ (by omega), H2b.out, mkK_eq]; rfl
              · rw [q4, Hwb.out, cell_set D2.out, if_pos rfl, mkK_eq]
              · rw [q4, qb _ (by omega), D3.out, mkK_eq, mkS_len]
              · rw [q4, Hb4.out, mkK_eq, mkL_len]
              · rw [Hfx.out, mkK_eq]
                refine NodeF.mk (mtxt_size _ (by omega)) (Hs3.out.keep (fun y hy q => ?_)) Hs4.out
                exact Hg4.out.cell (p := ⟨y, q, none⟩) (Hfr3.out.2 y hy).2.1 (fun h => Hndg.out y h hy)
              · rw [q4, qb _ (by omega)]
                exact Hq2.out q (by omega) (by omega)
        case measure => simp [intOf]; omega
      · have hje : j = l.length := by omega
        subst hje
        have hK := HK.out
        rw [List.take_length, List.drop_length, List.append_nil] at hK
        have HK2 := Lib.hid hK
        clear hK
        simp only [List.take_length]
        go_wp2_with fail
        go_ret
        refine ⟨by simp, Hg.out, Hfr.out, ⟨by rw [mkL_len]; exact Hle.out, by rw [mkL_len]; exact Hlen.out, .inr ⟨b, o, f, ?_, rfl, rfl, HK2.out⟩⟩⟩
        intro h
        have := congrArg List.length h
        rw [mkL_len] at this
        exact Hne.out (List.length_eq_zero_iff.1 this)

theorem markNodeS_all : ∀ n, MkOk n := by
  refine Nd.ind' MkOk ?_
  intro n ih a c fp B k w hF hfr h1 h2
  exact markNodeS_of n.kids ih a c fp B k w hF hfr h1 h2 (by have := cntL_len n.kids; omega)
theorem markNodeS_ok (l : List Nd) (a : Option Addr) (c : Nat) (fp : List Nat) (B k : Nat) (i : Int) (w : World) (hi : i = (k : Int)) (hF : NodesF w a c l fp) (hfr : Free B w fp) (h1 : 0 < k) (h2 : k + cntL l ≤ 1000000000) :
    Calls Try.prog 94 #[.slice a l.length c, .int .i64 i] w fun e w' => e = .returned (.int .i64 ((k + cntL l : Nat) : Int)) ∧ Ext (inl fp) w w' ∧ Free B w' fp ∧ NodesF w' a c (mkL k l) fp := by
  subst hi
  exact markNodeS_of l (fun x _ => markNodeS_all x) a c fp B k w hF hfr h1 h2 (by have := cntL_len l; omega)

end Go.Proofs.Ytchiakeceiefdaa

/-
  The walks of heldNodeS, markNode, heldNode.
-/
namespace Go.Proofs.Ytchiakeceiefdaa
open Go.RowKit

theorem mkL_get (k : Nat) (l : List Nd) (j : Nat) (h : j < l.length) (h' : j < (mkL k l).length) : (mkL k l)[j] = mkK (k + cntL (l.take j)) l[j] := by
  induction l generalizing k j with
  | nil => simp at h
  | cons x l ih =>
    cases j with
    | zero => simp [mkL, cntL]
    | succ j =>
      simp only [mkL, List.getElem_cons_succ, List.take_succ_cons, cntL]
      rw [ih _ _ (by simpa using h)]
      rw [Nat.add_assoc]

def HeldOk (n : Nd) : Prop := ∀ (a : Option Addr) (c k : Nat) (i : Int) (w : World), i = (k : Int) → NodesR w any a c (mkL k n.kids) → 0 < k → k + cntL n.kids ≤ 1000000000 →
    Calls Try.prog 103 #[.slice a n.kids.length c, .int .i64 i] w fun e w' => e = .returned (.int .i64 ((k + cntL n.kids : Nat) : Int)) ∧ Grow w w'

set_option maxRecDepth 100000 in
set_option maxHeartbeats 4000000 in
theorem heldNodeS_of (l : List Nd) (ih : ∀ x ∈ l, HeldOk x) (a : Option Addr) (c k : Nat) (i : Int) (w : World) (hi : i = (k : Int)) (ha : NodesR w any a c (mkL k l)) (h1 : 0 < k) (h2 : k + cntL l ≤ 1000000000) :
    Calls Try.prog 103 #[.slice a l.length c, .int .i64 i] w fun e w' => e = .returned (.int .i64 ((k + cntL l : Nat) : Int)) ∧ Grow w w' := by
  subst hi
  have hll := cntL_len l
  have Ha := Lib.hid ha
  have Ih := Lib.hid ih
  clear ha ih
  go_enter Try.func103, Try.ntmps103
  go_wp2_with fail
  go_loopw [1, 4, 5] (fun t1 t4 i wr => t4 = .int .i64 0 ∧ Grow w wr ∧ ∃ j : Nat, j ≤ l.length ∧ i = .int .i64 j ∧ t1 = .int .i64 ((k + cntL (l.take j) : Nat) : Int)) (fun _ _ i _ => l.length - (intOf i).toNat)
  case atStart => exact ⟨rfl, Ext.refl _ _, 0, Nat.zero_le _, rfl, rfl⟩
  case round =>
    obtain ⟨rfl, hg, j, hj, rfl, rfl⟩ := hrel
    have hct := cntL_take_le l j
    by_cases hlt : j < l.length
    · have hjl : j < (mkL k l).length := by rw [mkL_len]; exact hlt
      obtain ⟨_, _, ha4⟩ := (Ha.out).grow hg
      rcases ha4 with hh | ⟨b, o, rfl, _, hkr⟩
      · rw [hh] at hjl; simp at hjl
      obtain ⟨na, nc, ka, kc, c0, c1, c2, c3, c4, hkc⟩ := hkr.get j hjl
      rw [mkL_get k l j hlt hjl] at c0 c1 c2 c3 c4 hkc
      have hct2 := cntL_take_le l (j + 1)
      have htk : l.take (j + 1) = l.take j ++ [l[j]] := take_snoc' _ _ hlt
      rw [htk, cntL_snoc, cntK_eq] at hct2
      obtain ⟨k', hk'⟩ : ∃ k', k' = k + cntL (l.take j) := ⟨_, rfl⟩
      rw [← hk'] at c0 c1 c2 c3 c4 hkc ⊢
      obtain ⟨x, hx⟩ : ∃ x, x = l[j] := ⟨_, rfl⟩
      have hxm : x ∈ l := by rw [hx]; exact List.getElem_mem hlt
      rw [← hx] at c0 c1 c2 c3 c4 hkc hct2 htk
      have hb9 : k' + (3 + x.names.length + cntL x.kids) ≤ 1000000000 := by omega
      obtain ⟨_, hnm, hkd⟩ := hkc.parts
      rw [mkK_eq] at c0 c1 c2 c3 c4 hnm hkd
      simp only [mkS_len, mkL_len] at c0 c1 c2 c3 c4
      have Hnm := Lib.hid hnm
      have Hkd := Lib.hid hkd
      have Htk := Lib.hid htk
      have Hk' := Lib.hid hk'
      have Hxm := Lib.hid hxm
      have e0 : ((k' : Int) != (k' : Int)) = false := by simp
      have e1 : (((k' + 1 : Nat) : Int) != ((k' : Int) + 1)) = false := by simp
      clear hkr hkc hnm hkd htk hk' hx hxm hct hct2 Ha
      simp only [Int.natCast_add, Int.natCast_one] at c1
      go_wp2_with fail
      (refine wp_region_later (by kernel_rfl) (by kernel_rfl) ?_; (repeat (first | go_big_quiet_step ((go_at_call 70; exact later_call (v := .string (mtxt (k' + 2))) (markText_i (k' + 2) _ _ (by omega) (by omega) (by omega)))) | quiet_step ((go_at_call 70; exact later_call (v := .string (mtxt (k' + 2))) (markText_i (k' + 2) _ _ (by omega) (by omega) (by omega)))))); refine wpQuiet_nil ?_; rintro _ ⟨x_w2, rfl⟩; have hg_w2 := later_grow wr x_w2; generalize later wr x_w2 = w2 at hg_w2 ⊢)
      (replace c3 := hg_w2.some c3; replace c4 := hg_w2.some c4)
      go_wp2_with fail
      refine (heldStringS_i na nc x.names.length (k' + 3) _ _ (by omega) (Hnm.out.grow hg_w2) (by omega) (by omega)).mono ?_
      rintro e w3 ⟨rfl, hg_w3⟩
      (replace c4 := hg_w3.some c4)
      go_wp2_with fail
      refine (Ih.out x Hxm.out ka kc (k' + 3 + x.names.length) _ _ (by omega) (Hkd.out.grow (hg_w2.trans hg_w3)) (by omega) (by omega)).mono ?_
      rintro e w4 ⟨rfl, hg_w4⟩
      go_wp2_with fail
      go_roundw
      case rel =>
        refine ⟨rfl, ((hg.trans hg_w2).trans hg_w3).trans hg_w4, j + 1, by omega, by go_num, ?_⟩
        rw [Htk.out, cntL_snoc, cntK_eq]
        congr 1
        have := Hk'.out
        omega
      case measure => simp [intOf]; omega
    · go_wp2_with fail
      go_ret
      exact ⟨by rw [show j = l.length by omega]; simp, hg⟩

theorem heldNodeS_all : ∀ n, HeldOk n := by
  refine Nd.ind' HeldOk ?_
  intro n ih a c k i w hi ha h1 h2
  exact heldNodeS_of n.kids ih a c k i w hi ha h1 h2
theorem heldNodeS_ok (l : List Nd) (a : Option Addr) (c k : Nat) (i : Int) (w : World) (hi : i = (k : Int)) (ha : NodesR w any a c (mkL k l)) (h1 : 0 < k) (h2 : k + cntL l ≤ 1000000000) :
    Calls Try.prog 103 #[.slice a l.length c, .int .i64 i] w fun e w' => e = .returned (.int .i64 ((k + cntL l : Nat) : Int)) ∧ Grow w w' :=
  heldNodeS_of l (fun x _ => heldNodeS_all x) a c k i w hi ha h1 h2

/-- How many marks a node takes whose own fields are not marked. -/
def cntT (n : Nd) : Nat := n.names.length + cntL n.kids
def mkT (k : Nat) (n : Nd) : Nd := ⟨n.kind, n.num, n.text, mkS k n.names.length, mkL (k + n.names.length) n.kids⟩

end Go.Proofs.Ytchiakeceiefdaa

/-
  The walk of impl.isShape.
-/
namespace Go.Proofs.Ytchiakeceiefdaa
open Go.RowKit

def IsShpOk (x : Shp) : Prop := ∀ (d : Nat) (v : Value) (w : World), d ≤ 5 → ShapeR w any x v →
    Calls Try.prog 60 #[v, .int .i64 ((6 : Int) - d)] w fun e w' => e = .returned (.bool (shpB x d)) ∧ Grow w w'

set_option maxHeartbeats 2000000 in
theorem isShape_zero (x : Shp) (v : Value) (w : World) (hn : ShapeR w any x v) :
    Calls Try.prog 60 #[v, .int .i64 6] w fun e w' => e = .returned (.bool (shpB x 0)) ∧ Grow w w' := by
  obtain ⟨na, nc, ba, bc, ka, kc, rfl, hc⟩ := hn
  have Hf : Hid (shpB x 0 = false) := Lib.hid (by rw [shpB_eq]; simp)
  clear hc
  unfold shapeV
  go_enter Try.func60, Try.ntmps60
  go_wp2_with fail
  go_ret
  exact ⟨by simp [Hf.out], (by repeat (first | with_reducible exact Ext.refl _ _ | with_reducible refine Ext.trans ?_ (by assumption) | with_reducible refine Ext.drew ?_ | with_reducible refine Ext.drewN ?_ _ | with_reducible refine Ext.alloc ?_ _ | with_reducible refine Ext.setNew ?_ (by simp; done) _ | with_reducible refine Ext.setNew ?_ (by simp; omega) _))⟩

theorem inR_cases' (c : Int) : c < 0 ∨ 4 < c ∨ (0 ≤ c ∧ c ≤ 4 ∧ inR c 0 4 = true) := by
  by_cases h1 : c < 0
  · exact .inl h1
  · by_cases h2 : 4 < c
    · exact .inr (.inl h2)
    · exact .inr (.inr ⟨by omega, by omega, by simp [inR]; omega⟩)

set_option maxHeartbeats 4000000 in
theorem isShape_head (x : Shp) (d : Nat) (hd : d ≤ 5) (h0 : 1 ≤ d) (hf : shpHead x = false) (v : Value) (w : World) (hn : ShapeR w any x v) :
    Calls Try.prog 60 #[v, .int .i64 ((6 : Int) - d)] w fun e w' => e = .returned (.bool (shpB x d)) ∧ Grow w w' := by
  obtain ⟨na, nc, ba, bc, ka, kc, rfl, hc⟩ := hn
  obtain ⟨hns, hnb, hk1, hk2, hk3⟩ := hc.parts
  have hl1 : x.names.length ≤ 9223372036854775807 := hns.2.1
  have hl2 : x.needs.length ≤ 9223372036854775807 := hnb.2.1
  have hl3 : x.kids.length ≤ 9223372036854775807 := hk2
  have Hf : Hid (shpB x d = false) := Lib.hid (by rw [shpB_eq, hf]; simp)
  have Hns := Lib.hid hns
  clear hc hns hnb hk1 hk2 hk3
  unfold shapeV
  unfold shpHead at hf
  rcases inR_cases' x.kind with h1 | h1 | ⟨h1, h1', hi⟩
  · clear hf
    go_enter Try.func60, Try.ntmps60
    go_wp2_with fail
    go_ret
    exact ⟨by simp [Hf.out], (by repeat (first | with_reducible exact Ext.refl _ _ | with_reducible refine Ext.trans ?_ (by assumption) | with_reducible refine Ext.drew ?_ | with_reducible refine Ext.drewN ?_ _ | with_reducible refine Ext.alloc ?_ _ | with_reducible refine Ext.setNew ?_ (by simp; done) _ | with_reducible refine Ext.setNew ?_ (by simp; omega) _))⟩
  · clear hf
    go_enter Try.func60, Try.ntmps60
    go_wp2_with fail
    go_ret
    exact ⟨by simp [Hf.out], (by repeat (first | with_reducible exact Ext.refl _ _ | with_reducible refine Ext.trans ?_ (by assumption) | with_reducible refine Ext.drew ?_ | with_reducible refine Ext.drewN ?_ _ | with_reducible refine Ext.alloc ?_ _ | with_reducible refine Ext.setNew ?_ (by simp; done) _ | with_reducible refine Ext.setNew ?_ (by simp; omega) _))⟩
  cases h2 : areNamesB x.names
  · clear hf hi
    go_enter Try.func60, Try.ntmps60
    go_wp2_with (go_at_call 115; refine (areNames_ok na nc x.names _ any (Hns.out.grow (by repeat (first | with_reducible exact Ext.refl _ _ | with_reducible refine Ext.trans ?_ (by assumption) | with_reducible refine Ext.drew ?_ | with_reducible refine Ext.drewN ?_ _ | with_reducible refine Ext.alloc ?_ _ | with_reducible refine Ext.setNew ?_ (by simp; done) _ | with_reducible refine Ext.setNew ?_ (by simp; omega) _)))).mono ?_; rintro e w2 ⟨rfl, hg2⟩; simp only [h2]; have hcc2 := bcell hg2)
    go_ret
    exact ⟨by simp [Hf.out], (by repeat (first | with_reducible exact Ext.refl _ _ | with_reducible refine Ext.trans ?_ (by assumption) | with_reducible refine Ext.drew ?_ | with_reducible refine Ext.drewN ?_ _ | with_reducible refine Ext.alloc ?_ _ | with_reducible refine Ext.setNew ?_ (by simp; done) _ | with_reducible refine Ext.setNew ?_ (by simp; omega) _))⟩
  by_cases h3 : 0 < x.names.length ∧ ¬ x.kind = 4
  · obtain ⟨h3, h4⟩ := h3
    have hb4 : (x.kind != 4) = true := by simpa using h4
    clear hf hi h4
    go_enter Try.func60, Try.ntmps60
    go_wp2_with (go_at_call 115; refine (areNames_ok na nc x.names _ any (Hns.out.grow (by repeat (first | with_reducible exact Ext.refl _ _ | with_reducible refine Ext.trans ?_ (by assumption) | with_reducible refine Ext.drew ?_ | with_reducible refine Ext.drewN ?_ _ | with_reducible refine Ext.alloc ?_ _ | with_reducible refine Ext.setNew ?_ (by simp; done) _ | with_reducible refine Ext.setNew ?_ (by simp; omega) _)))).mono ?_; rintro e w2 ⟨rfl, hg2⟩; simp only [h2]; have hcc2 := bcell hg2)
    go_ret
    exact ⟨by simp [Hf.out], (by repeat (first | with_reducible exact Ext.refl _ _ | with_reducible refine Ext.trans ?_ (by assumption) | with_reducible refine Ext.drew ?_ | with_reducible refine Ext.drewN ?_ _ | with_reducible refine Ext.alloc ?_ _ | with_reducible refine Ext.setNew ?_ (by simp; done) _ | with_reducible refine Ext.setNew ?_ (by simp; omega) _))⟩
  have Hi := Lib.hid hi
  clear hi
  by_cases h5 : x.needs.length = x.names.length
  rotate_left
  · have hb5 : ((x.needs.length : Int) != (x.names.length : Int)) = true := by rw [ibne]; simp; omega
    clear hf h5
    by_cases hz : x.names.length = 0
    · have hz' : ¬ (0 < (x.names.length : Int)) := by omega
      clear h3 hz
      go_enter Try.func60, Try.ntmps60
      go_wp2_with (go_at_call 115; refine (areNames_ok na nc x.names _ any (Hns.out.grow (by repeat (first | with_reducible exact Ext.refl _ _ | with_reducible refine Ext.trans ?_ (by assumption) | with_reducible refine Ext.drew ?_ | with_reducible refine Ext.drewN ?_ _ | with_reducible refine Ext.alloc ?_ _ | with_reducible refine Ext.setNew ?_ (by simp; done) _ | with_reducible refine Ext.setNew ?_ (by simp; omega) _)))).mono ?_; rintro e w2 ⟨rfl, hg2⟩; simp only [h2]; have hcc2 := bcell hg2)
      go_ret
      exact ⟨by simp [Hf.out], (by repeat (first | with_reducible exact Ext.refl _ _ | with_reducible refine Ext.trans ?_ (by assumption) | with_reducible refine Ext.drew ?_ | with_reducible refine Ext.drewN ?_ _ | with_reducible refine Ext.alloc ?_ _ | with_reducible refine Ext.setNew ?_ (by simp; done) _ | with_reducible refine Ext.setNew ?_ (by simp; omega) _))⟩
    · have hz' : 0 < (x.names.length : Int) := by omega
      have hb4 : (x.kind != 4) = false := by simp; omega
      clear h3 hz
      go_enter Try.func60, Try.ntmps60
      go_wp2_with (go_at_call 115; refine (areNames_ok na nc x.names _ any (Hns.out.grow (by repeat (first | with_reducible exact Ext.refl _ _ | with_reducible refine Ext.trans ?_ (by assumption) | with_reducible refine Ext.drew ?_ | with_reducible refine Ext.drewN ?_ _ | with_reducible refine Ext.alloc ?_ _ | with_reducible refine Ext.setNew ?_ (by simp; done) _ | with_reducible refine Ext.setNew ?_ (by simp; omega) _)))).mono ?_; rintro e w2 ⟨rfl, hg2⟩; simp only [h2]; have hcc2 := bcell hg2)
      go_ret
      exact ⟨by simp [Hf.out], (by repeat (first | with_reducible exact Ext.refl _ _ | with_reducible refine Ext.trans ?_ (by assumption) | with_reducible refine Ext.drew ?_ | with_reducible refine Ext.drewN ?_ _ | with_reducible refine Ext.alloc ?_ _ | with_reducible refine Ext.setNew ?_ (by simp; done) _ | with_reducible refine Ext.setNew ?_ (by simp; omega) _))⟩
  have h6 : ¬ x.kids.length = x.names.length := by
    intro h6
    rw [Hi.out, h2] at hf
    by_cases hz : x.names.length = 0
    · simp [hz, h5, h6] at hf
    · have : x.kind = 4 := by omega
      simp [this, h5, h6] at hf
  have hb5 : ((x.needs.length : Int) != (x.names.length : Int)) = false := by simp [h5]
  have hb6 : ((x.kids.length : Int) != (x.names.length : Int)) = true := by rw [ibne]; simp; omega
  clear hf h5 h6
  by_cases hz : x.names.length = 0
  · have hz' : ¬ (0 < (x.names.length : Int)) := by omega
    clear h3 hz
    go_enter Try.func60, Try.ntmps60
    go_wp2_with (go_at_call 115; refine (areNames_ok na nc x.names _ any (Hns.out.grow (by repeat (first | with_reducible exact Ext.refl _ _ | with_reducible refine Ext.trans ?_ (by assumption) | with_reducible refine Ext.drew ?_ | with_reducible refine Ext.drewN ?_ _ | with_reducible refine Ext.alloc ?_ _ | with_reducible refine Ext.setNew ?_ (by simp; done) _ | with_reducible refine Ext.setNew ?_ (by simp; omega) _)))).mono ?_; rintro e w2 ⟨rfl, hg2⟩; simp only [h2]; have hcc2 := bcell hg2)
    go_ret
    exact ⟨by simp [Hf.out], (by repeat (first | with_reducible exact Ext.refl _ _ | with_reducible refine Ext.trans ?_ (by assumption) | with_reducible refine Ext.drew ?_ | with_reducible refine Ext.drewN ?_ _ | with_reducible refine Ext.alloc ?_ _ | with_reducible refine Ext.setNew ?_ (by simp; done) _ | with_reducible refine Ext.setNew ?_ (by simp; omega) _))⟩
  · have hz' : 0 < (x.names.length : Int) := by omega
    have hb4 : (x.kind != 4) = false := by simp; omega
    clear h3 hz
    go_enter Try.func60, Try.ntmps60
    go_wp2_with (go_at_call 115; refine (areNames_ok na nc x.names _ any (Hns.out.grow (by repeat (first | with_reducible exact Ext.refl _ _ | with_reducible refine Ext.trans ?_ (by assumption) | with_reducible refine Ext.drew ?_ | with_reducible refine Ext.drewN ?_ _ | with_reducible refine Ext.alloc ?_ _ | with_reducible refine Ext.setNew ?_ (by simp; done) _ | with_reducible refine Ext.setNew ?_ (by simp; omega) _)))).mono ?_; rintro e w2 ⟨rfl, hg2⟩; simp only [h2]; have hcc2 := bcell hg2)
    go_ret
    exact ⟨by simp [Hf.out], (by repeat (first | with_reducible exact Ext.refl _ _ | with_reducible refine Ext.trans ?_ (by assumption) | with_reducible refine Ext.drew ?_ | with_reducible refine Ext.drewN ?_ _ | with_reducible refine Ext.alloc ?_ _ | with_reducible refine Ext.setNew ?_ (by simp; done) _ | with_reducible refine Ext.setNew ?_ (by simp; omega) _))⟩


theorem shpHead_parts {x : Shp} (h : shpHead x = true) : 0 ≤ x.kind ∧ x.kind ≤ 4 ∧ areNamesB x.names = true ∧ x.needs.length = x.names.length ∧ x.kids.length = x.names.length ∧ (x.names.length = 0 ∨ x.kind = 4) := by
  unfold shpHead inR at h
  simp only [Bool.and_eq_true, decide_eq_true_eq, Bool.not_eq_true', Bool.and_eq_false_iff, decide_eq_false_iff_not] at h
  obtain ⟨⟨⟨⟨⟨h1, h1'⟩, h2⟩, h3⟩, h4⟩, h5⟩ := h
  refine ⟨h1, h1', h2, h4, h5, ?_⟩
  rcases h3 with h3 | h3
  · left; omega
  · right; omega

theorem shpL_get {l : List Shp} {d : Nat} {k : Nat} (hk : k < l.length) (h : shpB l[k] d = false) : shpL l d = false := by
  rw [shpL_all, List.all_eq_false]
  exact ⟨l[k], List.getElem_mem hk, by simp [h]⟩

set_option maxHeartbeats 4000000 in
theorem isShape_loop (x : Shp) (ih : ∀ k ∈ x.kids, IsShpOk k) (d : Nat) (hd : d + 1 ≤ 5) (hf : shpHead x = true) (v : Value) (w : World) (hn : ShapeR w any x v) :
    Calls Try.prog 60 #[v, .int .i64 ((6 : Int) - ((d + 1 : Nat) : Int))] w fun e w' => e = .returned (.bool (shpB x (d + 1))) ∧ Grow w w' := by
  obtain ⟨na, nc, ba, bc, ka, kc, rfl, hc⟩ := hn
  obtain ⟨hns, hnb, hk1, hk2, hk3⟩ := hc.parts
  have hl1 : x.names.length ≤ 9223372036854775807 := hns.2.1
  have hl2 : x.needs.length ≤ 9223372036854775807 := hnb.2.1
  have hl3 : x.kids.length ≤ 9223372036854775807 := hk2
  have Hf : Hid (shpB x (d + 1) = shpL x.kids d) := Lib.hid (by rw [shpB_eq, hf]; simp)
  have Hns := Lib.hid hns
  have Hk3 := Lib.hid hk3
  have Ih := Lib.hid ih
  obtain ⟨p1, p2, h2, p4, p5, p6⟩ := shpHead_parts hf
  have hb5 : ((x.needs.length : Int) != (x.names.length : Int)) = false := by simp [p4]
  have hb6 : ((x.kids.length : Int) != (x.names.length : Int)) = false := by simp [p5]
  obtain ⟨lev, hlev⟩ : ∃ lev : Int, lev = (6 : Int) - ((d + 1 : Nat) : Int) := ⟨_, rfl⟩
  rw [← hlev]
  have q1 : 1 ≤ lev := by omega
  have q2 : lev ≤ 5 := by omega
  have Hlev := Lib.hid hlev
  have H2 := Lib.hid h2
  clear hc hns hnb hk1 hk2 hk3 hf ih p4 p5 h2 hlev
  unfold shapeV
  rcases p6 with p6 | p6
  · have hz : ¬ (0 < (x.names.length : Int)) := by omega
    clear p6
    go_enter Try.func60, Try.ntmps60
    go_wp2_with (go_at_call 115; refine (areNames_ok na nc x.names _ any (Hns.out.grow (by repeat (first | with_reducible exact Ext.refl _ _ | with_reducible refine Ext.trans ?_ (by assumption) | with_reducible refine Ext.drew ?_ | with_reducible refine Ext.drewN ?_ _ | with_reducible refine Ext.alloc ?_ _ | with_reducible refine Ext.setNew ?_ (by simp; done) _ | with_reducible refine Ext.setNew ?_ (by simp; omega) _)))).mono ?_; rintro e w2 ⟨rfl, hg2⟩; simp only [H2.out]; have hcc2 := bcell hg2)
    (have hg0 : Grow w w2 := (by repeat (first | with_reducible exact Ext.refl _ _ | with_reducible refine Ext.trans ?_ (by assumption) | with_reducible refine Ext.drew ?_ | with_reducible refine Ext.drewN ?_ _ | with_reducible refine Ext.alloc ?_ _ | with_reducible refine Ext.setNew ?_ (by simp; done) _ | with_reducible refine Ext.setNew ?_ (by simp; omega) _))
     clear hg2 hcc2
     go_loopw [4, 53] (fun t4 i wr => t4 = .bool false ∧ Grow w wr ∧ ∃ k : Nat, k ≤ x.kids.length ∧ i = .int .i64 k ∧ shpL x.kids d = shpL (x.kids.drop k) d) (fun _ i _ => x.kids.length - (intOf i).toNat)
     case atStart => exact ⟨rfl, hg0, 0, Nat.zero_le _, rfl, rfl⟩
     case round =>
       obtain ⟨rfl, hgr, k, hk, rfl, hs⟩ := hrel
       have Hs := Lib.hid hs
       clear hs
       by_cases hlt : k < x.kids.length
       · rcases Hk3.out with hks | ⟨bk, ok, rfl, _, hkr⟩
         · simp [hks] at hlt
         obtain ⟨na', nc', ba', bc', ka', kc', c0, c1, c2, c3, hkc⟩ := (hkr.ext hgr (fun _ _ h => h) (fun h => h)).get k hlt
         have Hkc : Hid (ShapeR wr any x.kids[k] (shapeV x.kids[k] na' nc' ba' bc' ka' kc')) := Lib.hid ⟨_, _, _, _, _, _, rfl, hkc⟩
         clear hkr hkc
         cases hsk : shpB x.kids[k] d
         · have Hsk := Lib.hid hsk
           have Hff := Lib.hid (shpL_get hlt hsk)
           clear hsk
           have e1 : Hid (lev + 1 = (6 : Int) - (d : Int)) := Lib.hid (by have := Hlev.out; omega)
           go_wp2_with (go_at_call 60; rw [e1.out]; refine (Ih.out _ (List.getElem_mem hlt) d _ _ (by omega) (Hkc.out.grow (by repeat (first | with_reducible exact Ext.refl _ _ | with_reducible refine Ext.trans ?_ (by assumption) | with_reducible refine Ext.drew ?_ | with_reducible refine Ext.drewN ?_ _ | with_reducible refine Ext.alloc ?_ _ | with_reducible refine Ext.setNew ?_ (by simp; done) _ | with_reducible refine Ext.setNew ?_ (by simp; omega) _)))).mono ?_; rintro e w3 ⟨rfl, hg3⟩; simp only [Hsk.out])
           go_ret
           exact ⟨by simp [Hf.out, Hff.out], (by repeat (first | with_reducible exact Ext.refl _ _ | with_reducible refine Ext.trans ?_ (by assumption) | with_reducible refine Ext.drew ?_ | with_reducible refine Ext.drewN ?_ _ | with_reducible refine Ext.alloc ?_ _ | with_reducible refine Ext.setNew ?_ (by simp; done) _ | with_reducible refine Ext.setNew ?_ (by simp; omega) _))⟩
         · have Hsk := Lib.hid hsk
           clear hsk
           have e1 : Hid (lev + 1 = (6 : Int) - (d : Int)) := Lib.hid (by have := Hlev.out; omega)
           go_wp2_with (go_at_call 60; rw [e1.out]; refine (Ih.out _ (List.getElem_mem hlt) d _ _ (by omega) (Hkc.out.grow (by repeat (first | with_reducible exact Ext.refl _ _ | with_reducible refine Ext.trans ?_ (by assumption) | with_reducible refine Ext.drew ?_ | with_reducible refine Ext.drewN ?_ _ | with_reducible refine Ext.alloc ?_ _ | with_reducible refine Ext.setNew ?_ (by simp; done) _ | with_reducible refine Ext.setNew ?_ (by simp; omega) _)))).mono ?_; rintro e w3 ⟨rfl, hg3⟩; simp only [Hsk.out])
           go_roundw
           case rel => exact ⟨rfl, (by repeat (first | with_reducible exact Ext.refl _ _ | with_reducible refine Ext.trans ?_ (by assumption) | with_reducible refine Ext.drew ?_ | with_reducible refine Ext.drewN ?_ _ | with_reducible refine Ext.alloc ?_ _ | with_reducible refine Ext.setNew ?_ (by simp; done) _ | with_reducible refine Ext.setNew ?_ (by simp; omega) _)), k + 1, by omega, by go_num, by rw [Hs.out, drop_cons _ _ hlt, shpL, Hsk.out]; rfl⟩
           case measure => simp [intOf]; omega
       · go_wp2
         go_ret
         exact ⟨by simp [Hf.out, Hs.out, List.drop_eq_nil_of_le (Nat.le_of_not_lt hlt), shpL], hgr⟩)
  · have hb4 : (x.kind != 4) = false := by simp [p6]
    clear p6
    by_cases hz : 0 < (x.names.length : Int)
    · go_enter Try.func60, Try.ntmps60
      go_wp2_with (go_at_call 115; refine (areNames_ok na nc x.names _ any (Hns.out.grow (by repeat (first | with_reducible exact Ext.refl _ _ | with_reducible refine Ext.trans ?_ (by assumption) | with_reducible refine Ext.drew ?_ | with_reducible refine Ext.drewN ?_ _ | with_reducible refine Ext.alloc ?_ _ | with_reducible refine Ext.setNew ?_ (by simp; done) _ | with_reducible refine Ext.setNew ?_ (by simp; omega) _)))).mono ?_; rintro e w2 ⟨rfl, hg2⟩; simp only [H2.out]; have hcc2 := bcell hg2)
      (have hg0 : Grow w w2 := (by repeat (first | with_reducible exact Ext.refl _ _ | with_reducible refine Ext.trans ?_ (by assumption) | with_reducible refine Ext.drew ?_ | with_reducible refine Ext.drewN ?_ _ | with_reducible refine Ext.alloc ?_ _ | with_reducible refine Ext.setNew ?_ (by simp; done) _ | with_reducible refine Ext.setNew ?_ (by simp; omega) _))
       clear hg2 hcc2
       go_loopw [4, 53] (fun t4 i wr => t4 = .bool false ∧ Grow w wr ∧ ∃ k : Nat, k ≤ x.kids.length ∧ i = .int .i64 k ∧ shpL x.kids d = shpL (x.kids.drop k) d) (fun _ i _ => x.kids.length - (intOf i).toNat)
       case atStart => exact ⟨rfl, hg0, 0, Nat.zero_le _, rfl, rfl⟩
       case round =>
         obtain ⟨rfl, hgr, k, hk, rfl, hs⟩ := hrel
         have Hs := Lib.hid hs
         clear hs
         by_cases hlt : k < x.kids.length
         · rcases Hk3.out with hks | ⟨bk, ok, rfl, _, hkr⟩
           · simp [hks] at hlt
           obtain ⟨na', nc', ba', bc', ka', kc', c0, c1, c2, c3, hkc⟩ := (hkr.ext hgr (fun _ _ h => h) (fun h => h)).get k hlt
           have Hkc : Hid (ShapeR wr any x.kids[k] (shapeV x.kids[k] na' nc' ba' bc' ka' kc')) := Lib.hid ⟨_, _, _, _, _, _, rfl, hkc⟩
           clear hkr hkc
           cases hsk : shpB x.kids[k] d
           · have Hsk := Lib.hid hsk
             have Hff := Lib.hid (shpL_get hlt hsk)
             clear hsk
             have e1 : Hid (lev + 1 = (6 : Int) - (d : Int)) := Lib.hid (by have := Hlev.out; omega)
             go_wp2_with (go_at_call 60; rw [e1.out]; refine (Ih.out _ (List.getElem_mem hlt) d _ _ (by omega) (Hkc.out.grow (by repeat (first | with_reducible exact Ext.refl _ _ | with_reducible refine Ext.trans ?_ (by assumption) | with_reducible refine Ext.drew ?_ | with_reducible refine Ext.drewN ?_ _ | with_reducible refine Ext.alloc ?_ _ | with_reducible refine Ext.setNew ?_ (by simp; done) _ | with_reducible refine Ext.setNew ?_ (by simp; omega) _)))).mono ?_; rintro e w3 ⟨rfl, hg3⟩; simp only [Hsk.out])
             go_ret
             exact ⟨by simp [Hf.out, Hff.out], (by repeat (first | with_reducible exact Ext.refl _ _ | with_reducible refine Ext.trans ?_ (by assumption) | with_reducible refine Ext.drew ?_ | with_reducible refine Ext.drewN ?_ _ | with_reducible refine Ext.alloc ?_ _ | with_reducible refine Ext.setNew ?_ (by simp; done) _ | with_reducible refine Ext.setNew ?_ (by simp; omega) _))⟩
           · have Hsk := Lib.hid hsk
             clear hsk
             have e1 : Hid (lev + 1 = (6 : Int) - (d : Int)) := Lib.hid (by have := Hlev.out; omega)
             go_wp2_with (go_at_call 60; rw [e1.out]; refine (Ih.out _ (List.getElem_mem hlt) d _ _ (by omega) (Hkc.out.grow (by repeat (first | with_reducible exact Ext.refl _ _ | with_reducible refine Ext.trans ?_ (by assumption) | with_reducible refine Ext.drew ?_ | with_reducible refine Ext.drewN ?_ _ | with_reducible refine Ext.alloc ?_ _ | with_reducible refine Ext.setNew ?_ (by simp; done) _ | with_reducible refine Ext.setNew ?_ (by simp; omega) _)))).mono ?_; rintro e w3 ⟨rfl, hg3⟩; simp only [Hsk.out])
             go_roundw
             case rel => exact ⟨rfl, (by repeat (first | with_reducible exact Ext.refl _ _ | with_reducible refine Ext.trans ?_ (by assumption) | with_reducible refine Ext.drew ?_ | with_reducible refine Ext.drewN ?_ _ | with_reducible refine Ext.alloc ?_ _ | with_reducible refine Ext.setNew ?_ (by simp; done) _ | with_reducible refine Ext.setNew ?_ (by simp; omega) _)), k + 1, by omega, by go_num, by rw [Hs.out, drop_cons _ _ hlt, shpL, Hsk.out]; rfl⟩
             case measure => simp [intOf]; omega
         · go_wp2
           go_ret
           exact ⟨by simp [Hf.out, Hs.out, List.drop_eq_nil_of_le (Nat.le_of_not_lt hlt), shpL], hgr⟩)
    · go_enter Try.func60, Try.ntmps60
      go_wp2_with (go_at_call 115; refine (areNames_ok na nc x.names _ any (Hns.out.grow (by repeat (first | with_reducible exact Ext.refl _ _ | with_reducible refine Ext.trans ?_ (by assumption) | with_reducible refine Ext.drew ?_ | with_reducible refine Ext.drewN ?_ _ | with_reducible refine Ext.alloc ?_ _ | with_reducible refine Ext.setNew ?_ (by simp; done) _ | with_reducible refine Ext.setNew ?_ (by simp; omega) _)))).mono ?_; rintro e w2 ⟨rfl, hg2⟩; simp only [H2.out]; have hcc2 := bcell hg2)
      (have hg0 : Grow w w2 := (by repeat (first | with_reducible exact Ext.refl _ _ | with_reducible refine Ext.trans ?_ (by assumption) | with_reducible refine Ext.drew ?_ | with_reducible refine Ext.drewN ?_ _ | with_reducible refine Ext.alloc ?_ _ | with_reducible refine Ext.setNew ?_ (by simp; done) _ | with_reducible refine Ext.setNew ?_ (by simp; omega) _))
       clear hg2 hcc2
       go_loopw [4, 53] (fun t4 i wr => t4 = .bool false ∧ Grow w wr ∧ ∃ k : Nat, k ≤ x.kids.length ∧ i = .int .i64 k ∧ shpL x.kids d = shpL (x.kids.drop k) d) (fun _ i _ => x.kids.length - (intOf i).toNat)
       case atStart => exact ⟨rfl, hg0, 0, Nat.zero_le _, rfl, rfl⟩
       case round =>
         obtain ⟨rfl, hgr, k, hk, rfl, hs⟩ := hrel
         have Hs := Lib.hid hs
         clear hs
         by_cases hlt : k < x.kids.length
         · rcases Hk3.out with hks | ⟨bk, ok, rfl, _, hkr⟩
           · simp [hks] at hlt
           obtain ⟨na', nc', ba', bc', ka', kc', c0, c1, c2, c3, hkc⟩ := (hkr.ext hgr (fun _ _ h => h) (fun h => h)).get k hlt
           have Hkc : Hid (ShapeR wr any x.kids[k] (shapeV x.kids[k] na' nc' ba' bc' ka' kc')) := Lib.hid ⟨_, _, _, _, _, _, rfl, hkc⟩
           clear hkr hkc
           cases hsk : shpB x.kids[k] d
           · have Hsk := Lib.hid hsk
             have Hff := Lib.hid (shpL_get hlt hsk)
             clear hsk
             have e1 : Hid (lev + 1 = (6 : Int) - (d : Int)) := Lib.hid (by have := Hlev.out; omega)
             go_wp2_with (go_at_call 60; rw [e1.out]; refine (Ih.out _ (List.getElem_mem hlt) d _ _ (by omega) (Hkc.out.grow (by repeat (first | with_reducible exact Ext.refl _ _ | with_reducible refine Ext.trans ?_ (by assumption) | with_reducible refine Ext.drew ?_ | with_reducible refine Ext.drewN ?_ _ | with_reducible refine Ext.alloc ?_ _ | with_reducible refine Ext.setNew ?_ (by simp; done) _ | with_reducible refine Ext.setNew ?_ (by simp; omega) _)))).mono ?_; rintro e w3 ⟨rfl, hg3⟩; simp only [Hsk.out])
             go_ret
             exact ⟨by simp [Hf.out, Hff.out], (by repeat (first | with_reducible exact Ext.refl _ _ | with_reducible refine Ext.trans ?_ (by assumption) | with_reducible refine Ext.drew ?_ | with_reducible refine Ext.drewN ?_ _ | with_reducible refine Ext.alloc ?_ _ | with_reducible refine Ext.setNew ?_ (by simp; done) _ | with_reducible refine Ext.setNew ?_ (by simp; omega) _))⟩
           · have Hsk := Lib.hid hsk
             clear hsk
             have e1 : Hid (lev + 1 = (6 : Int) - (d : Int)) := Lib.hid (by have := Hlev.out; omega)
             go_wp2_with (go_at_call 60; rw [e1.out]; refine (Ih.out _ (List.getElem_mem hlt) d _ _ (by omega) (Hkc.out.grow (by repeat (first | with_reducible exact Ext.refl _ _ | with_reducible refine Ext.trans ?_ (by assumption) | with_reducible refine Ext.drew ?_ | with_reducible refine Ext.drewN ?_ _ | with_reducible refine Ext.alloc ?_ _ | with_reducible refine Ext.setNew ?_ (by simp; done) _ | with_reducible refine Ext.setNew ?_ (by simp; omega) _)))).mono ?_; rintro e w3 ⟨rfl, hg3⟩; simp only [Hsk.out])
             go_roundw
             case rel => exact ⟨rfl, (by repeat (first | with_reducible exact Ext.refl _ _ | with_reducible refine Ext.trans ?_ (by assumption) | with_reducible refine Ext.drew ?_ | with_reducible refine Ext.drewN ?_ _ | with_reducible refine Ext.alloc ?_ _ | with_reducible refine Ext.setNew ?_ (by simp; done) _ | with_reducible refine Ext.setNew ?_ (by simp; omega) _)), k + 1, by omega, by go_num, by rw [Hs.out, drop_cons _ _ hlt, shpL, Hsk.out]; rfl⟩
             case measure => simp [intOf]; omega
         · go_wp2
           go_ret
           exact ⟨by simp [Hf.out, Hs.out, List.drop_eq_nil_of_le (Nat.le_of_not_lt hlt), shpL], hgr⟩)

theorem isShape_ok : ∀ x, IsShpOk x := by
  refine Shp.ind' IsShpOk ?_
  intro x ih d v w hd hn
  by_cases h0 : d = 0
  · subst h0
    exact isShape_zero x v w hn
  · cases hf : shpHead x
    · exact isShape_head x d hd (by omega) hf v w hn
    · obtain ⟨d, rfl⟩ : ∃ d', d = d' + 1 := ⟨d - 1, by omega⟩
      exact isShape_loop x ih d hd hf v w hn

end Go.Proofs.Ytchiakeceiefdaa

/-
  The walks of the reference's shape, count and validNode.
-/
namespace Go.Proofs.Ytchiakeceiefdaa
open Go.RowKit

theorem shape_other {n : Nd} {d : Nat} (h : n.kind < 0 ∨ 4 < n.kind) : shapeB n (d + 1) = false := by
  have h0 : ¬ n.kind = 0 := by omega
  have h1 : ¬ n.kind = 1 := by omega
  have h2 : ¬ n.kind = 2 := by omega
  have h3 : ¬ n.kind = 3 := by omega
  have h4 : ¬ n.kind = 4 := by omega
  simp [shapeB_eq, partsB, h0, h1, h2, h3, h4]
theorem shape_0 {n : Nd} {d : Nat} (h : n.kind = 0) : shapeB n (d + 1) = (decide (n.num = 0) && n.text.toList.isEmpty && decide (n.names.length = 0) && decide (n.kids.length = 0)) := by
  by_cases hk : n.kids.length = 0 <;> simp [shapeB_eq, partsB, h, hk, shapeL_zero, -List.length_eq_zero_iff]
theorem shape_1 {n : Nd} {d : Nat} (h : n.kind = 1) : shapeB n (d + 1) = (n.text.toList.isEmpty && decide (n.names.length = 0) && (decide (-999999 ≤ n.num) && decide (n.num ≤ 999999)) && decide (n.kids.length = 0)) := by
  by_cases hk : n.kids.length = 0 <;> simp [shapeB_eq, partsB, h, hk, shapeL_zero, -List.length_eq_zero_iff]
theorem shape_2 {n : Nd} {d : Nat} (h : n.kind = 2) : shapeB n (d + 1) = (decide (n.num = 0) && decide (n.names.length = 0) && plainT n.text && decide (n.kids.length = 0)) := by
  by_cases hk : n.kids.length = 0 <;> simp [shapeB_eq, partsB, h, hk, shapeL_zero, -List.length_eq_zero_iff]
theorem shape_3 {n : Nd} {d : Nat} (h : n.kind = 3) : shapeB n (d + 1) = (decide (n.num = 0) && n.text.toList.isEmpty && decide (n.names.length = 0) && decide (n.kids.length ≤ 6) && shapeL n.kids d) := by
  simp [shapeB_eq, partsB, h, -List.length_eq_zero_iff]
theorem shape_4 {n : Nd} {d : Nat} (h : n.kind = 4) : shapeB n (d + 1) = (decide (n.num = 0) && n.text.toList.isEmpty && areNamesB n.names && decide (n.kids.length = n.names.length) && shapeL n.kids d) := by
  simp [shapeB_eq, partsB, h, Bool.and_assoc, -List.length_eq_zero_iff]

theorem shape_long {n : Nd} {d : Nat} (h : 6 < n.kids.length) : shapeB n d = false := by
  cases hp : partsB n
  · simp [shapeB_eq, hp]
  · have := partsB_kids hp; omega
theorem shape_num {n : Nd} {d : Nat} (h1 : n.kind ≠ 1) (h2 : n.num ≠ 0) : shapeB n d = false := by simp [shapeB_eq, partsB, h1, h2]
theorem shape_text {n : Nd} {d : Nat} (h1 : n.kind ≠ 2) (h2 : (!n.text.toList.isEmpty) = true) : shapeB n d = false := by
  have : n.text.toList.isEmpty = false := by simpa using h2
  simp [shapeB_eq, partsB, h1, this]
theorem shape_names {n : Nd} {d : Nat} (h1 : n.kind ≠ 4) (h2 : 0 < n.names.length) : shapeB n d = false := by
  have : ¬ n.names.length = 0 := by omega
  simp [shapeB_eq, partsB, h1, this, -List.length_eq_zero_iff]

set_option maxRecDepth 100000 in
set_option maxHeartbeats 4000000 in
theorem shape_ok : ∀ n, ShapeOk n := by
  refine Nd.ind' ShapeOk ?_
  intro n ih d dep v w hd hdep hn
  have Hn := Lib.hid hn
  obtain ⟨na, nc, ka, kc, rfl, hc⟩ := hn
  obtain ⟨htx, hns, hks⟩ := hc.parts
  have hnl : n.names.length ≤ 9223372036854775807 := hns.2.1
  have hkl : n.kids.length ≤ 9223372036854775807 := hks.2.1
  have Hns := Lib.hid hns
  have Htx := Lib.hid htx
  have Ih := Lib.hid ih
  clear hns hks hc htx ih
  unfold nodeV at *
  by_cases hd0 : d = 0
  · subst hd0
    obtain rfl : dep = 0 := by omega
    clear hdep
    have Hf : Hid (shapeB n 0 = false) := Lib.hid (by rw [shapeB_eq]; simp)
    go_enter Try.func112, Try.ntmps112
    go_wp2_with fail
    go_ret
    exact ⟨by simp [Hf.out], (by repeat (first | with_reducible exact Ext.refl _ _ | with_reducible refine Ext.trans ?_ (by assumption) | with_reducible refine Ext.drew ?_ | with_reducible refine Ext.drewN ?_ _ | with_reducible refine Ext.alloc ?_ _ | with_reducible refine Ext.setNew ?_ (by simp; done) _ | with_reducible refine Ext.setNew ?_ (by simp; omega) _))⟩
  · obtain ⟨d, rfl⟩ : ∃ d', d = d' + 1 := ⟨d - 1, by omega⟩
    have hd1 : 1 ≤ dep := by omega
    have hd2 : dep ≤ 5 := by omega
    have hdne : (dep == 0) = false := by rw [ibeq]; simp; omega
    have Hdep := Lib.hid hdep
    have Hd := Lib.hid hd
    clear hd hdep hd0
    obtain ⟨kind, num, text, names, kids⟩ := n
    dsimp only at *
    by_cases h1 : 6 < kids.length
    · have hz : shapeB ⟨kind, num, text, names, kids⟩ (d + 1) = false := shape_long (by exact h1)
      have Hf := Lib.hid hz
      clear hz
      go_enter Try.func112, Try.ntmps112
      go_wp2_with (first | (go_at_call 64; refine (inRange_ok _ _ _ _).mono ?_; rintro e w' ⟨rfl, rfl⟩) | (go_at_call 141; refine (validText_ok _ _ Htx.out).mono ?_; rintro e w' ⟨rfl, rfl⟩) | (go_at_call 111; refine (names_ok _ _ _ _ (Hns.out.ext ((Ext.refl nil w).alloc _) (fun _ _ h => h))).mono ?_; rintro e w' ⟨rfl, hg⟩; have hcc := bcell hg) | (go_at_call 142; refine (kids_of _ Ih.out d _ _ _ (by have := Hd.out; omega) (by have := Hdep.out; omega) (Hn.out.ext (by repeat (first | exact Ext.refl _ _ | refine Ext.trans ?_ (by assumption) | refine Ext.alloc ?_ _)) (fun _ _ h => h))).mono ?_; rintro e w'' ⟨rfl, hg2⟩))
      all_goals (go_ret; refine ⟨?_, (by repeat (first | with_reducible exact Ext.refl _ _ | with_reducible refine Ext.trans ?_ (by assumption) | with_reducible refine Ext.drew ?_ | with_reducible refine Ext.drewN ?_ _ | with_reducible refine Ext.alloc ?_ _ | with_reducible refine Ext.setNew ?_ (by simp; done) _ | with_reducible refine Ext.setNew ?_ (by simp; omega) _))⟩; rw [Hf.out])
      all_goals clear Hn Hns Htx Ih Hdep Hd Hf
      all_goals (simp_all [-List.length_eq_zero_iff])
      all_goals first | omega | rfl | (intro _; exact ⟨by simp only [areNamesB, ‹namesB names = true›]; simp; omega, by omega⟩) | (intro h; exfalso; simp [areNamesB, ‹namesB names = false›] at h)
    have h1 : kids.length ≤ 6 := by omega
    by_cases k1 : kind = 1
    · subst k1
      have he := shape_1 (n := ⟨1, num, text, names, kids⟩) (d := d) rfl
      cases ht : (!text.toList.isEmpty)
      · by_cases h2 : 0 < names.length
        · have := h2
          have Hf := Lib.hid he
          clear he
          go_enter Try.func112, Try.ntmps112
          go_wp2_with (first | (go_at_call 64; refine (inRange_ok _ _ _ _).mono ?_; rintro e w' ⟨rfl, rfl⟩) | (go_at_call 141; refine (validText_ok _ _ Htx.out).mono ?_; rintro e w' ⟨rfl, rfl⟩) | (go_at_call 111; refine (names_ok _ _ _ _ (Hns.out.ext ((Ext.refl nil w).alloc _) (fun _ _ h => h))).mono ?_; rintro e w' ⟨rfl, hg⟩; have hcc := bcell hg) | (go_at_call 142; refine (kids_of _ Ih.out d _ _ _ (by have := Hd.out; omega) (by have := Hdep.out; omega) (Hn.out.ext (by repeat (first | exact Ext.refl _ _ | refine Ext.trans ?_ (by assumption) | refine Ext.alloc ?_ _)) (fun _ _ h => h))).mono ?_; rintro e w'' ⟨rfl, hg2⟩))
          all_goals (go_ret; refine ⟨?_, (by repeat (first | with_reducible exact Ext.refl _ _ | with_reducible refine Ext.trans ?_ (by assumption) | with_reducible refine Ext.drew ?_ | with_reducible refine Ext.drewN ?_ _ | with_reducible refine Ext.alloc ?_ _ | with_reducible refine Ext.setNew ?_ (by simp; done) _ | with_reducible refine Ext.setNew ?_ (by simp; omega) _))⟩; rw [Hf.out])
          all_goals clear Hn Hns Htx Ih Hdep Hd Hf
          all_goals (simp_all [-List.length_eq_zero_iff])
          all_goals first | omega | rfl | (intro _; exact ⟨by simp only [areNamesB, ‹namesB names = true›]; simp; omega, by omega⟩) | (intro h; exfalso; simp [areNamesB, ‹namesB names = false›] at h)
        · have h2 : names.length ≤ 0 := by omega
          by_cases h3 : 0 < kids.length
          · have := h3
            have Hf := Lib.hid he
            clear he
            go_enter Try.func112, Try.ntmps112
            go_wp2_with (first | (go_at_call 64; refine (inRange_ok _ _ _ _).mono ?_; rintro e w' ⟨rfl, rfl⟩) | (go_at_call 141; refine (validText_ok _ _ Htx.out).mono ?_; rintro e w' ⟨rfl, rfl⟩) | (go_at_call 111; refine (names_ok _ _ _ _ (Hns.out.ext ((Ext.refl nil w).alloc _) (fun _ _ h => h))).mono ?_; rintro e w' ⟨rfl, hg⟩; have hcc := bcell hg) | (go_at_call 142; refine (kids_of _ Ih.out d _ _ _ (by have := Hd.out; omega) (by have := Hdep.out; omega) (Hn.out.ext (by repeat (first | exact Ext.refl _ _ | refine Ext.trans ?_ (by assumption) | refine Ext.alloc ?_ _)) (fun _ _ h => h))).mono ?_; rintro e w'' ⟨rfl, hg2⟩))
            all_goals (go_ret; refine ⟨?_, (by repeat (first | with_reducible exact Ext.refl _ _ | with_reducible refine Ext.trans ?_ (by assumption) | with_reducible refine Ext.drew ?_ | with_reducible refine Ext.drewN ?_ _ | with_reducible refine Ext.alloc ?_ _ | with_reducible refine Ext.setNew ?_ (by simp; done) _ | with_reducible refine Ext.setNew ?_ (by simp; omega) _))⟩; rw [Hf.out])
            all_goals clear Hn Hns Htx Ih Hdep Hd Hf
            all_goals (simp_all [-List.length_eq_zero_iff])
            all_goals first | omega | rfl | (intro _; exact ⟨by simp only [areNamesB, ‹namesB names = true›]; simp; omega, by omega⟩) | (intro h; exfalso; simp [areNamesB, ‹namesB names = false›] at h)
          · have h3 : kids.length ≤ 0 := by omega
            have Hf := Lib.hid he
            clear he
            go_enter Try.func112, Try.ntmps112
            go_wp2_with (first | (go_at_call 64; refine (inRange_ok _ _ _ _).mono ?_; rintro e w' ⟨rfl, rfl⟩) | (go_at_call 141; refine (validText_ok _ _ Htx.out).mono ?_; rintro e w' ⟨rfl, rfl⟩) | (go_at_call 111; refine (names_ok _ _ _ _ (Hns.out.ext ((Ext.refl nil w).alloc _) (fun _ _ h => h))).mono ?_; rintro e w' ⟨rfl, hg⟩; have hcc := bcell hg) | (go_at_call 142; refine (kids_of _ Ih.out d _ _ _ (by have := Hd.out; omega) (by have := Hdep.out; omega) (Hn.out.ext (by repeat (first | exact Ext.refl _ _ | refine Ext.trans ?_ (by assumption) | refine Ext.alloc ?_ _)) (fun _ _ h => h))).mono ?_; rintro e w'' ⟨rfl, hg2⟩))
            all_goals (go_ret; refine ⟨?_, (by repeat (first | with_reducible exact Ext.refl _ _ | with_reducible refine Ext.trans ?_ (by assumption) | with_reducible refine Ext.drew ?_ | with_reducible refine Ext.drewN ?_ _ | with_reducible refine Ext.alloc ?_ _ | with_reducible refine Ext.setNew ?_ (by simp; done) _ | with_reducible refine Ext.setNew ?_ (by simp; omega) _))⟩; rw [Hf.out])
            all_goals clear Hn Hns Htx Ih Hdep Hd Hf
            all_goals (simp_all [-List.length_eq_zero_iff])
            all_goals first | omega | rfl | (intro _; exact ⟨by simp only [areNamesB, ‹namesB names = true›]; simp; omega, by omega⟩) | (intro h; exfalso; simp [areNamesB, ‹namesB names = false›] at h)
      · have := ht
        have Hf := Lib.hid he
        clear he
        go_enter Try.func112, Try.ntmps112
        go_wp2_with (first | (go_at_call 64; refine (inRange_ok _ _ _ _).mono ?_; rintro e w' ⟨rfl, rfl⟩) | (go_at_call 141; refine (validText_ok _ _ Htx.out).mono ?_; rintro e w' ⟨rfl, rfl⟩) | (go_at_call 111; refine (names_ok _ _ _ _ (Hns.out.ext ((Ext.refl nil w).alloc _) (fun _ _ h => h))).mono ?_; rintro e w' ⟨rfl, hg⟩; have hcc := bcell hg) | (go_at_call 142; refine (kids_of _ Ih.out d _ _ _ (by have := Hd.out; omega) (by have := Hdep.out; omega) (Hn.out.ext (by repeat (first | exact Ext.refl _ _ | refine Ext.trans ?_ (by assumption) | refine Ext.alloc ?_ _)) (fun _ _ h => h))).mono ?_; rintro e w'' ⟨rfl, hg2⟩))
        all_goals (go_ret; refine ⟨?_, (by repeat (first | with_reducible exact Ext.refl _ _ | with_reducible refine Ext.trans ?_ (by assumption) | with_reducible refine Ext.drew ?_ | with_reducible refine Ext.drewN ?_ _ | with_reducible refine Ext.alloc ?_ _ | with_reducible refine Ext.setNew ?_ (by simp; done) _ | with_reducible refine Ext.setNew ?_ (by simp; omega) _))⟩; rw [Hf.out])
        all_goals clear Hn Hns Htx Ih Hdep Hd Hf
        all_goals (simp_all [-List.length_eq_zero_iff])
        all_goals first | omega | rfl | (intro _; exact ⟨by simp only [areNamesB, ‹namesB names = true›]; simp; omega, by omega⟩) | (intro h; exfalso; simp [areNamesB, ‹namesB names = false›] at h)
    have k1 : (kind != 1) = true := by simpa using k1
    by_cases hnum : num = 0
    rotate_left
    · have hnum : (num != 0) = true := by simpa using hnum
      have hz : shapeB ⟨kind, num, text, names, kids⟩ (d + 1) = false := shape_num (by simpa using k1) (by simpa using hnum)
      have Hf := Lib.hid hz
      clear hz
      go_enter Try.func112, Try.ntmps112
      go_wp2_with (first | (go_at_call 64; refine (inRange_ok _ _ _ _).mono ?_; rintro e w' ⟨rfl, rfl⟩) | (go_at_call 141; refine (validText_ok _ _ Htx.out).mono ?_; rintro e w' ⟨rfl, rfl⟩) | (go_at_call 111; refine (names_ok _ _ _ _ (Hns.out.ext ((Ext.refl nil w).alloc _) (fun _ _ h => h))).mono ?_; rintro e w' ⟨rfl, hg⟩; have hcc := bcell hg) | (go_at_call 142; refine (kids_of _ Ih.out d _ _ _ (by have := Hd.out; omega) (by have := Hdep.out; omega) (Hn.out.ext (by repeat (first | exact Ext.refl _ _ | refine Ext.trans ?_ (by assumption) | refine Ext.alloc ?_ _)) (fun _ _ h => h))).mono ?_; rintro e w'' ⟨rfl, hg2⟩))
      all_goals (go_ret; refine ⟨?_, (by repeat (first | with_reducible exact Ext.refl _ _ | with_reducible refine Ext.trans ?_ (by assumption) | with_reducible refine Ext.drew ?_ | with_reducible refine Ext.drewN ?_ _ | with_reducible refine Ext.alloc ?_ _ | with_reducible refine Ext.setNew ?_ (by simp; done) _ | with_reducible refine Ext.setNew ?_ (by simp; omega) _))⟩; rw [Hf.out])
      all_goals clear Hn Hns Htx Ih Hdep Hd Hf
      all_goals (simp_all [-List.length_eq_zero_iff])
      all_goals first | omega | rfl | (intro _; exact ⟨by simp only [areNamesB, ‹namesB names = true›]; simp; omega, by omega⟩) | (intro h; exfalso; simp [areNamesB, ‹namesB names = false›] at h)
    subst hnum
    by_cases k2 : kind = 2
    · subst k2
      have he := shape_2 (n := ⟨2, 0, text, names, kids⟩) (d := d) rfl
      by_cases h2 : 0 < names.length
      · have := h2
        have Hf := Lib.hid he
        clear he
        go_enter Try.func112, Try.ntmps112
        go_wp2_with (first | (go_at_call 64; refine (inRange_ok _ _ _ _).mono ?_; rintro e w' ⟨rfl, rfl⟩) | (go_at_call 141; refine (validText_ok _ _ Htx.out).mono ?_; rintro e w' ⟨rfl, rfl⟩) | (go_at_call 111; refine (names_ok _ _ _ _ (Hns.out.ext ((Ext.refl nil w).alloc _) (fun _ _ h => h))).mono ?_; rintro e w' ⟨rfl, hg⟩; have hcc := bcell hg) | (go_at_call 142; refine (kids_of _ Ih.out d _ _ _ (by have := Hd.out; omega) (by have := Hdep.out; omega) (Hn.out.ext (by repeat (first | exact Ext.refl _ _ | refine Ext.trans ?_ (by assumption) | refine Ext.alloc ?_ _)) (fun _ _ h => h))).mono ?_; rintro e w'' ⟨rfl, hg2⟩))
        all_goals (go_ret; refine ⟨?_, (by repeat (first | with_reducible exact Ext.refl _ _ | with_reducible refine Ext.trans ?_ (by assumption) | with_reducible refine Ext.drew ?_ | with_reducible refine Ext.drewN ?_ _ | with_reducible refine Ext.alloc ?_ _ | with_reducible refine Ext.setNew ?_ (by simp; done) _ | with_reducible refine Ext.setNew ?_ (by simp; omega) _))⟩; rw [Hf.out])
        all_goals clear Hn Hns Htx Ih Hdep Hd Hf
        all_goals (simp_all [-List.length_eq_zero_iff])
        all_goals first | omega | rfl | (intro _; exact ⟨by simp only [areNamesB, ‹namesB names = true›]; simp; omega, by omega⟩) | (intro h; exfalso; simp [areNamesB, ‹namesB names = false›] at h)
      · have h2 : names.length ≤ 0 := by omega
        by_cases h3 : 0 < kids.length
        · have := h3
          have Hf := Lib.hid he
          clear he
          go_enter Try.func112, Try.ntmps112
          go_wp2_with (first | (go_at_call 64; refine (inRange_ok _ _ _ _).mono ?_; rintro e w' ⟨rfl, rfl⟩) | (go_at_call 141; refine (validText_ok _ _ Htx.out).mono ?_; rintro e w' ⟨rfl, rfl⟩) | (go_at_call 111; refine (names_ok _ _ _ _ (Hns.out.ext ((Ext.refl nil w).alloc _) (fun _ _ h => h))).mono ?_; rintro e w' ⟨rfl, hg⟩; have hcc := bcell hg) | (go_at_call 142; refine (kids_of _ Ih.out d _ _ _ (by have := Hd.out; omega) (by have := Hdep.out; omega) (Hn.out.ext (by repeat (first | exact Ext.refl _ _ | refine Ext.trans ?_ (by assumption) | refine Ext.alloc ?_ _)) (fun _ _ h => h))).mono ?_; rintro e w'' ⟨rfl, hg2⟩))
          all_goals (go_ret; refine ⟨?_, (by repeat (first | with_reducible exact Ext.refl _ _ | with_reducible refine Ext.trans ?_ (by assumption) | with_reducible refine Ext.drew ?_ | with_reducible refine Ext.drewN ?_ _ | with_reducible refine Ext.alloc ?_ _ | with_reducible refine Ext.setNew ?_ (by simp; done) _ | with_reducible refine Ext.setNew ?_ (by simp; omega) _))⟩; rw [Hf.out])
          all_goals clear Hn Hns Htx Ih Hdep Hd Hf
          all_goals (simp_all [-List.length_eq_zero_iff])
          all_goals first | omega | rfl | (intro _; exact ⟨by simp only [areNamesB, ‹namesB names = true›]; simp; omega, by omega⟩) | (intro h; exfalso; simp [areNamesB, ‹namesB names = false›] at h)
        · have h3 : kids.length ≤ 0 := by omega
          have Hf := Lib.hid he
          clear he
          go_enter Try.func112, Try.ntmps112
          go_wp2_with (first | (go_at_call 64; refine (inRange_ok _ _ _ _).mono ?_; rintro e w' ⟨rfl, rfl⟩) | (go_at_call 141; refine (validText_ok _ _ Htx.out).mono ?_; rintro e w' ⟨rfl, rfl⟩) | (go_at_call 111; refine (names_ok _ _ _ _ (Hns.out.ext ((Ext.refl nil w).alloc _) (fun _ _ h => h))).mono ?_; rintro e w' ⟨rfl, hg⟩; have hcc := bcell hg) | (go_at_call 142; refine (kids_of _ Ih.out d _ _ _ (by have := Hd.out; omega) (by have := Hdep.out; omega) (Hn.out.ext (by repeat (first | exact Ext.refl _ _ | refine Ext.trans ?_ (by assumption) | refine Ext.alloc ?_ _)) (fun _ _ h => h))).mono ?_; rintro e w'' ⟨rfl, hg2⟩))
          all_goals (go_ret; refine ⟨?_, (by repeat (first | with_reducible exact Ext.refl _ _ | with_reducible refine Ext.trans ?_ (by assumption) | with_reducible refine Ext.drew ?_ | with_reducible refine Ext.drewN ?_ _ | with_reducible refine Ext.alloc ?_ _ | with_reducible refine Ext.setNew ?_ (by simp; done) _ | with_reducible refine Ext.setNew ?_ (by simp; omega) _))⟩; rw [Hf.out])
          all_goals clear Hn Hns Htx Ih Hdep Hd Hf
          all_goals (simp_all [-List.length_eq_zero_iff])
          all_goals first | omega | rfl | (intro _; exact ⟨by simp only [areNamesB, ‹namesB names = true›]; simp; omega, by omega⟩) | (intro h; exfalso; simp [areNamesB, ‹namesB names = false›] at h)
    have k2 : (kind != 2) = true := by simpa using k2
    cases ht : (!text.toList.isEmpty)
    rotate_left
    · have hz : shapeB ⟨kind, 0, text, names, kids⟩ (d + 1) = false := shape_text (by simpa using k2) ht
      have Hf := Lib.hid hz
      clear hz
      go_enter Try.func112, Try.ntmps112
      go_wp2_with (first | (go_at_call 64; refine (inRange_ok _ _ _ _).mono ?_; rintro e w' ⟨rfl, rfl⟩) | (go_at_call 141; refine (validText_ok _ _ Htx.out).mono ?_; rintro e w' ⟨rfl, rfl⟩) | (go_at_call 111; refine (names_ok _ _ _ _ (Hns.out.ext ((Ext.refl nil w).alloc _) (fun _ _ h => h))).mono ?_; rintro e w' ⟨rfl, hg⟩; have hcc := bcell hg) | (go_at_call 142; refine (kids_of _ Ih.out d _ _ _ (by have := Hd.out; omega) (by have := Hdep.out; omega) (Hn.out.ext (by repeat (first | exact Ext.refl _ _ | refine Ext.trans ?_ (by assumption) | refine Ext.alloc ?_ _)) (fun _ _ h => h))).mono ?_; rintro e w'' ⟨rfl, hg2⟩))
      all_goals (go_ret; refine ⟨?_, (by repeat (first | with_reducible exact Ext.refl _ _ | with_reducible refine Ext.trans ?_ (by assumption) | with_reducible refine Ext.drew ?_ | with_reducible refine Ext.drewN ?_ _ | with_reducible refine Ext.alloc ?_ _ | with_reducible refine Ext.setNew ?_ (by simp; done) _ | with_reducible refine Ext.setNew ?_ (by simp; omega) _))⟩; rw [Hf.out])
      all_goals clear Hn Hns Htx Ih Hdep Hd Hf
      all_goals (simp_all [-List.length_eq_zero_iff])
      all_goals first | omega | rfl | (intro _; exact ⟨by simp only [areNamesB, ‹namesB names = true›]; simp; omega, by omega⟩) | (intro h; exfalso; simp [areNamesB, ‹namesB names = false›] at h)
    by_cases k4 : kind = 4
    · subst k4
      have he := shape_4 (n := ⟨4, 0, text, names, kids⟩) (d := d) rfl
      have Hf := Lib.hid he
      clear he
      go_enter Try.func112, Try.ntmps112
      go_wp2_with (first | (go_at_call 64; refine (inRange_ok _ _ _ _).mono ?_; rintro e w' ⟨rfl, rfl⟩) | (go_at_call 141; refine (validText_ok _ _ Htx.out).mono ?_; rintro e w' ⟨rfl, rfl⟩) | (go_at_call 111; refine (names_ok _ _ _ _ (Hns.out.ext ((Ext.refl nil w).alloc _) (fun _ _ h => h))).mono ?_; rintro e w' ⟨rfl, hg⟩; have hcc := bcell hg) | (go_at_call 142; refine (kids_of _ Ih.out d _ _ _ (by have := Hd.out; omega) (by have := Hdep.out; omega) (Hn.out.ext (by repeat (first | exact Ext.refl _ _ | refine Ext.trans ?_ (by assumption) | refine Ext.alloc ?_ _)) (fun _ _ h => h))).mono ?_; rintro e w'' ⟨rfl, hg2⟩))
      all_goals (go_ret; refine ⟨?_, (by repeat (first | with_reducible exact Ext.refl _ _ | with_reducible refine Ext.trans ?_ (by assumption) | with_reducible refine Ext.drew ?_ | with_reducible refine Ext.drewN ?_ _ | with_reducible refine Ext.alloc ?_ _ | with_reducible refine Ext.setNew ?_ (by simp; done) _ | with_reducible refine Ext.setNew ?_ (by simp; omega) _))⟩; rw [Hf.out])
      all_goals clear Hn Hns Htx Ih Hdep Hd Hf
      all_goals (simp_all [-List.length_eq_zero_iff])
      all_goals first | omega | rfl | (intro _; exact ⟨by simp only [areNamesB, ‹namesB names = true›]; simp; omega, by omega⟩) | (intro h; exfalso; simp [areNamesB, ‹namesB names = false›] at h)
    have k4 : (kind != 4) = true := by simpa using k4
    by_cases h2 : 0 < names.length
    · have hz : shapeB ⟨kind, 0, text, names, kids⟩ (d + 1) = false := shape_names (by simpa using k4) h2
      have Hf := Lib.hid hz
      clear hz
      go_enter Try.func112, Try.ntmps112
      go_wp2_with (first | (go_at_call 64; refine (inRange_ok _ _ _ _).mono ?_; rintro e w' ⟨rfl, rfl⟩) | (go_at_call 141; refine (validText_ok _ _ Htx.out).mono ?_; rintro e w' ⟨rfl, rfl⟩) | (go_at_call 111; refine (names_ok _ _ _ _ (Hns.out.ext ((Ext.refl nil w).alloc _) (fun _ _ h => h))).mono ?_; rintro e w' ⟨rfl, hg⟩; have hcc := bcell hg) | (go_at_call 142; refine (kids_of _ Ih.out d _ _ _ (by have := Hd.out; omega) (by have := Hdep.out; omega) (Hn.out.ext (by repeat (first | exact Ext.refl _ _ | refine Ext.trans ?_ (by assumption) | refine Ext.alloc ?_ _)) (fun _ _ h => h))).mono ?_; rintro e w'' ⟨rfl, hg2⟩))
      all_goals (go_ret; refine ⟨?_, (by repeat (first | with_reducible exact Ext.refl _ _ | with_reducible refine Ext.trans ?_ (by assumption) | with_reducible refine Ext.drew ?_ | with_reducible refine Ext.drewN ?_ _ | with_reducible refine Ext.alloc ?_ _ | with_reducible refine Ext.setNew ?_ (by simp; done) _ | with_reducible refine Ext.setNew ?_ (by simp; omega) _))⟩; rw [Hf.out])
      all_goals clear Hn Hns Htx Ih Hdep Hd Hf
      all_goals (simp_all [-List.length_eq_zero_iff])
      all_goals first | omega | rfl | (intro _; exact ⟨by simp only [areNamesB, ‹namesB names = true›]; simp; omega, by omega⟩) | (intro h; exfalso; simp [areNamesB, ‹namesB names = false›] at h)
    have h2 : names.length ≤ 0 := by omega
    by_cases k3 : kind = 3
    · subst k3
      have he := shape_3 (n := ⟨3, 0, text, names, kids⟩) (d := d) rfl
      have Hf := Lib.hid he
      clear he
      go_enter Try.func112, Try.ntmps112
      go_wp2_with (first | (go_at_call 64; refine (inRange_ok _ _ _ _).mono ?_; rintro e w' ⟨rfl, rfl⟩) | (go_at_call 141; refine (validText_ok _ _ Htx.out).mono ?_; rintro e w' ⟨rfl, rfl⟩) | (go_at_call 111; refine (names_ok _ _ _ _ (Hns.out.ext ((Ext.refl nil w).alloc _) (fun _ _ h => h))).mono ?_; rintro e w' ⟨rfl, hg⟩; have hcc := bcell hg) | (go_at_call 142; refine (kids_of _ Ih.out d _ _ _ (by have := Hd.out; omega) (by have := Hdep.out; omega) (Hn.out.ext (by repeat (first | exact Ext.refl _ _ | refine Ext.trans ?_ (by assumption) | refine Ext.alloc ?_ _)) (fun _ _ h => h))).mono ?_; rintro e w'' ⟨rfl, hg2⟩))
      all_goals (go_ret; refine ⟨?_, (by repeat (first | with_reducible exact Ext.refl _ _ | with_reducible refine Ext.trans ?_ (by assumption) | with_reducible refine Ext.drew ?_ | with_reducible refine Ext.drewN ?_ _ | with_reducible refine Ext.alloc ?_ _ | with_reducible refine Ext.setNew ?_ (by simp; done) _ | with_reducible refine Ext.setNew ?_ (by simp; omega) _))⟩; rw [Hf.out])
      all_goals clear Hn Hns Htx Ih Hdep Hd Hf
      all_goals (simp_all [-List.length_eq_zero_iff])
      all_goals first | omega | rfl | (intro _; exact ⟨by simp only [areNamesB, ‹namesB names = true›]; simp; omega, by omega⟩) | (intro h; exfalso; simp [areNamesB, ‹namesB names = false›] at h)
    by_cases k0 : kind = 0
    · subst k0
      have he := shape_0 (n := ⟨0, 0, text, names, kids⟩) (d := d) rfl
      by_cases h3 : 0 < kids.length
      · have := h3
        have Hf := Lib.hid he
        clear he
        go_enter Try.func112, Try.ntmps112
        go_wp2_with (first | (go_at_call 64; refine (inRange_ok _ _ _ _).mono ?_; rintro e w' ⟨rfl, rfl⟩) | (go_at_call 141; refine (validText_ok _ _ Htx.out).mono ?_; rintro e w' ⟨rfl, rfl⟩) | (go_at_call 111; refine (names_ok _ _ _ _ (Hns.out.ext ((Ext.refl nil w).alloc _) (fun _ _ h => h))).mono ?_; rintro e w' ⟨rfl, hg⟩; have hcc := bcell hg) | (go_at_call 142; refine (kids_of _ Ih.out d _ _ _ (by have := Hd.out; omega) (by have := Hdep.out; omega) (Hn.out.ext (by repeat (first | exact Ext.refl _ _ | refine Ext.trans ?_ (by assumption) | refine Ext.alloc ?_ _)) (fun _ _ h => h))).mono ?_; rintro e w'' ⟨rfl, hg2⟩))
        all_goals (go_ret; refine ⟨?_, (by repeat (first | with_reducible exact Ext.refl _ _ | with_reducible refine Ext.trans ?_ (by assumption) | with_reducible refine Ext.drew ?_ | with_reducible refine Ext.drewN ?_ _ | with_reducible refine Ext.alloc ?_ _ | with_reducible refine Ext.setNew ?_ (by simp; done) _ | with_reducible refine Ext.setNew ?_ (by simp; omega) _))⟩; rw [Hf.out])
        all_goals clear Hn Hns Htx Ih Hdep Hd Hf
        all_goals (simp_all [-List.length_eq_zero_iff])
        all_goals first | omega | rfl | (intro _; exact ⟨by simp only [areNamesB, ‹namesB names = true›]; simp; omega, by omega⟩) | (intro h; exfalso; simp [areNamesB, ‹namesB names = false›] at h)
      · have h3 : kids.length ≤ 0 := by omega
        have Hf := Lib.hid he
        clear he
        go_enter Try.func112, Try.ntmps112
        go_wp2_with (first | (go_at_call 64; refine (inRange_ok _ _ _ _).mono ?_; rintro e w' ⟨rfl, rfl⟩) | (go_at_call 141; refine (validText_ok _ _ Htx.out).mono ?_; rintro e w' ⟨rfl, rfl⟩) | (go_at_call 111; refine (names_ok _ _ _ _ (Hns.out.ext ((Ext.refl nil w).alloc _) (fun _ _ h => h))).mono ?_; rintro e w' ⟨rfl, hg⟩; have hcc := bcell hg) | (go_at_call 142; refine (kids_of _ Ih.out d _ _ _ (by have := Hd.out; omega) (by have := Hdep.out; omega) (Hn.out.ext (by repeat (first | exact Ext.refl _ _ | refine Ext.trans ?_ (by assumption) | refine Ext.alloc ?_ _)) (fun _ _ h => h))).mono ?_; rintro e w'' ⟨rfl, hg2⟩))
        all_goals (go_ret; refine ⟨?_, (by repeat (first | with_reducible exact Ext.refl _ _ | with_reducible refine Ext.trans ?_ (by assumption) | with_reducible refine Ext.drew ?_ | with_reducible refine Ext.drewN ?_ _ | with_reducible refine Ext.alloc ?_ _ | with_reducible refine Ext.setNew ?_ (by simp; done) _ | with_reducible refine Ext.setNew ?_ (by simp; omega) _))⟩; rw [Hf.out])
        all_goals clear Hn Hns Htx Ih Hdep Hd Hf
        all_goals (simp_all [-List.length_eq_zero_iff])
        all_goals first | omega | rfl | (intro _; exact ⟨by simp only [areNamesB, ‹namesB names = true›]; simp; omega, by omega⟩) | (intro h; exfalso; simp [areNamesB, ‹namesB names = false›] at h)
    have kk : kind < 0 ∨ 4 < kind := by simp at k1 k2 k4; omega
    have hz : shapeB ⟨kind, 0, text, names, kids⟩ (d + 1) = false := shape_other kk
    rcases kk with kk | kk
    · by_cases h3 : 0 < kids.length
      · have := h3
        have Hf := Lib.hid hz
        clear hz
        go_enter Try.func112, Try.ntmps112
        go_wp2_with (first | (go_at_call 64; refine (inRange_ok _ _ _ _).mono ?_; rintro e w' ⟨rfl, rfl⟩) | (go_at_call 141; refine (validText_ok _ _ Htx.out).mono ?_; rintro e w' ⟨rfl, rfl⟩) | (go_at_call 111; refine (names_ok _ _ _ _ (Hns.out.ext ((Ext.refl nil w).alloc _) (fun _ _ h => h))).mono ?_; rintro e w' ⟨rfl, hg⟩; have hcc := bcell hg) | (go_at_call 142; refine (kids_of _ Ih.out d _ _ _ (by have := Hd.out; omega) (by have := Hdep.out; omega) (Hn.out.ext (by repeat (first | exact Ext.refl _ _ | refine Ext.trans ?_ (by assumption) | refine Ext.alloc ?_ _)) (fun _ _ h => h))).mono ?_; rintro e w'' ⟨rfl, hg2⟩))
        all_goals (go_ret; refine ⟨?_, (by repeat (first | with_reducible exact Ext.refl _ _ | with_reducible refine Ext.trans ?_ (by assumption) | with_reducible refine Ext.drew ?_ | with_reducible refine Ext.drewN ?_ _ | with_reducible refine Ext.alloc ?_ _ | with_reducible refine Ext.setNew ?_ (by simp; done) _ | with_reducible refine Ext.setNew ?_ (by simp; omega) _))⟩; rw [Hf.out])
        all_goals clear Hn Hns Htx Ih Hdep Hd Hf
        all_goals (simp_all [-List.length_eq_zero_iff])
        all_goals first | omega | rfl | (intro _; exact ⟨by simp only [areNamesB, ‹namesB names = true›]; simp; omega, by omega⟩) | (intro h; exfalso; simp [areNamesB, ‹namesB names = false›] at h)
      · have h3 : kids.length ≤ 0 := by omega
        have Hf := Lib.hid hz
        clear hz
        go_enter Try.func112, Try.ntmps112
        go_wp2_with (first | (go_at_call 64; refine (inRange_ok _ _ _ _).mono ?_; rintro e w' ⟨rfl, rfl⟩) | (go_at_call 141; refine (validText_ok _ _ Htx.out).mono ?_; rintro e w' ⟨rfl, rfl⟩) | (go_at_call 111; refine (names_ok _ _ _ _ (Hns.out.ext ((Ext.refl nil w).alloc _) (fun _ _ h => h))).mono ?_; rintro e w' ⟨rfl, hg⟩; have hcc := bcell hg) | (go_at_call 142; refine (kids_of _ Ih.out d _ _ _ (by have := Hd.out; omega) (by have := Hdep.out; omega) (Hn.out.ext (by repeat (first | exact Ext.refl _ _ | refine Ext.trans ?_ (by assumption) | refine Ext.alloc ?_ _)) (fun _ _ h => h))).mono ?_; rintro e w'' ⟨rfl, hg2⟩))
        all_goals (go_ret; refine ⟨?_, (by repeat (first | with_reducible exact Ext.refl _ _ | with_reducible refine Ext.trans ?_ (by assumption) | with_reducible refine Ext.drew ?_ | with_reducible refine Ext.drewN ?_ _ | with_reducible refine Ext.alloc ?_ _ | with_reducible refine Ext.setNew ?_ (by simp; done) _ | with_reducible refine Ext.setNew ?_ (by simp; omega) _))⟩; rw [Hf.out])
        all_goals clear Hn Hns Htx Ih Hdep Hd Hf
        all_goals (simp_all [-List.length_eq_zero_iff])
        all_goals first | omega | rfl | (intro _; exact ⟨by simp only [areNamesB, ‹namesB names = true›]; simp; omega, by omega⟩) | (intro h; exfalso; simp [areNamesB, ‹namesB names = false›] at h)
    · have := kk
      have Hf := Lib.hid hz
      clear hz
      go_enter Try.func112, Try.ntmps112
      go_wp2_with (first | (go_at_call 64; refine (inRange_ok _ _ _ _).mono ?_; rintro e w' ⟨rfl, rfl⟩) | (go_at_call 141; refine (validText_ok _ _ Htx.out).mono ?_; rintro e w' ⟨rfl, rfl⟩) | (go_at_call 111; refine (names_ok _ _ _ _ (Hns.out.ext ((Ext.refl nil w).alloc _) (fun _ _ h => h))).mono ?_; rintro e w' ⟨rfl, hg⟩; have hcc := bcell hg) | (go_at_call 142; refine (kids_of _ Ih.out d _ _ _ (by have := Hd.out; omega) (by have := Hdep.out; omega) (Hn.out.ext (by repeat (first | exact Ext.refl _ _ | refine Ext.trans ?_ (by assumption) | refine Ext.alloc ?_ _)) (fun _ _ h => h))).mono ?_; rintro e w'' ⟨rfl, hg2⟩))
      all_goals (go_ret; refine ⟨?_, (by repeat (first | with_reducible exact Ext.refl _ _ | with_reducible refine Ext.trans ?_ (by assumption) | with_reducible refine Ext.drew ?_ | with_reducible refine Ext.drewN ?_ _ | with_reducible refine Ext.alloc ?_ _ | with_reducible refine Ext.setNew ?_ (by simp; done) _ | with_reducible refine Ext.setNew ?_ (by simp; omega) _))⟩; rw [Hf.out])
      all_goals clear Hn Hns Htx Ih Hdep Hd Hf
      all_goals (simp_all [-List.length_eq_zero_iff])
      all_goals first | omega | rfl | (intro _; exact ⟨by simp only [areNamesB, ‹namesB names = true›]; simp; omega, by omega⟩) | (intro h; exfalso; simp [areNamesB, ‹namesB names = false›] at h)

/-- What the reference's 'count' answers. -/
def CountOk (n : Nd) : Prop := ∀ (v : Value) (w : World), n.count ≤ 1000000 → NodeR w any n v →
    Calls Try.prog 113 #[v] w fun e w' => e = .returned (.int .i64 n.count) ∧ Grow w w'

theorem countL_take (l : List Nd) (k : Nat) : countL (l.take k) ≤ countL l := by
  induction l generalizing k with
  | nil => simp
  | cons a l ih => cases k with
    | zero => simp [countL]
    | succ k => simp only [List.take_succ_cons, countL]; have := ih k; omega

set_option maxHeartbeats 400000 in
theorem count_ok : ∀ n, CountOk n := by
  refine Nd.ind' CountOk ?_
  intro n ih v w hb hn
  have hb' : countL n.kids ≤ 1000000 := by rw [Nd.count_eq] at hb; omega
  have Ih := Lib.hid ih
  have Hb := Lib.hid hb
  clear ih hb
  obtain ⟨na, nc, ka, kc, rfl, hc⟩ := hn
  obtain ⟨htx, hns, hks⟩ := hc.parts
  have hkl : n.kids.length ≤ 9223372036854775807 := hks.2.1
  have Hks := Lib.hid hks
  clear htx hns hks hc
  unfold nodeV at *
  go_enter Try.func113, Try.ntmps113
  go_wp2
  go_loopw [3, 4] (fun t i wr => Grow (w.alloc (.cells #[.int .i64 n.kind, .int .i64 n.num, .string n.text, .slice na n.names.length nc, .slice ka n.kids.length kc] 30)) wr ∧ ∃ k : Nat, k ≤ n.kids.length ∧ i = .int .i64 k ∧ t = .int .i64 ((1 + countL (n.kids.take k) : Nat) : Int)) (fun _ i _ => n.kids.length - (intOf i).toNat)
  case atStart => exact ⟨Ext.refl _ _, 0, Nat.zero_le _, rfl, by simp [countL]⟩
  case round =>
    obtain ⟨hg, k, hk, rfl, rfl⟩ := hrel
    have hcc := bcell hg
    have hg0 : Grow w wr := ((Ext.refl _ _).alloc _).trans hg
    have hct := countL_take n.kids k
    by_cases hlt : k < n.kids.length
    · obtain ⟨_, _, hks⟩ := (Hks.out).ext hg0 (fun _ _ h => h)
      rcases hks with hks | ⟨bk, ok, rfl, _, hkr⟩
      · simp [hks] at hlt
      obtain ⟨na', nc', ka', kc', c0, c1, c2, c3, c4, hkc⟩ := hkr.get k hlt
      have Hkc : Hid (NodeR wr any n.kids[k] (nodeV n.kids[k] na' nc' ka' kc')) := Lib.hid ⟨_, _, _, _, rfl, hkc⟩
      have hct' := countL_take n.kids (k + 1)
      rw [take_snoc' _ _ hlt, countL_snoc] at hct'
      clear hkr hkc
      go_wp2_with (go_at_call 113; refine (Ih.out _ (List.getElem_mem hlt) _ _ (by omega) Hkc.out).mono ?_; rintro e w2 ⟨rfl, hg2⟩)
      go_roundw
      case rel => exact ⟨hg.trans hg2, k + 1, by omega, by go_num, by rw [take_snoc' _ _ hlt, countL_snoc]; go_num⟩
      case measure => simp [intOf]; omega
    · have hke : k = n.kids.length := by omega
      have Hke := Lib.hid hke
      clear hke
      go_wp2
      go_ret
      exact ⟨by rw [Nd.count_eq, Hke.out]; simp, hg0⟩

set_option maxHeartbeats 400000 in
theorem validNode_ok (n : Nd) (v : Value) (w : World) (hn : NodeR w any n v) :
    Calls Try.prog 58 #[v] w fun e w' => e = .returned (.bool (validB n)) ∧ Grow w w' := by
  have Hn := Lib.hid hn
  obtain ⟨na, nc, ka, kc, rfl, hc⟩ := hn
  clear hc
  unfold nodeV at *
  cases hs : shapeB n 5
  · have Hs := Lib.hid hs
    have Hv : Hid (validB n = false) := Lib.hid (by simp [validB, hs])
    clear hs
    go_enter Try.func58, Try.ntmps58
    go_wp2_with (go_at_call 112; refine (shape_ok n 5 _ _ _ (by omega) (by omega) ((Hn.out).ext ((Ext.refl nil w).alloc _) (fun _ _ h => h))).mono ?_; rintro e w2 ⟨rfl, hg2⟩; simp only [Hs.out])
    go_ret
    exact ⟨by simp [Hv.out], (by repeat (first | with_reducible exact Ext.refl _ _ | with_reducible refine Ext.trans ?_ (by assumption) | with_reducible refine Ext.drew ?_ | with_reducible refine Ext.drewN ?_ _ | with_reducible refine Ext.alloc ?_ _ | with_reducible refine Ext.setNew ?_ (by simp; done) _ | with_reducible refine Ext.setNew ?_ (by simp; omega) _))⟩
  · have Hs := Lib.hid hs
    have hcn : n.count ≤ 1555 := Nat.le_trans (count_le 5 n hs) (cb_le 5 (by omega))
    have Hv : Hid (validB n = decide (n.count ≤ 40)) := Lib.hid (by simp [validB, hs])
    clear hs
    go_enter Try.func58, Try.ntmps58
    go_wp2_with (first | (go_at_call 112; refine (shape_ok n 5 _ _ _ (by omega) (by omega) ((Hn.out).ext ((Ext.refl nil w).alloc _) (fun _ _ h => h))).mono ?_; rintro e w2 ⟨rfl, hg2⟩; simp only [Hs.out]; have hcc := bcell hg2) | (go_at_call 113; refine (count_ok n _ _ (by omega) ((Hn.out).grow (by repeat (first | with_reducible exact Ext.refl _ _ | with_reducible refine Ext.trans ?_ (by assumption) | with_reducible refine Ext.drew ?_ | with_reducible refine Ext.drewN ?_ _ | with_reducible refine Ext.alloc ?_ _ | with_reducible refine Ext.setNew ?_ (by simp; done) _ | with_reducible refine Ext.setNew ?_ (by simp; omega) _)))).mono ?_; rintro e w3 ⟨rfl, hg3⟩))
    all_goals go_ret
    all_goals exact ⟨by rw [Hv.out]; simp; omega, (by repeat (first | with_reducible exact Ext.refl _ _ | with_reducible refine Ext.trans ?_ (by assumption) | with_reducible refine Ext.drew ?_ | with_reducible refine Ext.drewN ?_ _ | with_reducible refine Ext.alloc ?_ _ | with_reducible refine Ext.setNew ?_ (by simp; done) _ | with_reducible refine Ext.setNew ?_ (by simp; omega) _))⟩

end Go.Proofs.Ytchiakeceiefdaa

/-
  The walk of spec.validShape.
-/
namespace Go.Proofs.Ytchiakeceiefdaa
open Go.RowKit

def VShpOk (x : Shp) : Prop := ∀ (d : Nat) (v : Value) (w : World), d ≤ 5 → ShapeR w any x v →
    Calls Try.prog 57 #[v, .int .i64 (d : Int)] w fun e w' => e = .returned (.bool (shpB x d)) ∧ Grow w w'

set_option maxHeartbeats 8000000 in
theorem validShape_of (x : Shp) (ih : ∀ k ∈ x.kids, VShpOk k) : VShpOk x := by
  intro d v w hd hn
  obtain ⟨na, nc, ba, bc, ka, kc, rfl, hc⟩ := hn
  obtain ⟨hns, hnb, hk1, hk2, hk3⟩ := hc.parts
  have hl1 : x.names.length ≤ 9223372036854775807 := hns.2.1
  have hl2 : x.needs.length ≤ 9223372036854775807 := hnb.2.1
  have hl3 : x.kids.length ≤ 9223372036854775807 := hk2
  have Hns := Lib.hid hns
  have Hk3 := Lib.hid hk3
  have Ih := Lib.hid ih
  clear hc hns hnb hk1 hk2 hk3 ih
  unfold shapeV
  by_cases h0 : d = 0
  · subst h0
    have Hf : Hid (shpB x 0 = false) := Lib.hid (by rw [shpB_eq]; simp)
    go_enter Try.func57, Try.ntmps57
    go_wp2_with fail
    go_ret
    exact ⟨by simp [Hf.out], (by repeat (first | with_reducible exact Ext.refl _ _ | with_reducible refine Ext.trans ?_ (by assumption) | with_reducible refine Ext.drew ?_ | with_reducible refine Ext.drewN ?_ _ | with_reducible refine Ext.alloc ?_ _ | with_reducible refine Ext.setNew ?_ (by simp; done) _ | with_reducible refine Ext.setNew ?_ (by simp; omega) _))⟩
  obtain ⟨d, rfl⟩ : ∃ d', d = d' + 1 := ⟨d - 1, by omega⟩
  obtain ⟨dep, hdep⟩ : ∃ dep : Int, dep = ((d + 1 : Nat) : Int) := ⟨_, rfl⟩
  rw [← hdep]
  have q1 : 1 ≤ dep := by omega
  have q2 : dep ≤ 5 := by omega
  have hb0 : (dep == 0) = false := by rw [ibeq]; simp; omega
  have Hdep := Lib.hid hdep
  clear hdep h0
  have Hf := Lib.hid (shpB_eq x (d + 1))
  cases h1 : inR x.kind 0 4
  · have Hg : Hid (shpB x (d + 1) = false) := Lib.hid (by rw [Hf.out]; simp [shpHead, h1])
    have H1 := Lib.hid h1
    clear h1
    go_enter Try.func57, Try.ntmps57
    go_wp2_with (first | (go_at_call 64; refine (inRange_ok _ _ _ _).mono ?_; rintro e w' ⟨rfl, rfl⟩; simp only [H1.out]) | (go_at_call 111; refine (names_ok na nc x.names _ (Hns.out.grow (by repeat (first | with_reducible exact Ext.refl _ _ | with_reducible refine Ext.trans ?_ (by assumption) | with_reducible refine Ext.drew ?_ | with_reducible refine Ext.drewN ?_ _ | with_reducible refine Ext.alloc ?_ _ | with_reducible refine Ext.setNew ?_ (by simp; done) _ | with_reducible refine Ext.setNew ?_ (by simp; omega) _)))).mono ?_; rintro e w2 ⟨rfl, hg2⟩; simp only [H2.out]; have hcc2 := bcell hg2))
    go_ret
    exact ⟨by simp [Hg.out], (by repeat (first | with_reducible exact Ext.refl _ _ | with_reducible refine Ext.trans ?_ (by assumption) | with_reducible refine Ext.drew ?_ | with_reducible refine Ext.drewN ?_ _ | with_reducible refine Ext.alloc ?_ _ | with_reducible refine Ext.setNew ?_ (by simp; done) _ | with_reducible refine Ext.setNew ?_ (by simp; omega) _))⟩
  cases h2 : namesB x.names
  · have Hg : Hid (shpB x (d + 1) = false) := Lib.hid (by rw [Hf.out]; simp [shpHead, areNamesB, h2])
    have H1 := Lib.hid h1
    have H2 := Lib.hid h2
    clear h1 h2
    go_enter Try.func57, Try.ntmps57
    go_wp2_with (first | (go_at_call 64; refine (inRange_ok _ _ _ _).mono ?_; rintro e w' ⟨rfl, rfl⟩; simp only [H1.out]) | (go_at_call 111; refine (names_ok na nc x.names _ (Hns.out.grow (by repeat (first | with_reducible exact Ext.refl _ _ | with_reducible refine Ext.trans ?_ (by assumption) | with_reducible refine Ext.drew ?_ | with_reducible refine Ext.drewN ?_ _ | with_reducible refine Ext.alloc ?_ _ | with_reducible refine Ext.setNew ?_ (by simp; done) _ | with_reducible refine Ext.setNew ?_ (by simp; omega) _)))).mono ?_; rintro e w2 ⟨rfl, hg2⟩; simp only [H2.out]; have hcc2 := bcell hg2))
    go_ret
    exact ⟨by simp [Hg.out], (by repeat (first | with_reducible exact Ext.refl _ _ | with_reducible refine Ext.trans ?_ (by assumption) | with_reducible refine Ext.drew ?_ | with_reducible refine Ext.drewN ?_ _ | with_reducible refine Ext.alloc ?_ _ | with_reducible refine Ext.setNew ?_ (by simp; done) _ | with_reducible refine Ext.setNew ?_ (by simp; omega) _))⟩
  have H1 := Lib.hid h1
  have H2 := Lib.hid h2
  clear h1 h2
  by_cases h3 : x.kids.length = x.names.length
  rotate_left
  · have Hg : Hid (shpB x (d + 1) = false) := Lib.hid (by rw [Hf.out]; simp [shpHead, h3])
    have b3 : ((x.names.length : Int) != (x.kids.length : Int)) = true := by rw [ibne]; simp; omega
    clear h3
    go_enter Try.func57, Try.ntmps57
    go_wp2_with (first | (go_at_call 64; refine (inRange_ok _ _ _ _).mono ?_; rintro e w' ⟨rfl, rfl⟩; simp only [H1.out]) | (go_at_call 111; refine (names_ok na nc x.names _ (Hns.out.grow (by repeat (first | with_reducible exact Ext.refl _ _ | with_reducible refine Ext.trans ?_ (by assumption) | with_reducible refine Ext.drew ?_ | with_reducible refine Ext.drewN ?_ _ | with_reducible refine Ext.alloc ?_ _ | with_reducible refine Ext.setNew ?_ (by simp; done) _ | with_reducible refine Ext.setNew ?_ (by simp; omega) _)))).mono ?_; rintro e w2 ⟨rfl, hg2⟩; simp only [H2.out]; have hcc2 := bcell hg2))
    go_ret
    exact ⟨by simp [Hg.out], (by repeat (first | with_reducible exact Ext.refl _ _ | with_reducible refine Ext.trans ?_ (by assumption) | with_reducible refine Ext.drew ?_ | with_reducible refine Ext.drewN ?_ _ | with_reducible refine Ext.alloc ?_ _ | with_reducible refine Ext.setNew ?_ (by simp; done) _ | with_reducible refine Ext.setNew ?_ (by simp; omega) _))⟩
  have b3 : ((x.names.length : Int) != (x.kids.length : Int)) = false := by rw [ibne]; simp; omega
  by_cases h4 : x.needs.length = x.names.length
  rotate_left
  · have Hg : Hid (shpB x (d + 1) = false) := Lib.hid (by rw [Hf.out]; simp [shpHead, h4])
    have b4 : ((x.needs.length : Int) != (x.names.length : Int)) = true := by rw [ibne]; simp; omega
    clear h3 h4
    go_enter Try.func57, Try.ntmps57
    go_wp2_with (first | (go_at_call 64; refine (inRange_ok _ _ _ _).mono ?_; rintro e w' ⟨rfl, rfl⟩; simp only [H1.out]) | (go_at_call 111; refine (names_ok na nc x.names _ (Hns.out.grow (by repeat (first | with_reducible exact Ext.refl _ _ | with_reducible refine Ext.trans ?_ (by assumption) | with_reducible refine Ext.drew ?_ | with_reducible refine Ext.drewN ?_ _ | with_reducible refine Ext.alloc ?_ _ | with_reducible refine Ext.setNew ?_ (by simp; done) _ | with_reducible refine Ext.setNew ?_ (by simp; omega) _)))).mono ?_; rintro e w2 ⟨rfl, hg2⟩; simp only [H2.out]; have hcc2 := bcell hg2))
    go_ret
    exact ⟨by simp [Hg.out], (by repeat (first | with_reducible exact Ext.refl _ _ | with_reducible refine Ext.trans ?_ (by assumption) | with_reducible refine Ext.drew ?_ | with_reducible refine Ext.drewN ?_ _ | with_reducible refine Ext.alloc ?_ _ | with_reducible refine Ext.setNew ?_ (by simp; done) _ | with_reducible refine Ext.setNew ?_ (by simp; omega) _))⟩
  have b4 : ((x.needs.length : Int) != (x.names.length : Int)) = false := by rw [ibne]; simp; omega
  by_cases h5 : 6 < x.kids.length
  · have Hg : Hid (shpB x (d + 1) = false) := Lib.hid (by
      have : ¬ x.names.length ≤ 6 := by omega
      rw [Hf.out]; simp [shpHead, areNamesB, this])
    clear h3 h4
    go_enter Try.func57, Try.ntmps57
    go_wp2_with (first | (go_at_call 64; refine (inRange_ok _ _ _ _).mono ?_; rintro e w' ⟨rfl, rfl⟩; simp only [H1.out]) | (go_at_call 111; refine (names_ok na nc x.names _ (Hns.out.grow (by repeat (first | with_reducible exact Ext.refl _ _ | with_reducible refine Ext.trans ?_ (by assumption) | with_reducible refine Ext.drew ?_ | with_reducible refine Ext.drewN ?_ _ | with_reducible refine Ext.alloc ?_ _ | with_reducible refine Ext.setNew ?_ (by simp; done) _ | with_reducible refine Ext.setNew ?_ (by simp; omega) _)))).mono ?_; rintro e w2 ⟨rfl, hg2⟩; simp only [H2.out]; have hcc2 := bcell hg2))
    go_ret
    exact ⟨by simp [Hg.out], (by repeat (first | with_reducible exact Ext.refl _ _ | with_reducible refine Ext.trans ?_ (by assumption) | with_reducible refine Ext.drew ?_ | with_reducible refine Ext.drewN ?_ _ | with_reducible refine Ext.alloc ?_ _ | with_reducible refine Ext.setNew ?_ (by simp; done) _ | with_reducible refine Ext.setNew ?_ (by simp; omega) _))⟩
  have h5 : x.kids.length ≤ 6 := by omega
  by_cases h6 : 0 < x.names.length ∧ ¬ x.kind = 4
  · have Hg : Hid (shpB x (d + 1) = false) := Lib.hid (by rw [Hf.out]; simp [shpHead, h6])
    have b6 : (x.kind != 4) = true := by simpa using h6.2
    have b7 : 0 < (x.names.length : Int) := by omega
    clear h3 h4 h6
    go_enter Try.func57, Try.ntmps57
    go_wp2_with (first | (go_at_call 64; refine (inRange_ok _ _ _ _).mono ?_; rintro e w' ⟨rfl, rfl⟩; simp only [H1.out]) | (go_at_call 111; refine (names_ok na nc x.names _ (Hns.out.grow (by repeat (first | with_reducible exact Ext.refl _ _ | with_reducible refine Ext.trans ?_ (by assumption) | with_reducible refine Ext.drew ?_ | with_reducible refine Ext.drewN ?_ _ | with_reducible refine Ext.alloc ?_ _ | with_reducible refine Ext.setNew ?_ (by simp; done) _ | with_reducible refine Ext.setNew ?_ (by simp; omega) _)))).mono ?_; rintro e w2 ⟨rfl, hg2⟩; simp only [H2.out]; have hcc2 := bcell hg2))
    go_ret
    exact ⟨by simp [Hg.out], (by repeat (first | with_reducible exact Ext.refl _ _ | with_reducible refine Ext.trans ?_ (by assumption) | with_reducible refine Ext.drew ?_ | with_reducible refine Ext.drewN ?_ _ | with_reducible refine Ext.alloc ?_ _ | with_reducible refine Ext.setNew ?_ (by simp; done) _ | with_reducible refine Ext.setNew ?_ (by simp; omega) _))⟩
  have Hg : Hid (shpB x (d + 1) = shpL x.kids d) := Lib.hid (by
      have h7 : x.names.length ≤ 6 := by omega
      have h8 : (decide (0 < x.names.length) && !decide (x.kind = 4)) = false := by
        by_cases h9 : 0 < x.names.length
        · have : x.kind = 4 := by by_cases h10 : x.kind = 4 <;> simp_all
          simp [this]
        · simp [h9]
      rw [Hf.out]; simp only [shpHead, H1.out, areNamesB, H2.out, h3, h4, h7]; simp [h8])
  clear h3 h4
  by_cases b6 : x.kind = 4
  · have b8 : (x.kind != 4) = false := by simp [b6]
    clear h6 b6
    go_enter Try.func57, Try.ntmps57
    go_wp2_with (first | (go_at_call 64; refine (inRange_ok _ _ _ _).mono ?_; rintro e w' ⟨rfl, rfl⟩; simp only [H1.out]) | (go_at_call 111; refine (names_ok na nc x.names _ (Hns.out.grow (by repeat (first | with_reducible exact Ext.refl _ _ | with_reducible refine Ext.trans ?_ (by assumption) | with_reducible refine Ext.drew ?_ | with_reducible refine Ext.drewN ?_ _ | with_reducible refine Ext.alloc ?_ _ | with_reducible refine Ext.setNew ?_ (by simp; done) _ | with_reducible refine Ext.setNew ?_ (by simp; omega) _)))).mono ?_; rintro e w2 ⟨rfl, hg2⟩; simp only [H2.out]; have hcc2 := bcell hg2))
    clear hcc2
    go_loopw [4, 5] (fun t4 i wr => t4 = .bool false ∧ Grow (w.alloc (.cells #[.int .i64 x.kind, .slice na x.names.length nc, .slice ba x.needs.length bc, .slice ka x.kids.length kc] 27)) wr ∧ ∃ k : Nat, k ≤ x.kids.length ∧ i = .int .i64 k ∧ shpL x.kids d = shpL (x.kids.drop k) d) (fun _ i _ => x.kids.length - (intOf i).toNat)
    case atStart => exact ⟨rfl, hg2, 0, Nat.zero_le _, rfl, rfl⟩
    case round =>
      obtain ⟨rfl, hgr, k, hk, rfl, hs⟩ := hrel
      have Hs := Lib.hid hs
      have hcc := bcell hgr
      have hg0 : Grow w wr := ((Ext.refl _ _).alloc _).trans hgr
      clear hs hg2
      by_cases hlt : k < x.kids.length
      · rcases Hk3.out with hks | ⟨bk, ok, rfl, _, hkr⟩
        · simp [hks] at hlt
        obtain ⟨na', nc', ba', bc', ka', kc', c0, c1, c2, c3, hkc⟩ := (hkr.ext hg0 (fun _ _ h => h) (fun h => h)).get k hlt
        have Hkc : Hid (ShapeR wr any x.kids[k] (shapeV x.kids[k] na' nc' ba' bc' ka' kc')) := Lib.hid ⟨_, _, _, _, _, _, rfl, hkc⟩
        clear hkr hkc
        have e1 : Hid (dep - 1 = (d : Int)) := Lib.hid (by have := Hdep.out; omega)
        cases hsk : shpB x.kids[k] d
        · have Hsk := Lib.hid hsk
          have Hff := Lib.hid (shpL_get hlt hsk)
          clear hsk
          go_wp2_with (go_at_call 57; rw [e1.out]; refine (Ih.out _ (List.getElem_mem hlt) d _ _ (by omega) (Hkc.out.grow (by repeat (first | with_reducible exact Ext.refl _ _ | with_reducible refine Ext.trans ?_ (by assumption) | with_reducible refine Ext.drew ?_ | with_reducible refine Ext.drewN ?_ _ | with_reducible refine Ext.alloc ?_ _ | with_reducible refine Ext.setNew ?_ (by simp; done) _ | with_reducible refine Ext.setNew ?_ (by simp; omega) _)))).mono ?_; rintro e w3 ⟨rfl, hg3⟩; simp only [Hsk.out])
          go_ret
          exact ⟨by simp [Hg.out, Hff.out], (by repeat (first | with_reducible exact Ext.refl _ _ | with_reducible refine Ext.trans ?_ (by assumption) | with_reducible refine Ext.drew ?_ | with_reducible refine Ext.drewN ?_ _ | with_reducible refine Ext.alloc ?_ _ | with_reducible refine Ext.setNew ?_ (by simp; done) _ | with_reducible refine Ext.setNew ?_ (by simp; omega) _))⟩
        · have Hsk := Lib.hid hsk
          clear hsk
          go_wp2_with (go_at_call 57; rw [e1.out]; refine (Ih.out _ (List.getElem_mem hlt) d _ _ (by omega) (Hkc.out.grow (by repeat (first | with_reducible exact Ext.refl _ _ | with_reducible refine Ext.trans ?_ (by assumption) | with_reducible refine Ext.drew ?_ | with_reducible refine Ext.drewN ?_ _ | with_reducible refine Ext.alloc ?_ _ | with_reducible refine Ext.setNew ?_ (by simp; done) _ | with_reducible refine Ext.setNew ?_ (by simp; omega) _)))).mono ?_; rintro e w3 ⟨rfl, hg3⟩; simp only [Hsk.out])
          go_roundw
          case rel => exact ⟨rfl, (by repeat (first | with_reducible exact Ext.refl _ _ | with_reducible refine Ext.trans ?_ (by assumption) | with_reducible refine Ext.drew ?_ | with_reducible refine Ext.drewN ?_ _ | with_reducible refine Ext.alloc ?_ _ | with_reducible refine Ext.setNew ?_ (by simp; done) _ | with_reducible refine Ext.setNew ?_ (by simp; omega) _)), k + 1, by omega, by go_num, by rw [Hs.out, drop_cons _ _ hlt, shpL, Hsk.out]; rfl⟩
          case measure => simp [intOf]; omega
      · go_wp2
        go_ret
        exact ⟨by simp [Hg.out, Hs.out, List.drop_eq_nil_of_le (Nat.le_of_not_lt hlt), shpL], hg0⟩
  · have h6 : x.names.length = 0 := by omega
    have b7 : ¬ 0 < (x.names.length : Int) := by omega
    have b8 : (x.kind != 4) = true := by simpa using b6
    clear h6 b6
    go_enter Try.func57, Try.ntmps57
    go_wp2_with (first | (go_at_call 64; refine (inRange_ok _ _ _ _).mono ?_; rintro e w' ⟨rfl, rfl⟩; simp only [H1.out]) | (go_at_call 111; refine (names_ok na nc x.names _ (Hns.out.grow (by repeat (first | with_reducible exact Ext.refl _ _ | with_reducible refine Ext.trans ?_ (by assumption) | with_reducible refine Ext.drew ?_ | with_reducible refine Ext.drewN ?_ _ | with_reducible refine Ext.alloc ?_ _ | with_reducible refine Ext.setNew ?_ (by simp; done) _ | with_reducible refine Ext.setNew ?_ (by simp; omega) _)))).mono ?_; rintro e w2 ⟨rfl, hg2⟩; simp only [H2.out]; have hcc2 := bcell hg2))
    clear hcc2
    go_loopw [4, 5] (fun t4 i wr => t4 = .bool false ∧ Grow (w.alloc (.cells #[.int .i64 x.kind, .slice na x.names.length nc, .slice ba x.needs.length bc, .slice ka x.kids.length kc] 27)) wr ∧ ∃ k : Nat, k ≤ x.kids.length ∧ i = .int .i64 k ∧ shpL x.kids d = shpL (x.kids.drop k) d) (fun _ i _ => x.kids.length - (intOf i).toNat)
    case atStart => exact ⟨rfl, hg2, 0, Nat.zero_le _, rfl, rfl⟩
    case round =>
      obtain ⟨rfl, hgr, k, hk, rfl, hs⟩ := hrel
      have Hs := Lib.hid hs
      have hcc := bcell hgr
      have hg0 : Grow w wr := ((Ext.refl _ _).alloc _).trans hgr
      clear hs hg2
      by_cases hlt : k < x.kids.length
      · rcases Hk3.out with hks | ⟨bk, ok, rfl, _, hkr⟩
        · simp [hks] at hlt
        obtain ⟨na', nc', ba', bc', ka', kc', c0, c1, c2, c3, hkc⟩ := (hkr.ext hg0 (fun _ _ h => h) (fun h => h)).get k hlt
        have Hkc : Hid (ShapeR wr any x.kids[k] (shapeV x.kids[k] na' nc' ba' bc' ka' kc')) := Lib.hid ⟨_, _, _, _, _, _, rfl, hkc⟩
        clear hkr hkc
        have e1 : Hid (dep - 1 = (d : Int)) := Lib.hid (by have := Hdep.out; omega)
        cases hsk : shpB x.kids[k] d
        · have Hsk := Lib.hid hsk
          have Hff := Lib.hid (shpL_get hlt hsk)
          clear hsk
          go_wp2_with (go_at_call 57; rw [e1.out]; refine (Ih.out _ (List.getElem_mem hlt) d _ _ (by omega) (Hkc.out.grow (by repeat (first | with_reducible exact Ext.refl _ _ | with_reducible refine Ext.trans ?_ (by assumption) | with_reducible refine Ext.drew ?_ | with_reducible refine Ext.drewN ?_ _ | with_reducible refine Ext.alloc ?_ _ | with_reducible refine Ext.setNew ?_ (by simp; done) _ | with_reducible refine Ext.setNew ?_ (by simp; omega) _)))).mono ?_; rintro e w3 ⟨rfl, hg3⟩; simp only [Hsk.out])
          go_ret
          exact ⟨by simp [Hg.out, Hff.out], (by repeat (first | with_reducible exact Ext.refl _ _ | with_reducible refine Ext.trans ?_ (by assumption) | with_reducible refine Ext.drew ?_ | with_reducible refine Ext.drewN ?_ _ | with_reducible refine Ext.alloc ?_ _ | with_reducible refine Ext.setNew ?_ (by simp; done) _ | with_reducible refine Ext.setNew ?_ (by simp; omega) _))⟩
        · have Hsk := Lib.hid hsk
          clear hsk
          go_wp2_with (go_at_call 57; rw [e1.out]; refine (Ih.out _ (List.getElem_mem hlt) d _ _ (by omega) (Hkc.out.grow (by repeat (first | with_reducible exact Ext.refl _ _ | with_reducible refine Ext.trans ?_ (by assumption) | with_reducible refine Ext.drew ?_ | with_reducible refine Ext.drewN ?_ _ | with_reducible refine Ext.alloc ?_ _ | with_reducible refine Ext.setNew ?_ (by simp; done) _ | with_reducible refine Ext.setNew ?_ (by simp; omega) _)))).mono ?_; rintro e w3 ⟨rfl, hg3⟩; simp only [Hsk.out])
          go_roundw
          case rel => exact ⟨rfl, (by repeat (first | with_reducible exact Ext.refl _ _ | with_reducible refine Ext.trans ?_ (by assumption) | with_reducible refine Ext.drew ?_ | with_reducible refine Ext.drewN ?_ _ | with_reducible refine Ext.alloc ?_ _ | with_reducible refine Ext.setNew ?_ (by simp; done) _ | with_reducible refine Ext.setNew ?_ (by simp; omega) _)), k + 1, by omega, by go_num, by rw [Hs.out, drop_cons _ _ hlt, shpL, Hsk.out]; rfl⟩
          case measure => simp [intOf]; omega
      · go_wp2
        go_ret
        exact ⟨by simp [Hg.out, Hs.out, List.drop_eq_nil_of_le (Nat.le_of_not_lt hlt), shpL], hg0⟩

theorem validShape_ok : ∀ x, VShpOk x := Shp.ind' VShpOk validShape_of

end Go.Proofs.Ytchiakeceiefdaa

/-
  Whether a node fits a shape: the plain law and the walk of spec.fits.
-/
namespace Go.Proofs.Ytchiakeceiefdaa
open Go.RowKit

/-- A node that is valid but for its size. -/
def Good (n : Nd) : Prop := ∃ d, shapeB n d = true
def GoodS (x : Shp) : Prop := ∃ d, d ≤ 5 ∧ shpB x d = true

theorem Good.parts {n : Nd} (h : Good n) : partsB n = true := by
  obtain ⟨d, h⟩ := h
  rw [shapeB_eq] at h
  simp only [Bool.and_eq_true] at h
  exact h.1.2
theorem Good.kid {n k : Nd} (h : Good n) (hk : k ∈ n.kids) : Good k := by
  obtain ⟨d, h⟩ := h
  rw [shapeB_eq, shapeL_all] at h
  simp only [Bool.and_eq_true, List.all_eq_true] at h
  exact ⟨d - 1, h.2 k hk⟩
theorem Good.zero : Good Nd.zero := ⟨1, by simp [shapeB_eq, partsB, Nd.zero, shapeL]⟩
theorem Good.kids6 {n : Nd} (h : Good n) : n.kids.length ≤ 6 := partsB_kids h.parts
theorem Good.map {n : Nd} (h : Good n) (hk : n.kind = 4) : Asc n.names ∧ n.kids.length = n.names.length := by
  have hp := h.parts
  simp only [partsB, hk, Bool.and_eq_true] at hp
  simp [areNamesB] at hp
  exact ⟨namesB_asc hp.2.1.2, hp.2.2⟩
theorem Good.other {n : Nd} (h : Good n) (hk : n.kind ≠ 4) : n.names = [] := by
  have hp := h.parts
  simp only [partsB, hk, Bool.and_eq_true] at hp
  simp at hp
  exact hp.1.2
theorem Good.asc {n : Nd} (h : Good n) : Asc n.names := by
  by_cases hk : n.kind = 4
  · exact (h.map hk).1
  · rw [h.other hk]; intro i j hi; simp at hi
theorem Good.len {n : Nd} (h : Good n) : n.names.length ≤ n.kids.length := by
  by_cases hk : n.kind = 4
  · rw [(h.map hk).2]; exact Nat.le_refl _
  · rw [h.other hk]; exact Nat.zero_le _
theorem Good.kidOf {n : Nd} (h : Good n) (s : ByteArray) : Good (kidOf n s) := by
  cases hm : mem n.names s
  · rw [kidOf_no hm]; exact Good.zero
  · exact h.kid (kidOf_mem h.asc h.len hm)
theorem validB_good {n : Nd} (h : validB n = true) : Good n := by
  simp only [validB, Bool.and_eq_true] at h
  exact ⟨5, h.1⟩

theorem GoodS.head {x : Shp} (h : GoodS x) : shpHead x = true := by
  obtain ⟨d, _, h⟩ := h
  rw [shpB_eq] at h
  simp only [Bool.and_eq_true] at h
  exact h.1.2
theorem GoodS.kid {x k : Shp} (h : GoodS x) (hk : k ∈ x.kids) : GoodS k := by
  obtain ⟨d, hd, h⟩ := h
  rw [shpB_eq, shpL_all] at h
  simp only [Bool.and_eq_true, List.all_eq_true] at h
  exact ⟨d - 1, by omega, h.2 k hk⟩

mutual
/-- Whether a node fits a shape. -/
def fitB : Shp → Nd → Bool
  | ⟨kind, names, needs, kids⟩, n => (decide (kind = 0) || decide (n.kind = kind)) && fitL names needs kids n
def fitL : List ByteArray → List Bool → List Shp → Nd → Bool
  | nm :: ns, nd :: bs, k :: ks, n => (if mem n.names nm then fitB k (kidOf n nm) else !nd) && fitL ns bs ks n
  | _, _, _, _ => true
end
theorem fitB_eq (x : Shp) (n : Nd) : fitB x n = ((decide (x.kind = 0) || decide (n.kind = x.kind)) && fitL x.names x.needs x.kids n) := by cases x; simp [fitB]
theorem fitL_step {ns : List ByteArray} {bs : List Bool} {ks : List Shp} (n : Nd) {k : Nat} (h1 : k < ns.length) (h2 : k < bs.length) (h3 : k < ks.length) :
    fitL (ns.drop k) (bs.drop k) (ks.drop k) n = ((if mem n.names ns[k] then fitB ks[k] (kidOf n ns[k]) else !bs[k]) && fitL (ns.drop (k + 1)) (bs.drop (k + 1)) (ks.drop (k + 1)) n) := by
  rw [drop_cons _ _ h1, drop_cons _ _ h2, drop_cons _ _ h3, fitL]
theorem fitL_end {ns : List ByteArray} {bs : List Bool} {ks : List Shp} (n : Nd) {k : Nat} (h1 : ¬ k < ns.length) : fitL (ns.drop k) (bs.drop k) (ks.drop k) n = true := by
  rw [List.drop_eq_nil_of_le (by omega)]; simp [fitL]

theorem placeFrom_map {n : Nd} {s : ByteArray} (hk : n.kind = 4) (ha : Asc n.names) (hl : n.kids.length = n.names.length) : ∀ (m i : Nat), m + i = n.kids.length → (∀ t (h : t < n.names.length), t < i → n.names[t] ≠ s) →
    placeFrom n s i m = if mem n.names s then (lbound n.names s : Int) else -1
  | 0, i, h, hno => by
    have : mem n.names s = false := mem_no (fun hm => by
      obtain ⟨t, ht, he⟩ := List.getElem_of_mem hm
      exact hno t ht (by omega) he)
    simp [placeFrom, this]
  | m + 1, i, h, hno => by
    have hi : i < n.names.length := by omega
    rw [placeFrom]
    by_cases e : n.names[i] = s
    · have hm : mem n.names s = true := mem_iff.2 (e ▸ List.getElem_mem hi)
      have hh : hit n s i = true := by simp [hit, hk, hi, e]
      have : lbound n.names s = i := lb_of (Nat.le_of_lt hi) (fun t ht hti => by rw [← e]; exact ha t i ht hi hti) (fun t ht hti => by
        rcases Nat.eq_or_lt_of_le hti with rfl | h'
        · rw [e]; exact lt_irr _
        · rw [← e]; exact bl_asymm _ _ (ha i t hi ht h'))
      simp [hh, hm, this]
    · have hh : hit n s i = false := by simp [hit, hk, hi, e]
      rw [hh]
      exact placeFrom_map hk ha hl m (i + 1) (by omega) (fun t ht hti => by
        rcases Nat.eq_or_lt_of_le (show t ≤ i by omega) with rfl | h'
        · exact e
        · exact hno t ht h')

theorem place_map {n : Nd} (h : Good n) (hk : n.kind = 4) (s : ByteArray) : placeOf n s = if mem n.names s then (lbound n.names s : Int) else -1 :=
  placeFrom_map hk (h.map hk).1 (h.map hk).2 _ 0 (by omega) (fun t _ h' => absurd h' (by omega))

def FitsOk (x : Shp) : Prop := ∀ (n : Nd) (v u : Value) (w : World), GoodS x → Good n → ShapeR w any x v → NodeR w any n u →
    Calls Try.prog 59 #[v, u] w fun e w' => e = .returned (.bool (fitB x n)) ∧ Grow w w'

set_option maxRecDepth 100000 in
set_option maxHeartbeats 8000000 in
theorem fits_of (x : Shp) (ih : ∀ k ∈ x.kids, FitsOk k) : FitsOk x := by
  intro n v u w hx hg hn hu
  obtain ⟨na, nc, ba, bc, ka, kc, rfl, hc⟩ := hn
  obtain ⟨hns, hnb, hk1, hk2, hk3⟩ := hc.parts
  have Hu := Lib.hid hu
  obtain ⟨na2, nc2, ka2, kc2, rfl, hc2⟩ := hu
  obtain ⟨_, _, hks2⟩ := hc2.parts
  obtain ⟨p1, p2, p3, p4, p5, p6⟩ := shpHead_parts hx.head
  have hl1 : x.names.length ≤ 6 := by
    simp only [areNamesB, Bool.and_eq_true, decide_eq_true_eq] at p3
    exact p3.1
  have hl2 : n.kids.length ≤ 6 := hg.kids6
  have Hns := Lib.hid hns
  have Hnb := Lib.hid hnb
  have Hk3 := Lib.hid hk3
  have Ih := Lib.hid ih
  have Hg := Lib.hid hg
  have Hx := Lib.hid hx
  have P4 := Lib.hid p4
  have P5 := Lib.hid p5
  have P6 := Lib.hid p6
  have Hks2 := Lib.hid hks2
  have Hf := Lib.hid (fitB_eq x n)
  clear hc hns hnb hk1 hk2 hk3 ih hc2 hks2 hx hg p3 p4 p5 p6
  unfold shapeV
  unfold nodeV at *
  by_cases hkk : x.kind ≠ 0 ∧ n.kind ≠ x.kind
  · have b1 : (x.kind != 0) = true := by simpa using hkk.1
    have b2 : (n.kind != x.kind) = true := by simpa using hkk.2
    have Hff : Hid (fitB x n = false) := Lib.hid (by rw [Hf.out]; simp [hkk.1, hkk.2])
    clear hkk
    go_enter Try.func59, Try.ntmps59
    go_wp2_with fail
    go_ret
    exact ⟨by simp [Hff.out], (by repeat (first | with_reducible exact Ext.refl _ _ | with_reducible refine Ext.trans ?_ (by assumption) | with_reducible refine Ext.drew ?_ | with_reducible refine Ext.drewN ?_ _ | with_reducible refine Ext.alloc ?_ _ | with_reducible refine Ext.setNew ?_ (by simp; done) _ | with_reducible refine Ext.setNew ?_ (by simp; omega) _))⟩
  have Hff : Hid (fitB x n = fitL x.names x.needs x.kids n) := Lib.hid (by
    rw [Hf.out]
    by_cases h0 : x.kind = 0
    · simp [h0]
    · have : n.kind = x.kind := by by_cases h : n.kind = x.kind; exact h; exact absurd ⟨h0, h⟩ hkk
      simp [this])
  have hw : (x.kind != 0) = false ∨ ((x.kind != 0) = true ∧ (n.kind != x.kind) = false) := by
    by_cases h0 : x.kind = 0
    · left; simp [h0]
    · right; simp [h0]; by_cases h : n.kind = x.kind; exact h; exact absurd ⟨h0, h⟩ hkk
  have HW := Lib.hid hw
  have HK : Hid (0 < x.names.length → n.kind = 4) := Lib.hid (by
    intro h
    have : x.kind = 4 := by have := P6.out; omega
    rcases hw with hw | ⟨_, hw⟩
    · rw [this] at hw; simp at hw
    · simp at hw; omega)
  clear hkk hw
  rcases HW.out with b1 | ⟨b1, b2⟩
  · go_enter Try.func59, Try.ntmps59
    go_wp2_with fail
    clear b1
    go_loopw [4, 5] (fun t4 i wr => t4 = .bool false ∧ Grow w wr ∧ BoxN wr w.heap.size (shapeL' x na nc ba bc ka kc) ∧ BoxN wr (w.heap.size + 1) (nodeL n na2 nc2 ka2 kc2) ∧ ∃ k : Nat, k ≤ x.names.length ∧ i = .int .i64 k ∧ fitL x.names x.needs x.kids n = fitL (x.names.drop k) (x.needs.drop k) (x.kids.drop k) n) (fun _ i _ => x.names.length - (intOf i).toNat)
    case atStart => exact ⟨rfl, (by repeat (first | with_reducible exact Ext.refl _ _ | with_reducible refine Ext.trans ?_ (by assumption) | with_reducible refine Ext.drew ?_ | with_reducible refine Ext.drewN ?_ _ | with_reducible refine Ext.alloc ?_ _ | with_reducible refine Ext.setNew ?_ (by simp; done) _ | with_reducible refine Ext.setNew ?_ (by simp; omega) _)), (BoxN.new w (shapeL' x na nc ba bc ka kc) _).grow ((Ext.refl nil _).alloc _), BoxN.new1 w _ (nodeL n na2 nc2 ka2 kc2) _, 0, Nat.zero_le _, rfl, rfl⟩
    case round =>
      obtain ⟨rfl, hg0, B1, B2, k, hk, rfl, hs⟩ := hrel
      have Hs := Lib.hid hs
      clear hs
      have q1 := B1.cell 1 _ rfl
      have q2 := B1.cell 2 _ rfl
      have q3 := B1.cell 3 _ rfl
      have r0 := B2.cell 0 _ rfl
      have r1 := B2.cell 1 _ rfl
      have r2 := B2.cell 2 _ rfl
      have r3 := B2.cell 3 _ rfl
      have r4 := B2.cell 4 _ rfl
      have HB1 := Lib.hid B1
      have HB2 := Lib.hid B2
      clear B1 B2
      by_cases hlt : k < x.names.length
      · have hlb : k < x.needs.length := by have := P4.out; omega
        have hlk : k < x.kids.length := by have := P5.out; omega
        have hst := fitL_step (ns := x.names) (bs := x.needs) (ks := x.kids) n hlt hlb hlk
        have hk4 := HK.out (by omega)
        have hpl := place_map Hg.out hk4 x.names[k]
        rcases ((Hns.out).ext hg0 (fun _ _ h => h)).2.2.2 with hh | ⟨b1, o1, rfl, _, hc1⟩
        · rw [hh] at hlt; simp at hlt
        rcases ((Hnb.out).ext hg0 (fun _ _ h => h)).2.2 with hh | ⟨b2, o2, rfl, _, hc2⟩
        · rw [hh] at hlb; simp at hlb
        rcases Hk3.out with hh | ⟨b3, o3, rfl, _, hkr⟩
        · rw [hh] at hlk; simp at hlk
        have cn := hc1 k hlt
        have cb := hc2 k hlb
        obtain ⟨na', nc', ba', bc', ka', kc', d0, d1, d2, d3, hkc⟩ := (hkr.ext hg0 (fun _ _ h => h) (fun h => h)).get k hlk
        have Hkc : Hid (ShapeR wr any x.kids[k] (shapeV x.kids[k] na' nc' ba' bc' ka' kc')) := Lib.hid ⟨_, _, _, _, _, _, rfl, hkc⟩
        have HM : Hid (n.kind = 4 → n.kids.length ≤ n.names.length) := Lib.hid (fun h => by rw [(Hg.out.map h).2]; exact Nat.le_refl _)
        cases hm : mem n.names x.names[k]
        · have Hpl : Hid (placeOf n x.names[k] = -1) := Lib.hid (by rw [hpl, hm]; rfl)
          rw [hm] at hst
          have Hst : Hid (fitL (x.names.drop k) (x.needs.drop k) (x.kids.drop k) n = (!x.needs[k] && fitL (x.names.drop (k + 1)) (x.needs.drop (k + 1)) (x.kids.drop (k + 1)) n)) := Lib.hid (by rw [hst]; rfl)
          clear hst hpl hk4 hm hkc hkr hc1 hc2
          cases hb : x.needs[k]
          · rw [hb] at cb
            have Hb := Lib.hid hb
            clear hb
            go_wp2_with fail
            (refine wp_region_later (by kernel_rfl) (by kernel_rfl) ?_; (repeat (first | go_big_quiet_step ((go_at_call 114; exact later_call (by simpa only [Hpl.out] using place_ok n x.names[k] _ _ HM.out (by omega) (Hu.out.grow (hg0.trans (later_grow _ _)))))) | quiet_step ((go_at_call 114; exact later_call (by simpa only [Hpl.out] using place_ok n x.names[k] _ _ HM.out (by omega) (Hu.out.grow (hg0.trans (later_grow _ _)))))))); refine wpQuiet_nil ?_; rintro _ ⟨x_w2, rfl⟩; have hg_w2 := later_grow wr x_w2; generalize later wr x_w2 = w2 at hg_w2 ⊢)
            (replace q1 := hg_w2.some q1; replace q2 := hg_w2.some q2; replace q3 := hg_w2.some q3; replace cb := hg_w2.some cb)
            go_wp2_with fail
            (refine wp_region_later (by kernel_rfl) (by kernel_rfl) ?_; (repeat (first | go_big_quiet_step (fail) | quiet_step (fail))); refine wpQuiet_nil ?_; rintro _ ⟨x_w3, rfl⟩; have hg_w3 := later_grow w2 x_w3; generalize later w2 x_w3 = w3 at hg_w3 ⊢)
            go_wp2_with fail
            go_roundw
            case rel => exact ⟨rfl, (by repeat (first | with_reducible exact Ext.refl _ _ | with_reducible refine Ext.trans ?_ (by assumption) | with_reducible refine Ext.drew ?_ | with_reducible refine Ext.drewN ?_ _ | with_reducible refine Ext.alloc ?_ _ | with_reducible refine Ext.setNew ?_ (by simp; done) _ | with_reducible refine Ext.setNew ?_ (by simp; omega) _)), HB1.out.grow (by repeat (first | with_reducible exact Ext.refl _ _ | with_reducible refine Ext.trans ?_ (by assumption) | with_reducible refine Ext.drew ?_ | with_reducible refine Ext.drewN ?_ _ | with_reducible refine Ext.alloc ?_ _ | with_reducible refine Ext.setNew ?_ (by simp; done) _ | with_reducible refine Ext.setNew ?_ (by simp; omega) _)), HB2.out.grow (by repeat (first | with_reducible exact Ext.refl _ _ | with_reducible refine Ext.trans ?_ (by assumption) | with_reducible refine Ext.drew ?_ | with_reducible refine Ext.drewN ?_ _ | with_reducible refine Ext.alloc ?_ _ | with_reducible refine Ext.setNew ?_ (by simp; done) _ | with_reducible refine Ext.setNew ?_ (by simp; omega) _)), k + 1, by omega, by go_num, by rw [Hs.out, Hst.out, Hb.out]; rfl⟩
            case measure => simp [intOf]; omega
          · rw [hb] at cb
            have Hb := Lib.hid hb
            clear hb
            go_wp2_with fail
            (refine wp_region_later (by kernel_rfl) (by kernel_rfl) ?_; (repeat (first | go_big_quiet_step ((go_at_call 114; exact later_call (by simpa only [Hpl.out] using place_ok n x.names[k] _ _ HM.out (by omega) (Hu.out.grow (hg0.trans (later_grow _ _)))))) | quiet_step ((go_at_call 114; exact later_call (by simpa only [Hpl.out] using place_ok n x.names[k] _ _ HM.out (by omega) (Hu.out.grow (hg0.trans (later_grow _ _)))))))); refine wpQuiet_nil ?_; rintro _ ⟨x_w2, rfl⟩; have hg_w2 := later_grow wr x_w2; generalize later wr x_w2 = w2 at hg_w2 ⊢)
            (replace q1 := hg_w2.some q1; replace q2 := hg_w2.some q2; replace q3 := hg_w2.some q3; replace cb := hg_w2.some cb)
            go_wp2_with fail
            (refine wp_region_later (by kernel_rfl) (by kernel_rfl) ?_; (repeat (first | go_big_quiet_step (fail) | quiet_step (fail))); refine wpQuiet_nil ?_; rintro _ ⟨x_w3, rfl⟩; have hg_w3 := later_grow w2 x_w3; generalize later w2 x_w3 = w3 at hg_w3 ⊢)
            go_wp2_with fail
            go_ret
            exact ⟨by rw [Hff.out, Hs.out, Hst.out, Hb.out]; rfl, (by repeat (first | with_reducible exact Ext.refl _ _ | with_reducible refine Ext.trans ?_ (by assumption) | with_reducible refine Ext.drew ?_ | with_reducible refine Ext.drewN ?_ _ | with_reducible refine Ext.alloc ?_ _ | with_reducible refine Ext.setNew ?_ (by simp; done) _ | with_reducible refine Ext.setNew ?_ (by simp; omega) _))⟩
        · obtain ⟨qq1, qq2⟩ := lb_lt Hg.out.asc hm
          obtain ⟨lb, hl3, hlb', hkid⟩ : ∃ (lb : Nat) (h : lb < n.kids.length), lb = lbound n.names x.names[k] ∧ kidOf n x.names[k] = n.kids[lb] := ⟨_, by have := Hg.out.len; omega, rfl, kidOf_yes hm (by have := Hg.out.len; omega)⟩
          have Hpl : Hid (placeOf n x.names[k] = (lb : Int)) := Lib.hid (by rw [hpl, hm, hlb']; rfl)
          rw [hm, hkid] at hst
          have Hst : Hid (fitL (x.names.drop k) (x.needs.drop k) (x.kids.drop k) n = (fitB x.kids[k] n.kids[lb] && fitL (x.names.drop (k + 1)) (x.needs.drop (k + 1)) (x.kids.drop (k + 1)) n)) := Lib.hid (by rw [hst]; rfl)
          have Hgk : Hid (Good n.kids[lb]) := Lib.hid (Hg.out.kid (List.getElem_mem _))
          rcases ((Hks2.out).ext hg0 (fun _ _ h => h)).2.2 with hh | ⟨b5, o5, rfl, _, hkr5⟩
          · rw [hh] at hl3; simp at hl3
          obtain ⟨na5, nc5, ka5, kc5, e0, e1, e2, e3, e4, hkc5⟩ := hkr5.get lb hl3
          have Hk5 : Hid (NodeR wr any n.kids[lb] (nodeV n.kids[lb] na5 nc5 ka5 kc5)) := Lib.hid ⟨_, _, _, _, rfl, hkc5⟩
          clear hst hpl hk4 hm hkc hkr hc1 hc2 hkc5 hkr5 hkid hlb' qq1 qq2
          cases hb : fitB x.kids[k] n.kids[lb]
          · have Hb := Lib.hid hb
            clear hb
            go_wp2_with fail
            (refine wp_region_later (by kernel_rfl) (by kernel_rfl) ?_; (repeat (first | go_big_quiet_step ((go_at_call 114; exact later_call (by simpa only [Hpl.out] using place_ok n x.names[k] _ _ HM.out (by omega) (Hu.out.grow (hg0.trans (later_grow _ _)))))) | quiet_step ((go_at_call 114; exact later_call (by simpa only [Hpl.out] using place_ok n x.names[k] _ _ HM.out (by omega) (Hu.out.grow (hg0.trans (later_grow _ _)))))))); refine wpQuiet_nil ?_; rintro _ ⟨x_w2, rfl⟩; have hg_w2 := later_grow wr x_w2; generalize later wr x_w2 = w2 at hg_w2 ⊢)
            (replace q1 := hg_w2.some q1; replace q2 := hg_w2.some q2; replace q3 := hg_w2.some q3; replace r4 := hg_w2.some r4; replace cn := hg_w2.some cn; replace cb := hg_w2.some cb; replace d0 := hg_w2.some d0; replace d1 := hg_w2.some d1; replace d2 := hg_w2.some d2; replace d3 := hg_w2.some d3; replace e0 := hg_w2.some e0; replace e1 := hg_w2.some e1; replace e2 := hg_w2.some e2; replace e3 := hg_w2.some e3; replace e4 := hg_w2.some e4)
            go_wp2_with fail
            (refine wp_region_later (by kernel_rfl) (by kernel_rfl) ?_; (repeat (first | go_big_quiet_step ((go_at_call 59; exact later_call (v := .bool false) ((Ih.out _ (List.getElem_mem hlk) n.kids[lb] _ _ _ (Hx.out.kid (List.getElem_mem hlk)) Hgk.out (Hkc.out.grow (hg_w2.trans (later_grow _ _))) (Hk5.out.grow (hg_w2.trans (later_grow _ _)))).mono (fun e w' h => ⟨by rw [h.1, Hb.out], h.2⟩)))) | quiet_step ((go_at_call 59; exact later_call (v := .bool false) ((Ih.out _ (List.getElem_mem hlk) n.kids[lb] _ _ _ (Hx.out.kid (List.getElem_mem hlk)) Hgk.out (Hkc.out.grow (hg_w2.trans (later_grow _ _))) (Hk5.out.grow (hg_w2.trans (later_grow _ _)))).mono (fun e w' h => ⟨by rw [h.1, Hb.out], h.2⟩)))))); refine wpQuiet_nil ?_; rintro _ ⟨x_w3, rfl⟩; have hg_w3 := later_grow w2 x_w3; generalize later w2 x_w3 = w3 at hg_w3 ⊢)
            go_wp2_with fail
            go_ret
            exact ⟨by rw [Hff.out, Hs.out, Hst.out, Hb.out]; rfl, (by repeat (first | with_reducible exact Ext.refl _ _ | with_reducible refine Ext.trans ?_ (by assumption) | with_reducible refine Ext.drew ?_ | with_reducible refine Ext.drewN ?_ _ | with_reducible refine Ext.alloc ?_ _ | with_reducible refine Ext.setNew ?_ (by simp; done) _ | with_reducible refine Ext.setNew ?_ (by simp; omega) _))⟩
          · have Hb := Lib.hid hb
            clear hb
            go_wp2_with fail
            (refine wp_region_later (by kernel_rfl) (by kernel_rfl) ?_; (repeat (first | go_big_quiet_step ((go_at_call 114; exact later_call (by simpa only [Hpl.out] using place_ok n x.names[k] _ _ HM.out (by omega) (Hu.out.grow (hg0.trans (later_grow _ _)))))) | quiet_step ((go_at_call 114; exact later_call (by simpa only [Hpl.out] using place_ok n x.names[k] _ _ HM.out (by omega) (Hu.out.grow (hg0.trans (later_grow _ _)))))))); refine wpQuiet_nil ?_; rintro _ ⟨x_w2, rfl⟩; have hg_w2 := later_grow wr x_w2; generalize later wr x_w2 = w2 at hg_w2 ⊢)
            (replace q1 := hg_w2.some q1; replace q2 := hg_w2.some q2; replace q3 := hg_w2.some q3; replace r4 := hg_w2.some r4; replace cn := hg_w2.some cn; replace cb := hg_w2.some cb; replace d0 := hg_w2.some d0; replace d1 := hg_w2.some d1; replace d2 := hg_w2.some d2; replace d3 := hg_w2.some d3; replace e0 := hg_w2.some e0; replace e1 := hg_w2.some e1; replace e2 := hg_w2.some e2; replace e3 := hg_w2.some e3; replace e4 := hg_w2.some e4)
            go_wp2_with fail
            (refine wp_region_later (by kernel_rfl) (by kernel_rfl) ?_; (repeat (first | go_big_quiet_step ((go_at_call 59; exact later_call (v := .bool true) ((Ih.out _ (List.getElem_mem hlk) n.kids[lb] _ _ _ (Hx.out.kid (List.getElem_mem hlk)) Hgk.out (Hkc.out.grow (hg_w2.trans (later_grow _ _))) (Hk5.out.grow (hg_w2.trans (later_grow _ _)))).mono (fun e w' h => ⟨by rw [h.1, Hb.out], h.2⟩)))) | quiet_step ((go_at_call 59; exact later_call (v := .bool true) ((Ih.out _ (List.getElem_mem hlk) n.kids[lb] _ _ _ (Hx.out.kid (List.getElem_mem hlk)) Hgk.out (Hkc.out.grow (hg_w2.trans (later_grow _ _))) (Hk5.out.grow (hg_w2.trans (later_grow _ _)))).mono (fun e w' h => ⟨by rw [h.1, Hb.out], h.2⟩)))))); refine wpQuiet_nil ?_; rintro _ ⟨x_w3, rfl⟩; have hg_w3 := later_grow w2 x_w3; generalize later w2 x_w3 = w3 at hg_w3 ⊢)
            go_wp2_with fail
            go_roundw
            case rel => exact ⟨rfl, (by repeat (first | with_reducible exact Ext.refl _ _ | with_reducible refine Ext.trans ?_ (by assumption) | with_reducible refine Ext.drew ?_ | with_reducible refine Ext.drewN ?_ _ | with_reducible refine Ext.alloc ?_ _ | with_reducible refine Ext.setNew ?_ (by simp; done) _ | with_reducible refine Ext.setNew ?_ (by simp; omega) _)), HB1.out.grow (by repeat (first | with_reducible exact Ext.refl _ _ | with_reducible refine Ext.trans ?_ (by assumption) | with_reducible refine Ext.drew ?_ | with_reducible refine Ext.drewN ?_ _ | with_reducible refine Ext.alloc ?_ _ | with_reducible refine Ext.setNew ?_ (by simp; done) _ | with_reducible refine Ext.setNew ?_ (by simp; omega) _)), HB2.out.grow (by repeat (first | with_reducible exact Ext.refl _ _ | with_reducible refine Ext.trans ?_ (by assumption) | with_reducible refine Ext.drew ?_ | with_reducible refine Ext.drewN ?_ _ | with_reducible refine Ext.alloc ?_ _ | with_reducible refine Ext.setNew ?_ (by simp; done) _ | with_reducible refine Ext.setNew ?_ (by simp; omega) _)), k + 1, by omega, by go_num, by rw [Hs.out, Hst.out, Hb.out]; rfl⟩
            case measure => simp [intOf]; omega
      · go_wp2_with fail
        go_ret
        exact ⟨by rw [Hff.out, Hs.out, fitL_end n hlt]; rfl, hg0⟩
  · go_enter Try.func59, Try.ntmps59
    go_wp2_with fail
    clear b1
    go_loopw [4, 5] (fun t4 i wr => t4 = .bool false ∧ Grow w wr ∧ BoxN wr w.heap.size (shapeL' x na nc ba bc ka kc) ∧ BoxN wr (w.heap.size + 1) (nodeL n na2 nc2 ka2 kc2) ∧ ∃ k : Nat, k ≤ x.names.length ∧ i = .int .i64 k ∧ fitL x.names x.needs x.kids n = fitL (x.names.drop k) (x.needs.drop k) (x.kids.drop k) n) (fun _ i _ => x.names.length - (intOf i).toNat)
    case atStart => exact ⟨rfl, (by repeat (first | with_reducible exact Ext.refl _ _ | with_reducible refine Ext.trans ?_ (by assumption) | with_reducible refine Ext.drew ?_ | with_reducible refine Ext.drewN ?_ _ | with_reducible refine Ext.alloc ?_ _ | with_reducible refine Ext.setNew ?_ (by simp; done) _ | with_reducible refine Ext.setNew ?_ (by simp; omega) _)), (BoxN.new w (shapeL' x na nc ba bc ka kc) _).grow ((Ext.refl nil _).alloc _), BoxN.new1 w _ (nodeL n na2 nc2 ka2 kc2) _, 0, Nat.zero_le _, rfl, rfl⟩
    case round =>
      obtain ⟨rfl, hg0, B1, B2, k, hk, rfl, hs⟩ := hrel
      have Hs := Lib.hid hs
      clear hs
      have q1 := B1.cell 1 _ rfl
      have q2 := B1.cell 2 _ rfl
      have q3 := B1.cell 3 _ rfl
      have r0 := B2.cell 0 _ rfl
      have r1 := B2.cell 1 _ rfl
      have r2 := B2.cell 2 _ rfl
      have r3 := B2.cell 3 _ rfl
      have r4 := B2.cell 4 _ rfl
      have HB1 := Lib.hid B1
      have HB2 := Lib.hid B2
      clear B1 B2
      by_cases hlt : k < x.names.length
      · have hlb : k < x.needs.length := by have := P4.out; omega
        have hlk : k < x.kids.length := by have := P5.out; omega
        have hst := fitL_step (ns := x.names) (bs := x.needs) (ks := x.kids) n hlt hlb hlk
        have hk4 := HK.out (by omega)
        have hpl := place_map Hg.out hk4 x.names[k]
        rcases ((Hns.out).ext hg0 (fun _ _ h => h)).2.2.2 with hh | ⟨b1, o1, rfl, _, hc1⟩
        · rw [hh] at hlt; simp at hlt
        rcases ((Hnb.out).ext hg0 (fun _ _ h => h)).2.2 with hh | ⟨b2, o2, rfl, _, hc2⟩
        · rw [hh] at hlb; simp at hlb
        rcases Hk3.out with hh | ⟨b3, o3, rfl, _, hkr⟩
        · rw [hh] at hlk; simp at hlk
        have cn := hc1 k hlt
        have cb := hc2 k hlb
        obtain ⟨na', nc', ba', bc', ka', kc', d0, d1, d2, d3, hkc⟩ := (hkr.ext hg0 (fun _ _ h => h) (fun h => h)).get k hlk
        have Hkc : Hid (ShapeR wr any x.kids[k] (shapeV x.kids[k] na' nc' ba' bc' ka' kc')) := Lib.hid ⟨_, _, _, _, _, _, rfl, hkc⟩
        have HM : Hid (n.kind = 4 → n.kids.length ≤ n.names.length) := Lib.hid (fun h => by rw [(Hg.out.map h).2]; exact Nat.le_refl _)
        cases hm : mem n.names x.names[k]
        · have Hpl : Hid (placeOf n x.names[k] = -1) := Lib.hid (by rw [hpl, hm]; rfl)
          rw [hm] at hst
          have Hst : Hid (fitL (x.names.drop k) (x.needs.drop k) (x.kids.drop k) n = (!x.needs[k] && fitL (x.names.drop (k + 1)) (x.needs.drop (k + 1)) (x.kids.drop (k + 1)) n)) := Lib.hid (by rw [hst]; rfl)
          clear hst hpl hk4 hm hkc hkr hc1 hc2
          cases hb : x.needs[k]
          · rw [hb] at cb
            have Hb := Lib.hid hb
            clear hb
            go_wp2_with fail
            (refine wp_region_later (by kernel_rfl) (by kernel_rfl) ?_; (repeat (first | go_big_quiet_step ((go_at_call 114; exact later_call (by simpa only [Hpl.out] using place_ok n x.names[k] _ _ HM.out (by omega) (Hu.out.grow (hg0.trans (later_grow _ _)))))) | quiet_step ((go_at_call 114; exact later_call (by simpa only [Hpl.out] using place_ok n x.names[k] _ _ HM.out (by omega) (Hu.out.grow (hg0.trans (later_grow _ _)))))))); refine wpQuiet_nil ?_; rintro _ ⟨x_w2, rfl⟩; have hg_w2 := later_grow wr x_w2; generalize later wr x_w2 = w2 at hg_w2 ⊢)
            (replace q1 := hg_w2.some q1; replace q2 := hg_w2.some q2; replace q3 := hg_w2.some q3; replace cb := hg_w2.some cb)
            go_wp2_with fail
            (refine wp_region_later (by kernel_rfl) (by kernel_rfl) ?_; (repeat (first | go_big_quiet_step (fail) | quiet_step (fail))); refine wpQuiet_nil ?_; rintro _ ⟨x_w3, rfl⟩; have hg_w3 := later_grow w2 x_w3; generalize later w2 x_w3 = w3 at hg_w3 ⊢)
            go_wp2_with fail
            go_roundw
            case rel => exact ⟨rfl, (by repeat (first | with_reducible exact Ext.refl _ _ | with_reducible refine Ext.trans ?_ (by assumption) | with_reducible refine Ext.drew ?_ | with_reducible refine Ext.drewN ?_ _ | with_reducible refine Ext.alloc ?_ _ | with_reducible refine Ext.setNew ?_ (by simp; done) _ | with_reducible refine Ext.setNew ?_ (by simp; omega) _)), HB1.out.grow (by repeat (first | with_reducible exact Ext.refl _ _ | with_reducible refine Ext.trans ?_ (by assumption) | with_reducible refine Ext.drew ?_ | with_reducible refine Ext.drewN ?_ _ | with_reducible refine Ext.alloc ?_ _ | with_reducible refine Ext.setNew ?_ (by simp; done) _ | with_reducible refine Ext.setNew ?_ (by simp; omega) _)), HB2.out.grow (by repeat (first | with_reducible exact Ext.refl _ _ | with_reducible refine Ext.trans ?_ (by assumption) | with_reducible refine Ext.drew ?_ | with_reducible refine Ext.drewN ?_ _ | with_reducible refine Ext.alloc ?_ _ | with_reducible refine Ext.setNew ?_ (by simp; done) _ | with_reducible refine Ext.setNew ?_ (by simp; omega) _)), k + 1, by omega, by go_num, by rw [Hs.out, Hst.out, Hb.out]; rfl⟩
            case measure => simp [intOf]; omega
          · rw [hb] at cb
            have Hb := Lib.hid hb
            clear hb
            go_wp2_with fail
            (refine wp_region_later (by kernel_rfl) (by kernel_rfl) ?_; (repeat (first | go_big_quiet_step ((go_at_call 114; exact later_call (by simpa only [Hpl.out] using place_ok n x.names[k] _ _ HM.out (by omega) (Hu.out.grow (hg0.trans (later_grow _ _)))))) | quiet_step ((go_at_call 114; exact later_call (by simpa only [Hpl.out] using place_ok n x.names[k] _ _ HM.out (by omega) (Hu.out.grow (hg0.trans (later_grow _ _)))))))); refine wpQuiet_nil ?_; rintro _ ⟨x_w2, rfl⟩; have hg_w2 := later_grow wr x_w2; generalize later wr x_w2 = w2 at hg_w2 ⊢)
            (replace q1 := hg_w2.some q1; replace q2 := hg_w2.some q2; replace q3 := hg_w2.some q3; replace cb := hg_w2.some cb)
            go_wp2_with fail
            (refine wp_region_later (by kernel_rfl) (by kernel_rfl) ?_; (repeat (first | go_big_quiet_step (fail) | quiet_step (fail))); refine wpQuiet_nil ?_; rintro _ ⟨x_w3, rfl⟩; have hg_w3 := later_grow w2 x_w3; generalize later w2 x_w3 = w3 at hg_w3 ⊢)
            go_wp2_with fail
            go_ret
            exact ⟨by rw [Hff.out, Hs.out, Hst.out, Hb.out]; rfl, (by repeat (first | with_reducible exact Ext.refl _ _ | with_reducible refine Ext.trans ?_ (by assumption) | with_reducible refine Ext.drew ?_ | with_reducible refine Ext.drewN ?_ _ | with_reducible refine Ext.alloc ?_ _ | with_reducible refine Ext.setNew ?_ (by simp; done) _ | with_reducible refine Ext.setNew ?_ (by simp; omega) _))⟩
        · obtain ⟨qq1, qq2⟩ := lb_lt Hg.out.asc hm
          obtain ⟨lb, hl3, hlb', hkid⟩ : ∃ (lb : Nat) (h : lb < n.kids.length), lb = lbound n.names x.names[k] ∧ kidOf n x.names[k] = n.kids[lb] := ⟨_, by have := Hg.out.len; omega, rfl, kidOf_yes hm (by have := Hg.out.len; omega)⟩
          have Hpl : Hid (placeOf n x.names[k] = (lb : Int)) := Lib.hid (by rw [hpl, hm, hlb']; rfl)
          rw [hm, hkid] at hst
          have Hst : Hid (fitL (x.names.drop k) (x.needs.drop k) (x.kids.drop k) n = (fitB x.kids[k] n.kids[lb] && fitL (x.names.drop (k + 1)) (x.needs.drop (k + 1)) (x.kids.drop (k + 1)) n)) := Lib.hid (by rw [hst]; rfl)
          have Hgk : Hid (Good n.kids[lb]) := Lib.hid (Hg.out.kid (List.getElem_mem _))
          rcases ((Hks2.out).ext hg0 (fun _ _ h => h)).2.2 with hh | ⟨b5, o5, rfl, _, hkr5⟩
          · rw [hh] at hl3; simp at hl3
          obtain ⟨na5, nc5, ka5, kc5, e0, e1, e2, e3, e4, hkc5⟩ := hkr5.get lb hl3
          have Hk5 : Hid (NodeR wr any n.kids[lb] (nodeV n.kids[lb] na5 nc5 ka5 kc5)) := Lib.hid ⟨_, _, _, _, rfl, hkc5⟩
          clear hst hpl hk4 hm hkc hkr hc1 hc2 hkc5 hkr5 hkid hlb' qq1 qq2
          cases hb : fitB x.kids[k] n.kids[lb]
          · have Hb := Lib.hid hb
            clear hb
            go_wp2_with fail
            (refine wp_region_later (by kernel_rfl) (by kernel_rfl) ?_; (repeat (first | go_big_quiet_step ((go_at_call 114; exact later_call (by simpa only [Hpl.out] using place_ok n x.names[k] _ _ HM.out (by omega) (Hu.out.grow (hg0.trans (later_grow _ _)))))) | quiet_step ((go_at_call 114; exact later_call (by simpa only [Hpl.out] using place_ok n x.names[k] _ _ HM.out (by omega) (Hu.out.grow (hg0.trans (later_grow _ _)))))))); refine wpQuiet_nil ?_; rintro _ ⟨x_w2, rfl⟩; have hg_w2 := later_grow wr x_w2; generalize later wr x_w2 = w2 at hg_w2 ⊢)
            (replace q1 := hg_w2.some q1; replace q2 := hg_w2.some q2; replace q3 := hg_w2.some q3; replace r4 := hg_w2.some r4; replace cn := hg_w2.some cn; replace cb := hg_w2.some cb; replace d0 := hg_w2.some d0; replace d1 := hg_w2.some d1; replace d2 := hg_w2.some d2; replace d3 := hg_w2.some d3; replace e0 := hg_w2.some e0; replace e1 := hg_w2.some e1; replace e2 := hg_w2.some e2; replace e3 := hg_w2.some e3; replace e4 := hg_w2.some e4)
            go_wp2_with fail
            (refine wp_region_later (by kernel_rfl) (by kernel_rfl) ?_; (repeat (first | go_big_quiet_step ((go_at_call 59; exact later_call (v := .bool false) ((Ih.out _ (List.getElem_mem hlk) n.kids[lb] _ _ _ (Hx.out.kid (List.getElem_mem hlk)) Hgk.out (Hkc.out.grow (hg_w2.trans (later_grow _ _))) (Hk5.out.grow (hg_w2.trans (later_grow _ _)))).mono (fun e w' h => ⟨by rw [h.1, Hb.out], h.2⟩)))) | quiet_step ((go_at_call 59; exact later_call (v := .bool false) ((Ih.out _ (List.getElem_mem hlk) n.kids[lb] _ _ _ (Hx.out.kid (List.getElem_mem hlk)) Hgk.out (Hkc.out.grow (hg_w2.trans (later_grow _ _))) (Hk5.out.grow (hg_w2.trans (later_grow _ _)))).mono (fun e w' h => ⟨by rw [h.1, Hb.out], h.2⟩)))))); refine wpQuiet_nil ?_; rintro _ ⟨x_w3, rfl⟩; have hg_w3 := later_grow w2 x_w3; generalize later w2 x_w3 = w3 at hg_w3 ⊢)
            go_wp2_with fail
            go_ret
            exact ⟨by rw [Hff.out, Hs.out, Hst.out, Hb.out]; rfl, (by repeat (first | with_reducible exact Ext.refl _ _ | with_reducible refine Ext.trans ?_ (by assumption) | with_reducible refine Ext.drew ?_ | with_reducible refine Ext.drewN ?_ _ | with_reducible refine Ext.alloc ?_ _ | with_reducible refine Ext.setNew ?_ (by simp; done) _ | with_reducible refine Ext.setNew ?_ (by simp; omega) _))⟩
          · have Hb := Lib.hid hb
            clear hb
            go_wp2_with fail
            (refine wp_region_later (by kernel_rfl) (by kernel_rfl) ?_; (repeat (first | go_big_quiet_step ((go_at_call 114; exact later_call (by simpa only [Hpl.out] using place_ok n x.names[k] _ _ HM.out (by omega) (Hu.out.grow (hg0.trans (later_grow _ _)))))) | quiet_step ((go_at_call 114; exact later_call (by simpa only [Hpl.out] using place_ok n x.names[k] _ _ HM.out (by omega) (Hu.out.grow (hg0.trans (later_grow _ _)))))))); refine wpQuiet_nil ?_; rintro _ ⟨x_w2, rfl⟩; have hg_w2 := later_grow wr x_w2; generalize later wr x_w2 = w2 at hg_w2 ⊢)
            (replace q1 := hg_w2.some q1; replace q2 := hg_w2.some q2; replace q3 := hg_w2.some q3; replace r4 := hg_w2.some r4; replace cn := hg_w2.some cn; replace cb := hg_w2.some cb; replace d0 := hg_w2.some d0; replace d1 := hg_w2.some d1; replace d2 := hg_w2.some d2; replace d3 := hg_w2.some d3; replace e0 := hg_w2.some e0; replace e1 := hg_w2.some e1; replace e2 := hg_w2.some e2; replace e3 := hg_w2.some e3; replace e4 := hg_w2.some e4)
            go_wp2_with fail
            (refine wp_region_later (by kernel_rfl) (by kernel_rfl) ?_; (repeat (first | go_big_quiet_step ((go_at_call 59; exact later_call (v := .bool true) ((Ih.out _ (List.getElem_mem hlk) n.kids[lb] _ _ _ (Hx.out.kid (List.getElem_mem hlk)) Hgk.out (Hkc.out.grow (hg_w2.trans (later_grow _ _))) (Hk5.out.grow (hg_w2.trans (later_grow _ _)))).mono (fun e w' h => ⟨by rw [h.1, Hb.out], h.2⟩)))) | quiet_step ((go_at_call 59; exact later_call (v := .bool true) ((Ih.out _ (List.getElem_mem hlk) n.kids[lb] _ _ _ (Hx.out.kid (List.getElem_mem hlk)) Hgk.out (Hkc.out.grow (hg_w2.trans (later_grow _ _))) (Hk5.out.grow (hg_w2.trans (later_grow _ _)))).mono (fun e w' h => ⟨by rw [h.1, Hb.out], h.2⟩)))))); refine wpQuiet_nil ?_; rintro _ ⟨x_w3, rfl⟩; have hg_w3 := later_grow w2 x_w3; generalize later w2 x_w3 = w3 at hg_w3 ⊢)
            go_wp2_with fail
            go_roundw
            case rel => exact ⟨rfl, (by repeat (first | with_reducible exact Ext.refl _ _ | with_reducible refine Ext.trans ?_ (by assumption) | with_reducible refine Ext.drew ?_ | with_reducible refine Ext.drewN ?_ _ | with_reducible refine Ext.alloc ?_ _ | with_reducible refine Ext.setNew ?_ (by simp; done) _ | with_reducible refine Ext.setNew ?_ (by simp; omega) _)), HB1.out.grow (by repeat (first | with_reducible exact Ext.refl _ _ | with_reducible refine Ext.trans ?_ (by assumption) | with_reducible refine Ext.drew ?_ | with_reducible refine Ext.drewN ?_ _ | with_reducible refine Ext.alloc ?_ _ | with_reducible refine Ext.setNew ?_ (by simp; done) _ | with_reducible refine Ext.setNew ?_ (by simp; omega) _)), HB2.out.grow (by repeat (first | with_reducible exact Ext.refl _ _ | with_reducible refine Ext.trans ?_ (by assumption) | with_reducible refine Ext.drew ?_ | with_reducible refine Ext.drewN ?_ _ | with_reducible refine Ext.alloc ?_ _ | with_reducible refine Ext.setNew ?_ (by simp; done) _ | with_reducible refine Ext.setNew ?_ (by simp; omega) _)), k + 1, by omega, by go_num, by rw [Hs.out, Hst.out, Hb.out]; rfl⟩
            case measure => simp [intOf]; omega
      · go_wp2_with fail
        go_ret
        exact ⟨by rw [Hff.out, Hs.out, fitL_end n hlt]; rfl, hg0⟩

theorem fits_ok : ∀ x, FitsOk x := Shp.ind' FitsOk fits_of

end Go.Proofs.Ytchiakeceiefdaa

/-
  The steps of a region that draws its order and makes memory that is opaque.
-/
namespace Go.Proofs.Ytchiakeceiefdaa
open Go Go.RowKit

section
variable {P : Program} {ops : Array Oper} {Vs : Nat → Option (Value → World → Prop)} {w : World} {Q : Act → World → Prop}

theorem drew_grow {w w' : World} (h : Grow w.drew w') : Grow w w' := ((Ext.refl nil w).drew).trans h

/-- An operation that reads. -/
theorem wpStab_read {o : Oper} {rest : List Oper} {k : Nat} {a : Act} {E : Env} (c : Value) (hw : Region.wanted o (yielded ops a.tmps) = true) (hV : Vs k = none)
    (h : ∀ x : Later w, valAt Grow P o a (later w x) c) (h2 : wpStab P ops Grow Vs (fun w' => Grow w.drew w') Q rest (k + 1) (a.put o.dst c) E) :
    wpStab P ops Grow Vs (fun w' => Grow w.drew w') Q (o :: rest) k a E := by
  unfold wpStab
  rw [if_pos hw]
  unfold does
  rw [hV]
  exact ⟨c, fun w' hc => h ⟨w', drew_grow hc.1⟩, h2⟩

/-- An operation that hands back something opaque. -/
theorem wpStab_made {o : Oper} {rest : List Oper} {k : Nat} {a : Act} {E : Env} (V : Value → World → Prop) (hw : Region.wanted o (yielded ops a.tmps) = true) (hV : Vs k = some V)
    (h : ∀ x : Later w, (∀ e ∈ o.after, Region.binds .any e = true → E e.on (later w x)) → stabAt Grow P o a (later w x) V)
    (h2 : ∀ v, wpStab P ops Grow Vs (fun w' => Grow w.drew w') Q rest (k + 1) (a.put o.dst v) (E.upd k (V v))) :
    wpStab P ops Grow Vs (fun w' => Grow w.drew w') Q (o :: rest) k a E := by
  unfold wpStab
  rw [if_pos hw]
  unfold does
  rw [hV]
  exact ⟨fun w' hc => h ⟨w', drew_grow hc.1⟩ hc.2, fun v w' _ _ _ => h2 v⟩

/-- The same, and what is known of it can be looked into. -/
theorem wpStab_made' {o : Oper} {rest : List Oper} {k : Nat} {a : Act} {E : Env} (V : Value → World → Prop) (hw : Region.wanted o (yielded ops a.tmps) = true) (hV : Vs k = some V)
    (h : ∀ x : Later w, (∀ e ∈ o.after, Region.binds .any e = true → E e.on (later w x)) → stabAt Grow P o a (later w x) V)
    (h2 : ∀ v, (∃ x : Later w, V v (later w x)) → wpStab P ops Grow Vs (fun w' => Grow w.drew w') Q rest (k + 1) (a.put o.dst v) (E.upd k (V v))) :
    wpStab P ops Grow Vs (fun w' => Grow w.drew w') Q (o :: rest) k a E := by
  unfold wpStab
  rw [if_pos hw]
  unfold does
  rw [hV]
  exact ⟨fun w' hc => h ⟨w', drew_grow hc.1⟩ hc.2, fun v w' hc _ hv => h2 v ⟨⟨w', drew_grow hc⟩, hv⟩⟩

theorem wpStab_end' {k : Nat} {a : Act} {E : Env} (h : ∀ w', Grow w w' → (∀ j, E j w') → Q a w') : wpStab P ops Grow Vs (fun w' => Grow w.drew w') Q [] k a E :=
  fun w' hc hE => h w' (drew_grow hc) hE

/-- An operation that is passed over. -/
theorem wpStab_skip {o : Oper} {rest : List Oper} {k : Nat} {a : Act} {E : Env} (hw : Region.wanted o (yielded ops a.tmps) = false)
    (h2 : wpStab P ops Grow Vs (fun w' => Grow w.drew w') Q rest (k + 1) (a.put o.dst undef) E) :
    wpStab P ops Grow Vs (fun w' => Grow w.drew w') Q (o :: rest) k a E := by
  unfold wpStab
  rw [hw, if_neg (by simp)]
  exact h2

theorem wpStab_const {o : Oper} {rest : List Oper} {k : Nat} {a : Act} {E : Env} (c : Value) (hw : Region.wanted o (yielded ops a.tmps) = true) (hV : Vs k = some (fun v _ => v = c))
    (h : ∀ x : Later w, (∀ e ∈ o.after, Region.binds .any e = true → E e.on (later w x)) → stabAt Grow P o a (later w x) (fun v _ => v = c))
    (h2 : wpStab P ops Grow Vs (fun w' => Grow w.drew w') Q rest (k + 1) (a.put o.dst c) (E.upd k (fun _ => True))) :
    wpStab P ops Grow Vs (fun w' => Grow w.drew w') Q (o :: rest) k a E := by
  unfold wpStab
  rw [if_pos hw]
  unfold does
  rw [hV]
  refine ⟨fun w' hc => h ⟨w', drew_grow hc.1⟩ hc.2, fun v w' _ _ hv => ?_⟩
  subst hv
  have : (fun (u : Value) (_ : World) => u = v) v = (fun _ => True) := by funext _; simp
  rw [this]
  exact h2

theorem wpStab_end {k : Nat} {a : Act} {E : Env} (h : ∀ w', Grow w w' → Q a w') : wpStab P ops Grow Vs (fun w' => Grow w.drew w') Q [] k a E :=
  fun w' hc _ => h w' (drew_grow hc)

/-- A call that hands back something opaque. -/
theorem stabAt_call {o : Oper} {a : Act} {w : World} {V : Value → World → Prop} {f : FuncId} {args : Array Value} (h : (execOp a.eval o).run P w = .ok (.enter f args) w)
    (hc : Calls P f args w fun e w' => ∃ v, e = .returned v ∧ Grow w w' ∧ V v w') : stabAt Grow P o a w V := by
  unfold stabAt
  rw [h]
  exact ⟨rfl, hc⟩

theorem valAt_of {o : Oper} {a : Act} {w : World} {c : Value} (h : (execOp a.eval o).run P w = .ok (.value c) w) : valAt Grow P o a w c := by
  unfold valAt
  rw [h]
  exact ⟨rfl, Ext.refl _ _⟩
end
end Go.Proofs.Ytchiakeceiefdaa

/-
  Reading operations of a stab walk by the kit's quick step.
-/
namespace Go.Proofs.Ytchiakeceiefdaa
open Go Go.RowKit

/-- An operation that enters no function. -/
def easy (o : Oper) : Bool :=
  match o.op with
  | .move _ | .assign _ | .pick _ _ _ | .load _ _ | .fieldAddr _ _ _ | .indexAddr _ _ _ | .index _ _ _ | .field _ _ _ | .extract _ _ | .binOp _ _ _ _ _ | .unOp _ _ _ | .convert _ _ _ | .slice _ _ _ _ _ | .build _ _ => true
  | .call { callee := .builtin .len, args := _, argTypes := _ } => true
  | _ => false

theorem pureVal_run {P : Program} (s : Sem Value) (w w' : World) (f : FuncId) (args : Array Value) : (do pure (Next.value (← s)) : Sem Next).run P w ≠ .ok (.enter f args) w' := by
  intro h
  have : (do pure (Next.value (← s)) : Sem Next).run P w = (s.run P w).andThen fun a w' => .ok (.value a) w' := by
    simp [Result.andThen]
  rw [this] at h
  cases hs : s.run P w with
  | ok a w1 => rw [hs] at h; simp [Result.andThen] at h
  | halt x w1 => rw [hs] at h; simp [Result.andThen] at h

theorem noEnter {P : Program} {o : Oper} (he : easy o = true) (ρ : Operand → Value) (w w' : World) (f : FuncId) (args : Array Value) : (execOp ρ o).run P w ≠ .ok (.enter f args) w' := by
  obtain ⟨dst, op, type, pos, after, guard⟩ := o
  cases op <;> simp only [easy, Bool.false_eq_true] at he
  case move x => intro h; simp [execOp] at h
  case assign x => intro h; simp [execOp] at h
  case pick c a b =>
    intro h
    have : (execOp ρ ⟨dst, .pick c a b, type, pos, after, guard⟩).run P w = ((asBool (ρ c)).run P w).andThen fun q w' => .ok (.value (if q then ρ a else ρ b)) w' := by
      simp [execOp, Result.andThen]
    rw [this] at h
    cases hs : (asBool (ρ c)).run P w with
    | ok a w1 => rw [hs] at h; simp [Result.andThen] at h
    | halt x w1 => rw [hs] at h; simp [Result.andThen] at h
  case load t a => exact pureVal_run _ _ _ _ _
  case fieldAddr => exact pureVal_run _ _ _ _ _
  case indexAddr => exact pureVal_run _ _ _ _ _
  case index => exact pureVal_run _ _ _ _ _
  case field => exact pureVal_run _ _ _ _ _
  case extract => exact pureVal_run _ _ _ _ _
  case binOp => exact pureVal_run _ _ _ _ _
  case unOp => exact pureVal_run _ _ _ _ _
  case convert => exact pureVal_run _ _ _ _ _
  case slice => exact pureVal_run _ _ _ _ _
  case build => exact pureVal_run _ _ _ _ _
  case call c =>
    obtain ⟨callee, args', tys⟩ := c
    cases callee with
    | value x => simp at he
    | invoke r m => simp at he
    | builtin b =>
      cases b <;> simp at he
      intro h
      simp [execOp, resolve, invoke, builtin] at h
      cases hs : (Builtin.len_ tys type (Array.map ρ args')).run P w with
      | ok a w1 => rw [hs] at h; simp [Result.andThen] at h
      | halt x w1 => rw [hs] at h; simp [Result.andThen] at h

section
variable {P : Program} {ops : Array Oper} {Vs : Nat → Option (Value → World → Prop)} {w : World} {Q : Act → World → Prop}

theorem wpStab_quiet {o : Oper} {rest : List Oper} {k : Nat} {a : Act} {E : Env} (he : easy o = true) (hw : Region.wanted o (yielded ops a.tmps) = true) (hV : Vs k = none)
    (h : ∀ K : Act → Prop, (∀ a, wpStab P ops Grow Vs (fun w' => Grow w.drew w') Q rest (k + 1) a E → K a) → o.quiet P a (fun w' => ∃ x, w' = later w x) K) :
    wpStab P ops Grow Vs (fun w' => Grow w.drew w') Q (o :: rest) k a E := by
  unfold wpStab
  rw [if_pos hw]
  unfold does
  rw [hV]
  obtain ⟨v, h1, h2⟩ := h _ (fun _ h => h)
  refine ⟨v, fun w' hc => ?_, h2⟩
  have h3 := h1 w' ⟨⟨w', drew_grow hc.1⟩, rfl⟩
  unfold Oper.quietAt at h3
  unfold valAt
  have hne := noEnter (P := P) he a.eval w'
  generalize (execOp a.eval o).run P w' = r at *
  cases r with
  | ok n w2 =>
    cases n <;> simp only [Oper.quietUpon] at h3 <;> simp only [valUpon]
    case value u => exact ⟨h3.2, by rw [h3.1]; exact Ext.refl _ _⟩
    case skip => exact ⟨h3.2, by rw [h3.1]; exact Ext.refl _ _⟩
    case enter f args => exact absurd rfl (hne w2 f args)
  | halt x w2 => simp only [Oper.quietUpon] at h3
end

end Go.Proofs.Ytchiakeceiefdaa
