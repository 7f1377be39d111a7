/-
  Texts of this claim, joined: Mark, MarkS, MarkN, HeldN, ShapeWalk, SpecNode, ShapeSpec, Fits, Stab, Easy, Misfit, NCells, Append, Rep2, LawSz, Elm, MarkT, LawEq.
-/
import Derived.BigQuiet
import Derived.Laws.AppendOwn
import Derived.Laws.AppendOwnNone
import Derived.Laws.OwnMore
import Derived.Test.YtmeobmegnneegaaGiA

/-
  Marks: the plain law, and the walks of markText, markStringS, heldStringS.
-/
namespace Go.Proofs.Ytmeobmegnneegaa
open Go.RowKit

/-- The digits of a number, none for zero. -/
def mdig : Nat → List UInt8
  | 0 => []
  | k + 1 => mdig ((k + 1) / 10) ++ dig1 ((k + 1) % 10)
decreasing_by omega
theorem mdig_pos {k : Nat} (h : 0 < k) : mdig k = mdig (k / 10) ++ dig1 (k % 10) := by
  cases k with
  | zero => omega
  | succ k => rw [mdig]
/-- The mark of a number. -/
def mtxt (k : Nat) : ByteArray := txt (109 :: mdig k)

theorem txt_append (l m : List UInt8) : txt l ++ txt m = txt (l ++ m) := by
  apply ByteArray.ext
  show ((ByteArray.mk l.toArray) ++ (ByteArray.mk m.toArray)).data = (l ++ m).toArray
  simp

def mkS : Nat → Nat → List ByteArray
  | _, 0 => []
  | k, n + 1 => mtxt k :: mkS (k + 1) n
theorem mkS_len (k n : Nat) : (mkS k n).length = n := by
  induction n generalizing k with
  | zero => rfl
  | succ n ih => simp [mkS, ih]
theorem mkS_get (k n i : Nat) (h : i < (mkS k n).length) : (mkS k n)[i] = mtxt (k + i) := by
  induction n generalizing k i with
  | zero => simp [mkS] at h
  | succ n ih =>
    cases i with
    | zero => simp [mkS]
    | succ i => simp only [mkS, List.getElem_cons_succ]; rw [ih]; congr 1; omega

theorem dig1_size (k : Nat) : (dig1 k).length = 1 := rfl
theorem mdig_len (k : Nat) : (mdig k).length ≤ k := by
  induction k using Nat.strongRecOn with
  | ind k ih =>
    cases k with
    | zero => simp [mdig]
    | succ k =>
      rw [mdig, List.length_append, dig1_size]
      have := ih ((k + 1) / 10) (by omega)
      omega
theorem txt_size (l : List UInt8) : (txt l).size = l.length := by show (txt l).data.size = _; simp [txt]
theorem mtxt_size (k : Nat) (h : k ≤ 1000000000) : (mtxt k).size ≤ big := by
  have h1 : (mtxt k).size = 1 + (mdig k).length := by
    show (txt (109 :: mdig k)).data.size = _
    simp [txt]; omega
  have := mdig_len k
  unfold big; omega

def MtRel (w : World) (k : Nat) (t0 t3 : Value) (wr : World) : Prop := Grow w wr ∧ ∃ (j : Nat) (s : ByteArray) (l : List UInt8), j ≤ k ∧ t0 = .int .i64 (j : Int) ∧ t3 = .string s ∧ s = txt l ∧ mdig k = mdig j ++ l

set_option maxRecDepth 100000 in
set_option maxHeartbeats 1000000 in
theorem markText_ok (k : Nat) (w : World) (h1 : 0 < k) (h2 : k ≤ 1000000000) :
    Calls Try.prog 117 #[.int .i64 (k : Int)] w fun e w' => e = .returned (.string (mtxt k)) ∧ Grow w w' := by
  go_enter Try.func117, Try.ntmps117
  go_wp2_with fail
  go_loopw [0, 3] (fun t0 t3 wr => MtRel w k t0 t3 wr) (fun t0 _ _ => (intOf t0).toNat)
  case atStart => exact ⟨Ext.refl _ _, k, _, [], Nat.le_refl _, rfl, rfl, rfl, by simp⟩
  case round =>
    obtain ⟨hg, j, s, l, hj, rfl, rfl, hs, hd⟩ := hrel
    have Hd := Lib.hid hd
    have Hs := Lib.hid hs
    have hsz : s.size ≤ 1000000000 := by
      have e1 := congrArg List.length hd
      rw [List.length_append] at e1
      have e2 := mdig_len k
      rw [hs, txt_size]; omega
    have hz1 : (txt (dig1 (j % 10))).size ≤ 1 := by rw [txt_size]; exact Nat.le_refl _
    clear hd hs
    by_cases h0 : 0 < j
    · have hcv := conv1 (j % 10) (by omega) wr
      rw [show (((j % 10 : Nat)) : Int) = (j : Int) % 10 by omega] at hcv
      go_wp2_with fail
      go_roundw
      case rel => exact ⟨hg.alloc _, j / 10, _, dig1 (j % 10) ++ l, by omega, by go_num, rfl, by rw [← txt_append, Hs.out], by rw [Hd.out, mdig_pos h0]; simp⟩
      case measure => simp [intOf]; omega
    · go_wp2_with fail
      go_ret
      exact ⟨by
        have h2 := Hd.out
        rw [show j = 0 by omega] at h2
        simp only [mdig, List.nil_append] at h2
        rw [mtxt, h2, Hs.out]
        exact congrArg (fun x => Ending.returned (Value.string x)) (txt_append [109] l), hg⟩

end Go.Proofs.Ytmeobmegnneegaa

/-
  The walks of markStringS and heldStringS.
-/
namespace Go.Proofs.Ytmeobmegnneegaa
open Go.RowKit

/-- Blocks of a list. -/
def inl (fp : List Nat) (k : Nat) : Prop := k ∈ fp

/-- What turns in some of one's blocks leaves all of them one's own. -/
theorem Free.sub {B : Nat} {w w' : World} {fp fx : List Nat} (h : Free B w fp) (he : Ext (inl fx) w w') (hx : ∀ b ∈ fx, ∀ o, w'.frozen? ⟨b, o, none⟩ = false) : Free B w' fp := by
  refine ⟨h.1, fun b hb => ⟨(h.2 b hb).1, Nat.lt_of_lt_of_le (h.2 b hb).2.1 he.size, fun o => ?_⟩⟩
  by_cases hbx : b ∈ fx
  · exact hx b hbx o
  · rw [he.frozen (p := ⟨b, o, none⟩) (h.2 b hb).2.1 hbx]; exact (h.2 b hb).2.2 o

theorem Grow.toX {X : Nat → Prop} {w w' : World} (h : Grow w w') : Ext X w w' := h.mono (fun _ h => False.elim h)

/-- A row in block b from place o on: its n cells are there, and it is not frozen. -/
def RowAt (w : World) (b o n : Nat) : Prop := b < w.heap.size ∧ (∀ j, j < n → ∃ u, w.cell? ⟨b, o + j, none⟩ = some u) ∧ ∀ j, w.frozen? ⟨b, j, none⟩ = false
theorem RowAt.ext {X : Nat → Prop} {w w' : World} {b o n : Nat} (h : Ext X w w') (hx : ¬ X b) (hr : RowAt w b o n) : RowAt w' b o n := by
  obtain ⟨h1, h2, h3⟩ := hr
  refine ⟨Nat.lt_of_lt_of_le h1 h.size, fun j hj => ?_, fun j => ?_⟩
  · rw [h.cell (p := ⟨b, o + j, none⟩) h1 hx]; exact h2 j hj
  · rw [h.frozen (p := ⟨b, j, none⟩) h1 hx]; exact h3 j
theorem RowAt.setCell {w : World} {b o n : Nat} (hr : RowAt w b o n) (p : Addr) (v : Value) : RowAt (w.setCell p v) b o n := by
  obtain ⟨h1, h2, h3⟩ := hr
  refine ⟨by rw [size_setCell]; exact h1, fun j hj => cell?_setCell_some (h2 j hj).choose_spec, fun j => ?_⟩
  rw [World.frozen?_setCell]; exact h3 j

/-- What marking text k, k + 1 .. leaves of texts. -/
def mkMix (k : Nat) (xs : List ByteArray) (i : Nat) : List ByteArray := mkS k i ++ xs.drop i

set_option maxHeartbeats 1000000 in
theorem markStringS_ok (a : Option Addr) (c : Nat) (xs : List ByteArray) (fp : List Nat) (B k : Nat) (w : World) (hF : StrsF w a c xs fp) (hfr : Free B w fp) (h1 : 0 < k) (h2 : k + xs.length ≤ 1000000000) :
    Calls Try.prog 86 #[.slice a xs.length c, .int .i64 (k : Int)] w fun e w' => e = .returned (.int .i64 ((k + xs.length : Nat) : Int)) ∧ Ext (inl fp) w w' ∧ Free B w' fp ∧ StrsF w' a c (mkS k xs.length) fp := by
  obtain ⟨hle, hlen, hbig, hcc⟩ := hF
  rcases hcc with ⟨rfl, rfl⟩ | ⟨b, o, hne, rfl, rfl, hcc⟩
  · go_enter Try.func86, Try.ntmps86
    go_wp2_with fail
    go_loopw [1, 5] (fun t1 i wr => t1 = .int .i64 k ∧ i = .int .i64 0 ∧ wr = w) (fun _ _ _ => 0)
    case atStart => exact ⟨rfl, rfl, rfl⟩
    case round =>
      obtain ⟨rfl, rfl, rfl⟩ := hrel
      go_wp2_with fail
      go_ret
      exact ⟨by simp, Ext.refl _ _, hfr, ⟨hle, hlen, by simp [mkS], .inl ⟨rfl, rfl⟩⟩⟩
  · have hl : xs.length ≤ 1000000000 := by omega
    have hrow : RowAt w b o xs.length := ⟨(hfr.2 b (by simp)).2.1, fun j hj => ⟨_, hcc j hj⟩, (hfr.2 b (by simp)).2.2⟩
    have Hle := Lib.hid hle
    have Hlen := Lib.hid hlen
    have Hne := Lib.hid hne
    have Hfr := Lib.hid hfr
    clear hle hlen hbig hne hfr hcc
    go_enter Try.func86, Try.ntmps86
    go_wp2_with fail
    go_loopw [1, 5] (fun t1 i wr => ∃ j : Nat, j ≤ xs.length ∧ i = .int .i64 j ∧ t1 = .int .i64 ((k + j : Nat) : Int) ∧ Ext (inl [b]) w wr ∧ RowAt wr b o xs.length ∧ Hid (∀ t, t < j → wr.cell? ⟨b, o + t, none⟩ = some (.string (mtxt (k + t))))) (fun _ i _ => xs.length - (intOf i).toNat)
    case atStart => exact ⟨0, Nat.zero_le _, rfl, rfl, Ext.refl _ _, hrow, Lib.hid (fun t ht => absurd ht (by omega))⟩
    case round =>
      obtain ⟨j, hj, rfl, rfl, hg, hr, Hm⟩ := hrel
      have Hg := Lib.hid hg
      have Hr := Lib.hid hr
      clear hg hr
      by_cases hlt : j < xs.length
      · go_wp2_with fail
        refine (markText_ok (k + j) _ (by omega) (by omega)).mono ?_
        rintro e w2 ⟨rfl, hg2⟩
        have hr2 := Hr.out.ext hg2 (fun h => h)
        have hfz := hr2.2.2
        obtain ⟨u, hu⟩ := hr2.2.1 j hlt
        have Hr2 := Lib.hid hr2
        have Hu := Lib.hid hu
        clear hr2
        go_wp2_with fail
        go_roundw
        case rel =>
          refine ⟨j + 1, by omega, by go_num, by go_num, (Hg.out.trans hg2.toX).setIn (p := ⟨b, o + j, none⟩) (by simp [inl]) _, Hr2.out.setCell _ _, Lib.hid (fun t ht => ?_)⟩
          rw [cell_set Hu.out]
          by_cases e : t = j
          · subst e; rw [if_pos rfl]
          · have hne : ¬ (⟨b, o + t, none⟩ : Addr) = ⟨b, o + j, none⟩ := by intro h'; have := congrArg Addr.off h'; simp at this; exact e this
            rw [if_neg hne]
            exact hg2.some (Hm.out t (by omega))
        case measure => simp [intOf]; omega
      · go_wp2_with fail
        go_ret
        have hx := Hr.out
        refine ⟨by rw [show j = xs.length by omega]; rfl, Hg.out, Hfr.out.sub Hg.out (fun b' hb' o' => by simp at hb'; subst hb'; exact hx.2.2 o'), ?_⟩
        refine ⟨by rw [mkS_len]; exact Hle.out, by rw [mkS_len]; exact Hlen.out, ?_, .inr ⟨b, o, ?_, rfl, rfl, fun i hi => ?_⟩⟩
        · intro x hx
          obtain ⟨i, hi, rfl⟩ := List.getElem_of_mem hx
          rw [mkS_get]; exact mtxt_size _ (by rw [mkS_len] at hi; omega)
        · intro h
          have := congrArg List.length h
          rw [mkS_len] at this
          exact Hne.out (List.length_eq_zero_iff.1 this)
        · rw [mkS_get]; rw [mkS_len] at hi; exact Hm.out i (by omega)

set_option maxHeartbeats 1000000 in
theorem heldStringS_ok (a : Option Addr) (c n k : Nat) (w : World) (ha : StrsR w any a c (mkS k n)) (h1 : 0 < k) (h2 : k + n ≤ 1000000000) :
    Calls Try.prog 96 #[.slice a n c, .int .i64 (k : Int)] w fun e w' => e = .returned (.int .i64 ((k + n : Nat) : Int)) ∧ Grow w w' := by
  have Ha := Lib.hid ha
  clear ha
  go_enter Try.func96, Try.ntmps96
  go_wp2_with fail
  go_loopw [1, 4, 5] (fun t1 t4 i wr => t4 = .int .i64 0 ∧ Grow w wr ∧ ∃ j : Nat, j ≤ n ∧ i = .int .i64 j ∧ t1 = .int .i64 ((k + j : Nat) : Int)) (fun _ _ i _ => n - (intOf i).toNat)
  case atStart => exact ⟨rfl, Ext.refl _ _, 0, Nat.zero_le _, rfl, rfl⟩
  case round =>
    obtain ⟨rfl, hg, j, hj, rfl, rfl⟩ := hrel
    by_cases hlt : j < n
    · obtain ⟨_, _, _, ha4⟩ := (Ha.out).grow hg
      rcases ha4 with hh | ⟨b, o, rfl, _, hca⟩
      · have := congrArg List.length hh; rw [mkS_len] at this; simp at this; omega
      have hx := hca j (by rw [mkS_len]; exact hlt)
      rw [mkS_get] at hx
      clear hca Ha
      go_wp2_with fail
      (refine wp_region_later (by kernel_rfl) (by kernel_rfl) ?_; (repeat (first | go_big_quiet_step ((go_at_call 117; exact later_call (v := .string (mtxt (k + j))) (markText_ok (k + j) _ (by omega) (by omega)))) | quiet_step ((go_at_call 117; exact later_call (v := .string (mtxt (k + j))) (markText_ok (k + j) _ (by omega) (by omega)))))); refine wpQuiet_nil ?_; rintro _ ⟨x_w2, rfl⟩; have hg_w2 := later_grow wr x_w2; generalize later wr x_w2 = w2 at hg_w2 ⊢)
      go_wp2_with fail
      go_roundw
      case rel => exact ⟨rfl, hg.trans hg_w2, j + 1, by omega, by go_num, by go_num⟩
      case measure => simp [intOf]; omega
    · go_wp2_with fail
      go_ret
      exact ⟨by rw [show j = n by omega]; rfl, hg⟩

theorem markText_i (k : Nat) (i : Int) (w : World) (hi : i = (k : Int)) (h1 : 0 < k) (h2 : k ≤ 1000000000) :
    Calls Try.prog 117 #[.int .i64 i] w fun e w' => e = .returned (.string (mtxt k)) ∧ Grow w w' := by
  subst hi; exact markText_ok k w h1 h2
theorem markStringS_i (a : Option Addr) (c : Nat) (xs : List ByteArray) (fp : List Nat) (B k : Nat) (i : Int) (w : World) (hi : i = (k : Int)) (hF : StrsF w a c xs fp) (hfr : Free B w fp) (h1 : 0 < k) (h2 : k + xs.length ≤ 1000000000) :
    Calls Try.prog 86 #[.slice a xs.length c, .int .i64 i] w fun e w' => e = .returned (.int .i64 ((k + xs.length : Nat) : Int)) ∧ Ext (inl fp) w w' ∧ Free B w' fp ∧ StrsF w' a c (mkS k xs.length) fp := by
  subst hi; exact markStringS_ok a c xs fp B k w hF hfr h1 h2
theorem heldStringS_i (a : Option Addr) (c n k : Nat) (i : Int) (w : World) (hi : i = (k : Int)) (ha : StrsR w any a c (mkS k n)) (h1 : 0 < k) (h2 : k + n ≤ 1000000000) :
    Calls Try.prog 96 #[.slice a n c, .int .i64 i] w fun e w' => e = .returned (.int .i64 ((k + n : Nat) : Int)) ∧ Grow w w' := by
  subst hi; exact heldStringS_ok a c n k w ha h1 h2

end Go.Proofs.Ytmeobmegnneegaa

/-
  Marks of nodes: the plain law and the walk of markNodeS, markNode.
-/
namespace Go.Proofs.Ytmeobmegnneegaa
open Go.RowKit

mutual
def cntK : Nd → Nat
  | ⟨_, _, _, names, kids⟩ => 3 + names.length + cntL kids
def cntL : List Nd → Nat
  | [] => 0
  | x :: xs => cntK x + cntL xs
end
mutual
def mkK : Nat → Nd → Nd
  | k, ⟨_, _, _, names, kids⟩ => ⟨k, (k + 1 : Nat), mtxt (k + 2), mkS (k + 3) names.length, mkL (k + 3 + names.length) kids⟩
def mkL : Nat → List Nd → List Nd
  | _, [] => []
  | k, x :: xs => mkK k x :: mkL (k + cntK x) xs
end
theorem cntK_eq (n : Nd) : cntK n = 3 + n.names.length + cntL n.kids := by cases n; simp [cntK]
theorem mkK_eq (k : Nat) (n : Nd) : mkK k n = ⟨k, (k + 1 : Nat), mtxt (k + 2), mkS (k + 3) n.names.length, mkL (k + 3 + n.names.length) n.kids⟩ := by cases n; simp [mkK]
theorem mkL_len (k : Nat) (l : List Nd) : (mkL k l).length = l.length := by
  induction l generalizing k with
  | nil => rfl
  | cons x l ih => simp [mkL, ih]
theorem mkL_snoc (k : Nat) (l : List Nd) (x : Nd) : mkL k (l ++ [x]) = mkL k l ++ [mkK (k + cntL l) x] := by
  induction l generalizing k with
  | nil => simp [mkL, cntL]
  | cons a l ih => simp only [List.cons_append, mkL, ih, cntL]; rw [Nat.add_assoc]
theorem cntL_len (l : List Nd) : l.length ≤ cntL l := by
  induction l with
  | nil => simp
  | cons a l ih => simp only [cntL, List.length_cons, cntK_eq]; omega
theorem cntL_snoc (l : List Nd) (x : Nd) : cntL (l ++ [x]) = cntL l + cntK x := by
  induction l with
  | nil => simp [cntL]
  | cons a l ih => simp only [List.cons_append, cntL, ih]; omega
theorem cntL_take_le (l : List Nd) (j : Nat) : cntL (l.take j) ≤ cntL l := by
  induction l generalizing j with
  | nil => simp
  | cons a l ih => cases j with
    | zero => simp [cntL]
    | succ j => simp only [List.take_succ_cons, cntL]; have := ih j; omega

theorem KidsF.append {w : World} {b : Nat} : ∀ {l m : List Nd} {o : Nat} {f g : List Nat}, KidsF w b o l f → KidsF w b (o + l.length * 5) m g → KidsF w b o (l ++ m) (f ++ g)
  | [], m, o, f, g, h1, h2 => by
    unfold KidsF at h1; subst h1; simpa using h2
  | x :: l, m, o, f, g, h1, h2 => by
    unfold KidsF at h1
    obtain ⟨f1, f2, rfl, hx, hr⟩ := h1
    rw [List.cons_append]; unfold KidsF
    refine ⟨f1, f2 ++ g, by simp, hx, KidsF.append hr ?_⟩
    rw [show o + 5 + l.length * 5 = o + (x :: l).length * 5 by simp; omega]
    exact h2
theorem KidsF.split {w : World} {b : Nat} : ∀ {l m : List Nd} {o : Nat} {fp : List Nat}, KidsF w b o (l ++ m) fp → ∃ f g, fp = f ++ g ∧ KidsF w b o l f ∧ KidsF w b (o + l.length * 5) m g
  | [], m, o, fp, h => ⟨[], fp, rfl, by unfold KidsF; rfl, by simpa using h⟩
  | x :: l, m, o, fp, h => by
    rw [List.cons_append] at h; unfold KidsF at h
    obtain ⟨f1, f2, rfl, hx, hr⟩ := h
    obtain ⟨f, g, rfl, h1, h2⟩ := KidsF.split hr
    rw [show o + 5 + l.length * 5 = o + (x :: l).length * 5 by simp; omega] at h2
    exact ⟨f1 ++ f, g, by simp, by unfold KidsF; exact ⟨f1, f, rfl, hx, h1⟩, h2⟩

theorem set_ne (w : World) (b p b' q : Nat) (v : Value) (h : b' ≠ b ∨ q ≠ p) : (w.setCell ⟨b, p, none⟩ v).cell? ⟨b', q, none⟩ = w.cell? ⟨b', q, none⟩ :=
  World.cell?_setCell_other _ _ _ _ (by intro e; cases e; rcases h with h | h <;> exact h rfl)

def MkOk (n : Nd) : Prop := ∀ (a : Option Addr) (c : Nat) (fp : List Nat) (B k : Nat) (w : World), NodesF w a c n.kids fp → Free B w fp → 0 < k → k + cntL n.kids ≤ 1000000000 →
    Calls Try.prog 87 #[.slice a n.kids.length c, .int .i64 (k : Int)] w fun e w' => e = .returned (.int .i64 ((k + cntL n.kids : Nat) : Int)) ∧ Ext (inl fp) w w' ∧ Free B w' fp ∧ NodesF w' a c (mkL k n.kids) fp

set_option maxRecDepth 100000 in
set_option maxHeartbeats 4000000 in
theorem markNodeS_of (l : List Nd) (ih : ∀ x ∈ l, MkOk x) (a : Option Addr) (c : Nat) (fp : List Nat) (B k : Nat) (w : World) (hF : NodesF w a c l fp) (hfr : Free B w fp) (h1 : 0 < k) (h2 : k + cntL l ≤ 1000000000) (hl : l.length ≤ 1000000000) :
    Calls Try.prog 87 #[.slice a l.length c, .int .i64 (k : Int)] w fun e w' => e = .returned (.int .i64 ((k + cntL l : Nat) : Int)) ∧ Ext (inl fp) w w' ∧ Free B w' fp ∧ NodesF w' a c (mkL k l) fp := by
  obtain ⟨hle, hlen, hcc⟩ := hF
  rcases hcc with ⟨rfl, rfl⟩ | ⟨b, o, f, hne, rfl, rfl, hcc⟩
  · go_enter Try.func87, Try.ntmps87
    go_wp2_with fail
    go_loopw [1, 5] (fun t1 i wr => t1 = .int .i64 k ∧ i = .int .i64 0 ∧ wr = w) (fun _ _ _ => 0)
    case atStart => exact ⟨rfl, rfl, rfl⟩
    case round =>
      obtain ⟨rfl, rfl, rfl⟩ := hrel
      go_wp2_with fail
      go_ret
      exact ⟨by simp [cntL], Ext.refl _ _, hfr, ⟨by simp [mkL], by simp [mkL], .inl ⟨rfl, rfl⟩⟩⟩
  · have Hle := Lib.hid hle
    have Hlen := Lib.hid hlen
    have Hne := Lib.hid hne
    have Ih := Lib.hid ih
    have hK0 : KidsF w b o (mkL k (l.take 0) ++ l.drop 0) f := by simpa [mkL] using hcc
    clear hle hlen hne hcc ih
    go_enter Try.func87, Try.ntmps87
    go_wp2_with fail
    go_loopw [1, 5] (fun t1 i wr => ∃ j : Nat, j ≤ l.length ∧ i = .int .i64 j ∧ t1 = .int .i64 ((k + cntL (l.take j) : Nat) : Int) ∧ Ext (inl (b :: f)) w wr ∧ Free B wr (b :: f) ∧ KidsF wr b o (mkL k (l.take j) ++ l.drop j) f) (fun _ i _ => l.length - (intOf i).toNat)
    case atStart => exact ⟨0, Nat.zero_le _, rfl, rfl, Ext.refl _ _, hfr, hK0⟩
    case round =>
      obtain ⟨j, hj, rfl, rfl, hg, hfr', hK⟩ := hrel
      have hct := cntL_take_le l j
      have Hg := Lib.hid hg
      have Hfr := Lib.hid hfr'
      have HK := Lib.hid hK
      clear hg hfr' hK hfr hK0
      by_cases hlt : j < l.length
      · obtain ⟨x, hx⟩ : ∃ x, x = l[j] := ⟨_, rfl⟩
        have hxm : x ∈ l := by rw [hx]; exact List.getElem_mem hlt
        have htk : l.take (j + 1) = l.take j ++ [x] := by rw [take_snoc' _ _ hlt, hx]
        have hct2 := cntL_take_le l (j + 1)
        rw [htk, cntL_snoc, cntK_eq] at hct2
        have hdr : l.drop j = x :: l.drop (j + 1) := by rw [drop_cons _ _ hlt, hx]
        have hK := HK.out
        rw [hdr] at hK
        obtain ⟨f1, f', hf, hK1, hK2⟩ := hK.split
        have hjl : (mkL k (l.take j)).length = j := by rw [mkL_len]; simp; omega
        rw [hjl] at hK2
        unfold KidsF at hK2
        obtain ⟨fx, f2, hf', ⟨na, nc, ka, kc, c0, c1, c2, c3, c4, hx5⟩, hK3⟩ := hK2
        obtain ⟨g1, g2, hfx, htx, hnm, hkd⟩ := hx5.parts
        obtain ⟨k', hk'⟩ : ∃ k', k' = k + cntL (l.take j) := ⟨_, rfl⟩
        have hb9 : k' + (3 + x.names.length + cntL x.kids) ≤ 1000000000 := by omega
        rw [← hk']
        clear hct2 hct
        have hfz := (Hfr.out.2 b (by simp)).2.2
        have hnd := Hfr.out.1
        rw [hf, hf', hfx] at hnd
        replace hnd := (List.nodup_cons.1 hnd).2
        have hnl : x.names.length ≤ 1000000000 := by omega
        have Hf := Lib.hid hf
        have Hf' := Lib.hid hf'
        have Hfx := Lib.hid hfx
        have HK1 := Lib.hid hK1
        have HK3 := Lib.hid hK3
        have Hnm := Lib.hid hnm
        have Hkd := Lib.hid hkd
        have Htk := Lib.hid htk
        have Hk' := Lib.hid hk'
        have Hnd := Lib.hid hnd
        have C0 := Lib.hid c0
        have C1 := Lib.hid c1
        have C2 := Lib.hid c2
        have C3 := Lib.hid c3
        have C4 := Lib.hid c4
        clear hx hdr hK hf hK1 hf' hK3 hfx htx hnm hkd hx5 htk hk' hnd HK hjl
        have hbw : b < wr.heap.size := lt_of_cell c0
        have hbf : b ∉ f := (List.nodup_cons.1 Hfr.out.1).1
        have hg1f : ∀ y ∈ g1, y ∈ f := fun y hy => by rw [Hf.out, Hf'.out, Hfx.out]; simp [hy]
        have hg2f : ∀ y ∈ g2, y ∈ f := fun y hy => by rw [Hf.out, Hf'.out, Hfx.out]; simp [hy]
        have hf1f : ∀ y ∈ f1, y ∈ f := fun y hy => by rw [Hf.out]; simp [hy]
        have hf2f : ∀ y ∈ f2, y ∈ f := fun y hy => by rw [Hf.out, Hf'.out]; simp [hy]
        have hnd1 : ∀ y, y ∈ f1 → y ∉ g1 ∧ y ∉ g2 := fun y hy => by
          have := (List.nodup_append.1 Hnd.out).2.2 y hy
          exact ⟨fun h => this y (by simp [h]) rfl, fun h => this y (by simp [h]) rfl⟩
        have hnd2 : ∀ y, y ∈ f2 → y ∉ g1 ∧ y ∉ g2 := fun y hy => by
          have h3 := (List.nodup_append.1 (List.nodup_append.1 Hnd.out).2.1).2.2
          exact ⟨fun h => h3 y (by simp [h]) y hy rfl, fun h => h3 y (by simp [h]) y hy rfl⟩
        have hndg : ∀ y, y ∈ g2 → y ∉ g1 := fun y hy h => (List.nodup_append.1 (List.nodup_append.1 (List.nodup_append.1 Hnd.out).2.1).1).2.2 y h y hy rfl
        have hg1n : g1.Nodup := (List.nodup_append.1 (List.nodup_append.1 (List.nodup_append.1 Hnd.out).2.1).1).1
        have hg2n : g2.Nodup := (List.nodup_append.1 (List.nodup_append.1 (List.nodup_append.1 Hnd.out).2.1).1).2.1
        have Hbf := Lib.hid hbf
        have Hg1f := Lib.hid hg1f
        have Hg2f := Lib.hid hg2f
        have Hf1f := Lib.hid hf1f
        have Hf2f := Lib.hid hf2f
        have Hnd1 := Lib.hid hnd1
        have Hnd2 := Lib.hid hnd2
        have Hndg := Lib.hid hndg
        have Hg1n := Lib.hid hg1n
        have Hg2n := Lib.hid hg2n
        have Hhxm := Lib.hid hxm
        clear hbf hg1f hg2f hf1f hf2f hnd1 hnd2 hndg hg1n hg2n hxm
        go_wp2_with fail
        refine (markText_i (k' + 2) _ _ (by omega) (by omega) (by omega)).mono ?_
        rintro e w2 ⟨rfl, hg2⟩
        obtain ⟨wa, hwa⟩ : ∃ wa, wa = (wr.setCell ⟨b, o + j * 5, none⟩ (.int .i64 k')).setCell ⟨b, o + j * 5 + 1, none⟩ (.int .i64 ((k' : Int) + 1)) := ⟨_, rfl⟩
        rw [← hwa] at hg2
        have hra : Ext (inl [b]) wr wa := by
          rw [hwa]
          exact (Ext.setIn (X := inl [b]) (Ext.refl _ wr) (p := ⟨b, o + j * 5, none⟩) (by simp [inl]) _).setIn (p := ⟨b, o + j * 5 + 1, none⟩) (by simp [inl]) _
        have a0 : wa.cell? ⟨b, o + j * 5, none⟩ = some (.int .i64 k') := by
          rw [hwa, set_ne _ _ _ _ _ _ (.inr (by omega)), cell_set C0.out, if_pos rfl]
        have a1 : wa.cell? ⟨b, o + j * 5 + 1, none⟩ = some (.int .i64 ((k' : Int) + 1)) := by
          rw [hwa]
          have : (wr.setCell ⟨b, o + j * 5, none⟩ (.int .i64 k')).cell? ⟨b, o + j * 5 + 1, none⟩ = some (.int .i64 x.num) := by rw [set_ne _ _ _ _ _ _ (.inr (by omega))]; exact C1.out
          rw [cell_set this, if_pos rfl]
        have lba : b < wa.heap.size := lt_of_cell a0
        have aq : ∀ q, q ≠ o + j * 5 → q ≠ o + j * 5 + 1 → wa.cell? ⟨b, q, none⟩ = wr.cell? ⟨b, q, none⟩ := fun q q0 q1 => by
          rw [hwa, set_ne _ _ _ _ _ _ (.inr q1), set_ne _ _ _ _ _ _ (.inr q0)]
        have az : ∀ q, wa.frozen? ⟨b, q, none⟩ = false := fun q => by
          rw [hwa, World.frozen?_setCell, World.frozen?_setCell]; exact hfz q
        have h2a := hg2.some a0
        have h2b := hg2.some a1
        have d2 : w2.cell? ⟨b, o + j * 5 + 2, none⟩ = some (.string x.text) := hg2.some (by rw [aq _ (by omega) (by omega)]; exact C2.out)
        have d3 : w2.cell? ⟨b, o + j * 5 + 3, none⟩ = some (.slice na x.names.length nc) := hg2.some (by rw [aq _ (by omega) (by omega)]; exact C3.out)
        have d4 : w2.cell? ⟨b, o + j * 5 + 4, none⟩ = some (.slice ka x.kids.length kc) := hg2.some (by rw [aq _ (by omega) (by omega)]; exact C4.out)
        have dz : ∀ q, w2.frozen? ⟨b, q, none⟩ = false := fun q => by rw [hg2.frozen (p := ⟨b, q, none⟩) lba (fun h => h)]; exact az q
        have hr2 : Ext (inl [b]) wr w2 := hra.trans hg2.toX
        have hq2 : ∀ q, q ≠ o + j * 5 → q ≠ o + j * 5 + 1 → w2.cell? ⟨b, q, none⟩ = wr.cell? ⟨b, q, none⟩ := fun q q0 q1 => by
          rw [hg2.cell (p := ⟨b, q, none⟩) lba (fun h => h)]; exact aq q q0 q1
        have H2a := Lib.hid h2a
        have H2b := Lib.hid h2b
        have D2 := Lib.hid d2
        have D3 := Lib.hid d3
        have D4 := Lib.hid d4
        have Hr2 := Lib.hid hr2
        have Hq2 := Lib.hid hq2
        have Dz := Lib.hid dz
        clear lba hwa hra a0 a1 aq az h2a h2b hg2 hr2 hq2 hfz d4 c0 c1 c2 c3 c4
        go_wp2_with fail
        obtain ⟨wb, hwb⟩ : ∃ wb, wb = w2.setCell ⟨b, o + j * 5 + 2, none⟩ (.string (mtxt (k' + 2))) := ⟨_, rfl⟩
        rw [← hwb]
        have hrb : Ext (inl [b]) wr wb := by rw [hwb]; exact Hr2.out.setIn (p := ⟨b, o + j * 5 + 2, none⟩) (by simp [inl]) _
        have Hrb := Lib.hid hrb
        have fr1 : Free B wr g1 := ⟨Hg1n.out, fun y hy => Hfr.out.2 y (by simp [Hg1f.out y hy])⟩
        have fr2 : Free B wr g2 := ⟨Hg2n.out, fun y hy => Hfr.out.2 y (by simp [Hg2f.out y hy])⟩
        have n1 : ∀ y ∈ g1, ¬ inl [b] y := fun y hy h => by simp [inl] at h; subst h; exact Hbf.out (Hg1f.out _ hy)
        have n2 : ∀ y ∈ g2, ¬ inl [b] y := fun y hy h => by simp [inl] at h; subst h; exact Hbf.out (Hg2f.out _ hy)
        refine (markStringS_i na nc x.names g1 B (k' + 3) _ wb (by omega) (Hnm.out.keep (hrb.keeps fr1 n1)) (fr1.ext hrb n1) (by omega) (by omega)).mono ?_
        rintro e w3 ⟨rfl, hg3, hfr3, hs3⟩
        have b4 : wb.cell? ⟨b, o + j * 5 + 4, none⟩ = some (.slice ka x.kids.length kc) := by rw [hwb, set_ne _ _ _ _ _ _ (.inr (by omega))]; exact D4.out
        have hb1 : ¬ inl g1 b := fun h => Hbf.out (Hg1f.out _ h)
        have e4 := hg3.some b4 hb1
        have Hg3 := Lib.hid hg3
        have Hfr3 := Lib.hid hfr3
        have Hs3 := Lib.hid hs3
        have Hwb := Lib.hid hwb
        have Hb4 := Lib.hid b4
        have Hb1 := Lib.hid hb1
        have Fr1 := Lib.hid fr1
        have Fr2 := Lib.hid fr2
        have N1 := Lib.hid n1
        have N2 := Lib.hid n2
        clear hrb fr1 fr2 n1 n2 hg3 hfr3 hs3 hwb b4 hb1 d2 d3 dz
        go_wp2_with fail
        have hr3 : Ext (inl (b :: g1)) wr w3 := (Hrb.out.mono (fun y hy => by simp [inl] at hy ⊢; exact .inl hy)).trans (Hg3.out.mono (fun y hy => by simp [inl] at hy ⊢; exact .inr hy))
        have m2 : ∀ y ∈ g2, ¬ inl (b :: g1) y := fun y hy h => by
          simp [inl] at h
          rcases h with h | h
          · subst h; exact Hbf.out (Hg2f.out _ hy)
          · exact Hndg.out y hy h
        refine (Ih.out x Hhxm.out ka kc g2 B (k' + 3 + x.names.length) w3 ?_ (Fr2.out.ext hr3 m2) (by omega) (by omega)).mono ?_
        · obtain ⟨t1, t2, t3⟩ := Hkd.out
          refine ⟨t1, t2, t3.imp id ?_⟩
          rintro ⟨bb, oo, ff, u1, u2, u3, u4⟩
          have kk := hr3.keeps Fr2.out m2
          exact ⟨bb, oo, ff, u1, u2, u3, u4.keep (fun y hy => kk y (by rw [u3]; simp [hy])) (fun o' _ _ => kk bb (by rw [u3]; simp) o')⟩
        rintro e w4 ⟨rfl, hg4, hfr4, hs4⟩
        have Hr3 := Lib.hid hr3
        have M2 := Lib.hid m2
        have Hg4 := Lib.hid hg4
        have Hfr4 := Lib.hid hfr4
        have Hs4 := Lib.hid hs4
        clear hr3 m2 hg4 hfr4 hs4 e4
        go_wp2_with fail
        go_roundw
        case rel =>
          have hb2 : ¬ inl g2 b := fun h => Hbf.out (Hg2f.out _ h)
          have hr4 : Ext (inl (b :: (g1 ++ g2))) wr w4 := (Hr3.out.mono (fun y hy => by simp [inl] at hy ⊢; rcases hy with h | h; exact .inl h; exact .inr (.inl h))).trans (Hg4.out.mono (fun y hy => by simp [inl] at hy ⊢; exact .inr (.inr hy)))
          have q4 : ∀ q, w4.cell? ⟨b, q, none⟩ = wb.cell? ⟨b, q, none⟩ := fun q => by
            have l1 : b < wb.heap.size := lt_of_cell Hb4.out
            rw [Hg4.out.cell (p := ⟨b, q, none⟩) (Nat.lt_of_lt_of_le l1 Hg3.out.size) hb2, Hg3.out.cell (p := ⟨b, q, none⟩) l1 Hb1.out]
          have qb : ∀ q, q ≠ o + j * 5 + 2 → wb.cell? ⟨b, q, none⟩ = w2.cell? ⟨b, q, none⟩ := fun q h => by rw [Hwb.out, set_ne _ _ _ _ _ _ (.inr h)]
          have z4 : ∀ q, w4.frozen? ⟨b, q, none⟩ = false := fun q => by
            have l1 : b < wb.heap.size := lt_of_cell Hb4.out
            rw [Hg4.out.frozen (p := ⟨b, q, none⟩) (Nat.lt_of_lt_of_le l1 Hg3.out.size) hb2, Hg3.out.frozen (p := ⟨b, q, none⟩) l1 Hb1.out, Hwb.out, World.frozen?_setCell]
            exact Dz.out q
          have hE : Ext (inl (b :: f)) w w4 := Hg.out.trans (hr4.mono (fun y hy => by
            simp [inl] at hy ⊢
            rcases hy with h | h | h
            · exact .inl h
            · exact .inr (Hg1f.out _ h)
            · exact .inr (Hg2f.out _ h)))
          have hFree : Free B w4 (b :: f) := by
            refine Hfr.out.sub hr4 (fun y hy q => ?_)
            rcases List.mem_cons.1 hy with rfl | hy
            · exact z4 q
            · rcases List.mem_append.1 hy with h | h
              · have := (Hfr3.out.2 y h).2
                rw [Hg4.out.frozen (p := ⟨y, q, none⟩) this.1 (fun h' => Hndg.out y h' h)]
                exact this.2 q
              · exact (Hfr4.out.2 y h).2.2 q
          refine ⟨j + 1, by omega, by go_num, ?_, hE, hFree, ?_⟩
          · rw [Htk.out, cntL_snoc, cntK_eq, Hk'.out]
            congr 1
            have := Hk'.out
            omega
          · rw [Htk.out, mkL_snoc, ← Hk'.out, Hf.out, Hf'.out, List.append_assoc]
            have keepF : ∀ y, y ∉ g1 → y ∉ g2 → y ∈ f → ∀ q, w4.cell? ⟨y, q, none⟩ = wr.cell? ⟨y, q, none⟩ := fun y y1 y2 yf q => by
              refine hr4.cell (p := ⟨y, q, none⟩) (Hfr.out.2 y (by simp [yf])).2.1 (fun h => ?_)
              simp [inl] at h
              rcases h with h | h | h
              · subst h; exact Hbf.out yf
              · exact y1 h
              · exact y2 h
            have hjl : (mkL k (l.take j)).length = j := by rw [mkL_len]; simp; omega
            refine KidsF.append (HK1.out.keep (fun y hy q => keepF y (Hnd1.out y hy).1 (Hnd1.out y hy).2 (Hf1f.out y hy) q) (fun q _ hq => ?_)) ?_
            · rw [hjl] at hq
              rw [q4, qb _ (by omega)]
              exact Hq2.out q (by omega) (by omega)
            · rw [hjl]
              show KidsF w4 b (o + j * 5) (mkK k' x :: l.drop (j + 1)) (fx ++ f2)
              unfold KidsF
              refine ⟨fx, f2, rfl, ⟨na, nc, ka, kc, ?_, ?_, ?_, ?_, ?_, ?_⟩, HK3.out.keep (fun y hy q => keepF y (Hnd2.out y hy).1 (Hnd2.out y hy).2 (Hf2f.out y hy) q) (fun q hq _ => ?_)⟩
              · rw [q4, qb _ (by omega), H2a.out, mkK_eq]
              · rw [q4, qb _ (by omega), H2b.out, mkK_eq]; rfl
              · rw [q4, Hwb.out, cell_set D2.out, if_pos rfl, mkK_eq]
              · rw [q4, qb _ (by omega), D3.out, mkK_eq, mkS_len]
              · rw [q4, Hb4.out, mkK_eq, mkL_len]
              · rw [Hfx.out, mkK_eq]
                refine NodeF.mk (mtxt_size _ (by omega)) (Hs3.out.keep (fun y hy q => ?_)) Hs4.out
                exact Hg4.out.cell (p := ⟨y, q, none⟩) (Hfr3.out.2 y hy).2.1 (fun h => Hndg.out y h hy)
              · rw [q4, qb _ (by omega)]
                exact Hq2.out q (by omega) (by omega)
        case measure => simp [intOf]; omega
      · have hje : j = l.length := by omega
        subst hje
        have hK := HK.out
        rw [List.take_length, List.drop_length, List.append_nil] at hK
        have HK2 := Lib.hid hK
        clear hK
        simp only [List.take_length]
        go_wp2_with fail
        go_ret
        refine ⟨by simp, Hg.out, Hfr.out, ⟨by rw [mkL_len]; exact Hle.out, by rw [mkL_len]; exact Hlen.out, .inr ⟨b, o, f, ?_, rfl, rfl, HK2.out⟩⟩⟩
        intro h
        have := congrArg List.length h
        rw [mkL_len] at this
        exact Hne.out (List.length_eq_zero_iff.1 this)

theorem markNodeS_all : ∀ n, MkOk n := by
  refine Nd.ind' MkOk ?_
  intro n ih a c fp B k w hF hfr h1 h2
  exact markNodeS_of n.kids ih a c fp B k w hF hfr h1 h2 (by have := cntL_len n.kids; omega)
theorem markNodeS_ok (l : List Nd) (a : Option Addr) (c : Nat) (fp : List Nat) (B k : Nat) (i : Int) (w : World) (hi : i = (k : Int)) (hF : NodesF w a c l fp) (hfr : Free B w fp) (h1 : 0 < k) (h2 : k + cntL l ≤ 1000000000) :
    Calls Try.prog 87 #[.slice a l.length c, .int .i64 i] w fun e w' => e = .returned (.int .i64 ((k + cntL l : Nat) : Int)) ∧ Ext (inl fp) w w' ∧ Free B w' fp ∧ NodesF w' a c (mkL k l) fp := by
  subst hi
  exact markNodeS_of l (fun x _ => markNodeS_all x) a c fp B k w hF hfr h1 h2 (by have := cntL_len l; omega)

end Go.Proofs.Ytmeobmegnneegaa

/-
  The walks of heldNodeS, markNode, heldNode.
-/
namespace Go.Proofs.Ytmeobmegnneegaa
open Go.RowKit

theorem mkL_get (k : Nat) (l : List Nd) (j : Nat) (h : j < l.length) (h' : j < (mkL k l).length) : (mkL k l)[j] = mkK (k + cntL (l.take j)) l[j] := by
  induction l generalizing k j with
  | nil => simp at h
  | cons x l ih =>
    cases j with
    | zero => simp [mkL, cntL]
    | succ j =>
      simp only [mkL, List.getElem_cons_succ, List.take_succ_cons, cntL]
      rw [ih _ _ (by simpa using h)]
      rw [Nat.add_assoc]

def HeldOk (n : Nd) : Prop := ∀ (a : Option Addr) (c k : Nat) (i : Int) (w : World), i = (k : Int) → NodesR w any a c (mkL k n.kids) → 0 < k → k + cntL n.kids ≤ 1000000000 →
    Calls Try.prog 118 #[.slice a n.kids.length c, .int .i64 i] w fun e w' => e = .returned (.int .i64 ((k + cntL n.kids : Nat) : Int)) ∧ Grow w w'

set_option maxRecDepth 100000 in
set_option maxHeartbeats 4000000 in
theorem heldNodeS_of (l : List Nd) (ih : ∀ x ∈ l, HeldOk x) (a : Option Addr) (c k : Nat) (i : Int) (w : World) (hi : i = (k : Int)) (ha : NodesR w any a c (mkL k l)) (h1 : 0 < k) (h2 : k + cntL l ≤ 1000000000) :
    Calls Try.prog 118 #[.slice a l.length c, .int .i64 i] w fun e w' => e = .returned (.int .i64 ((k + cntL l : Nat) : Int)) ∧ Grow w w' := by
  subst hi
  have hll := cntL_len l
  have Ha := Lib.hid ha
  have Ih := Lib.hid ih
  clear ha ih
  go_enter Try.func118, Try.ntmps118
  go_wp2_with fail
  go_loopw [1, 4, 5] (fun t1 t4 i wr => t4 = .int .i64 0 ∧ Grow w wr ∧ ∃ j : Nat, j ≤ l.length ∧ i = .int .i64 j ∧ t1 = .int .i64 ((k + cntL (l.take j) : Nat) : Int)) (fun _ _ i _ => l.length - (intOf i).toNat)
  case atStart => exact ⟨rfl, Ext.refl _ _, 0, Nat.zero_le _, rfl, rfl⟩
  case round =>
    obtain ⟨rfl, hg, j, hj, rfl, rfl⟩ := hrel
    have hct := cntL_take_le l j
    by_cases hlt : j < l.length
    · have hjl : j < (mkL k l).length := by rw [mkL_len]; exact hlt
      obtain ⟨_, _, ha4⟩ := (Ha.out).grow hg
      rcases ha4 with hh | ⟨b, o, rfl, _, hkr⟩
      · rw [hh] at hjl; simp at hjl
      obtain ⟨na, nc, ka, kc, c0, c1, c2, c3, c4, hkc⟩ := hkr.get j hjl
      rw [mkL_get k l j hlt hjl] at c0 c1 c2 c3 c4 hkc
      have hct2 := cntL_take_le l (j + 1)
      have htk : l.take (j + 1) = l.take j ++ [l[j]] := take_snoc' _ _ hlt
      rw [htk, cntL_snoc, cntK_eq] at hct2
      obtain ⟨k', hk'⟩ : ∃ k', k' = k + cntL (l.take j) := ⟨_, rfl⟩
      rw [← hk'] at c0 c1 c2 c3 c4 hkc ⊢
      obtain ⟨x, hx⟩ : ∃ x, x = l[j] := ⟨_, rfl⟩
      have hxm : x ∈ l := by rw [hx]; exact List.getElem_mem hlt
      rw [← hx] at c0 c1 c2 c3 c4 hkc hct2 htk
      have hb9 : k' + (3 + x.names.length + cntL x.kids) ≤ 1000000000 := by omega
      obtain ⟨_, hnm, hkd⟩ := hkc.parts
      rw [mkK_eq] at c0 c1 c2 c3 c4 hnm hkd
      simp only [mkS_len, mkL_len] at c0 c1 c2 c3 c4
      have Hnm := Lib.hid hnm
      have Hkd := Lib.hid hkd
      have Htk := Lib.hid htk
      have Hk' := Lib.hid hk'
      have Hxm := Lib.hid hxm
      have e0 : ((k' : Int) != (k' : Int)) = false := by simp
      have e1 : (((k' + 1 : Nat) : Int) != ((k' : Int) + 1)) = false := by simp
      clear hkr hkc hnm hkd htk hk' hx hxm hct hct2 Ha
      simp only [Int.natCast_add, Int.natCast_one] at c1
      go_wp2_with fail
      (refine wp_region_later (by kernel_rfl) (by kernel_rfl) ?_; (repeat (first | go_big_quiet_step ((go_at_call 117; exact later_call (v := .string (mtxt (k' + 2))) (markText_i (k' + 2) _ _ (by omega) (by omega) (by omega)))) | quiet_step ((go_at_call 117; exact later_call (v := .string (mtxt (k' + 2))) (markText_i (k' + 2) _ _ (by omega) (by omega) (by omega)))))); refine wpQuiet_nil ?_; rintro _ ⟨x_w2, rfl⟩; have hg_w2 := later_grow wr x_w2; generalize later wr x_w2 = w2 at hg_w2 ⊢)
      (replace c3 := hg_w2.some c3; replace c4 := hg_w2.some c4)
      go_wp2_with fail
      refine (heldStringS_i na nc x.names.length (k' + 3) _ _ (by omega) (Hnm.out.grow hg_w2) (by omega) (by omega)).mono ?_
      rintro e w3 ⟨rfl, hg_w3⟩
      (replace c4 := hg_w3.some c4)
      go_wp2_with fail
      refine (Ih.out x Hxm.out ka kc (k' + 3 + x.names.length) _ _ (by omega) (Hkd.out.grow (hg_w2.trans hg_w3)) (by omega) (by omega)).mono ?_
      rintro e w4 ⟨rfl, hg_w4⟩
      go_wp2_with fail
      go_roundw
      case rel =>
        refine ⟨rfl, ((hg.trans hg_w2).trans hg_w3).trans hg_w4, j + 1, by omega, by go_num, ?_⟩
        rw [Htk.out, cntL_snoc, cntK_eq]
        congr 1
        have := Hk'.out
        omega
      case measure => simp [intOf]; omega
    · go_wp2_with fail
      go_ret
      exact ⟨by rw [show j = l.length by omega]; simp, hg⟩

theorem heldNodeS_all : ∀ n, HeldOk n := by
  refine Nd.ind' HeldOk ?_
  intro n ih a c k i w hi ha h1 h2
  exact heldNodeS_of n.kids ih a c k i w hi ha h1 h2
theorem heldNodeS_ok (l : List Nd) (a : Option Addr) (c k : Nat) (i : Int) (w : World) (hi : i = (k : Int)) (ha : NodesR w any a c (mkL k l)) (h1 : 0 < k) (h2 : k + cntL l ≤ 1000000000) :
    Calls Try.prog 118 #[.slice a l.length c, .int .i64 i] w fun e w' => e = .returned (.int .i64 ((k + cntL l : Nat) : Int)) ∧ Grow w w' :=
  heldNodeS_of l (fun x _ => heldNodeS_all x) a c k i w hi ha h1 h2

/-- How many marks a node takes whose own fields are not marked. -/
def cntT (n : Nd) : Nat := n.names.length + cntL n.kids
def mkT (k : Nat) (n : Nd) : Nd := ⟨n.kind, n.num, n.text, mkS k n.names.length, mkL (k + n.names.length) n.kids⟩

end Go.Proofs.Ytmeobmegnneegaa

/-
  The walk of impl.isShape.
-/
namespace Go.Proofs.Ytmeobmegnneegaa
open Go.RowKit

theorem inR_cases' (c : Int) : c < 0 ∨ 4 < c ∨ (0 ≤ c ∧ c ≤ 4 ∧ inR c 0 4 = true) := by
  by_cases h1 : c < 0
  · exact .inl h1
  · by_cases h2 : 4 < c
    · exact .inr (.inl h2)
    · exact .inr (.inr ⟨by omega, by omega, by simp [inR]; omega⟩)

theorem shpHead_parts {x : Shp} (h : shpHead x = true) : 0 ≤ x.kind ∧ x.kind ≤ 4 ∧ areNamesB x.names = true ∧ x.needs.length = x.names.length ∧ x.kids.length = x.names.length ∧ (x.names.length = 0 ∨ x.kind = 4) := by
  unfold shpHead inR at h
  simp only [Bool.and_eq_true, decide_eq_true_eq, Bool.not_eq_true', Bool.and_eq_false_iff, decide_eq_false_iff_not] at h
  obtain ⟨⟨⟨⟨⟨h1, h1'⟩, h2⟩, h3⟩, h4⟩, h5⟩ := h
  refine ⟨h1, h1', h2, h4, h5, ?_⟩
  rcases h3 with h3 | h3
  · left; omega
  · right; omega

theorem shpL_get {l : List Shp} {d : Nat} {k : Nat} (hk : k < l.length) (h : shpB l[k] d = false) : shpL l d = false := by
  rw [shpL_all, List.all_eq_false]
  exact ⟨l[k], List.getElem_mem hk, by simp [h]⟩

end Go.Proofs.Ytmeobmegnneegaa

/-
  The walks of the reference's shape, count and validNode.
-/
namespace Go.Proofs.Ytmeobmegnneegaa
open Go.RowKit

theorem shape_other {n : Nd} {d : Nat} (h : n.kind < 0 ∨ 4 < n.kind) : shapeB n (d + 1) = false := by
  have h0 : ¬ n.kind = 0 := by omega
  have h1 : ¬ n.kind = 1 := by omega
  have h2 : ¬ n.kind = 2 := by omega
  have h3 : ¬ n.kind = 3 := by omega
  have h4 : ¬ n.kind = 4 := by omega
  simp [shapeB_eq, partsB, h0, h1, h2, h3, h4]
theorem shape_0 {n : Nd} {d : Nat} (h : n.kind = 0) : shapeB n (d + 1) = (decide (n.num = 0) && n.text.toList.isEmpty && decide (n.names.length = 0) && decide (n.kids.length = 0)) := by
  by_cases hk : n.kids.length = 0 <;> simp [shapeB_eq, partsB, h, hk, shapeL_zero, -List.length_eq_zero_iff]
theorem shape_1 {n : Nd} {d : Nat} (h : n.kind = 1) : shapeB n (d + 1) = (n.text.toList.isEmpty && decide (n.names.length = 0) && (decide (-999999 ≤ n.num) && decide (n.num ≤ 999999)) && decide (n.kids.length = 0)) := by
  by_cases hk : n.kids.length = 0 <;> simp [shapeB_eq, partsB, h, hk, shapeL_zero, -List.length_eq_zero_iff]
theorem shape_2 {n : Nd} {d : Nat} (h : n.kind = 2) : shapeB n (d + 1) = (decide (n.num = 0) && decide (n.names.length = 0) && plainT n.text && decide (n.kids.length = 0)) := by
  by_cases hk : n.kids.length = 0 <;> simp [shapeB_eq, partsB, h, hk, shapeL_zero, -List.length_eq_zero_iff]
theorem shape_3 {n : Nd} {d : Nat} (h : n.kind = 3) : shapeB n (d + 1) = (decide (n.num = 0) && n.text.toList.isEmpty && decide (n.names.length = 0) && decide (n.kids.length ≤ 6) && shapeL n.kids d) := by
  simp [shapeB_eq, partsB, h, -List.length_eq_zero_iff]
theorem shape_4 {n : Nd} {d : Nat} (h : n.kind = 4) : shapeB n (d + 1) = (decide (n.num = 0) && n.text.toList.isEmpty && areNamesB n.names && decide (n.kids.length = n.names.length) && shapeL n.kids d) := by
  simp [shapeB_eq, partsB, h, Bool.and_assoc, -List.length_eq_zero_iff]

theorem shape_long {n : Nd} {d : Nat} (h : 6 < n.kids.length) : shapeB n d = false := by
  cases hp : partsB n
  · simp [shapeB_eq, hp]
  · have := partsB_kids hp; omega
theorem shape_num {n : Nd} {d : Nat} (h1 : n.kind ≠ 1) (h2 : n.num ≠ 0) : shapeB n d = false := by simp [shapeB_eq, partsB, h1, h2]
theorem shape_text {n : Nd} {d : Nat} (h1 : n.kind ≠ 2) (h2 : (!n.text.toList.isEmpty) = true) : shapeB n d = false := by
  have : n.text.toList.isEmpty = false := by simpa using h2
  simp [shapeB_eq, partsB, h1, this]
theorem shape_names {n : Nd} {d : Nat} (h1 : n.kind ≠ 4) (h2 : 0 < n.names.length) : shapeB n d = false := by
  have : ¬ n.names.length = 0 := by omega
  simp [shapeB_eq, partsB, h1, this, -List.length_eq_zero_iff]

set_option maxRecDepth 100000 in
set_option maxHeartbeats 4000000 in
theorem shape_ok : ∀ n, ShapeOk n := by
  refine Nd.ind' ShapeOk ?_
  intro n ih d dep v w hd hdep hn
  have Hn := Lib.hid hn
  obtain ⟨na, nc, ka, kc, rfl, hc⟩ := hn
  obtain ⟨htx, hns, hks⟩ := hc.parts
  have hnl : n.names.length ≤ 9223372036854775807 := hns.2.1
  have hkl : n.kids.length ≤ 9223372036854775807 := hks.2.1
  have Hns := Lib.hid hns
  have Htx := Lib.hid htx
  have Ih := Lib.hid ih
  clear hns hks hc htx ih
  unfold nodeV at *
  by_cases hd0 : d = 0
  · subst hd0
    obtain rfl : dep = 0 := by omega
    clear hdep
    have Hf : Hid (shapeB n 0 = false) := Lib.hid (by rw [shapeB_eq]; simp)
    go_enter Try.func111, Try.ntmps111
    go_wp2_with fail
    go_ret
    exact ⟨by simp [Hf.out], (by repeat (first | with_reducible exact Ext.refl _ _ | with_reducible refine Ext.trans ?_ (by assumption) | with_reducible refine Ext.drew ?_ | with_reducible refine Ext.drewN ?_ _ | with_reducible refine Ext.alloc ?_ _ | with_reducible refine Ext.setNew ?_ (by simp; done) _ | with_reducible refine Ext.setNew ?_ (by simp; omega) _))⟩
  · obtain ⟨d, rfl⟩ : ∃ d', d = d' + 1 := ⟨d - 1, by omega⟩
    have hd1 : 1 ≤ dep := by omega
    have hd2 : dep ≤ 5 := by omega
    have hdne : (dep == 0) = false := by rw [ibeq]; simp; omega
    have Hdep := Lib.hid hdep
    have Hd := Lib.hid hd
    clear hd hdep hd0
    obtain ⟨kind, num, text, names, kids⟩ := n
    dsimp only at *
    by_cases h1 : 6 < kids.length
    · have hz : shapeB ⟨kind, num, text, names, kids⟩ (d + 1) = false := shape_long (by exact h1)
      have Hf := Lib.hid hz
      clear hz
      go_enter Try.func111, Try.ntmps111
      go_wp2_with (first | (go_at_call 95; refine (inRange_ok _ _ _ _).mono ?_; rintro e w' ⟨rfl, rfl⟩) | (go_at_call 127; refine (validText_ok _ _ Htx.out).mono ?_; rintro e w' ⟨rfl, rfl⟩) | (go_at_call 129; refine (names_ok _ _ _ _ (Hns.out.ext ((Ext.refl nil w).alloc _) (fun _ _ h => h))).mono ?_; rintro e w' ⟨rfl, hg⟩; have hcc := bcell hg) | (go_at_call 128; refine (kids_of _ Ih.out d _ _ _ (by have := Hd.out; omega) (by have := Hdep.out; omega) (Hn.out.ext (by repeat (first | exact Ext.refl _ _ | refine Ext.trans ?_ (by assumption) | refine Ext.alloc ?_ _)) (fun _ _ h => h))).mono ?_; rintro e w'' ⟨rfl, hg2⟩))
      all_goals (go_ret; refine ⟨?_, (by repeat (first | with_reducible exact Ext.refl _ _ | with_reducible refine Ext.trans ?_ (by assumption) | with_reducible refine Ext.drew ?_ | with_reducible refine Ext.drewN ?_ _ | with_reducible refine Ext.alloc ?_ _ | with_reducible refine Ext.setNew ?_ (by simp; done) _ | with_reducible refine Ext.setNew ?_ (by simp; omega) _))⟩; rw [Hf.out])
      all_goals clear Hn Hns Htx Ih Hdep Hd Hf
      all_goals (simp_all [-List.length_eq_zero_iff])
      all_goals first | omega | rfl | (intro _; exact ⟨by simp only [areNamesB, ‹namesB names = true›]; simp; omega, by omega⟩) | (intro h; exfalso; simp [areNamesB, ‹namesB names = false›] at h)
    have h1 : kids.length ≤ 6 := by omega
    by_cases k1 : kind = 1
    · subst k1
      have he := shape_1 (n := ⟨1, num, text, names, kids⟩) (d := d) rfl
      cases ht : (!text.toList.isEmpty)
      · by_cases h2 : 0 < names.length
        · have := h2
          have Hf := Lib.hid he
          clear he
          go_enter Try.func111, Try.ntmps111
          go_wp2_with (first | (go_at_call 95; refine (inRange_ok _ _ _ _).mono ?_; rintro e w' ⟨rfl, rfl⟩) | (go_at_call 127; refine (validText_ok _ _ Htx.out).mono ?_; rintro e w' ⟨rfl, rfl⟩) | (go_at_call 129; refine (names_ok _ _ _ _ (Hns.out.ext ((Ext.refl nil w).alloc _) (fun _ _ h => h))).mono ?_; rintro e w' ⟨rfl, hg⟩; have hcc := bcell hg) | (go_at_call 128; refine (kids_of _ Ih.out d _ _ _ (by have := Hd.out; omega) (by have := Hdep.out; omega) (Hn.out.ext (by repeat (first | exact Ext.refl _ _ | refine Ext.trans ?_ (by assumption) | refine Ext.alloc ?_ _)) (fun _ _ h => h))).mono ?_; rintro e w'' ⟨rfl, hg2⟩))
          all_goals (go_ret; refine ⟨?_, (by repeat (first | with_reducible exact Ext.refl _ _ | with_reducible refine Ext.trans ?_ (by assumption) | with_reducible refine Ext.drew ?_ | with_reducible refine Ext.drewN ?_ _ | with_reducible refine Ext.alloc ?_ _ | with_reducible refine Ext.setNew ?_ (by simp; done) _ | with_reducible refine Ext.setNew ?_ (by simp; omega) _))⟩; rw [Hf.out])
          all_goals clear Hn Hns Htx Ih Hdep Hd Hf
          all_goals (simp_all [-List.length_eq_zero_iff])
          all_goals first | omega | rfl | (intro _; exact ⟨by simp only [areNamesB, ‹namesB names = true›]; simp; omega, by omega⟩) | (intro h; exfalso; simp [areNamesB, ‹namesB names = false›] at h)
        · have h2 : names.length ≤ 0 := by omega
          by_cases h3 : 0 < kids.length
          · have := h3
            have Hf := Lib.hid he
            clear he
            go_enter Try.func111, Try.ntmps111
            go_wp2_with (first | (go_at_call 95; refine (inRange_ok _ _ _ _).mono ?_; rintro e w' ⟨rfl, rfl⟩) | (go_at_call 127; refine (validText_ok _ _ Htx.out).mono ?_; rintro e w' ⟨rfl, rfl⟩) | (go_at_call 129; refine (names_ok _ _ _ _ (Hns.out.ext ((Ext.refl nil w).alloc _) (fun _ _ h => h))).mono ?_; rintro e w' ⟨rfl, hg⟩; have hcc := bcell hg) | (go_at_call 128; refine (kids_of _ Ih.out d _ _ _ (by have := Hd.out; omega) (by have := Hdep.out; omega) (Hn.out.ext (by repeat (first | exact Ext.refl _ _ | refine Ext.trans ?_ (by assumption) | refine Ext.alloc ?_ _)) (fun _ _ h => h))).mono ?_; rintro e w'' ⟨rfl, hg2⟩))
            all_goals (go_ret; refine ⟨?_, (by repeat (first | with_reducible exact Ext.refl _ _ | with_reducible refine Ext.trans ?_ (by assumption) | with_reducible refine Ext.drew ?_ | with_reducible refine Ext.drewN ?_ _ | with_reducible refine Ext.alloc ?_ _ | with_reducible refine Ext.setNew ?_ (by simp; done) _ | with_reducible refine Ext.setNew ?_ (by simp; omega) _))⟩; rw [Hf.out])
            all_goals clear Hn Hns Htx Ih Hdep Hd Hf
            all_goals (simp_all [-List.length_eq_zero_iff])
            all_goals first | omega | rfl | (intro _; exact ⟨by simp only [areNamesB, ‹namesB names = true›]; simp; omega, by omega⟩) | (intro h; exfalso; simp [areNamesB, ‹namesB names = false›] at h)
          · have h3 : kids.length ≤ 0 := by omega
            have Hf := Lib.hid he
            clear he
            go_enter Try.func111, Try.ntmps111
            go_wp2_with (first | (go_at_call 95; refine (inRange_ok _ _ _ _).mono ?_; rintro e w' ⟨rfl, rfl⟩) | (go_at_call 127; refine (validText_ok _ _ Htx.out).mono ?_; rintro e w' ⟨rfl, rfl⟩) | (go_at_call 129; refine (names_ok _ _ _ _ (Hns.out.ext ((Ext.refl nil w).alloc _) (fun _ _ h => h))).mono ?_; rintro e w' ⟨rfl, hg⟩; have hcc := bcell hg) | (go_at_call 128; refine (kids_of _ Ih.out d _ _ _ (by have := Hd.out; omega) (by have := Hdep.out; omega) (Hn.out.ext (by repeat (first | exact Ext.refl _ _ | refine Ext.trans ?_ (by assumption) | refine Ext.alloc ?_ _)) (fun _ _ h => h))).mono ?_; rintro e w'' ⟨rfl, hg2⟩))
            all_goals (go_ret; refine ⟨?_, (by repeat (first | with_reducible exact Ext.refl _ _ | with_reducible refine Ext.trans ?_ (by assumption) | with_reducible refine Ext.drew ?_ | with_reducible refine Ext.drewN ?_ _ | with_reducible refine Ext.alloc ?_ _ | with_reducible refine Ext.setNew ?_ (by simp; done) _ | with_reducible refine Ext.setNew ?_ (by simp; omega) _))⟩; rw [Hf.out])
            all_goals clear Hn Hns Htx Ih Hdep Hd Hf
            all_goals (simp_all [-List.length_eq_zero_iff])
            all_goals first | omega | rfl | (intro _; exact ⟨by simp only [areNamesB, ‹namesB names = true›]; simp; omega, by omega⟩) | (intro h; exfalso; simp [areNamesB, ‹namesB names = false›] at h)
      · have := ht
        have Hf := Lib.hid he
        clear he
        go_enter Try.func111, Try.ntmps111
        go_wp2_with (first | (go_at_call 95; refine (inRange_ok _ _ _ _).mono ?_; rintro e w' ⟨rfl, rfl⟩) | (go_at_call 127; refine (validText_ok _ _ Htx.out).mono ?_; rintro e w' ⟨rfl, rfl⟩) | (go_at_call 129; refine (names_ok _ _ _ _ (Hns.out.ext ((Ext.refl nil w).alloc _) (fun _ _ h => h))).mono ?_; rintro e w' ⟨rfl, hg⟩; have hcc := bcell hg) | (go_at_call 128; refine (kids_of _ Ih.out d _ _ _ (by have := Hd.out; omega) (by have := Hdep.out; omega) (Hn.out.ext (by repeat (first | exact Ext.refl _ _ | refine Ext.trans ?_ (by assumption) | refine Ext.alloc ?_ _)) (fun _ _ h => h))).mono ?_; rintro e w'' ⟨rfl, hg2⟩))
        all_goals (go_ret; refine ⟨?_, (by repeat (first | with_reducible exact Ext.refl _ _ | with_reducible refine Ext.trans ?_ (by assumption) | with_reducible refine Ext.drew ?_ | with_reducible refine Ext.drewN ?_ _ | with_reducible refine Ext.alloc ?_ _ | with_reducible refine Ext.setNew ?_ (by simp; done) _ | with_reducible refine Ext.setNew ?_ (by simp; omega) _))⟩; rw [Hf.out])
        all_goals clear Hn Hns Htx Ih Hdep Hd Hf
        all_goals (simp_all [-List.length_eq_zero_iff])
        all_goals first | omega | rfl | (intro _; exact ⟨by simp only [areNamesB, ‹namesB names = true›]; simp; omega, by omega⟩) | (intro h; exfalso; simp [areNamesB, ‹namesB names = false›] at h)
    have k1 : (kind != 1) = true := by simpa using k1
    by_cases hnum : num = 0
    rotate_left
    · have hnum : (num != 0) = true := by simpa using hnum
      have hz : shapeB ⟨kind, num, text, names, kids⟩ (d + 1) = false := shape_num (by simpa using k1) (by simpa using hnum)
      have Hf := Lib.hid hz
      clear hz
      go_enter Try.func111, Try.ntmps111
      go_wp2_with (first | (go_at_call 95; refine (inRange_ok _ _ _ _).mono ?_; rintro e w' ⟨rfl, rfl⟩) | (go_at_call 127; refine (validText_ok _ _ Htx.out).mono ?_; rintro e w' ⟨rfl, rfl⟩) | (go_at_call 129; refine (names_ok _ _ _ _ (Hns.out.ext ((Ext.refl nil w).alloc _) (fun _ _ h => h))).mono ?_; rintro e w' ⟨rfl, hg⟩; have hcc := bcell hg) | (go_at_call 128; refine (kids_of _ Ih.out d _ _ _ (by have := Hd.out; omega) (by have := Hdep.out; omega) (Hn.out.ext (by repeat (first | exact Ext.refl _ _ | refine Ext.trans ?_ (by assumption) | refine Ext.alloc ?_ _)) (fun _ _ h => h))).mono ?_; rintro e w'' ⟨rfl, hg2⟩))
      all_goals (go_ret; refine ⟨?_, (by repeat (first | with_reducible exact Ext.refl _ _ | with_reducible refine Ext.trans ?_ (by assumption) | with_reducible refine Ext.drew ?_ | with_reducible refine Ext.drewN ?_ _ | with_reducible refine Ext.alloc ?_ _ | with_reducible refine Ext.setNew ?_ (by simp; done) _ | with_reducible refine Ext.setNew ?_ (by simp; omega) _))⟩; rw [Hf.out])
      all_goals clear Hn Hns Htx Ih Hdep Hd Hf
      all_goals (simp_all [-List.length_eq_zero_iff])
      all_goals first | omega | rfl | (intro _; exact ⟨by simp only [areNamesB, ‹namesB names = true›]; simp; omega, by omega⟩) | (intro h; exfalso; simp [areNamesB, ‹namesB names = false›] at h)
    subst hnum
    by_cases k2 : kind = 2
    · subst k2
      have he := shape_2 (n := ⟨2, 0, text, names, kids⟩) (d := d) rfl
      by_cases h2 : 0 < names.length
      · have := h2
        have Hf := Lib.hid he
        clear he
        go_enter Try.func111, Try.ntmps111
        go_wp2_with (first | (go_at_call 95; refine (inRange_ok _ _ _ _).mono ?_; rintro e w' ⟨rfl, rfl⟩) | (go_at_call 127; refine (validText_ok _ _ Htx.out).mono ?_; rintro e w' ⟨rfl, rfl⟩) | (go_at_call 129; refine (names_ok _ _ _ _ (Hns.out.ext ((Ext.refl nil w).alloc _) (fun _ _ h => h))).mono ?_; rintro e w' ⟨rfl, hg⟩; have hcc := bcell hg) | (go_at_call 128; refine (kids_of _ Ih.out d _ _ _ (by have := Hd.out; omega) (by have := Hdep.out; omega) (Hn.out.ext (by repeat (first | exact Ext.refl _ _ | refine Ext.trans ?_ (by assumption) | refine Ext.alloc ?_ _)) (fun _ _ h => h))).mono ?_; rintro e w'' ⟨rfl, hg2⟩))
        all_goals (go_ret; refine ⟨?_, (by repeat (first | with_reducible exact Ext.refl _ _ | with_reducible refine Ext.trans ?_ (by assumption) | with_reducible refine Ext.drew ?_ | with_reducible refine Ext.drewN ?_ _ | with_reducible refine Ext.alloc ?_ _ | with_reducible refine Ext.setNew ?_ (by simp; done) _ | with_reducible refine Ext.setNew ?_ (by simp; omega) _))⟩; rw [Hf.out])
        all_goals clear Hn Hns Htx Ih Hdep Hd Hf
        all_goals (simp_all [-List.length_eq_zero_iff])
        all_goals first | omega | rfl | (intro _; exact ⟨by simp only [areNamesB, ‹namesB names = true›]; simp; omega, by omega⟩) | (intro h; exfalso; simp [areNamesB, ‹namesB names = false›] at h)
      · have h2 : names.length ≤ 0 := by omega
        by_cases h3 : 0 < kids.length
        · have := h3
          have Hf := Lib.hid he
          clear he
          go_enter Try.func111, Try.ntmps111
          go_wp2_with (first | (go_at_call 95; refine (inRange_ok _ _ _ _).mono ?_; rintro e w' ⟨rfl, rfl⟩) | (go_at_call 127; refine (validText_ok _ _ Htx.out).mono ?_; rintro e w' ⟨rfl, rfl⟩) | (go_at_call 129; refine (names_ok _ _ _ _ (Hns.out.ext ((Ext.refl nil w).alloc _) (fun _ _ h => h))).mono ?_; rintro e w' ⟨rfl, hg⟩; have hcc := bcell hg) | (go_at_call 128; refine (kids_of _ Ih.out d _ _ _ (by have := Hd.out; omega) (by have := Hdep.out; omega) (Hn.out.ext (by repeat (first | exact Ext.refl _ _ | refine Ext.trans ?_ (by assumption) | refine Ext.alloc ?_ _)) (fun _ _ h => h))).mono ?_; rintro e w'' ⟨rfl, hg2⟩))
          all_goals (go_ret; refine ⟨?_, (by repeat (first | with_reducible exact Ext.refl _ _ | with_reducible refine Ext.trans ?_ (by assumption) | with_reducible refine Ext.drew ?_ | with_reducible refine Ext.drewN ?_ _ | with_reducible refine Ext.alloc ?_ _ | with_reducible refine Ext.setNew ?_ (by simp; done) _ | with_reducible refine Ext.setNew ?_ (by simp; omega) _))⟩; rw [Hf.out])
          all_goals clear Hn Hns Htx Ih Hdep Hd Hf
          all_goals (simp_all [-List.length_eq_zero_iff])
          all_goals first | omega | rfl | (intro _; exact ⟨by simp only [areNamesB, ‹namesB names = true›]; simp; omega, by omega⟩) | (intro h; exfalso; simp [areNamesB, ‹namesB names = false›] at h)
        · have h3 : kids.length ≤ 0 := by omega
          have Hf := Lib.hid he
          clear he
          go_enter Try.func111, Try.ntmps111
          go_wp2_with (first | (go_at_call 95; refine (inRange_ok _ _ _ _).mono ?_; rintro e w' ⟨rfl, rfl⟩) | (go_at_call 127; refine (validText_ok _ _ Htx.out).mono ?_; rintro e w' ⟨rfl, rfl⟩) | (go_at_call 129; refine (names_ok _ _ _ _ (Hns.out.ext ((Ext.refl nil w).alloc _) (fun _ _ h => h))).mono ?_; rintro e w' ⟨rfl, hg⟩; have hcc := bcell hg) | (go_at_call 128; refine (kids_of _ Ih.out d _ _ _ (by have := Hd.out; omega) (by have := Hdep.out; omega) (Hn.out.ext (by repeat (first | exact Ext.refl _ _ | refine Ext.trans ?_ (by assumption) | refine Ext.alloc ?_ _)) (fun _ _ h => h))).mono ?_; rintro e w'' ⟨rfl, hg2⟩))
          all_goals (go_ret; refine ⟨?_, (by repeat (first | with_reducible exact Ext.refl _ _ | with_reducible refine Ext.trans ?_ (by assumption) | with_reducible refine Ext.drew ?_ | with_reducible refine Ext.drewN ?_ _ | with_reducible refine Ext.alloc ?_ _ | with_reducible refine Ext.setNew ?_ (by simp; done) _ | with_reducible refine Ext.setNew ?_ (by simp; omega) _))⟩; rw [Hf.out])
          all_goals clear Hn Hns Htx Ih Hdep Hd Hf
          all_goals (simp_all [-List.length_eq_zero_iff])
          all_goals first | omega | rfl | (intro _; exact ⟨by simp only [areNamesB, ‹namesB names = true›]; simp; omega, by omega⟩) | (intro h; exfalso; simp [areNamesB, ‹namesB names = false›] at h)
    have k2 : (kind != 2) = true := by simpa using k2
    cases ht : (!text.toList.isEmpty)
    rotate_left
    · have hz : shapeB ⟨kind, 0, text, names, kids⟩ (d + 1) = false := shape_text (by simpa using k2) ht
      have Hf := Lib.hid hz
      clear hz
      go_enter Try.func111, Try.ntmps111
      go_wp2_with (first | (go_at_call 95; refine (inRange_ok _ _ _ _).mono ?_; rintro e w' ⟨rfl, rfl⟩) | (go_at_call 127; refine (validText_ok _ _ Htx.out).mono ?_; rintro e w' ⟨rfl, rfl⟩) | (go_at_call 129; refine (names_ok _ _ _ _ (Hns.out.ext ((Ext.refl nil w).alloc _) (fun _ _ h => h))).mono ?_; rintro e w' ⟨rfl, hg⟩; have hcc := bcell hg) | (go_at_call 128; refine (kids_of _ Ih.out d _ _ _ (by have := Hd.out; omega) (by have := Hdep.out; omega) (Hn.out.ext (by repeat (first | exact Ext.refl _ _ | refine Ext.trans ?_ (by assumption) | refine Ext.alloc ?_ _)) (fun _ _ h => h))).mono ?_; rintro e w'' ⟨rfl, hg2⟩))
      all_goals (go_ret; refine ⟨?_, (by repeat (first | with_reducible exact Ext.refl _ _ | with_reducible refine Ext.trans ?_ (by assumption) | with_reducible refine Ext.drew ?_ | with_reducible refine Ext.drewN ?_ _ | with_reducible refine Ext.alloc ?_ _ | with_reducible refine Ext.setNew ?_ (by simp; done) _ | with_reducible refine Ext.setNew ?_ (by simp; omega) _))⟩; rw [Hf.out])
      all_goals clear Hn Hns Htx Ih Hdep Hd Hf
      all_goals (simp_all [-List.length_eq_zero_iff])
      all_goals first | omega | rfl | (intro _; exact ⟨by simp only [areNamesB, ‹namesB names = true›]; simp; omega, by omega⟩) | (intro h; exfalso; simp [areNamesB, ‹namesB names = false›] at h)
    by_cases k4 : kind = 4
    · subst k4
      have he := shape_4 (n := ⟨4, 0, text, names, kids⟩) (d := d) rfl
      have Hf := Lib.hid he
      clear he
      go_enter Try.func111, Try.ntmps111
      go_wp2_with (first | (go_at_call 95; refine (inRange_ok _ _ _ _).mono ?_; rintro e w' ⟨rfl, rfl⟩) | (go_at_call 127; refine (validText_ok _ _ Htx.out).mono ?_; rintro e w' ⟨rfl, rfl⟩) | (go_at_call 129; refine (names_ok _ _ _ _ (Hns.out.ext ((Ext.refl nil w).alloc _) (fun _ _ h => h))).mono ?_; rintro e w' ⟨rfl, hg⟩; have hcc := bcell hg) | (go_at_call 128; refine (kids_of _ Ih.out d _ _ _ (by have := Hd.out; omega) (by have := Hdep.out; omega) (Hn.out.ext (by repeat (first | exact Ext.refl _ _ | refine Ext.trans ?_ (by assumption) | refine Ext.alloc ?_ _)) (fun _ _ h => h))).mono ?_; rintro e w'' ⟨rfl, hg2⟩))
      all_goals (go_ret; refine ⟨?_, (by repeat (first | with_reducible exact Ext.refl _ _ | with_reducible refine Ext.trans ?_ (by assumption) | with_reducible refine Ext.drew ?_ | with_reducible refine Ext.drewN ?_ _ | with_reducible refine Ext.alloc ?_ _ | with_reducible refine Ext.setNew ?_ (by simp; done) _ | with_reducible refine Ext.setNew ?_ (by simp; omega) _))⟩; rw [Hf.out])
      all_goals clear Hn Hns Htx Ih Hdep Hd Hf
      all_goals (simp_all [-List.length_eq_zero_iff])
      all_goals first | omega | rfl | (intro _; exact ⟨by simp only [areNamesB, ‹namesB names = true›]; simp; omega, by omega⟩) | (intro h; exfalso; simp [areNamesB, ‹namesB names = false›] at h)
    have k4 : (kind != 4) = true := by simpa using k4
    by_cases h2 : 0 < names.length
    · have hz : shapeB ⟨kind, 0, text, names, kids⟩ (d + 1) = false := shape_names (by simpa using k4) h2
      have Hf := Lib.hid hz
      clear hz
      go_enter Try.func111, Try.ntmps111
      go_wp2_with (first | (go_at_call 95; refine (inRange_ok _ _ _ _).mono ?_; rintro e w' ⟨rfl, rfl⟩) | (go_at_call 127; refine (validText_ok _ _ Htx.out).mono ?_; rintro e w' ⟨rfl, rfl⟩) | (go_at_call 129; refine (names_ok _ _ _ _ (Hns.out.ext ((Ext.refl nil w).alloc _) (fun _ _ h => h))).mono ?_; rintro e w' ⟨rfl, hg⟩; have hcc := bcell hg) | (go_at_call 128; refine (kids_of _ Ih.out d _ _ _ (by have := Hd.out; omega) (by have := Hdep.out; omega) (Hn.out.ext (by repeat (first | exact Ext.refl _ _ | refine Ext.trans ?_ (by assumption) | refine Ext.alloc ?_ _)) (fun _ _ h => h))).mono ?_; rintro e w'' ⟨rfl, hg2⟩))
      all_goals (go_ret; refine ⟨?_, (by repeat (first | with_reducible exact Ext.refl _ _ | with_reducible refine Ext.trans ?_ (by assumption) | with_reducible refine Ext.drew ?_ | with_reducible refine Ext.drewN ?_ _ | with_reducible refine Ext.alloc ?_ _ | with_reducible refine Ext.setNew ?_ (by simp; done) _ | with_reducible refine Ext.setNew ?_ (by simp; omega) _))⟩; rw [Hf.out])
      all_goals clear Hn Hns Htx Ih Hdep Hd Hf
      all_goals (simp_all [-List.length_eq_zero_iff])
      all_goals first | omega | rfl | (intro _; exact ⟨by simp only [areNamesB, ‹namesB names = true›]; simp; omega, by omega⟩) | (intro h; exfalso; simp [areNamesB, ‹namesB names = false›] at h)
    have h2 : names.length ≤ 0 := by omega
    by_cases k3 : kind = 3
    · subst k3
      have he := shape_3 (n := ⟨3, 0, text, names, kids⟩) (d := d) rfl
      have Hf := Lib.hid he
      clear he
      go_enter Try.func111, Try.ntmps111
      go_wp2_with (first | (go_at_call 95; refine (inRange_ok _ _ _ _).mono ?_; rintro e w' ⟨rfl, rfl⟩) | (go_at_call 127; refine (validText_ok _ _ Htx.out).mono ?_; rintro e w' ⟨rfl, rfl⟩) | (go_at_call 129; refine (names_ok _ _ _ _ (Hns.out.ext ((Ext.refl nil w).alloc _) (fun _ _ h => h))).mono ?_; rintro e w' ⟨rfl, hg⟩; have hcc := bcell hg) | (go_at_call 128; refine (kids_of _ Ih.out d _ _ _ (by have := Hd.out; omega) (by have := Hdep.out; omega) (Hn.out.ext (by repeat (first | exact Ext.refl _ _ | refine Ext.trans ?_ (by assumption) | refine Ext.alloc ?_ _)) (fun _ _ h => h))).mono ?_; rintro e w'' ⟨rfl, hg2⟩))
      all_goals (go_ret; refine ⟨?_, (by repeat (first | with_reducible exact Ext.refl _ _ | with_reducible refine Ext.trans ?_ (by assumption) | with_reducible refine Ext.drew ?_ | with_reducible refine Ext.drewN ?_ _ | with_reducible refine Ext.alloc ?_ _ | with_reducible refine Ext.setNew ?_ (by simp; done) _ | with_reducible refine Ext.setNew ?_ (by simp; omega) _))⟩; rw [Hf.out])
      all_goals clear Hn Hns Htx Ih Hdep Hd Hf
      all_goals (simp_all [-List.length_eq_zero_iff])
      all_goals first | omega | rfl | (intro _; exact ⟨by simp only [areNamesB, ‹namesB names = true›]; simp; omega, by omega⟩) | (intro h; exfalso; simp [areNamesB, ‹namesB names = false›] at h)
    by_cases k0 : kind = 0
    · subst k0
      have he := shape_0 (n := ⟨0, 0, text, names, kids⟩) (d := d) rfl
      by_cases h3 : 0 < kids.length
      · have := h3
        have Hf := Lib.hid he
        clear he
        go_enter Try.func111, Try.ntmps111
        go_wp2_with (first | (go_at_call 95; refine (inRange_ok _ _ _ _).mono ?_; rintro e w' ⟨rfl, rfl⟩) | (go_at_call 127; refine (validText_ok _ _ Htx.out).mono ?_; rintro e w' ⟨rfl, rfl⟩) | (go_at_call 129; refine (names_ok _ _ _ _ (Hns.out.ext ((Ext.refl nil w).alloc _) (fun _ _ h => h))).mono ?_; rintro e w' ⟨rfl, hg⟩; have hcc := bcell hg) | (go_at_call 128; refine (kids_of _ Ih.out d _ _ _ (by have := Hd.out; omega) (by have := Hdep.out; omega) (Hn.out.ext (by repeat (first | exact Ext.refl _ _ | refine Ext.trans ?_ (by assumption) | refine Ext.alloc ?_ _)) (fun _ _ h => h))).mono ?_; rintro e w'' ⟨rfl, hg2⟩))
        all_goals (go_ret; refine ⟨?_, (by repeat (first | with_reducible exact Ext.refl _ _ | with_reducible refine Ext.trans ?_ (by assumption) | with_reducible refine Ext.drew ?_ | with_reducible refine Ext.drewN ?_ _ | with_reducible refine Ext.alloc ?_ _ | with_reducible refine Ext.setNew ?_ (by simp; done) _ | with_reducible refine Ext.setNew ?_ (by simp; omega) _))⟩; rw [Hf.out])
        all_goals clear Hn Hns Htx Ih Hdep Hd Hf
        all_goals (simp_all [-List.length_eq_zero_iff])
        all_goals first | omega | rfl | (intro _; exact ⟨by simp only [areNamesB, ‹namesB names = true›]; simp; omega, by omega⟩) | (intro h; exfalso; simp [areNamesB, ‹namesB names = false›] at h)
      · have h3 : kids.length ≤ 0 := by omega
        have Hf := Lib.hid he
        clear he
        go_enter Try.func111, Try.ntmps111
        go_wp2_with (first | (go_at_call 95; refine (inRange_ok _ _ _ _).mono ?_; rintro e w' ⟨rfl, rfl⟩) | (go_at_call 127; refine (validText_ok _ _ Htx.out).mono ?_; rintro e w' ⟨rfl, rfl⟩) | (go_at_call 129; refine (names_ok _ _ _ _ (Hns.out.ext ((Ext.refl nil w).alloc _) (fun _ _ h => h))).mono ?_; rintro e w' ⟨rfl, hg⟩; have hcc := bcell hg) | (go_at_call 128; refine (kids_of _ Ih.out d _ _ _ (by have := Hd.out; omega) (by have := Hdep.out; omega) (Hn.out.ext (by repeat (first | exact Ext.refl _ _ | refine Ext.trans ?_ (by assumption) | refine Ext.alloc ?_ _)) (fun _ _ h => h))).mono ?_; rintro e w'' ⟨rfl, hg2⟩))
        all_goals (go_ret; refine ⟨?_, (by repeat (first | with_reducible exact Ext.refl _ _ | with_reducible refine Ext.trans ?_ (by assumption) | with_reducible refine Ext.drew ?_ | with_reducible refine Ext.drewN ?_ _ | with_reducible refine Ext.alloc ?_ _ | with_reducible refine Ext.setNew ?_ (by simp; done) _ | with_reducible refine Ext.setNew ?_ (by simp; omega) _))⟩; rw [Hf.out])
        all_goals clear Hn Hns Htx Ih Hdep Hd Hf
        all_goals (simp_all [-List.length_eq_zero_iff])
        all_goals first | omega | rfl | (intro _; exact ⟨by simp only [areNamesB, ‹namesB names = true›]; simp; omega, by omega⟩) | (intro h; exfalso; simp [areNamesB, ‹namesB names = false›] at h)
    have kk : kind < 0 ∨ 4 < kind := by simp at k1 k2 k4; omega
    have hz : shapeB ⟨kind, 0, text, names, kids⟩ (d + 1) = false := shape_other kk
    rcases kk with kk | kk
    · by_cases h3 : 0 < kids.length
      · have := h3
        have Hf := Lib.hid hz
        clear hz
        go_enter Try.func111, Try.ntmps111
        go_wp2_with (first | (go_at_call 95; refine (inRange_ok _ _ _ _).mono ?_; rintro e w' ⟨rfl, rfl⟩) | (go_at_call 127; refine (validText_ok _ _ Htx.out).mono ?_; rintro e w' ⟨rfl, rfl⟩) | (go_at_call 129; refine (names_ok _ _ _ _ (Hns.out.ext ((Ext.refl nil w).alloc _) (fun _ _ h => h))).mono ?_; rintro e w' ⟨rfl, hg⟩; have hcc := bcell hg) | (go_at_call 128; refine (kids_of _ Ih.out d _ _ _ (by have := Hd.out; omega) (by have := Hdep.out; omega) (Hn.out.ext (by repeat (first | exact Ext.refl _ _ | refine Ext.trans ?_ (by assumption) | refine Ext.alloc ?_ _)) (fun _ _ h => h))).mono ?_; rintro e w'' ⟨rfl, hg2⟩))
        all_goals (go_ret; refine ⟨?_, (by repeat (first | with_reducible exact Ext.refl _ _ | with_reducible refine Ext.trans ?_ (by assumption) | with_reducible refine Ext.drew ?_ | with_reducible refine Ext.drewN ?_ _ | with_reducible refine Ext.alloc ?_ _ | with_reducible refine Ext.setNew ?_ (by simp; done) _ | with_reducible refine Ext.setNew ?_ (by simp; omega) _))⟩; rw [Hf.out])
        all_goals clear Hn Hns Htx Ih Hdep Hd Hf
        all_goals (simp_all [-List.length_eq_zero_iff])
        all_goals first | omega | rfl | (intro _; exact ⟨by simp only [areNamesB, ‹namesB names = true›]; simp; omega, by omega⟩) | (intro h; exfalso; simp [areNamesB, ‹namesB names = false›] at h)
      · have h3 : kids.length ≤ 0 := by omega
        have Hf := Lib.hid hz
        clear hz
        go_enter Try.func111, Try.ntmps111
        go_wp2_with (first | (go_at_call 95; refine (inRange_ok _ _ _ _).mono ?_; rintro e w' ⟨rfl, rfl⟩) | (go_at_call 127; refine (validText_ok _ _ Htx.out).mono ?_; rintro e w' ⟨rfl, rfl⟩) | (go_at_call 129; refine (names_ok _ _ _ _ (Hns.out.ext ((Ext.refl nil w).alloc _) (fun _ _ h => h))).mono ?_; rintro e w' ⟨rfl, hg⟩; have hcc := bcell hg) | (go_at_call 128; refine (kids_of _ Ih.out d _ _ _ (by have := Hd.out; omega) (by have := Hdep.out; omega) (Hn.out.ext (by repeat (first | exact Ext.refl _ _ | refine Ext.trans ?_ (by assumption) | refine Ext.alloc ?_ _)) (fun _ _ h => h))).mono ?_; rintro e w'' ⟨rfl, hg2⟩))
        all_goals (go_ret; refine ⟨?_, (by repeat (first | with_reducible exact Ext.refl _ _ | with_reducible refine Ext.trans ?_ (by assumption) | with_reducible refine Ext.drew ?_ | with_reducible refine Ext.drewN ?_ _ | with_reducible refine Ext.alloc ?_ _ | with_reducible refine Ext.setNew ?_ (by simp; done) _ | with_reducible refine Ext.setNew ?_ (by simp; omega) _))⟩; rw [Hf.out])
        all_goals clear Hn Hns Htx Ih Hdep Hd Hf
        all_goals (simp_all [-List.length_eq_zero_iff])
        all_goals first | omega | rfl | (intro _; exact ⟨by simp only [areNamesB, ‹namesB names = true›]; simp; omega, by omega⟩) | (intro h; exfalso; simp [areNamesB, ‹namesB names = false›] at h)
    · have := kk
      have Hf := Lib.hid hz
      clear hz
      go_enter Try.func111, Try.ntmps111
      go_wp2_with (first | (go_at_call 95; refine (inRange_ok _ _ _ _).mono ?_; rintro e w' ⟨rfl, rfl⟩) | (go_at_call 127; refine (validText_ok _ _ Htx.out).mono ?_; rintro e w' ⟨rfl, rfl⟩) | (go_at_call 129; refine (names_ok _ _ _ _ (Hns.out.ext ((Ext.refl nil w).alloc _) (fun _ _ h => h))).mono ?_; rintro e w' ⟨rfl, hg⟩; have hcc := bcell hg) | (go_at_call 128; refine (kids_of _ Ih.out d _ _ _ (by have := Hd.out; omega) (by have := Hdep.out; omega) (Hn.out.ext (by repeat (first | exact Ext.refl _ _ | refine Ext.trans ?_ (by assumption) | refine Ext.alloc ?_ _)) (fun _ _ h => h))).mono ?_; rintro e w'' ⟨rfl, hg2⟩))
      all_goals (go_ret; refine ⟨?_, (by repeat (first | with_reducible exact Ext.refl _ _ | with_reducible refine Ext.trans ?_ (by assumption) | with_reducible refine Ext.drew ?_ | with_reducible refine Ext.drewN ?_ _ | with_reducible refine Ext.alloc ?_ _ | with_reducible refine Ext.setNew ?_ (by simp; done) _ | with_reducible refine Ext.setNew ?_ (by simp; omega) _))⟩; rw [Hf.out])
      all_goals clear Hn Hns Htx Ih Hdep Hd Hf
      all_goals (simp_all [-List.length_eq_zero_iff])
      all_goals first | omega | rfl | (intro _; exact ⟨by simp only [areNamesB, ‹namesB names = true›]; simp; omega, by omega⟩) | (intro h; exfalso; simp [areNamesB, ‹namesB names = false›] at h)

/-- What the reference's 'count' answers. -/
def CountOk (n : Nd) : Prop := ∀ (v : Value) (w : World), n.count ≤ 1000000 → NodeR w any n v →
    Calls Try.prog 112 #[v] w fun e w' => e = .returned (.int .i64 n.count) ∧ Grow w w'

theorem countL_take (l : List Nd) (k : Nat) : countL (l.take k) ≤ countL l := by
  induction l generalizing k with
  | nil => simp
  | cons a l ih => cases k with
    | zero => simp [countL]
    | succ k => simp only [List.take_succ_cons, countL]; have := ih k; omega

set_option maxHeartbeats 400000 in
theorem count_ok : ∀ n, CountOk n := by
  refine Nd.ind' CountOk ?_
  intro n ih v w hb hn
  have hb' : countL n.kids ≤ 1000000 := by rw [Nd.count_eq] at hb; omega
  have Ih := Lib.hid ih
  have Hb := Lib.hid hb
  clear ih hb
  obtain ⟨na, nc, ka, kc, rfl, hc⟩ := hn
  obtain ⟨htx, hns, hks⟩ := hc.parts
  have hkl : n.kids.length ≤ 9223372036854775807 := hks.2.1
  have Hks := Lib.hid hks
  clear htx hns hks hc
  unfold nodeV at *
  go_enter Try.func112, Try.ntmps112
  go_wp2
  go_loopw [3, 4] (fun t i wr => Grow (w.alloc (.cells #[.int .i64 n.kind, .int .i64 n.num, .string n.text, .slice na n.names.length nc, .slice ka n.kids.length kc] 39)) wr ∧ ∃ k : Nat, k ≤ n.kids.length ∧ i = .int .i64 k ∧ t = .int .i64 ((1 + countL (n.kids.take k) : Nat) : Int)) (fun _ i _ => n.kids.length - (intOf i).toNat)
  case atStart => exact ⟨Ext.refl _ _, 0, Nat.zero_le _, rfl, by simp [countL]⟩
  case round =>
    obtain ⟨hg, k, hk, rfl, rfl⟩ := hrel
    have hcc := bcell hg
    have hg0 : Grow w wr := ((Ext.refl _ _).alloc _).trans hg
    have hct := countL_take n.kids k
    by_cases hlt : k < n.kids.length
    · obtain ⟨_, _, hks⟩ := (Hks.out).ext hg0 (fun _ _ h => h)
      rcases hks with hks | ⟨bk, ok, rfl, _, hkr⟩
      · simp [hks] at hlt
      obtain ⟨na', nc', ka', kc', c0, c1, c2, c3, c4, hkc⟩ := hkr.get k hlt
      have Hkc : Hid (NodeR wr any n.kids[k] (nodeV n.kids[k] na' nc' ka' kc')) := Lib.hid ⟨_, _, _, _, rfl, hkc⟩
      have hct' := countL_take n.kids (k + 1)
      rw [take_snoc' _ _ hlt, countL_snoc] at hct'
      clear hkr hkc
      go_wp2_with (go_at_call 112; refine (Ih.out _ (List.getElem_mem hlt) _ _ (by omega) Hkc.out).mono ?_; rintro e w2 ⟨rfl, hg2⟩)
      go_roundw
      case rel => exact ⟨hg.trans hg2, k + 1, by omega, by go_num, by rw [take_snoc' _ _ hlt, countL_snoc]; go_num⟩
      case measure => simp [intOf]; omega
    · have hke : k = n.kids.length := by omega
      have Hke := Lib.hid hke
      clear hke
      go_wp2
      go_ret
      exact ⟨by rw [Nd.count_eq, Hke.out]; simp, hg0⟩

set_option maxHeartbeats 400000 in
theorem validNode_ok (n : Nd) (v : Value) (w : World) (hn : NodeR w any n v) :
    Calls Try.prog 72 #[v] w fun e w' => e = .returned (.bool (validB n)) ∧ Grow w w' := by
  have Hn := Lib.hid hn
  obtain ⟨na, nc, ka, kc, rfl, hc⟩ := hn
  clear hc
  unfold nodeV at *
  cases hs : shapeB n 5
  · have Hs := Lib.hid hs
    have Hv : Hid (validB n = false) := Lib.hid (by simp [validB, hs])
    clear hs
    go_enter Try.func72, Try.ntmps72
    go_wp2_with (go_at_call 111; refine (shape_ok n 5 _ _ _ (by omega) (by omega) ((Hn.out).ext ((Ext.refl nil w).alloc _) (fun _ _ h => h))).mono ?_; rintro e w2 ⟨rfl, hg2⟩; simp only [Hs.out])
    go_ret
    exact ⟨by simp [Hv.out], (by repeat (first | with_reducible exact Ext.refl _ _ | with_reducible refine Ext.trans ?_ (by assumption) | with_reducible refine Ext.drew ?_ | with_reducible refine Ext.drewN ?_ _ | with_reducible refine Ext.alloc ?_ _ | with_reducible refine Ext.setNew ?_ (by simp; done) _ | with_reducible refine Ext.setNew ?_ (by simp; omega) _))⟩
  · have Hs := Lib.hid hs
    have hcn : n.count ≤ 1555 := Nat.le_trans (count_le 5 n hs) (cb_le 5 (by omega))
    have Hv : Hid (validB n = decide (n.count ≤ 40)) := Lib.hid (by simp [validB, hs])
    clear hs
    go_enter Try.func72, Try.ntmps72
    go_wp2_with (first | (go_at_call 111; refine (shape_ok n 5 _ _ _ (by omega) (by omega) ((Hn.out).ext ((Ext.refl nil w).alloc _) (fun _ _ h => h))).mono ?_; rintro e w2 ⟨rfl, hg2⟩; simp only [Hs.out]; have hcc := bcell hg2) | (go_at_call 112; refine (count_ok n _ _ (by omega) ((Hn.out).grow (by repeat (first | with_reducible exact Ext.refl _ _ | with_reducible refine Ext.trans ?_ (by assumption) | with_reducible refine Ext.drew ?_ | with_reducible refine Ext.drewN ?_ _ | with_reducible refine Ext.alloc ?_ _ | with_reducible refine Ext.setNew ?_ (by simp; done) _ | with_reducible refine Ext.setNew ?_ (by simp; omega) _)))).mono ?_; rintro e w3 ⟨rfl, hg3⟩))
    all_goals go_ret
    all_goals exact ⟨by rw [Hv.out]; simp; omega, (by repeat (first | with_reducible exact Ext.refl _ _ | with_reducible refine Ext.trans ?_ (by assumption) | with_reducible refine Ext.drew ?_ | with_reducible refine Ext.drewN ?_ _ | with_reducible refine Ext.alloc ?_ _ | with_reducible refine Ext.setNew ?_ (by simp; done) _ | with_reducible refine Ext.setNew ?_ (by simp; omega) _))⟩

end Go.Proofs.Ytmeobmegnneegaa

/-
  The walk of spec.validShape.
-/
namespace Go.Proofs.Ytmeobmegnneegaa
open Go.RowKit

end Go.Proofs.Ytmeobmegnneegaa

/-
  Whether a node fits a shape: the plain law and the walk of spec.fits.
-/
namespace Go.Proofs.Ytmeobmegnneegaa
open Go.RowKit

/-- A node that is valid but for its size. -/
def Good (n : Nd) : Prop := ∃ d, shapeB n d = true
def GoodS (x : Shp) : Prop := ∃ d, d ≤ 5 ∧ shpB x d = true

theorem Good.parts {n : Nd} (h : Good n) : partsB n = true := by
  obtain ⟨d, h⟩ := h
  rw [shapeB_eq] at h
  simp only [Bool.and_eq_true] at h
  exact h.1.2
theorem Good.kid {n k : Nd} (h : Good n) (hk : k ∈ n.kids) : Good k := by
  obtain ⟨d, h⟩ := h
  rw [shapeB_eq, shapeL_all] at h
  simp only [Bool.and_eq_true, List.all_eq_true] at h
  exact ⟨d - 1, h.2 k hk⟩
theorem Good.zero : Good Nd.zero := ⟨1, by simp [shapeB_eq, partsB, Nd.zero, shapeL]⟩
theorem Good.kids6 {n : Nd} (h : Good n) : n.kids.length ≤ 6 := partsB_kids h.parts
theorem Good.map {n : Nd} (h : Good n) (hk : n.kind = 4) : Asc n.names ∧ n.kids.length = n.names.length := by
  have hp := h.parts
  simp only [partsB, hk, Bool.and_eq_true] at hp
  simp [areNamesB] at hp
  exact ⟨namesB_asc hp.2.1.2, hp.2.2⟩
theorem Good.other {n : Nd} (h : Good n) (hk : n.kind ≠ 4) : n.names = [] := by
  have hp := h.parts
  simp only [partsB, hk, Bool.and_eq_true] at hp
  simp at hp
  exact hp.1.2
theorem Good.asc {n : Nd} (h : Good n) : Asc n.names := by
  by_cases hk : n.kind = 4
  · exact (h.map hk).1
  · rw [h.other hk]; intro i j hi; simp at hi
theorem Good.len {n : Nd} (h : Good n) : n.names.length ≤ n.kids.length := by
  by_cases hk : n.kind = 4
  · rw [(h.map hk).2]; exact Nat.le_refl _
  · rw [h.other hk]; exact Nat.zero_le _
theorem Good.kidOf {n : Nd} (h : Good n) (s : ByteArray) : Good (kidOf n s) := by
  cases hm : mem n.names s
  · rw [kidOf_no hm]; exact Good.zero
  · exact h.kid (kidOf_mem h.asc h.len hm)
theorem validB_good {n : Nd} (h : validB n = true) : Good n := by
  simp only [validB, Bool.and_eq_true] at h
  exact ⟨5, h.1⟩

theorem GoodS.head {x : Shp} (h : GoodS x) : shpHead x = true := by
  obtain ⟨d, _, h⟩ := h
  rw [shpB_eq] at h
  simp only [Bool.and_eq_true] at h
  exact h.1.2
theorem GoodS.kid {x k : Shp} (h : GoodS x) (hk : k ∈ x.kids) : GoodS k := by
  obtain ⟨d, hd, h⟩ := h
  rw [shpB_eq, shpL_all] at h
  simp only [Bool.and_eq_true, List.all_eq_true] at h
  exact ⟨d - 1, by omega, h.2 k hk⟩

mutual
/-- Whether a node fits a shape. -/
def fitB : Shp → Nd → Bool
  | ⟨kind, names, needs, kids⟩, n => (decide (kind = 0) || decide (n.kind = kind)) && fitL names needs kids n
def fitL : List ByteArray → List Bool → List Shp → Nd → Bool
  | nm :: ns, nd :: bs, k :: ks, n => (if mem n.names nm then fitB k (kidOf n nm) else !nd) && fitL ns bs ks n
  | _, _, _, _ => true
end
theorem fitB_eq (x : Shp) (n : Nd) : fitB x n = ((decide (x.kind = 0) || decide (n.kind = x.kind)) && fitL x.names x.needs x.kids n) := by cases x; simp [fitB]
theorem fitL_step {ns : List ByteArray} {bs : List Bool} {ks : List Shp} (n : Nd) {k : Nat} (h1 : k < ns.length) (h2 : k < bs.length) (h3 : k < ks.length) :
    fitL (ns.drop k) (bs.drop k) (ks.drop k) n = ((if mem n.names ns[k] then fitB ks[k] (kidOf n ns[k]) else !bs[k]) && fitL (ns.drop (k + 1)) (bs.drop (k + 1)) (ks.drop (k + 1)) n) := by
  rw [drop_cons _ _ h1, drop_cons _ _ h2, drop_cons _ _ h3, fitL]
theorem fitL_end {ns : List ByteArray} {bs : List Bool} {ks : List Shp} (n : Nd) {k : Nat} (h1 : ¬ k < ns.length) : fitL (ns.drop k) (bs.drop k) (ks.drop k) n = true := by
  rw [List.drop_eq_nil_of_le (by omega)]; simp [fitL]

theorem placeFrom_map {n : Nd} {s : ByteArray} (hk : n.kind = 4) (ha : Asc n.names) (hl : n.kids.length = n.names.length) : ∀ (m i : Nat), m + i = n.kids.length → (∀ t (h : t < n.names.length), t < i → n.names[t] ≠ s) →
    placeFrom n s i m = if mem n.names s then (lbound n.names s : Int) else -1
  | 0, i, h, hno => by
    have : mem n.names s = false := mem_no (fun hm => by
      obtain ⟨t, ht, he⟩ := List.getElem_of_mem hm
      exact hno t ht (by omega) he)
    simp [placeFrom, this]
  | m + 1, i, h, hno => by
    have hi : i < n.names.length := by omega
    rw [placeFrom]
    by_cases e : n.names[i] = s
    · have hm : mem n.names s = true := mem_iff.2 (e ▸ List.getElem_mem hi)
      have hh : hit n s i = true := by simp [hit, hk, hi, e]
      have : lbound n.names s = i := lb_of (Nat.le_of_lt hi) (fun t ht hti => by rw [← e]; exact ha t i ht hi hti) (fun t ht hti => by
        rcases Nat.eq_or_lt_of_le hti with rfl | h'
        · rw [e]; exact lt_irr _
        · rw [← e]; exact bl_asymm _ _ (ha i t hi ht h'))
      simp [hh, hm, this]
    · have hh : hit n s i = false := by simp [hit, hk, hi, e]
      rw [hh]
      exact placeFrom_map hk ha hl m (i + 1) (by omega) (fun t ht hti => by
        rcases Nat.eq_or_lt_of_le (show t ≤ i by omega) with rfl | h'
        · exact e
        · exact hno t ht h')

theorem place_map {n : Nd} (h : Good n) (hk : n.kind = 4) (s : ByteArray) : placeOf n s = if mem n.names s then (lbound n.names s : Int) else -1 :=
  placeFrom_map hk (h.map hk).1 (h.map hk).2 _ 0 (by omega) (fun t _ h' => absurd h' (by omega))

end Go.Proofs.Ytmeobmegnneegaa

/-
  The steps of a region that draws its order and makes memory that is unseen.
-/
namespace Go.Proofs.Ytmeobmegnneegaa
open Go Go.RowKit

section
variable {P : Program} {ops : Array Oper} {Vs : Nat → Option (Value → World → Prop)} {w : World} {Q : Act → World → Prop}

theorem drew_grow {w w' : World} (h : Grow w.drew w') : Grow w w' := ((Ext.refl nil w).drew).trans h

/-- An operation that reads. -/
theorem wpStab_read {o : Oper} {rest : List Oper} {k : Nat} {a : Act} {E : Env} (c : Value) (hw : Region.wanted o (yielded ops a.tmps) = true) (hV : Vs k = none)
    (h : ∀ x : Later w, valAt Grow P o a (later w x) c) (h2 : wpStab P ops Grow Vs (fun w' => Grow w.drew w') Q rest (k + 1) (a.put o.dst c) E) :
    wpStab P ops Grow Vs (fun w' => Grow w.drew w') Q (o :: rest) k a E := by
  unfold wpStab
  rw [if_pos hw]
  unfold does
  rw [hV]
  exact ⟨c, fun w' hc => h ⟨w', drew_grow hc.1⟩, h2⟩

/-- An operation that hands back something unseen. -/
theorem wpStab_made {o : Oper} {rest : List Oper} {k : Nat} {a : Act} {E : Env} (V : Value → World → Prop) (hw : Region.wanted o (yielded ops a.tmps) = true) (hV : Vs k = some V)
    (h : ∀ x : Later w, (∀ e ∈ o.after, Region.binds .any e = true → E e.on (later w x)) → stabAt Grow P o a (later w x) V)
    (h2 : ∀ v, wpStab P ops Grow Vs (fun w' => Grow w.drew w') Q rest (k + 1) (a.put o.dst v) (E.upd k (V v))) :
    wpStab P ops Grow Vs (fun w' => Grow w.drew w') Q (o :: rest) k a E := by
  unfold wpStab
  rw [if_pos hw]
  unfold does
  rw [hV]
  exact ⟨fun w' hc => h ⟨w', drew_grow hc.1⟩ hc.2, fun v w' _ _ _ => h2 v⟩

/-- The same, and what is known of it can be looked into. -/
theorem wpStab_made' {o : Oper} {rest : List Oper} {k : Nat} {a : Act} {E : Env} (V : Value → World → Prop) (hw : Region.wanted o (yielded ops a.tmps) = true) (hV : Vs k = some V)
    (h : ∀ x : Later w, (∀ e ∈ o.after, Region.binds .any e = true → E e.on (later w x)) → stabAt Grow P o a (later w x) V)
    (h2 : ∀ v, (∃ x : Later w, V v (later w x)) → wpStab P ops Grow Vs (fun w' => Grow w.drew w') Q rest (k + 1) (a.put o.dst v) (E.upd k (V v))) :
    wpStab P ops Grow Vs (fun w' => Grow w.drew w') Q (o :: rest) k a E := by
  unfold wpStab
  rw [if_pos hw]
  unfold does
  rw [hV]
  exact ⟨fun w' hc => h ⟨w', drew_grow hc.1⟩ hc.2, fun v w' hc _ hv => h2 v ⟨⟨w', drew_grow hc⟩, hv⟩⟩

theorem wpStab_end' {k : Nat} {a : Act} {E : Env} (h : ∀ w', Grow w w' → (∀ j, E j w') → Q a w') : wpStab P ops Grow Vs (fun w' => Grow w.drew w') Q [] k a E :=
  fun w' hc hE => h w' (drew_grow hc) hE

/-- An operation that is passed over. -/
theorem wpStab_skip {o : Oper} {rest : List Oper} {k : Nat} {a : Act} {E : Env} (hw : Region.wanted o (yielded ops a.tmps) = false)
    (h2 : wpStab P ops Grow Vs (fun w' => Grow w.drew w') Q rest (k + 1) (a.put o.dst undef) E) :
    wpStab P ops Grow Vs (fun w' => Grow w.drew w') Q (o :: rest) k a E := by
  unfold wpStab
  rw [hw, if_neg (by simp)]
  exact h2

theorem wpStab_const {o : Oper} {rest : List Oper} {k : Nat} {a : Act} {E : Env} (c : Value) (hw : Region.wanted o (yielded ops a.tmps) = true) (hV : Vs k = some (fun v _ => v = c))
    (h : ∀ x : Later w, (∀ e ∈ o.after, Region.binds .any e = true → E e.on (later w x)) → stabAt Grow P o a (later w x) (fun v _ => v = c))
    (h2 : wpStab P ops Grow Vs (fun w' => Grow w.drew w') Q rest (k + 1) (a.put o.dst c) (E.upd k (fun _ => True))) :
    wpStab P ops Grow Vs (fun w' => Grow w.drew w') Q (o :: rest) k a E := by
  unfold wpStab
  rw [if_pos hw]
  unfold does
  rw [hV]
  refine ⟨fun w' hc => h ⟨w', drew_grow hc.1⟩ hc.2, fun v w' _ _ hv => ?_⟩
  subst hv
  have : (fun (u : Value) (_ : World) => u = v) v = (fun _ => True) := by funext _; simp
  rw [this]
  exact h2

theorem wpStab_end {k : Nat} {a : Act} {E : Env} (h : ∀ w', Grow w w' → Q a w') : wpStab P ops Grow Vs (fun w' => Grow w.drew w') Q [] k a E :=
  fun w' hc _ => h w' (drew_grow hc)

/-- A call that hands back something unseen. -/
theorem stabAt_call {o : Oper} {a : Act} {w : World} {V : Value → World → Prop} {f : FuncId} {args : Array Value} (h : (execOp a.eval o).run P w = .ok (.enter f args) w)
    (hc : Calls P f args w fun e w' => ∃ v, e = .returned v ∧ Grow w w' ∧ V v w') : stabAt Grow P o a w V := by
  unfold stabAt
  rw [h]
  exact ⟨rfl, hc⟩

theorem valAt_of {o : Oper} {a : Act} {w : World} {c : Value} (h : (execOp a.eval o).run P w = .ok (.value c) w) : valAt Grow P o a w c := by
  unfold valAt
  rw [h]
  exact ⟨rfl, Ext.refl _ _⟩
end
end Go.Proofs.Ytmeobmegnneegaa

/-
  Reading operations of a stab walk by the kit's quick step.
-/
namespace Go.Proofs.Ytmeobmegnneegaa
open Go Go.RowKit

/-- An operation that enters no function. -/
def easy (o : Oper) : Bool :=
  match o.op with
  | .move _ | .assign _ | .pick _ _ _ | .load _ _ | .fieldAddr _ _ _ | .indexAddr _ _ _ | .index _ _ _ | .field _ _ _ | .extract _ _ | .binOp _ _ _ _ _ | .unOp _ _ _ | .convert _ _ _ | .slice _ _ _ _ _ | .build _ _ => true
  | .call { callee := .builtin .len, args := _, argTypes := _ } => true
  | _ => false

theorem pureVal_run {P : Program} (s : Sem Value) (w w' : World) (f : FuncId) (args : Array Value) : (do pure (Next.value (← s)) : Sem Next).run P w ≠ .ok (.enter f args) w' := by
  intro h
  have : (do pure (Next.value (← s)) : Sem Next).run P w = (s.run P w).andThen fun a w' => .ok (.value a) w' := by
    simp [Result.andThen]
  rw [this] at h
  cases hs : s.run P w with
  | ok a w1 => rw [hs] at h; simp [Result.andThen] at h
  | halt x w1 => rw [hs] at h; simp [Result.andThen] at h

theorem noEnter {P : Program} {o : Oper} (he : easy o = true) (ρ : Operand → Value) (w w' : World) (f : FuncId) (args : Array Value) : (execOp ρ o).run P w ≠ .ok (.enter f args) w' := by
  obtain ⟨dst, op, type, pos, after, guard⟩ := o
  cases op <;> simp only [easy, Bool.false_eq_true] at he
  case move x => intro h; simp [execOp] at h
  case assign x => intro h; simp [execOp] at h
  case pick c a b =>
    intro h
    have : (execOp ρ ⟨dst, .pick c a b, type, pos, after, guard⟩).run P w = ((asBool (ρ c)).run P w).andThen fun q w' => .ok (.value (if q then ρ a else ρ b)) w' := by
      simp [execOp, Result.andThen]
    rw [this] at h
    cases hs : (asBool (ρ c)).run P w with
    | ok a w1 => rw [hs] at h; simp [Result.andThen] at h
    | halt x w1 => rw [hs] at h; simp [Result.andThen] at h
  case load t a => exact pureVal_run _ _ _ _ _
  case fieldAddr => exact pureVal_run _ _ _ _ _
  case indexAddr => exact pureVal_run _ _ _ _ _
  case index => exact pureVal_run _ _ _ _ _
  case field => exact pureVal_run _ _ _ _ _
  case extract => exact pureVal_run _ _ _ _ _
  case binOp => exact pureVal_run _ _ _ _ _
  case unOp => exact pureVal_run _ _ _ _ _
  case convert => exact pureVal_run _ _ _ _ _
  case slice => exact pureVal_run _ _ _ _ _
  case build => exact pureVal_run _ _ _ _ _
  case call c =>
    obtain ⟨callee, args', tys⟩ := c
    cases callee with
    | value x => simp at he
    | invoke r m => simp at he
    | builtin b =>
      cases b <;> simp at he
      intro h
      simp [execOp, resolve, invoke, builtin] at h
      cases hs : (Builtin.len_ tys type (Array.map ρ args')).run P w with
      | ok a w1 => rw [hs] at h; simp [Result.andThen] at h
      | halt x w1 => rw [hs] at h; simp [Result.andThen] at h

section
variable {P : Program} {ops : Array Oper} {Vs : Nat → Option (Value → World → Prop)} {w : World} {Q : Act → World → Prop}

theorem wpStab_quiet {o : Oper} {rest : List Oper} {k : Nat} {a : Act} {E : Env} (he : easy o = true) (hw : Region.wanted o (yielded ops a.tmps) = true) (hV : Vs k = none)
    (h : ∀ K : Act → Prop, (∀ a, wpStab P ops Grow Vs (fun w' => Grow w.drew w') Q rest (k + 1) a E → K a) → o.quiet P a (fun w' => ∃ x, w' = later w x) K) :
    wpStab P ops Grow Vs (fun w' => Grow w.drew w') Q (o :: rest) k a E := by
  unfold wpStab
  rw [if_pos hw]
  unfold does
  rw [hV]
  obtain ⟨v, h1, h2⟩ := h _ (fun _ h => h)
  refine ⟨v, fun w' hc => ?_, h2⟩
  have h3 := h1 w' ⟨⟨w', drew_grow hc.1⟩, rfl⟩
  unfold Oper.quietAt at h3
  unfold valAt
  have hne := noEnter (P := P) he a.eval w'
  generalize (execOp a.eval o).run P w' = r at *
  cases r with
  | ok n w2 =>
    cases n <;> simp only [Oper.quietUpon] at h3 <;> simp only [valUpon]
    case value u => exact ⟨h3.2, by rw [h3.1]; exact Ext.refl _ _⟩
    case skip => exact ⟨h3.2, by rw [h3.1]; exact Ext.refl _ _⟩
    case enter f args => exact absurd rfl (hne w2 f args)
  | halt x w2 => simp only [Oper.quietUpon] at h3
end

end Go.Proofs.Ytmeobmegnneegaa

/-
  Where a node does not fit a shape: the plain law and the walk of impl.misfit.
-/
namespace Go.Proofs.Ytmeobmegnneegaa
open Go.RowKit

mutual
/-- Where a node does not fit a shape. -/
def mis : Shp → Nd → Option (List ByteArray)
  | ⟨kind, names, needs, kids⟩, n => if kind = 0 then none else if kind ≠ n.kind then some [] else misL names needs kids n
def misL : List ByteArray → List Bool → List Shp → Nd → Option (List ByteArray)
  | nm :: ns, nd :: bs, k :: ks, n => if mem n.names nm then (match mis k (kidOf n nm) with | some p => some (nm :: p) | none => misL ns bs ks n) else if nd then some [nm] else misL ns bs ks n
  | _, _, _, _ => none
end
theorem mis_eq (x : Shp) (n : Nd) : mis x n = if x.kind = 0 then none else if x.kind ≠ n.kind then some [] else misL x.names x.needs x.kids n := by cases x; simp [mis]
theorem misL_step {ns : List ByteArray} {bs : List Bool} {ks : List Shp} (n : Nd) {k : Nat} (h1 : k < ns.length) (h2 : k < bs.length) (h3 : k < ks.length) :
    misL (ns.drop k) (bs.drop k) (ks.drop k) n = if mem n.names ns[k] then (match mis ks[k] (kidOf n ns[k]) with | some p => some (ns[k] :: p) | none => misL (ns.drop (k + 1)) (bs.drop (k + 1)) (ks.drop (k + 1)) n) else if bs[k] then some [ns[k]] else misL (ns.drop (k + 1)) (bs.drop (k + 1)) (ks.drop (k + 1)) n := by
  rw [drop_cons _ _ h1, drop_cons _ _ h2, drop_cons _ _ h3, misL]
theorem misL_end {ns : List ByteArray} {bs : List Bool} {ks : List Shp} (n : Nd) {k : Nat} (h1 : ¬ k < ns.length) : misL (ns.drop k) (bs.drop k) (ks.drop k) n = none := by
  rw [List.drop_eq_nil_of_le (by omega)]; simp [misL]

/-- The value of a list of texts and a truth value. -/
def MisR (w w' : World) (r : Option (List ByteArray)) (v : Value) : Prop :=
  ∃ a c fp, v = .tuple #[.slice a (r.getD []).length c, .bool r.isSome] ∧ StrsF w' a c (r.getD []) fp ∧ Free w.heap.size w' fp ∧ (r.getD [] = [] → a = none ∧ c = 0)

theorem MisR.grow {w w' w'' : World} {r : Option (List ByteArray)} {v : Value} (h : MisR w w' r v) (hg : Grow w' w'') : MisR w w'' r v := by
  obtain ⟨a, c, fp, hv, h1, h2, h3⟩ := h
  exact ⟨a, c, fp, hv, h1.keep (hg.keeps h2 (fun _ _ h => h)), h2.ext hg (fun _ _ h => h), h3⟩

theorem MisR.none (w w' : World) : MisR w w' .none (.tuple #[.slice .none 0 0, .bool false]) :=
  ⟨.none, 0, [], rfl, ⟨Nat.le_refl _, Nat.zero_le _, by simp, .inl ⟨rfl, rfl⟩⟩, Free.nil _ _, fun _ => ⟨rfl, rfl⟩⟩
theorem MisR.nil (w w' : World) : MisR w w' (some []) (.tuple #[.slice .none 0 0, .bool true]) :=
  ⟨.none, 0, [], rfl, ⟨Nat.le_refl _, Nat.zero_le _, by simp, .inl ⟨rfl, rfl⟩⟩, Free.nil _ _, fun _ => ⟨rfl, rfl⟩⟩

/-- What a list of one's own texts is. -/
theorem strs_of_row {w : World} {B : Nat} {T : TypeId} {v : Value} {n : Nat} {xs : List ByteArray} (h : w.ownsRow B T 1 v n (xs.map Value.string)) (hx : ∀ x ∈ xs, x.size ≤ big) :
    ∃ a c fp, v = .slice a xs.length c ∧ StrsF w a c xs fp ∧ Free B w fp ∧ (xs = [] → fp = []) := by
  obtain ⟨h1, h2⟩ := h
  have hn : n = xs.length := by simp at h1; omega
  subst hn
  rcases h2 with ⟨rfl, h0⟩ | ⟨g, cap, cur, rfl, hb, hg, hle, hcap, hcs, htake⟩
  · have : xs = [] := List.length_eq_zero_iff.1 h0
    subst this
    exact ⟨none, 0, [], rfl, ⟨Nat.le_refl _, Nat.zero_le _, by simp, .inl ⟨rfl, rfl⟩⟩, Free.nil _ _, fun _ => rfl⟩
  · have hlen : xs.length ≤ big := by unfold maxLen at hcap; unfold big; omega
    by_cases he : xs = []
    · subst he
      exact ⟨_, _, [], rfl, ⟨Nat.zero_le _, Nat.zero_le _, by simp, .inl ⟨rfl, rfl⟩⟩, Free.nil _ _, fun _ => rfl⟩
    · refine ⟨_, _, [g], rfl, ⟨hle, hlen, hx, .inr ⟨g, 0, he, rfl, rfl, fun i hi => ?_⟩⟩, ⟨by simp, fun b hb' => ?_⟩, fun h => absurd h he⟩
      · unfold World.cell?
        simp only [hg, Nat.zero_add]
        have : cur.toList[i]? = some (Value.string xs[i]) := by
          have h3 : (cur.toList.take (xs.length * 1))[i]? = some (Value.string xs[i]) := by rw [htake]; simp [hi]
          rw [List.getElem?_take] at h3
          rw [if_pos (by omega)] at h3
          exact h3
        rw [Array.getElem?_toList] at this
        simpa [World.frozen?] using this
      · simp at hb'
        subst hb'
        refine ⟨hb, (Array.getElem?_eq_some_iff.1 hg).1, fun o => ?_⟩
        unfold World.frozen?
        simp [hg]

theorem MisR.one (W w : World) (x : ByteArray) (T : TypeId) (b : Nat) (hb : b = w.heap.size) (h : W.heap.size ≤ w.heap.size) (hx : x.size ≤ big) :
    MisR W (w.alloc (.cells #[.string x] T)) (some [x]) (.tuple #[.slice (some ⟨b, 0, Option.none⟩) 1 1, .bool true]) := by
  subst hb
  refine ⟨_, _, [w.heap.size], rfl, ⟨Nat.le_refl _, by simp [big], by simpa using hx, .inr ⟨_, 0, by simp, rfl, rfl, fun i hi => ?_⟩⟩, ⟨by simp, fun b hb => ?_⟩, fun h => by simp at h⟩
  · simp at hi
    subst hi
    rw [World.cell?_alloc_new]; rfl
  · simp at hb
    subst hb
    exact ⟨h, by simp, fun o => World.frozen?_alloc_new w _ T o⟩

theorem addr_add (b o j : Nat) : (⟨b, o, Option.none⟩ : Addr).add j = ⟨b, o + j, Option.none⟩ := by unfold Addr.add; split <;> simp_all

theorem grown_ext {w w1 w2 : World} {row : Option Nat} (h : Grow w w1) (g : w1.grownBy w2 row) (hr : ∀ k, row = some k → w.heap.size ≤ k) : Grow w w2 :=
  ⟨g.os.trans h.os, g.tape.trans h.tape, g.output.trans h.output, Nat.le_trans h.size g.size, fun k hk _ => by
    rw [g.block k (Nat.lt_of_lt_of_le hk h.size) (fun e => by have := hr k e.symm; omega)]
    exact h.block k hk (fun h => h)⟩

/-- A row of cells that has just been laid. -/
theorem row_new (w : World) (B : Nat) (T : TypeId) (xs : List Value) (b : Nat) (hb : b = w.heap.size) (h : B ≤ w.heap.size) (hm : xs.length ≤ 1000) : (w.alloc (.cells xs.toArray T)).ownsRow B T 1 (.slice (some ⟨b, 0, Option.none⟩) xs.length xs.length) xs.length xs := by
  subst hb
  exact ⟨by simp, .inr ⟨_, _, xs.toArray, rfl, h, heap_alloc_new w _, Nat.le_refl _, by unfold maxLen; omega, by simp, by simp⟩⟩

theorem MisR.row {w w' : World} {T : TypeId} {v : Value} {n : Nat} {x : ByteArray} {p : List ByteArray} (h : w'.ownsRow w.heap.size T 1 v n ((x :: p).map Value.string)) (hx : ∀ y ∈ x :: p, y.size ≤ big) :
    MisR w w' (some (x :: p)) (.tuple #[v, .bool true]) := by
  obtain ⟨a, c, fp, hv, h1, h2, _⟩ := strs_of_row h hx
  exact ⟨a, c, fp, by rw [hv]; rfl, h1, h2, fun h => by simp at h⟩

theorem MisR.base {w0 w w' : World} {r : Option (List ByteArray)} {v : Value} (h : MisR w w' r v) (hs : w0.heap.size ≤ w.heap.size) : MisR w0 w' r v := by
  obtain ⟨a, c, fp, hv, h1, h2, h3⟩ := h
  exact ⟨a, c, fp, hv, h1, h2.mono hs, h3⟩

theorem misL_len (n : Nd) (d : Nat) : ∀ (ks : List Shp), (∀ k ∈ ks, ∀ m p, mis k m = some p → p.length ≤ d) → ∀ ns bs p, misL ns bs ks n = some p → p.length ≤ d + 1
  | [], _, ns, bs, p, h => by cases ns <;> cases bs <;> simp [misL] at h
  | k :: ks, hk, [], bs, p, h => by simp [misL] at h
  | k :: ks, hk, nm :: ns, [], p, h => by simp [misL] at h
  | k :: ks, hk, nm :: ns, nd :: bs, p, h => by
    rw [misL] at h
    by_cases hm : mem n.names nm = true
    · rw [if_pos hm] at h
      cases hx : mis k (kidOf n nm) with
      | none => rw [hx] at h; exact misL_len n d ks (fun k' hk' => hk k' (by simp [hk'])) ns bs p h
      | some q =>
        rw [hx] at h
        simp at h
        subst h
        have := hk k (by simp) _ _ hx
        simp; omega
    · rw [if_neg hm] at h
      by_cases hn : nd = true
      · rw [if_pos hn] at h; simp at h; subst h; simp
      · rw [if_neg hn] at h
        exact misL_len n d ks (fun k' hk' => hk k' (by simp [hk'])) ns bs p h

theorem mis_len : ∀ (d : Nat) (x : Shp) (n : Nd) (p : List ByteArray), shpB x d = true → mis x n = some p → p.length ≤ d
  | 0, x, n, p, h, _ => by rw [shpB_eq] at h; simp at h
  | d + 1, x, n, p, h, hp => by
    rw [shpB_eq, shpL_all] at h
    simp only [Bool.and_eq_true, List.all_eq_true, Nat.add_sub_cancel] at h
    rw [mis_eq] at hp
    by_cases h0 : x.kind = 0
    · simp [h0] at hp
    · rw [if_neg h0] at hp
      by_cases h1 : x.kind ≠ n.kind
      · rw [if_pos h1] at hp; simp at hp; subst hp; simp
      · rw [if_neg h1] at hp
        exact misL_len n d x.kids (fun k hk m q hq => mis_len d k m q (h.2 k hk) hq) _ _ _ hp

theorem GoodS.len {x : Shp} (h : GoodS x) {n : Nd} {p : List ByteArray} (hp : mis x n = some p) : p.length ≤ 5 := by
  obtain ⟨d, hd, h⟩ := h
  exact Nat.le_trans (mis_len d x n p h hp) hd

end Go.Proofs.Ytmeobmegnneegaa

/-
  Rows of nodes that a call appends to: their cells, and how they read as slices of nodes.
-/
namespace Go.Proofs.Ytmeobmegnneegaa
open Go Go.RowKit

/-- The cells of nodes, one behind the other. -/
def NCells (w : World) (S : Nat → Prop) : List Nd → List Value → Prop
  | [], cs => cs = []
  | n :: l, cs => ∃ na nc ka kc cs', cs = nodeL n na nc ka kc ++ cs' ∧ NodeC w S n na nc ka kc ∧ NCells w S l cs'

theorem NCells.len {w : World} {S : Nat → Prop} : ∀ {l : List Nd} {cs : List Value}, NCells w S l cs → cs.length = l.length * 5
  | [], cs, h => by cases h; rfl
  | n :: l, cs, h => by
    obtain ⟨na, nc, ka, kc, cs', rfl, _, h⟩ := h
    rw [List.length_append, NCells.len h]; simp [nodeL, Nat.succ_mul]; omega
theorem NCells.append {w : World} {S : Nat → Prop} : ∀ {l m : List Nd} {cs ds : List Value}, NCells w S l cs → NCells w S m ds → NCells w S (l ++ m) (cs ++ ds)
  | [], m, cs, ds, h, k => by cases h; exact k
  | n :: l, m, cs, ds, h, k => by
    obtain ⟨na, nc, ka, kc, cs', rfl, hn, h⟩ := h
    exact ⟨na, nc, ka, kc, cs' ++ ds, by simp, hn, NCells.append h k⟩
theorem NCells.ext {X S : Nat → Prop} {w w' : World} (he : Ext X w w') (hS : ∀ k, S k → ¬ X k) : ∀ {l : List Nd} {cs : List Value}, NCells w S l cs → NCells w' S l cs
  | [], cs, h => h
  | n :: l, cs, h => by
    obtain ⟨na, nc, ka, kc, cs', rfl, hn, h⟩ := h
    exact ⟨na, nc, ka, kc, cs', rfl, hn.ext he hS, NCells.ext he hS h⟩
theorem NCells.mono {S T : Nat → Prop} {w : World} (hS : ∀ k, S k → T k) : ∀ {l : List Nd} {cs : List Value}, NCells w S l cs → NCells w T l cs
  | [], cs, h => h
  | n :: l, cs, h => by
    obtain ⟨na, nc, ka, kc, cs', rfl, hn, h⟩ := h
    exact ⟨na, nc, ka, kc, cs', rfl, hn.mono hS, NCells.mono hS h⟩
theorem NCells.one {w : World} {S : Nat → Prop} {n : Nd} {na : Option Addr} {nc : Nat} {ka : Option Addr} {kc : Nat} (h : NodeC w S n na nc ka kc) : NCells w S [n] (nodeL n na nc ka kc) :=
  ⟨na, nc, ka, kc, [], by simp, h, rfl⟩
theorem NCells.cell1 {w : World} {S : Nat → Prop} : ∀ {l : List Nd} {cs : List Value}, NCells w S l cs → ∀ u ∈ cs, u.oneCell' = true
  | [], cs, h, u, hu => by cases h; cases hu
  | n :: l, cs, h, u, hu => by
    obtain ⟨na, nc, ka, kc, cs', rfl, _, h⟩ := h
    rcases List.mem_append.1 hu with hu | hu
    · simp [nodeL] at hu
      rcases hu with rfl | rfl | rfl | rfl | rfl <;> simp [Value.oneCell']
    · exact NCells.cell1 h u hu

/-- What lies in a row reads as nodes. -/
theorem NCells.kids {w : World} {S : Nat → Prop} {b : Nat} : ∀ {l : List Nd} {cs : List Value} {o : Nat}, NCells w S l cs → (∀ i v, cs[i]? = some v → w.cell? ⟨b, o + i, none⟩ = some v) → KidsR w S b o l
  | [], _, _, _, _ => by unfold KidsR; trivial
  | n :: l, cs, o, h, hc => by
    obtain ⟨na, nc, ka, kc, cs', rfl, hn, h⟩ := h
    unfold KidsR
    refine ⟨⟨na, nc, ka, kc, hc 0 _ rfl, hc 1 _ rfl, hc 2 _ rfl, hc 3 _ rfl, hc 4 _ rfl, hn⟩, NCells.kids h (fun i v hi => ?_)⟩
    have := hc (5 + i) v (by rw [List.getElem?_append_right (by simp [nodeL])]; simpa [nodeL] using hi)
    rw [show o + (5 + i) = o + 5 + i by omega] at this
    exact this

/-- Nodes that are read are a row's cells. -/
theorem KidsR.cells {w : World} {S : Nat → Prop} {b : Nat} : ∀ {l : List Nd} {o : Nat}, KidsR w S b o l → ∃ cs, NCells w S l cs ∧ ∀ i v, cs[i]? = some v → w.cell? ⟨b, o + i, none⟩ = some v
  | [], _, _ => ⟨[], rfl, fun i v h => by simp at h⟩
  | n :: l, o, h => by
    unfold KidsR at h
    obtain ⟨⟨na, nc, ka, kc, c0, c1, c2, c3, c4, hn⟩, hr⟩ := h
    obtain ⟨cs, h1, h2⟩ := hr.cells
    refine ⟨nodeL n na nc ka kc ++ cs, ⟨na, nc, ka, kc, cs, rfl, hn, h1⟩, fun i v hi => ?_⟩
    match i, hi with
    | 0, hi => simp [nodeL] at hi; subst hi; exact c0
    | 1, hi => simp [nodeL] at hi; subst hi; exact c1
    | 2, hi => simp [nodeL] at hi; subst hi; exact c2
    | 3, hi => simp [nodeL] at hi; subst hi; exact c3
    | 4, hi => simp [nodeL] at hi; subst hi; exact c4
    | i + 5, hi =>
      have := h2 i v (by simpa [nodeL] using hi)
      rw [show o + (i + 5) = o + 5 + i by omega]
      exact this

theorem row_cells {w : World} {T : TypeId} {size : Nat} {g n : Nat} {cur : Array Value} {xs : List Value} (hg : w.heap[g]? = some (.cells cur T (0, 0))) (htake : cur.toList.take (n * size) = xs) :
    ∀ i v, xs[i]? = some v → w.cell? ⟨g, 0 + i, none⟩ = some v := by
  intro i v hi
  rw [← htake, List.getElem?_take] at hi
  split at hi
  · rw [Array.getElem?_toList] at hi
    rw [Nat.zero_add]
    unfold World.cell?
    simp [hg, hi]
  · cases hi

/-- A row of one's own reads as a slice of nodes. -/
theorem nodes_of_row {w : World} {B : Nat} {T : TypeId} {v : Value} {n : Nat} {l : List Nd} {cs : List Value} {S : Nat → Prop} (h : w.ownsRow B T 5 v n cs) (hn : NCells w S l cs) (hS : ∀ k, B ≤ k → S k) :
    ∃ a c, v = .slice a l.length c ∧ NodesR w S a c l := by
  obtain ⟨h1, h2⟩ := h
  have hlen : n = l.length := by have := hn.len; omega
  subst hlen
  rcases h2 with ⟨rfl, h0⟩ | ⟨g, cap, cur, rfl, hb, hg, hle, hcap, hcs, htake⟩
  · have : l = [] := List.length_eq_zero_iff.1 h0
    subst this
    exact ⟨none, 0, rfl, Nat.le_refl _, Nat.zero_le _, .inl rfl⟩
  · have hlen : l.length ≤ big := by unfold maxLen at hcap; unfold big; omega
    exact ⟨_, _, rfl, hle, hlen, .inr ⟨g, 0, rfl, hS g hb, hn.kids (row_cells hg htake)⟩⟩

theorem strs_of_row' {w : World} {B : Nat} {T : TypeId} {v : Value} {n : Nat} {xs : List ByteArray} {S : Nat → Prop} (h : w.ownsRow B T 1 v n (xs.map Value.string)) (hx : ∀ x ∈ xs, x.size ≤ big) (hS : ∀ k, B ≤ k → S k) :
    ∃ a c, v = .slice a xs.length c ∧ StrsR w S a c xs := by
  obtain ⟨a, c, fp, hv, hF, hfr, _⟩ := strs_of_row h hx
  exact ⟨a, c, hv, hF.toR (fun b hb => hS b (hfr.2 b hb).1)⟩

end Go.Proofs.Ytmeobmegnneegaa

/-
  append to a row of the call's own: the row stays where it was, or lies in a new block.
-/
namespace Go.Proofs.Ytmeobmegnneegaa
open Go Go.RowKit

theorem grownBy_of_grow {w w' : World} (h : Grow w w') : w.grownBy w' none := ⟨h.os, h.tape, h.output, h.size, fun k hk _ => h.block k hk (fun h => h)⟩
theorem row_grow {w w' : World} {B : Nat} {T : TypeId} {size : Nat} {v : Value} {n : Nat} {xs : List Value} (h : w.ownsRow B T size v n xs) (hg : Grow w w') : w'.ownsRow B T size v n xs :=
  h.kept (grownBy_of_grow hg) (by cases hv : v.ownBlock <;> simp)

theorem run_append2 {P : Program} (w : World) (base : Nat) (t ty e : TypeId) (i : TypeInfo) (z : Value) (size bytes : Nat) (ht : P.underlying t = some (.slice e)) (hi : P.info? e = some i) (hz : i.zero = some z)
    (hsize : i.size = size) (hby : i.bytes = bytes) (hzs : z.cells.size = size) (hsz : 0 < size) (v : Value) (n : Nat) (xs : List Value) (hown : w.ownsRow base e size v n xs)
    (a : Addr) (m c : Nat) (news : List Value) (hl : news.length = m * size) (hnews : ∀ j u, news[j]? = some u → w.cell? (a.add j) = some u) (h1 : ∀ u ∈ news, u.oneCell' = true)
    (h63 : n + m ≤ maxLen) (hbytes : (n + m) * bytes ≤ 140737488355328) (hbase : base ≤ w.heap.size) :
    ∃ v' w', (Builtin.append_ #[t, t] ty #[v, .slice (some a) m c]).run P w = .ok v' w' ∧ w'.ownsRow base e size v' (n + m) (xs ++ news) ∧ w.grownBy w' v.ownBlock ∧
      (v'.ownBlock = v.ownBlock ∨ v'.ownBlock = some w.heap.size) := by
  obtain ⟨v', w', hr, h2, h3, h4⟩ := run_append_own (P := P) w base t ty e i z size bytes ht hi hz hsize hby hzs hsz v n xs hown a m c news hl hnews h1 h63 hbytes hbase
  refine ⟨v', w', hr, h2, h3, ?_⟩
  have hown2 := hown
  have h63' : n + m ≤ 9223372036854775807 := by unfold maxLen at h63; omega
  subst hsize hby
  obtain ⟨hlen, hc⟩ := hown
  rcases hc with ⟨rfl, rfl⟩ | ⟨g, cap, cur, rfl, hbg, hg, hnc, hcm, hcs, htake⟩
  · by_cases hm : m = 0
    · have := h4.2 ⟨rfl, hm⟩
      subst this
      exact .inl rfl
    · have hr2 := run_append_nil (P := P) w t ty e i z ht hi hz a m c news hl hnews (by omega) (by omega) (by simp only [Nat.zero_add] at hbytes; omega)
      rw [hr] at hr2
      cases hr2
      exact .inr rfl
  · by_cases hroom : n + m ≤ cap
    · have hfit : n * i.size + news.length ≤ cur.size := by rw [hl, hcs, ← Nat.add_mul]; exact Nat.mul_le_mul_right _ hroom
      have hr2 := run_append_room (P := P) w t ty e i ht hi g n cap cur hg a m c news hl hnews h1 hroom hfit
      rw [hr] at hr2
      cases hr2
      exact .inl rfl
    · have hr2 := run_append_grow (P := P) w t ty e i z ht hi hz ⟨g, 0, none⟩ n cap xs hlen (hown2.cells (g := g) rfl) a m c news hl hnews (by omega) (by omega) (growslice_fits (by omega) hbytes)
      rw [hr] at hr2
      cases hr2
      exact .inr rfl

theorem wpList_append2 {P : Program} (w : World) {ops : Array Oper} {rest : List Oper} {o : Oper} {a : Act} {Q : Exit → Act → World → Prop} (hgd : o.guard = none) (s x : Operand) (t : TypeId)
    (ho : o.op = .call { callee := .builtin .append, args := #[s, x], argTypes := #[t, t] })
    (base : Nat) (e : TypeId) (i : TypeInfo) (z : Value) (size bytes : Nat) (ht : P.underlying t = some (.slice e)) (hi : P.info? e = some i) (hz : i.zero = some z)
    (hsize : i.size = size) (hby : i.bytes = bytes) (hzs : z.cells.size = size) (hsz : 0 < size)
    (v : Value) (n : Nat) (xs : List Value) (hs : a.eval s = v) (hown : w.ownsRow base e size v n xs)
    (ad : Addr) (m c : Nat) (news : List Value) (hx : a.eval x = .slice (some ad) m c) (hl : news.length = m * size) (hnews : ∀ j u, news[j]? = some u → w.cell? (ad.add j) = some u) (h1 : ∀ u ∈ news, u.oneCell' = true)
    (h63 : n + m ≤ maxLen) (hbytes : (n + m) * bytes ≤ 140737488355328) (hbase : base ≤ w.heap.size)
    (h : ∀ v' w', w'.ownsRow base e size v' (n + m) (xs ++ news) → w.grownBy w' v.ownBlock → (v'.ownBlock = v.ownBlock ∨ v'.ownBlock = some w.heap.size) → wpList P ops Q rest (a.put o.dst v') w') : wpList P ops Q (o :: rest) a w := by
  refine wpList_plain hgd fun K hK => ?_
  obtain ⟨v', w', hr, h2, h3, h4⟩ := run_append2 (P := P) w base t o.type e i z size bytes ht hi hz hsize hby hzs hsz v n xs hown ad m c news hl hnews h1 h63 hbytes hbase
  unfold Oper.wp execOp
  simp only [ho, resolve, invoke, builtin, Sem.run_bind, Sem.run_pure, Result.andThen_ok, List.map_toArray, List.map_cons, List.map_nil, hs, hx, hr]
  exact hK _ _ (h v' w' h2 h3 h4)

theorem run_append_empty {P : Program} (w : World) (base : Nat) (t ty e : TypeId) (i : TypeInfo) (size : Nat) (ht : P.underlying t = some (.slice e)) (hi : P.info? e = some i)
    (v : Value) (n : Nat) (xs : List Value) (hown : w.ownsRow base e size v n xs) (y : Option Addr) (c : Nat) :
    (Builtin.append_ #[t, t] ty #[v, .slice y 0 c]).run P w = .ok v w := by
  rcases hown.2 with ⟨rfl, rfl⟩ | ⟨g, cap, cur, rfl, _, _, hnc, _⟩
  · cases y <;> simp [Builtin.append_, run_underlying ht, sizeOf, typeInfo, hi, Builtin.lenOf, Builtin.firstCells, loadCells, loadCellsFrom]
  · cases y <;> simp [Builtin.append_, run_underlying ht, sizeOf, typeInfo, hi, Builtin.lenOf, Builtin.firstCells, hnc, storeCells, loadCells, loadCellsFrom]

/-- What is appended: the cells of a slice, which may have none. -/
def Src (w : World) (y : Option Addr) (m : Nat) (news : List Value) : Prop := (m = 0 ∧ news = []) ∨ ∃ ad, y = some ad ∧ ∀ j u, news[j]? = some u → w.cell? (ad.add j) = some u

theorem Src.grow {w w' : World} {y : Option Addr} {m : Nat} {news : List Value} (h : Src w y m news) (hg : Grow w w') : Src w' y m news :=
  h.imp id (fun ⟨ad, hy, hc⟩ => ⟨ad, hy, fun j u hj => hg.some (hc j u hj)⟩)

theorem Src.strs {S : Nat → Prop} {w : World} {a : Option Addr} {c : Nat} {xs : List ByteArray} (h : StrsR w S a c xs) : Src w a xs.length (xs.map Value.string) := by
  rcases h.2.2.2 with rfl | ⟨b, o, rfl, _, hc⟩
  · exact .inl ⟨rfl, rfl⟩
  · refine .inr ⟨_, rfl, fun j u hj => ?_⟩
    rw [List.getElem?_map] at hj
    rcases Nat.lt_or_ge j xs.length with hl | hl
    · rw [List.getElem?_eq_getElem hl] at hj
      simp at hj
      subst hj
      rw [addr_add]; exact hc j hl
    · rw [List.getElem?_eq_none hl] at hj; simp at hj

theorem Src.nodes {S : Nat → Prop} {w : World} {a : Option Addr} {c : Nat} {l : List Nd} (h : NodesR w S a c l) : ∃ cs, NCells w S l cs ∧ Src w a l.length cs := by
  rcases h.2.2 with rfl | ⟨b, o, rfl, _, hk⟩
  · exact ⟨[], rfl, .inl ⟨rfl, rfl⟩⟩
  · obtain ⟨cs, h1, h2⟩ := hk.cells
    exact ⟨cs, h1, .inr ⟨_, rfl, fun j u hj => by rw [addr_add]; exact h2 j u hj⟩⟩

theorem run_append3 {P : Program} (w : World) (base : Nat) (t ty e : TypeId) (i : TypeInfo) (z : Value) (size bytes : Nat) (ht : P.underlying t = some (.slice e)) (hi : P.info? e = some i) (hz : i.zero = some z)
    (hsize : i.size = size) (hby : i.bytes = bytes) (hzs : z.cells.size = size) (hsz : 0 < size) (v : Value) (n : Nat) (xs : List Value) (hown : w.ownsRow base e size v n xs)
    (y : Option Addr) (m c : Nat) (news : List Value) (hl : news.length = m * size) (hnews : Src w y m news) (h1 : ∀ u ∈ news, u.oneCell' = true)
    (h63 : n + m ≤ maxLen) (hbytes : (n + m) * bytes ≤ 140737488355328) (hbase : base ≤ w.heap.size) :
    ∃ v' w', (Builtin.append_ #[t, t] ty #[v, .slice y m c]).run P w = .ok v' w' ∧ w'.ownsRow base e size v' (n + m) (xs ++ news) ∧ w.grownBy w' v.ownBlock ∧
      (v'.ownBlock = v.ownBlock ∨ v'.ownBlock = some w.heap.size) := by
  rcases hnews with ⟨rfl, rfl⟩ | ⟨ad, rfl, hnews⟩
  · exact ⟨v, w, run_append_empty w base t ty e i size ht hi v n xs hown y c, by simpa using hown, ⟨rfl, rfl, rfl, Nat.le_refl _, fun _ _ _ => rfl⟩, .inl rfl⟩
  · exact run_append2 w base t ty e i z size bytes ht hi hz hsize hby hzs hsz v n xs hown ad m c news hl hnews h1 h63 hbytes hbase

theorem wpList_append3 {P : Program} (w : World) {ops : Array Oper} {rest : List Oper} {o : Oper} {a : Act} {Q : Exit → Act → World → Prop} (hgd : o.guard = none) (s x : Operand) (t : TypeId)
    (ho : o.op = .call { callee := .builtin .append, args := #[s, x], argTypes := #[t, t] })
    (base : Nat) (e : TypeId) (i : TypeInfo) (z : Value) (size bytes : Nat) (ht : P.underlying t = some (.slice e)) (hi : P.info? e = some i) (hz : i.zero = some z)
    (hsize : i.size = size) (hby : i.bytes = bytes) (hzs : z.cells.size = size) (hsz : 0 < size)
    (v : Value) (n : Nat) (xs : List Value) (hs : a.eval s = v) (hown : w.ownsRow base e size v n xs)
    (y : Option Addr) (m c : Nat) (news : List Value) (hx : a.eval x = .slice y m c) (hl : news.length = m * size) (hnews : Src w y m news) (h1 : ∀ u ∈ news, u.oneCell' = true)
    (h63 : n + m ≤ maxLen) (hbytes : (n + m) * bytes ≤ 140737488355328) (hbase : base ≤ w.heap.size)
    (h : ∀ v' w', w'.ownsRow base e size v' (n + m) (xs ++ news) → w.grownBy w' v.ownBlock → (v'.ownBlock = v.ownBlock ∨ v'.ownBlock = some w.heap.size) → wpList P ops Q rest (a.put o.dst v') w') : wpList P ops Q (o :: rest) a w := by
  refine wpList_plain hgd fun K hK => ?_
  obtain ⟨v', w', hr, h2, h3, h4⟩ := run_append3 (P := P) w base t o.type e i z size bytes ht hi hz hsize hby hzs hsz v n xs hown y m c news hl hnews h1 h63 hbytes hbase
  unfold Oper.wp execOp
  simp only [ho, resolve, invoke, builtin, Sem.run_bind, Sem.run_pure, Result.andThen_ok, List.map_toArray, List.map_cons, List.map_nil, hs, hx, hr]
  exact hK _ _ (h v' w' h2 h3 h4)

/-- append to a literal without elements makes memory, and no more. -/
theorem run_append_lit {P : Program} (w : World) (base : Nat) (t ty e : TypeId) (i : TypeInfo) (z : Value) (size bytes : Nat) (ht : P.underlying t = some (.slice e)) (hi : P.info? e = some i) (hz : i.zero = some z)
    (hsize : i.size = size) (hby : i.bytes = bytes) (hzs : z.cells.size = size) (hsz : 0 < size) (g : Nat) (hg : w.heap[g]? = some (.cells #[] e (0, 0))) (hgb : base ≤ g)
    (y : Option Addr) (m c : Nat) (news : List Value) (hl : news.length = m * size) (hnews : Src w y m news) (h1 : ∀ u ∈ news, u.oneCell' = true)
    (h63 : m ≤ maxLen) (hbytes : m * bytes ≤ 140737488355328) (hbase : base ≤ w.heap.size) :
    ∃ v' w', (Builtin.append_ #[t, t] ty #[.slice (some ⟨g, 0, none⟩) 0 0, .slice y m c]).run P w = .ok v' w' ∧ w'.ownsRow base e size v' m news ∧ Grow w w' := by
  have hown : w.ownsRow base e size (.slice (some ⟨g, 0, none⟩) 0 0) 0 [] := ⟨by simp, .inr ⟨g, 0, #[], rfl, hgb, hg, Nat.le_refl _, Nat.zero_le _, by simp, by simp⟩⟩
  rcases hnews with ⟨rfl, rfl⟩ | ⟨ad, rfl, hnews⟩
  · exact ⟨_, w, run_append_empty w base t ty e i size ht hi _ 0 [] hown y c, hown, Ext.refl _ _⟩
  · obtain ⟨v', w', hr, h2, h3, h4⟩ := run_append2 (P := P) w base t ty e i z size bytes ht hi hz hsize hby hzs hsz _ 0 [] hown ad m c news hl hnews h1 (by omega) (by simpa using hbytes) hbase
    by_cases hm : m = 0
    · subst hm
      have hr2 := run_append_empty (P := P) w base t ty e i size ht hi _ 0 [] hown (some ad) c
      rw [hr] at hr2
      cases hr2
      exact ⟨_, _, hr, by simpa using h2, Ext.refl _ _⟩
    · subst hsize hby
      have hr2 := run_append_grow (P := P) w t ty e i z ht hi hz ⟨g, 0, none⟩ 0 0 [] (by simp) (fun j u hj => by simp at hj) ad m c news hl hnews (by omega) (by unfold maxLen at h63; omega) (growslice_fits (by omega) (by simpa using hbytes))
      rw [hr] at hr2
      cases hr2
      exact ⟨_, _, hr, by simpa using h2, ((Ext.refl nil w).drew).alloc _⟩

theorem heap_grow {w w' : World} (h : Grow w w') {g : Nat} {o : Obj} (hg : w.heap[g]? = some o) : w'.heap[g]? = some o := by
  rw [h.block g (Array.getElem?_eq_some_iff.1 hg).1 (fun h => h)]; exact hg

/-- Block k is not the row's. -/
def offRow (B : Nat) (v : Value) (k : Nat) : Prop := B ≤ k ∧ v.ownBlock ≠ some k

theorem grownBy_ext {w w' : World} {v : Value} (h : w.grownBy w' v.ownBlock) : Ext (fun k => v.ownBlock = some k) w w' :=
  ⟨h.os, h.tape, h.output, h.size, fun k hk hx => h.block k hk (fun e => hx e.symm)⟩

/-- What hangs on elements that lie off the row stays so. -/
theorem NCells.grown {w w' : World} {B : Nat} {v v' : Value} {l : List Nd} {cs : List Value} (hlt : NCells w (fun k => offRow B v k ∧ k < w.heap.size) l cs) (hg : w.grownBy w' v.ownBlock) (hv : v'.ownBlock = v.ownBlock ∨ v'.ownBlock = some w.heap.size) :
    NCells w' (offRow B v') l cs := by
  have h1 := hlt.ext (grownBy_ext hg) (fun k hk hx => hk.1.2 hx)
  refine h1.mono (fun k hk => ⟨hk.1.1, fun e => ?_⟩)
  rcases hv with hv | hv
  · rw [hv] at e; exact hk.1.2 e
  · rw [hv] at e; cases e; exact Nat.lt_irrefl _ hk.2

theorem StrsR.lt {S : Nat → Prop} {w : World} {a : Option Addr} {c : Nat} {xs : List ByteArray} (h : StrsR w S a c xs) : StrsR w (fun k => S k ∧ k < w.heap.size) a c xs := by
  obtain ⟨h1, h2, h3, h4⟩ := h
  refine ⟨h1, h2, h3, ?_⟩
  rcases Nat.eq_zero_or_pos xs.length with hl | hl
  · exact .inl (List.length_eq_zero_iff.1 hl)
  rcases h4 with h4 | ⟨b, o, rfl, hb, hc⟩
  · exact .inl h4
  · exact .inr ⟨b, o, rfl, ⟨hb, lt_of_cell (hc 0 hl)⟩, hc⟩
mutual
theorem NodeC.lt {S : Nat → Prop} {w : World} : ∀ {n : Nd} {na : Option Addr} {nc : Nat} {ka : Option Addr} {kc : Nat}, NodeC w S n na nc ka kc → NodeC w (fun k => S k ∧ k < w.heap.size) n na nc ka kc
  | ⟨_, _, _, _, kids⟩, na, nc, ka, kc, h => by
    unfold NodeC at h ⊢
    obtain ⟨h1, h2, h3, h4, h5⟩ := h
    refine ⟨h1, h2.lt, h3, h4, ?_⟩
    rcases h5 with h5 | ⟨b, o, rfl, hb, hk⟩
    · exact .inl h5
    · cases kids with
      | nil => exact .inl rfl
      | cons k ks =>
        refine .inr ⟨b, o, rfl, ⟨hb, ?_⟩, KidsR.lt hk⟩
        unfold KidsR at hk
        obtain ⟨⟨_, _, _, _, c0, _⟩, _⟩ := hk
        exact lt_of_cell c0
theorem KidsR.lt {S : Nat → Prop} {w : World} {b : Nat} : ∀ {l : List Nd} {o : Nat}, KidsR w S b o l → KidsR w (fun k => S k ∧ k < w.heap.size) b o l
  | [], _, _ => by unfold KidsR; trivial
  | k :: ks, o, h => by
    unfold KidsR at h ⊢
    obtain ⟨⟨na, nc, ka, kc, c0, c1, c2, c3, c4, hn⟩, hr⟩ := h
    exact ⟨⟨na, nc, ka, kc, c0, c1, c2, c3, c4, hn.lt⟩, KidsR.lt hr⟩
end
theorem NCells.lt {S : Nat → Prop} {w : World} : ∀ {l : List Nd} {cs : List Value}, NCells w S l cs → NCells w (fun k => S k ∧ k < w.heap.size) l cs
  | [], cs, h => h
  | n :: l, cs, h => by
    obtain ⟨na, nc, ka, kc, cs', rfl, hn, h⟩ := h
    exact ⟨na, nc, ka, kc, cs', rfl, hn.lt, NCells.lt h⟩
theorem NCells.grown' {w w' : World} {B : Nat} {v v' : Value} {l : List Nd} {cs : List Value} (h : NCells w (offRow B v) l cs) (hg : w.grownBy w' v.ownBlock) (hv : v'.ownBlock = v.ownBlock ∨ v'.ownBlock = some w.heap.size) :
    NCells w' (offRow B v') l cs := NCells.grown h.lt hg hv

theorem BoxN.grown {w w' : World} {b : Nat} {cs : List Value} {v : Value} (h : BoxN w b cs) (hg : w.grownBy w' v.ownBlock) (hb : ∀ k, v.ownBlock = some k → b < k) : BoxN w' b cs :=
  h.ext (grownBy_ext hg) (fun e => by have := hb _ e; omega)

end Go.Proofs.Ytmeobmegnneegaa

/-
  Nodes and slices of texts as data put together from parts.
-/
namespace Go.Proofs.Ytmeobmegnneegaa
open Go Go.RowKit

theorem NodeC.grow' {S : Nat → Prop} {w w' : World} {n : Nd} {na : Option Addr} {nc : Nat} {ka : Option Addr} {kc : Nat} (h : NodeC w S n na nc ka kc) (hg : Grow w w') : NodeC w' S n na nc ka kc := h.ext hg (fun _ _ h => h)

theorem Grow.toX' {X : Nat → Prop} {w w' : World} (h : Grow w w') : Ext X w w' := h.mono (fun _ h => False.elim h)
theorem Free.app2 {B : Nat} {w : World} {f g : List Nat} (hf : Free B w f) (hg : Free B w g) (hd : ∀ a, a ∈ f → a ∈ g → False) : Free B w (f ++ g) :=
  ⟨List.nodup_append.2 ⟨hf.1, hg.1, fun a ha b hb e => by subst e; exact hd a ha hb⟩, fun b hb => by
    rcases List.mem_append.1 hb with h | h
    · exact hf.2 b h
    · exact hg.2 b h⟩

def nodeRep : Rep Nd where
  n := 5
  R := fun w S x cs => ∃ na nc ka kc, cs = nodeL x na nc ka kc ∧ NodeC w S x na nc ka kc
  F := fun w x cs fp => ∃ na nc ka kc, cs = nodeL x na nc ka kc ∧ NodeF w x na nc ka kc fp
  rlen := by rintro w S x cs ⟨na, nc, ka, kc, rfl, _⟩; rfl
  flen := by rintro w x cs fp ⟨na, nc, ka, kc, rfl, _⟩; rfl
  ext := by rintro X S w w' x cs h hS ⟨na, nc, ka, kc, rfl, hn⟩; exact ⟨na, nc, ka, kc, rfl, hn.ext h hS⟩
  mono := by rintro S T w x cs h ⟨na, nc, ka, kc, rfl, hn⟩; exact ⟨na, nc, ka, kc, rfl, hn.mono h⟩
  lt := by rintro S w x cs ⟨na, nc, ka, kc, rfl, hn⟩; exact ⟨na, nc, ka, kc, rfl, hn.lt⟩
  keep := by rintro w w' x cs fp ⟨na, nc, ka, kc, rfl, hn⟩ h; exact ⟨na, nc, ka, kc, rfl, hn.keep h⟩
  toR := by rintro S w x cs fp ⟨na, nc, ka, kc, rfl, hn⟩ h; exact ⟨na, nc, ka, kc, rfl, hn.toC h⟩

def strsRep : Rep (List ByteArray) where
  n := 1
  R := fun w S x cs => ∃ a c, cs = [.slice a x.length c] ∧ StrsR w S a c x
  F := fun w x cs fp => ∃ a c, cs = [.slice a x.length c] ∧ StrsF w a c x fp
  rlen := by rintro w S x cs ⟨a, c, rfl, _⟩; rfl
  flen := by rintro w x cs fp ⟨a, c, rfl, _⟩; rfl
  ext := by rintro X S w w' x cs h hS ⟨a, c, rfl, hn⟩; exact ⟨a, c, rfl, hn.ext h hS⟩
  mono := by rintro S T w x cs h ⟨a, c, rfl, hn⟩; exact ⟨a, c, rfl, hn.mono h⟩
  lt := by rintro S w x cs ⟨a, c, rfl, hn⟩; exact ⟨a, c, rfl, hn.lt⟩
  keep := by rintro w w' x cs fp ⟨a, c, rfl, hn⟩ h; exact ⟨a, c, rfl, hn.keep h⟩
  toR := by rintro S w x cs fp ⟨a, c, rfl, hn⟩ h; exact ⟨a, c, rfl, hn.toR h⟩

end Go.Proofs.Ytmeobmegnneegaa

/-
  The walks of the laws' sizes of texts and nodes.
-/
namespace Go.Proofs.Ytmeobmegnneegaa
open Go.RowKit

/-- What is left of a budget. -/
def szR (c : Nat) (left : Int) : Int := if (c : Int) ≤ left then left - c else -1

theorem szR_neg {c : Nat} {left : Int} (h : left < c) : szR c left = -1 := by unfold szR; rw [if_neg (by omega)]
theorem szR_pos {c : Nat} {left : Int} (h : (c : Int) ≤ left) : szR c left = left - c := by unfold szR; rw [if_pos h]

theorem sum_take_le (l : List Nat) (k : Nat) : (l.take k).sum ≤ l.sum := by
  induction l generalizing k with
  | nil => simp
  | cons a l ih => cases k with
    | zero => simp
    | succ k => have := ih k; simp only [List.take_succ_cons, List.sum_cons]; omega

def sumB (xs : List ByteArray) : Nat := (xs.map (·.size)).sum
theorem sumB_snoc (xs : List ByteArray) (x : ByteArray) : sumB (xs ++ [x]) = sumB xs + x.size := by simp [sumB]
theorem sumB_take (xs : List ByteArray) (k : Nat) : sumB (xs.take k) ≤ sumB xs := by
  unfold sumB; rw [List.map_take]; exact sum_take_le _ _
theorem costS_eq (xs : List ByteArray) : costS xs = xs.length + sumB xs := rfl

def sumN (l : List Nd) : Nat := (l.map costN).sum
theorem sumN_snoc (xs : List Nd) (x : Nd) : sumN (xs ++ [x]) = sumN xs + costN x := by simp [sumN]
theorem sumN_take (xs : List Nd) (k : Nat) : sumN (xs.take k) ≤ sumN xs := by
  unfold sumN; rw [List.map_take]; exact sum_take_le _ _
theorem costL_eq (l : List Nd) : costL l = l.length + sumN l := by
  induction l with
  | nil => simp [costL, sumN]
  | cons a l ih => simp only [costL, ih, sumN, List.map_cons, List.sum_cons, List.length_cons]; omega

set_option maxHeartbeats 400000 in
theorem szStringS_ok (a : Option Addr) (c : Nat) (xs : List ByteArray) (left : Int) (w : World) (ha : StrsR w any a c xs) (h0 : 0 ≤ left) (h1 : left ≤ 1048576) :
    Calls Try.prog 68 #[.slice a xs.length c, .int .i64 left] w fun e w' => e = .returned (.int .i64 (szR (costS xs) left)) ∧ Grow w w' := by
  have hbig : xs.length ≤ 9223372036854775807 := ha.2.1
  have Ha := Lib.hid ha
  clear ha
  by_cases hl : left < (xs.length : Int)
  · have Hf := Lib.hid (szR_neg (c := costS xs) (left := left) (by rw [costS_eq]; omega))
    go_enter Try.func68, Try.ntmps68
    go_wp2
    go_ret
    exact ⟨by rw [Hf.out]; simp, Ext.refl _ _⟩
  · go_enter Try.func68, Try.ntmps68
    go_wp2
    go_loopw [1, 5] (fun t i wr => Grow w wr ∧ ∃ (k : Nat) (r : Int), k ≤ xs.length ∧ i = .int .i64 k ∧ t = .int .i64 r ∧ 0 ≤ r ∧ r ≤ 1048576 ∧ Hid (r = left - xs.length - sumB (xs.take k))) (fun _ i _ => xs.length - (intOf i).toNat)
    case atStart => exact ⟨Ext.refl _ _, 0, _, Nat.zero_le _, rfl, rfl, by omega, by omega, Lib.hid (by simp [sumB])⟩
    case round =>
      obtain ⟨hg, k, r, hk, rfl, rfl, hr0, hr1, Hr⟩ := hrel
      have hst := sumB_take xs k
      by_cases hlt : k < xs.length
      · obtain ⟨_, _, hxs, ha4⟩ := (Ha.out).ext hg (fun _ _ h => h)
        rcases ha4 with rfl | ⟨ba, oa, rfl, _, hca⟩
        · simp at hlt
        have hx := hca k hlt
        have hsz : xs[k].size ≤ 9223372036854775807 := hxs _ (List.getElem_mem hlt)
        have hst2 := sumB_take xs (k + 1)
        rw [take_snoc' _ _ hlt, sumB_snoc] at hst2
        clear hca Ha
        by_cases hneg : r < (xs[k].size : Int)
        · have Hf : Hid (szR (costS xs) left = -1) := Lib.hid (szR_neg (by rw [costS_eq]; have := Hr.out; omega))
          go_wp2
          go_ret
          exact ⟨by simp [Hf.out], hg⟩
        · go_wp2
          go_roundw
          case rel => exact ⟨hg, k + 1, _, by omega, by go_num, rfl, by omega, by omega, Lib.hid (by rw [take_snoc' _ _ hlt, sumB_snoc, Hr.out]; omega)⟩
          case measure => simp [intOf]; omega
      · have hke : k = xs.length := by omega
        have Hf : Hid (szR (costS xs) left = r) := Lib.hid (by
          have h2 := Hr.out
          rw [hke, List.take_length] at h2
          rw [szR_pos (by rw [costS_eq]; omega), costS_eq]; omega)
        have Hke := Lib.hid hke
        clear hke
        go_wp2
        go_ret
        exact ⟨by simp [Hf.out], hg⟩

def SzOk (n : Nd) : Prop := ∀ (v : Value) (left : Int) (w : World), 0 ≤ left → left ≤ 1048576 → NodeR w any n v →
    Calls Try.prog 23 #[v, .int .i64 left] w fun e w' => e = .returned (.int .i64 (szR (costN n) left)) ∧ Grow w w'

set_option maxHeartbeats 400000 in
theorem szNodeS_of (l : List Nd) (ih : ∀ k ∈ l, SzOk k) (a : Option Addr) (c : Nat) (left : Int) (w : World) (hn : NodesR w any a c l) (h0 : 0 ≤ left) (h1 : left ≤ 1048576) :
    Calls Try.prog 69 #[.slice a l.length c, .int .i64 left] w fun e w' => e = .returned (.int .i64 (szR (costL l) left)) ∧ Grow w w' := by
  have hbig : l.length ≤ 9223372036854775807 := hn.2.1
  have Hn := Lib.hid hn
  have Ih := Lib.hid ih
  clear hn ih
  by_cases hl : left < (l.length : Int)
  · have Hf := Lib.hid (szR_neg (c := costL l) (left := left) (by rw [costL_eq]; omega))
    go_enter Try.func69, Try.ntmps69
    go_wp2
    go_ret
    exact ⟨by rw [Hf.out]; simp, Ext.refl _ _⟩
  · go_enter Try.func69, Try.ntmps69
    go_wp2
    go_loopw [1, 5] (fun t i wr => Grow w wr ∧ ∃ (k : Nat) (r : Int), k ≤ l.length ∧ i = .int .i64 k ∧ t = .int .i64 r ∧ 0 ≤ r ∧ r ≤ 1048576 ∧ Hid (r = left - l.length - sumN (l.take k))) (fun _ i _ => l.length - (intOf i).toNat)
    case atStart => exact ⟨Ext.refl _ _, 0, _, Nat.zero_le _, rfl, rfl, by omega, by omega, Lib.hid (by simp [sumN])⟩
    case round =>
      obtain ⟨hg, k, r, hk, rfl, rfl, hr0, hr1, Hr⟩ := hrel
      have hst := sumN_take l k
      by_cases hlt : k < l.length
      · obtain ⟨_, _, hks⟩ := (Hn.out).ext hg (fun _ _ h => h)
        rcases hks with hks | ⟨bk, ok, rfl, _, hkr⟩
        · simp [hks] at hlt
        obtain ⟨na', nc', ka', kc', c0, c1, c2, c3, c4, hkc⟩ := hkr.get k hlt
        have Hkc : Hid (NodeR wr any l[k] (nodeV l[k] na' nc' ka' kc')) := Lib.hid ⟨_, _, _, _, rfl, hkc⟩
        have hst2 := sumN_take l (k + 1)
        rw [take_snoc' _ _ hlt, sumN_snoc] at hst2
        clear hkr hkc
        by_cases hneg : r < (costN l[k] : Int)
        · have Hf : Hid (szR (costL l) left = -1) := Lib.hid (szR_neg (by rw [costL_eq]; have := Hr.out; omega))
          have Hs := Lib.hid (szR_neg hneg)
          go_wp2_with (go_at_call 23; refine (Ih.out _ (List.getElem_mem hlt) _ _ _ hr0 hr1 Hkc.out).mono ?_; rintro e w2 ⟨rfl, hg2⟩; simp only [Hs.out])
          go_ret
          exact ⟨by simp [Hf.out], hg.trans hg2⟩
        · have Hs := Lib.hid (szR_pos (c := costN l[k]) (left := r) (by omega))
          go_wp2_with (go_at_call 23; refine (Ih.out _ (List.getElem_mem hlt) _ _ _ hr0 hr1 Hkc.out).mono ?_; rintro e w2 ⟨rfl, hg2⟩; simp only [Hs.out])
          go_roundw
          case rel => exact ⟨hg.trans hg2, k + 1, _, by omega, by go_num, rfl, by omega, by omega, Lib.hid (by rw [take_snoc' _ _ hlt, sumN_snoc, Hr.out]; omega)⟩
          case measure => simp [intOf]; omega
      · have hke : k = l.length := by omega
        have Hf : Hid (szR (costL l) left = r) := Lib.hid (by
          have h2 := Hr.out
          rw [hke, List.take_length] at h2
          rw [szR_pos (by rw [costL_eq]; omega), costL_eq]; omega)
        have Hke := Lib.hid hke
        clear hke
        go_wp2
        go_ret
        exact ⟨by simp [Hf.out], hg⟩

set_option maxHeartbeats 1000000 in
theorem szNode_ok : ∀ n, SzOk n := by
  refine Nd.ind' SzOk ?_
  intro n ih v left w h0 h1 hn
  obtain ⟨na, nc, ka, kc, rfl, hc⟩ := hn
  obtain ⟨htx, hns, hks⟩ := hc.parts
  have htx' : n.text.size ≤ 9223372036854775807 := htx
  have Hns := Lib.hid hns
  have Hks := Lib.hid hks
  have Ih := Lib.hid ih
  have hce := costN_eq n
  have Hce := Lib.hid hce
  clear hns hks hc htx ih hce
  unfold nodeV at *
  by_cases a1 : left < (n.text.size : Int)
  · have Hf := Lib.hid (szR_neg (c := costN n) (left := left) (by have := Hce.out; omega))
    go_enter Try.func23, Try.ntmps23
    go_wp2_with fail
    go_ret
    exact ⟨by simp [Hf.out], (by repeat (first | with_reducible exact Ext.refl _ _ | with_reducible refine Ext.trans ?_ (by assumption) | with_reducible refine Ext.drew ?_ | with_reducible refine Ext.drewN ?_ _ | with_reducible refine Ext.alloc ?_ _ | with_reducible refine Ext.setNew ?_ (by simp; done) _ | with_reducible refine Ext.setNew ?_ (by simp; omega) _))⟩
  by_cases a2 : left - n.text.size < (costS n.names : Int)
  · have Hf := Lib.hid (szR_neg (c := costN n) (left := left) (by have := Hce.out; omega))
    have Hs := Lib.hid (szR_neg a2)
    go_enter Try.func23, Try.ntmps23
    go_wp2_with (go_at_call 68; refine (szStringS_ok _ _ _ _ _ (Hns.out.grow (by repeat (first | with_reducible exact Ext.refl _ _ | with_reducible refine Ext.trans ?_ (by assumption) | with_reducible refine Ext.drew ?_ | with_reducible refine Ext.drewN ?_ _ | with_reducible refine Ext.alloc ?_ _ | with_reducible refine Ext.setNew ?_ (by simp; done) _ | with_reducible refine Ext.setNew ?_ (by simp; omega) _))) (by omega) (by omega)).mono ?_; rintro e w2 ⟨rfl, hg2⟩; simp only [Hs.out])
    go_ret
    exact ⟨by simp [Hf.out], (by repeat (first | with_reducible exact Ext.refl _ _ | with_reducible refine Ext.trans ?_ (by assumption) | with_reducible refine Ext.drew ?_ | with_reducible refine Ext.drewN ?_ _ | with_reducible refine Ext.alloc ?_ _ | with_reducible refine Ext.setNew ?_ (by simp; done) _ | with_reducible refine Ext.setNew ?_ (by simp; omega) _))⟩
  have Hs := Lib.hid (szR_pos (c := costS n.names) (left := left - n.text.size) (by omega))
  by_cases a3 : left - n.text.size - costS n.names < (costL n.kids : Int)
  · have Hf := Lib.hid (szR_neg (c := costN n) (left := left) (by have := Hce.out; omega))
    have Hs2 := Lib.hid (szR_neg a3)
    go_enter Try.func23, Try.ntmps23
    go_wp2_with (first | (go_at_call 68; refine (szStringS_ok _ _ _ _ _ (Hns.out.grow (by repeat (first | with_reducible exact Ext.refl _ _ | with_reducible refine Ext.trans ?_ (by assumption) | with_reducible refine Ext.drew ?_ | with_reducible refine Ext.drewN ?_ _ | with_reducible refine Ext.alloc ?_ _ | with_reducible refine Ext.setNew ?_ (by simp; done) _ | with_reducible refine Ext.setNew ?_ (by simp; omega) _))) (by omega) (by omega)).mono ?_; rintro e w2 ⟨rfl, hg2⟩; simp only [Hs.out]; have hcc := bcell hg2) | (go_at_call 69; refine (szNodeS_of _ Ih.out _ _ _ _ (Hks.out.grow (by repeat (first | with_reducible exact Ext.refl _ _ | with_reducible refine Ext.trans ?_ (by assumption) | with_reducible refine Ext.drew ?_ | with_reducible refine Ext.drewN ?_ _ | with_reducible refine Ext.alloc ?_ _ | with_reducible refine Ext.setNew ?_ (by simp; done) _ | with_reducible refine Ext.setNew ?_ (by simp; omega) _))) (by omega) (by omega)).mono ?_; rintro e w3 ⟨rfl, hg3⟩; simp only [Hs2.out]))
    go_ret
    exact ⟨by simp [Hf.out], (by repeat (first | with_reducible exact Ext.refl _ _ | with_reducible refine Ext.trans ?_ (by assumption) | with_reducible refine Ext.drew ?_ | with_reducible refine Ext.drewN ?_ _ | with_reducible refine Ext.alloc ?_ _ | with_reducible refine Ext.setNew ?_ (by simp; done) _ | with_reducible refine Ext.setNew ?_ (by simp; omega) _))⟩
  · have Hf := Lib.hid (szR_pos (c := costN n) (left := left) (by have := Hce.out; omega))
    have Hs2 := Lib.hid (szR_pos (c := costL n.kids) (left := left - n.text.size - costS n.names) (by omega))
    go_enter Try.func23, Try.ntmps23
    go_wp2_with (first | (go_at_call 68; refine (szStringS_ok _ _ _ _ _ (Hns.out.grow (by repeat (first | with_reducible exact Ext.refl _ _ | with_reducible refine Ext.trans ?_ (by assumption) | with_reducible refine Ext.drew ?_ | with_reducible refine Ext.drewN ?_ _ | with_reducible refine Ext.alloc ?_ _ | with_reducible refine Ext.setNew ?_ (by simp; done) _ | with_reducible refine Ext.setNew ?_ (by simp; omega) _))) (by omega) (by omega)).mono ?_; rintro e w2 ⟨rfl, hg2⟩; simp only [Hs.out]; have hcc := bcell hg2) | (go_at_call 69; refine (szNodeS_of _ Ih.out _ _ _ _ (Hks.out.grow (by repeat (first | with_reducible exact Ext.refl _ _ | with_reducible refine Ext.trans ?_ (by assumption) | with_reducible refine Ext.drew ?_ | with_reducible refine Ext.drewN ?_ _ | with_reducible refine Ext.alloc ?_ _ | with_reducible refine Ext.setNew ?_ (by simp; done) _ | with_reducible refine Ext.setNew ?_ (by simp; omega) _))) (by omega) (by omega)).mono ?_; rintro e w3 ⟨rfl, hg3⟩; simp only [Hs2.out]))
    go_ret
    exact ⟨by have h1 := Hf.out; have h2 := Hce.out; rw [h1]; simp; omega, (by repeat (first | with_reducible exact Ext.refl _ _ | with_reducible refine Ext.trans ?_ (by assumption) | with_reducible refine Ext.drew ?_ | with_reducible refine Ext.drewN ?_ _ | with_reducible refine Ext.alloc ?_ _ | with_reducible refine Ext.setNew ?_ (by simp; done) _ | with_reducible refine Ext.setNew ?_ (by simp; omega) _))⟩

end Go.Proofs.Ytmeobmegnneegaa

/-
  One element of a row that is being marked.
-/
namespace Go.Proofs.Ytmeobmegnneegaa
open Go Go.RowKit

/-- Since world wr: the element at place p of block b (n cells) holds cs; the rest of the block is as it was; of the other blocks only G's have turned. -/
structure Elm (wr w : World) (b p n : Nat) (cs : List Value) (G : List Nat) : Prop where
  ext : Ext (inl (b :: G)) wr w
  len : cs.length = n
  cells : ∀ i v, cs[i]? = some v → w.cell? ⟨b, p + i, none⟩ = some v
  rest : ∀ q, (q < p ∨ p + n ≤ q) → w.cell? ⟨b, q, none⟩ = wr.cell? ⟨b, q, none⟩
  fr : ∀ q, w.frozen? ⟨b, q, none⟩ = false
  lt : b < w.heap.size

theorem Elm.new {w : World} {b p n : Nat} {cs : List Value} (hc : CellsAt w b p cs) (hl : cs.length = n) (hf : ∀ q, w.frozen? ⟨b, q, none⟩ = false) (hb : b < w.heap.size) : Elm w w b p n cs [] :=
  ⟨Ext.refl _ _, hl, hc, fun _ _ => rfl, hf, hb⟩

theorem Elm.set {wr w : World} {b p n : Nat} {cs : List Value} {G : List Nat} (h : Elm wr w b p n cs G) (i : Nat) (hi : i < cs.length) (v : Value) : Elm wr (w.setCell ⟨b, p + i, none⟩ v) b p n (cs.set i v) G := by
  have h0 := h.cells i cs[i] (List.getElem?_eq_getElem hi)
  refine ⟨h.ext.setIn (p := ⟨b, p + i, none⟩) (by simp [inl]) v, by rw [List.length_set]; exact h.len, fun j u hj => ?_, fun q hq => ?_, fun q => by rw [World.frozen?_setCell]; exact h.fr q, by rw [size_setCell]; exact h.lt⟩
  · rw [cell_set h0]
    rw [List.getElem?_set] at hj
    by_cases e : j = i
    · subst e; rw [if_pos rfl]; simpa [hi] using hj
    · have hne : ¬ (⟨b, p + j, none⟩ : Addr) = ⟨b, p + i, none⟩ := by intro h'; have := congrArg Addr.off h'; simp at this; exact e this
      rw [if_neg hne]
      rw [if_neg (fun h' => e h'.symm)] at hj
      exact h.cells j u hj
  · have := h.len
    rw [set_ne _ _ _ _ _ _ (.inr (by omega))]; exact h.rest q hq
theorem Elm.set0 {wr w : World} {b p n : Nat} {cs : List Value} {G : List Nat} (h : Elm wr w b p n cs G) (hi : 0 < cs.length) (v : Value) : Elm wr (w.setCell ⟨b, p, none⟩ v) b p n (cs.set 0 v) G := h.set 0 hi v

theorem Elm.sub {wr w w' : World} {b p n : Nat} {cs : List Value} {G g : List Nat} (h : Elm wr w b p n cs G) (he : Ext (inl g) w w') (hb : b ∉ g) : Elm wr w' b p n cs (G ++ g) := by
  refine ⟨(h.ext.mono (fun k hk => ?_)).trans (he.mono (fun k hk => ?_)), h.len, fun i v hi => he.some (h.cells i v hi) hb, fun q hq => ?_, fun q => ?_, Nat.lt_of_lt_of_le h.lt he.size⟩
  · simp [inl] at hk ⊢
    rcases hk with hk | hk
    · exact .inl hk
    · exact .inr (.inl hk)
  · simp [inl] at hk ⊢; exact .inr (.inr hk)
  · rw [he.cell (p := ⟨b, q, none⟩) h.lt hb]; exact h.rest q hq
  · rw [he.frozen (p := ⟨b, q, none⟩) h.lt hb]; exact h.fr q
theorem Elm.grow {wr w w' : World} {b p n : Nat} {cs : List Value} {G : List Nat} (h : Elm wr w b p n cs G) (hg : Grow w w') : Elm wr w' b p n cs G := by
  have := h.sub (g := []) (hg.toX' (X := inl [])) (by simp)
  simpa using this

theorem not_nodup {l : List Nat} (y : Nat) (h : 2 ≤ l.count y) : ¬ l.Nodup := fun hn => by
  have := List.nodup_iff_count.1 hn y
  omega

section rows
variable {α : Type} {E : Rep α}

theorem RowF.append' {w : World} {b : Nat} : ∀ {l m : List α} {o : Nat} {f g : List Nat}, RowF E w b o l f → RowF E w b (o + l.length * E.n) m g → RowF E w b o (l ++ m) (f ++ g)
  | [], m, o, f, g, h1, h2 => by
    cases h1; simpa using h2
  | x :: l, m, o, f, g, h1, h2 => by
    obtain ⟨f1, f2, cs, rfl, hc, hx, hr⟩ := h1
    refine ⟨f1, f2 ++ g, cs, by simp, hc, hx, RowF.append' hr ?_⟩
    rw [show o + E.n + l.length * E.n = o + (x :: l).length * E.n by simp [Nat.succ_mul]; omega]
    exact h2
theorem RowF.split {w : World} {b : Nat} : ∀ {l m : List α} {o : Nat} {fp : List Nat}, RowF E w b o (l ++ m) fp → ∃ f g, fp = f ++ g ∧ RowF E w b o l f ∧ RowF E w b (o + l.length * E.n) m g
  | [], m, o, fp, h => ⟨[], fp, rfl, rfl, by simpa using h⟩
  | x :: l, m, o, fp, h => by
    obtain ⟨f1, f2, cs, rfl, hc, hx, hr⟩ := h
    obtain ⟨f, g, rfl, h1, h2⟩ := RowF.split hr
    rw [show o + E.n + l.length * E.n = o + (x :: l).length * E.n by simp [Nat.succ_mul]; omega] at h2
    exact ⟨f1 ++ f, g, by simp, ⟨f1, f, cs, rfl, hc, hx, h1⟩, h2⟩

/-- What marking leaves of a row. -/
def mkR (mk : Nat → α → α) (cnt : α → Nat) : Nat → List α → List α
  | _, [] => []
  | k, x :: l => mk k x :: mkR mk cnt (k + cnt x) l
def cntR (cnt : α → Nat) (l : List α) : Nat := (l.map cnt).sum
theorem mkR_len (mk : Nat → α → α) (cnt : α → Nat) (k : Nat) (l : List α) : (mkR mk cnt k l).length = l.length := by
  induction l generalizing k with
  | nil => rfl
  | cons x l ih => simp [mkR, ih]
theorem mkR_snoc (mk : Nat → α → α) (cnt : α → Nat) (k : Nat) (l : List α) (x : α) : mkR mk cnt k (l ++ [x]) = mkR mk cnt k l ++ [mk (k + cntR cnt l) x] := by
  induction l generalizing k with
  | nil => simp [mkR, cntR]
  | cons a l ih => simp only [List.cons_append, mkR, ih, cntR, List.map_cons, List.sum_cons]; rw [Nat.add_assoc]
theorem cntR_snoc (cnt : α → Nat) (l : List α) (x : α) : cntR cnt (l ++ [x]) = cntR cnt l + cnt x := by simp [cntR]
theorem cntR_take (cnt : α → Nat) (l : List α) (j : Nat) : cntR cnt (l.take j) ≤ cntR cnt l := by
  unfold cntR; rw [List.map_take]; exact sum_take_le _ _

/-- A row whose element at the middle has been marked. -/
theorem RowF.marked {wr w : World} {b o p B : Nat} {l1 l2 : List α} {x' : α} {cs' : List Value} {f1 fx f2 G : List Nat} (h1 : RowF E wr b o l1 f1) (h2 : RowF E wr b (p + E.n) l2 f2) (hp : p = o + l1.length * E.n)
    (he : Elm wr w b p E.n cs' G) (hG : ∀ y ∈ G, y ∈ fx) (hfr : Free B wr (b :: (f1 ++ (fx ++ f2)))) (hx : E.F w x' cs' fx) : RowF E w b o (l1 ++ x' :: l2) (f1 ++ (fx ++ f2)) := by
  obtain ⟨hb, hnd⟩ := List.nodup_cons.1 hfr.1
  have keepF : ∀ y, y ∈ f1 ++ (fx ++ f2) → y ∉ fx → ∀ q, w.cell? ⟨y, q, none⟩ = wr.cell? ⟨y, q, none⟩ := fun y hy hyx q => by
    refine he.ext.cell (p := ⟨y, q, none⟩) (hfr.2 y (List.mem_cons_of_mem _ hy)).2.1 (fun h => ?_)
    simp [inl] at h
    rcases h with h | h
    · subst h; exact hb hy
    · exact hyx (hG y h)
  have d1 : ∀ y ∈ f1, y ∉ fx := fun y hy h => (List.nodup_append.1 hnd).2.2 y hy y (by simp [h]) rfl
  have d2 : ∀ y ∈ f2, y ∉ fx := fun y hy h => (List.nodup_append.1 (List.nodup_append.1 hnd).2.1).2.2 y h y hy rfl
  refine RowF.append' (h1.keep (fun y hy q => keepF y (by simp [hy]) (d1 y hy) q) (fun q _ hq => he.rest q (.inl (by omega)))) ?_
  rw [← hp]
  exact ⟨fx, f2, cs', rfl, he.cells, hx, h2.keep (fun y hy q => keepF y (by simp [hy]) (d2 y hy) q) (fun q hq _ => he.rest q (.inr hq))⟩

/-- All one's blocks are still one's own behind the marking of an element. -/
theorem Elm.free {wr w : World} {b p n B : Nat} {cs : List Value} {G f : List Nat} (he : Elm wr w b p n cs G) (hf : Free B wr (b :: f)) (hG : ∀ y ∈ G, ∀ q, w.frozen? ⟨y, q, none⟩ = false) : Free B w (b :: f) := by
  refine hf.sub he.ext (fun y hy q => ?_)
  rcases List.mem_cons.1 hy with rfl | hy
  · exact he.fr q
  · exact hG y hy q
end rows

theorem nodeL_mk (k : Nat) (n : Nd) (na : Option Addr) (nc : Nat) (ka : Option Addr) (kc : Nat) : nodeL (mkK k n) na nc ka kc = [.int .i64 (k : Int), .int .i64 ((k : Int) + 1), .string (mtxt (k + 2)), .slice na n.names.length nc, .slice ka n.kids.length kc] := by
  rw [mkK_eq]; simp [nodeL, mkS_len, mkL_len]
theorem nodeF_mk {w : World} {k : Nat} {n : Nd} {na : Option Addr} {nc : Nat} {ka : Option Addr} {kc : Nat} {f1 f2 : List Nat} (hk : k + 2 ≤ 1000000000) (h1 : StrsF w na nc (mkS (k + 3) n.names.length) f1) (h2 : NodesF w ka kc (mkL (k + 3 + n.names.length) n.kids) f2) :
    NodeF w (mkK k n) na nc ka kc (f1 ++ f2) := by
  rw [mkK_eq]; exact NodeF.mk (mtxt_size _ hk) h1 h2
theorem NodesF.keep' {w w' : World} {a : Option Addr} {c : Nat} {l : List Nd} {fp : List Nat} (hs : NodesF w a c l fp) (h : ∀ b ∈ fp, ∀ o, w'.cell? ⟨b, o, none⟩ = w.cell? ⟨b, o, none⟩) : NodesF w' a c l fp := hs.keep h

end Go.Proofs.Ytmeobmegnneegaa

/-
  The walks of laws.markNode and laws.heldNode.
-/
namespace Go.Proofs.Ytmeobmegnneegaa
open Go.RowKit

set_option maxHeartbeats 2000000 in
theorem markNode_ok (n : Nd) (na : Option Addr) (nc : Nat) (ka : Option Addr) (kc : Nat) (fp : List Nat) (B k : Nat) (i : Int) (w : World) (hi : i = (k : Int)) (hF : NodeF w n na nc ka kc fp) (hfr : Free B w fp) (h1 : 0 < k) (h2 : k + cntT n ≤ 1000000000) :
    Calls Try.prog 31 #[nodeV n na nc ka kc, .int .i64 i] w fun e w' => e = .returned (.int .i64 ((k + cntT n : Nat) : Int)) ∧ Ext (inl fp) w w' ∧ Free B w' fp ∧ NodeF w' (mkT k n) na nc ka kc fp := by
  subst hi
  obtain ⟨f1, f2, rfl, htx, hs, hk⟩ := hF.parts
  have hct : cntT n = n.names.length + cntL n.kids := rfl
  have hnd := List.nodup_append.1 hfr.1
  have hf1 : Free B w f1 := ⟨hnd.1, fun y hy => hfr.2 y (by simp [hy])⟩
  have hf2 : Free B w f2 := ⟨hnd.2.1, fun y hy => hfr.2 y (by simp [hy])⟩
  have hd : ∀ y, y ∈ f1 → y ∈ f2 → False := fun y h1 h2 => hnd.2.2 y h1 y h2 rfl
  have Hct := Lib.hid hct
  have Hs := Lib.hid hs
  have Hk := Lib.hid hk
  have Htx := Lib.hid htx
  have Hf1 := Lib.hid hf1
  have Hf2 := Lib.hid hf2
  have Hd := Lib.hid hd
  have Hfr := Lib.hid hfr
  clear hct hs hk htx hf1 hf2 hd hnd hF hfr
  unfold nodeV
  go_enter Try.func31, Try.ntmps31
  go_wp2_with fail
  have hga : Grow w (w.alloc (.cells #[.int .i64 n.kind, .int .i64 n.num, .string n.text, .slice na n.names.length nc, .slice ka n.kids.length kc] 39)) := (Ext.refl nil w).alloc _
  have hB0 := BoxN.new w (nodeL n na nc ka kc) 39
  have hlt : ∀ y ∈ f1 ++ f2, y < w.heap.size := fun y hy => (Hfr.out.2 y hy).2.1
  have Hlt := Lib.hid hlt
  have HB0 := Lib.hid hB0
  clear hlt hB0
  refine (markStringS_i na nc n.names f1 B k _ _ rfl (Hs.out.keep (hga.keeps Hf1.out (fun _ _ h => h))) (Hf1.out.ext hga (fun _ _ h => h)) (by omega) (by have := Hct.out; omega)).mono ?_
  rintro e w2 ⟨rfl, hx2, hfr2, hF2⟩
  have B2 := HB0.out.ext hx2 (fun h => by have := Hlt.out _ (List.mem_append_left f2 h); omega)
  have p4 := B2.cell 4 _ rfl
  have hk2 := Hk.out.keep' (w' := w2) (fun y hy o => by rw [hx2.cell (p := ⟨y, o, none⟩) (by have := Hlt.out y (by simp [hy]); simp; omega) (fun h => Hd.out y h hy)]; exact hga.cell (p := ⟨y, o, none⟩) (Hlt.out y (by simp [hy])) (fun h => h))
  have hf22 := (Hf2.out.ext hga (fun _ _ h => h)).ext hx2 (fun y hy h => Hd.out y h hy)
  have Hx2 := Lib.hid (hga.toX'.trans (hx2.mono (Y := inl (f1 ++ f2)) (fun y hy => List.mem_append_left f2 hy)))
  have Hk2 := Lib.hid hk2
  have Hf22 := Lib.hid hf22
  have Hfr2 := Lib.hid hfr2
  have HF2 := Lib.hid hF2
  clear hx2 hfr2 hF2 hk2 hf22 B2 hga
  go_wp2_with fail
  refine (markNodeS_ok n.kids ka kc f2 B (k + n.names.length) _ _ (by omega) Hk2.out Hf22.out (by omega) (by have := Hct.out; omega)).mono ?_
  rintro e w3 ⟨rfl, hx3, hfr3, hF3⟩
  have hs3 := HF2.out.keep (w' := w3) (fun y hy o => hx3.cell (p := ⟨y, o, none⟩) (Hfr2.out.2 y hy).2.1 (fun h => Hd.out y hy h))
  have hfr13 := Hfr2.out.ext hx3 (fun y hy h => Hd.out y hy h)
  have Hres : Hid (Ext (inl (f1 ++ f2)) w w3 ∧ Free B w3 (f1 ++ f2) ∧ NodeF w3 (mkT k n) na nc ka kc (f1 ++ f2)) := Lib.hid ⟨Hx2.out.trans (hx3.mono (fun y hy => List.mem_append_right f1 hy)), hfr13.app2 hfr3 Hd.out, by
    unfold mkT NodeF
    obtain ⟨q1, q2, q3⟩ := hF3
    refine ⟨f1, f2, rfl, Htx.out, hs3, q1, q2, ?_⟩
    rcases q3 with ⟨h, h'⟩ | ⟨b, o, f3, q4, q5, q6, q7⟩
    · exact .inl ⟨h, h'⟩
    · exact .inr ⟨b, o, f3, q4, q5, q6, q7⟩⟩
  clear hx3 hfr3 hF3 hs3 hfr13
  go_wp2_with fail
  go_ret
  exact ⟨by rw [Hct.out]; simp; omega, Hres.out⟩

set_option maxHeartbeats 1000000 in
theorem heldNode_ok (n : Nd) (na : Option Addr) (nc : Nat) (ka : Option Addr) (kc : Nat) (k : Nat) (i : Int) (w : World) (hi : i = (k : Int)) (hn : NodeR w any (mkT k n) (nodeV (mkT k n) na nc ka kc)) (h1 : 0 < k) (h2 : k + cntT n ≤ 1000000000) :
    Calls Try.prog 107 #[nodeV (mkT k n) na nc ka kc, .int .i64 i] w fun e w' => e = .returned (.int .i64 ((k + cntT n : Nat) : Int)) ∧ Grow w w' := by
  subst hi
  obtain ⟨a1, c1, a2, c2, he, hc⟩ := hn
  obtain ⟨_, hs, hk⟩ := hc.parts
  have hct : cntT n = n.names.length + cntL n.kids := rfl
  simp only [nodeV, Value.agg.injEq, Array.mk.injEq, List.cons.injEq, Value.slice.injEq, true_and, and_true] at he
  obtain ⟨⟨rfl, rfl⟩, rfl, rfl⟩ := he
  unfold mkT at hs hk
  simp only at hs hk
  have Hct := Lib.hid hct
  have Hs := Lib.hid hs
  have Hk := Lib.hid hk
  clear hct hs hk hc
  have hl : (mkL (k + n.names.length) n.kids).length = n.kids.length := mkL_len _ _
  unfold nodeV mkT
  simp only [mkS_len, hl]
  go_enter Try.func107, Try.ntmps107
  go_wp2_with fail
  refine (heldStringS_i na nc n.names.length k _ _ rfl (Hs.out.grow (by repeat (first | with_reducible exact Ext.refl _ _ | with_reducible refine Ext.trans ?_ (by assumption) | with_reducible refine Ext.drew ?_ | with_reducible refine Ext.drewN ?_ _ | with_reducible refine Ext.alloc ?_ _ | with_reducible refine Ext.setNew ?_ (by simp; done) _ | with_reducible refine Ext.setNew ?_ (by simp; omega) _))) (by omega) (by have := Hct.out; omega)).mono ?_
  rintro e w2 ⟨rfl, hg2⟩
  have hcc := bcell hg2
  go_wp2_with fail
  have hh := heldNodeS_ok n.kids ka kc (k + n.names.length) ((k + n.names.length : Nat) : Int) w2 rfl (Hk.out.grow (by repeat (first | with_reducible exact Ext.refl _ _ | with_reducible refine Ext.trans ?_ (by assumption) | with_reducible refine Ext.drew ?_ | with_reducible refine Ext.drewN ?_ _ | with_reducible refine Ext.alloc ?_ _ | with_reducible refine Ext.setNew ?_ (by simp; done) _ | with_reducible refine Ext.setNew ?_ (by simp; omega) _))) (by omega) (by have := Hct.out; omega)
  refine hh.mono ?_
  rintro e w3 ⟨rfl, hg3⟩
  go_wp2_with fail
  go_ret
  exact ⟨by rw [Hct.out]; simp; omega, (by repeat (first | with_reducible exact Ext.refl _ _ | with_reducible refine Ext.trans ?_ (by assumption) | with_reducible refine Ext.drew ?_ | with_reducible refine Ext.drewN ?_ _ | with_reducible refine Ext.alloc ?_ _ | with_reducible refine Ext.setNew ?_ (by simp; done) _ | with_reducible refine Ext.setNew ?_ (by simp; omega) _))⟩

end Go.Proofs.Ytmeobmegnneegaa

/-
  The walks of the laws' comparisons of texts and nodes.
-/
namespace Go.Proofs.Ytmeobmegnneegaa
open Go.RowKit

mutual
def eqN : Nd → Nd → Bool
  | ⟨k, n, t, ns, ks⟩, m => decide (k = m.kind) && decide (n = m.num) && decide (t = m.text) && decide (ns = m.names) && eqL ks m.kids
def eqL : List Nd → List Nd → Bool
  | [], [] => true
  | a :: l, b :: m => eqN a b && eqL l m
  | _, _ => false
end
mutual
theorem eqN_iff : ∀ a b : Nd, eqN a b = true ↔ a = b
  | ⟨k, n, t, ns, ks⟩, ⟨k', n', t', ns', ks'⟩ => by
    simp only [eqN, Bool.and_eq_true, decide_eq_true_eq, eqL_iff ks ks', Nd.mk.injEq]
    constructor
    · rintro ⟨⟨⟨⟨a, b⟩, c⟩, d⟩, e⟩; exact ⟨a, b, c, d, e⟩
    · rintro ⟨a, b, c, d, e⟩; exact ⟨⟨⟨⟨a, b⟩, c⟩, d⟩, e⟩
theorem eqL_iff : ∀ a b : List Nd, eqL a b = true ↔ a = b
  | [], [] => by simp [eqL]
  | [], _ :: _ => by simp [eqL]
  | _ :: _, [] => by simp [eqL]
  | a :: l, b :: m => by simp only [eqL, Bool.and_eq_true, eqN_iff a b, eqL_iff l m, List.cons.injEq]
end
theorem eqN_eq (a b : Nd) : eqN a b = (decide (a.kind = b.kind) && decide (a.num = b.num) && decide (a.text = b.text) && decide (a.names = b.names) && eqL a.kids b.kids) := by cases a; simp [eqN]
theorem eqN_refl (a : Nd) : eqN a a = true := (eqN_iff a a).2 rfl
theorem eqL_len {a b : List Nd} (h : a.length ≠ b.length) : eqL a b = false := by
  cases h' : eqL a b
  · rfl
  · exact absurd (congrArg List.length ((eqL_iff a b).1 h')) h

def eqS (xs ys : List ByteArray) : Bool := decide (xs = ys)
theorem eqS_cons (x y : ByteArray) (xs ys : List ByteArray) : eqS (x :: xs) (y :: ys) = ((x.toList == y.toList) && eqS xs ys) := by
  rw [beq_toList]; unfold eqS; by_cases h : x = y <;> simp [h]

set_option maxHeartbeats 400000 in
theorem eqStringS_ok (a b : Option Addr) (c d : Nat) (xs ys : List ByteArray) (w : World) (ha : StrsR w any a c xs) (hb : StrsR w any b d ys) :
    Calls Try.prog 83 #[.slice a xs.length c, .slice b ys.length d] w fun e w' => e = .returned (.bool (eqS xs ys)) ∧ Grow w w' := by
  have hbig : xs.length ≤ 9223372036854775807 := ha.2.1
  have Ha := Lib.hid ha
  have Hb := Lib.hid hb
  clear ha hb
  by_cases hl : xs.length = ys.length
  · have hlb : ((xs.length : Int) != (ys.length : Int)) = false := by simp [hl]
    have Hl := Lib.hid hl
    clear hl
    go_enter Try.func83, Try.ntmps83
    go_wp2
    go_loopw [4, 5] (fun n i wr => n = .bool false ∧ Grow w wr ∧ ∃ k : Nat, k ≤ xs.length ∧ i = .int .i64 k ∧ Hid (eqS xs ys = eqS (xs.drop k) (ys.drop k))) (fun _ i _ => xs.length - (intOf i).toNat)
    case atStart => exact ⟨rfl, Ext.refl _ _, 0, Nat.zero_le _, rfl, Lib.hid rfl⟩
    case round =>
      obtain ⟨rfl, hg, k, hk, rfl, Hr⟩ := hrel
      by_cases hlt : k < xs.length
      · have hlt' : k < ys.length := by have := Hl.out; omega
        obtain ⟨_, _, _, ha4⟩ := (Ha.out).grow hg
        obtain ⟨_, _, _, hb4⟩ := (Hb.out).grow hg
        rcases ha4 with rfl | ⟨ba, oa, rfl, _, hca⟩
        · simp at hlt
        rcases hb4 with rfl | ⟨bb, ob, rfl, _, hcb⟩
        · simp at hlt'
        have hx := hca k hlt
        have hy := hcb k hlt'
        have Hs : Hid (eqS (xs.drop k) (ys.drop k) = ((xs[k].toList == ys[k].toList) && eqS (xs.drop (k + 1)) (ys.drop (k + 1)))) := Lib.hid (by rw [drop_cons xs k hlt, drop_cons ys k hlt', eqS_cons])
        clear hca hcb Ha Hb
        cases he : (xs[k].toList == ys[k].toList)
        · go_wp2
          go_quiet (fail)
          go_wp2
          go_ret
          exact ⟨by simp [Hr.out, Hs.out, he], hg.drewN _⟩
        · go_wp2
          go_quiet (fail)
          go_wp2
          go_roundw
          case rel => exact ⟨rfl, hg.drewN _, k + 1, by omega, by go_num, Lib.hid (by rw [Hr.out, Hs.out, he, Bool.true_and])⟩
          case measure => simp [intOf]; omega
      · have Hs : Hid (eqS xs ys = true) := Lib.hid (by rw [Hr.out, List.drop_eq_nil_of_le (by omega), List.drop_eq_nil_of_le (by have := Hl.out; omega)]; rfl)
        go_wp2
        go_ret
        exact ⟨by simp [Hs.out], hg⟩
  · have hlb : ((xs.length : Int) != (ys.length : Int)) = true := by simp; omega
    have Hf : Hid (eqS xs ys = false) := Lib.hid (by unfold eqS; simp; exact fun h => hl (by rw [h]))
    clear hl
    go_enter Try.func83, Try.ntmps83
    go_wp2
    go_ret
    exact ⟨by simp [Hf.out], Ext.refl _ _⟩

def EqOk (n : Nd) : Prop := ∀ (m : Nd) (v u : Value) (w : World), NodeR w any n v → NodeR w any m u →
    Calls Try.prog 29 #[v, u] w fun e w' => e = .returned (.bool (eqN n m)) ∧ Grow w w'

set_option maxHeartbeats 1000000 in
theorem eqNodeS_of (l m : List Nd) (ih : ∀ k ∈ l, EqOk k) (a b : Option Addr) (c d : Nat) (w : World) (ha : NodesR w any a c l) (hb : NodesR w any b d m) :
    Calls Try.prog 84 #[.slice a l.length c, .slice b m.length d] w fun e w' => e = .returned (.bool (eqL l m)) ∧ Grow w w' := by
  have hbig : l.length ≤ 9223372036854775807 := ha.2.1
  have Ha := Lib.hid ha
  have Hb := Lib.hid hb
  have Ih := Lib.hid ih
  clear ha hb ih
  by_cases hl : l.length = m.length
  · have hlb : ((l.length : Int) != (m.length : Int)) = false := by simp [hl]
    have Hl := Lib.hid hl
    clear hl
    go_enter Try.func84, Try.ntmps84
    go_wp2
    go_loopw [4, 5] (fun n i wr => n = .bool false ∧ Grow w wr ∧ ∃ k : Nat, k ≤ l.length ∧ i = .int .i64 k ∧ Hid (eqL l m = eqL (l.drop k) (m.drop k))) (fun _ i _ => l.length - (intOf i).toNat)
    case atStart => exact ⟨rfl, Ext.refl _ _, 0, Nat.zero_le _, rfl, Lib.hid rfl⟩
    case round =>
      obtain ⟨rfl, hg, k, hk, rfl, Hr⟩ := hrel
      by_cases hlt : k < l.length
      · have hlt' : k < m.length := by have := Hl.out; omega
        obtain ⟨_, _, ha4⟩ := (Ha.out).grow hg
        obtain ⟨_, _, hb4⟩ := (Hb.out).grow hg
        rcases ha4 with rfl | ⟨ba, oa, rfl, _, hca⟩
        · simp at hlt
        rcases hb4 with rfl | ⟨bb, ob, rfl, _, hcb⟩
        · simp at hlt'
        obtain ⟨na, nc, ka, kc, a0, a1, a2, a3, a4, hkc⟩ := hca.get k hlt
        obtain ⟨na', nc', ka', kc', b0, b1, b2, b3, b4, hkc'⟩ := hcb.get k hlt'
        have Hx : Hid (NodeR wr any l[k] (nodeV l[k] na nc ka kc)) := Lib.hid ⟨_, _, _, _, rfl, hkc⟩
        have Hy : Hid (NodeR wr any m[k] (nodeV m[k] na' nc' ka' kc')) := Lib.hid ⟨_, _, _, _, rfl, hkc'⟩
        have Hs : Hid (eqL (l.drop k) (m.drop k) = (eqN l[k] m[k] && eqL (l.drop (k + 1)) (m.drop (k + 1)))) := Lib.hid (by rw [drop_cons l k hlt, drop_cons m k hlt', eqL])
        clear hca hcb Ha Hb hkc hkc'
        cases he : eqN l[k] m[k]
        · have He := Lib.hid he
          go_wp2
          (refine wp_region_later (by kernel_rfl) (by kernel_rfl) ?_; (repeat (first | go_big_quiet_step ((go_at_call 29; exact later_call (Ih.out _ (List.getElem_mem hlt) _ _ _ _ (Hx.out.grow (later_grow _ _)) (Hy.out.grow (later_grow _ _))))) | quiet_step ((go_at_call 29; exact later_call (Ih.out _ (List.getElem_mem hlt) _ _ _ _ (Hx.out.grow (later_grow _ _)) (Hy.out.grow (later_grow _ _))))))); refine wpQuiet_nil ?_; rintro _ ⟨x_w2, rfl⟩; have hg_w2 := later_grow wr x_w2; generalize later wr x_w2 = w2 at hg_w2 ⊢)
          go_wp2
          go_ret
          exact ⟨by simp [Hr.out, Hs.out, He.out], hg.trans hg_w2⟩
        · have He := Lib.hid he
          go_wp2
          (refine wp_region_later (by kernel_rfl) (by kernel_rfl) ?_; (repeat (first | go_big_quiet_step ((go_at_call 29; exact later_call (Ih.out _ (List.getElem_mem hlt) _ _ _ _ (Hx.out.grow (later_grow _ _)) (Hy.out.grow (later_grow _ _))))) | quiet_step ((go_at_call 29; exact later_call (Ih.out _ (List.getElem_mem hlt) _ _ _ _ (Hx.out.grow (later_grow _ _)) (Hy.out.grow (later_grow _ _))))))); refine wpQuiet_nil ?_; rintro _ ⟨x_w2, rfl⟩; have hg_w2 := later_grow wr x_w2; generalize later wr x_w2 = w2 at hg_w2 ⊢)
          go_wp2
          go_roundw
          case rel => exact ⟨rfl, hg.trans hg_w2, k + 1, by omega, by go_num, Lib.hid (by rw [Hr.out, Hs.out, He.out, Bool.true_and])⟩
          case measure => simp [intOf]; omega
      · have Hs : Hid (eqL l m = true) := Lib.hid (by rw [Hr.out, List.drop_eq_nil_of_le (by omega), List.drop_eq_nil_of_le (by have := Hl.out; omega)]; rfl)
        go_wp2
        go_ret
        exact ⟨by simp [Hs.out], hg⟩
  · have hlb : ((l.length : Int) != (m.length : Int)) = true := by simp; omega
    have Hf := Lib.hid (eqL_len hl)
    clear hl
    go_enter Try.func84, Try.ntmps84
    go_wp2
    go_ret
    exact ⟨by simp [Hf.out], Ext.refl _ _⟩

theorem eqN_kind {a b : Nd} (h : ¬ a.kind = b.kind) : eqN a b = false := by rw [eqN_eq]; simp [h]
theorem eqN_num {a b : Nd} (h : ¬ a.num = b.num) : eqN a b = false := by rw [eqN_eq]; simp [h]
theorem eqN_text {a b : Nd} (h : ¬ a.text = b.text) : eqN a b = false := by rw [eqN_eq]; simp [h]
theorem eqN_names {a b : Nd} (h : eqS a.names b.names = false) : eqN a b = false := by rw [eqN_eq]; unfold eqS at h; simp [of_decide_eq_false h]
theorem eqN_kids {a b : Nd} (h : eqL a.kids b.kids = false) : eqN a b = false := by rw [eqN_eq]; simp [h]
theorem eqN_all {a b : Nd} (h1 : a.kind = b.kind) (h2 : a.num = b.num) (h3 : a.text = b.text) (h4 : eqS a.names b.names = true) (h5 : eqL a.kids b.kids = true) : eqN a b = true := by
  rw [eqN_eq]; unfold eqS at h4; simp [h1, h2, h3, of_decide_eq_true h4, h5]

set_option maxHeartbeats 1000000 in
theorem eqNode_ok : ∀ n, EqOk n := by
  refine Nd.ind' EqOk ?_
  intro n ih m v u w hn hm
  have Ih := Lib.hid ih
  obtain ⟨na, nc, ka, kc, rfl, hc⟩ := hn
  obtain ⟨_, hns, hks⟩ := hc.parts
  obtain ⟨na', nc', ka', kc', rfl, hc'⟩ := hm
  obtain ⟨_, hns', hks'⟩ := hc'.parts
  have Hns := Lib.hid hns
  have Hks := Lib.hid hks
  have Hns' := Lib.hid hns'
  have Hks' := Lib.hid hks'
  clear ih hc hns hks hc' hns' hks'
  unfold nodeV at *
  by_cases h1 : n.kind = m.kind
  rotate_left
  · have Hf := Lib.hid (eqN_kind h1)
    have hb1 : (n.kind != m.kind) = true := by simpa using h1
    clear h1
    go_enter Try.func29, Try.ntmps29
    go_wp2_with fail
    go_ret
    exact ⟨by simp [Hf.out], (by repeat (first | with_reducible exact Ext.refl _ _ | with_reducible refine Ext.trans ?_ (by assumption) | with_reducible refine Ext.drew ?_ | with_reducible refine Ext.drewN ?_ _ | with_reducible refine Ext.alloc ?_ _ | with_reducible refine Ext.setNew ?_ (by simp; done) _ | with_reducible refine Ext.setNew ?_ (by simp; omega) _))⟩
  by_cases h2 : n.num = m.num
  rotate_left
  · have Hf := Lib.hid (eqN_num h2)
    have hb1 : (n.kind != m.kind) = false := by simp [h1]
    have hb2 : (n.num != m.num) = true := by simpa using h2
    clear h1 h2
    go_enter Try.func29, Try.ntmps29
    go_wp2_with fail
    go_ret
    exact ⟨by simp [Hf.out], (by repeat (first | with_reducible exact Ext.refl _ _ | with_reducible refine Ext.trans ?_ (by assumption) | with_reducible refine Ext.drew ?_ | with_reducible refine Ext.drewN ?_ _ | with_reducible refine Ext.alloc ?_ _ | with_reducible refine Ext.setNew ?_ (by simp; done) _ | with_reducible refine Ext.setNew ?_ (by simp; omega) _))⟩
  have hb1 : (n.kind != m.kind) = false := by simp [h1]
  have hb2 : (n.num != m.num) = false := by simp [h2]
  by_cases h3 : n.text = m.text
  rotate_left
  · have Hf := Lib.hid (eqN_text h3)
    have hb3 : (n.text.toList == m.text.toList) = false := by rw [beq_toList]; simp [h3]
    clear h1 h2 h3
    go_enter Try.func29, Try.ntmps29
    go_wp2_with fail
    go_ret
    exact ⟨by simp [Hf.out], (by repeat (first | with_reducible exact Ext.refl _ _ | with_reducible refine Ext.trans ?_ (by assumption) | with_reducible refine Ext.drew ?_ | with_reducible refine Ext.drewN ?_ _ | with_reducible refine Ext.alloc ?_ _ | with_reducible refine Ext.setNew ?_ (by simp; done) _ | with_reducible refine Ext.setNew ?_ (by simp; omega) _))⟩
  have hb3 : (n.text.toList == m.text.toList) = true := by rw [beq_toList]; simp [h3]
  cases h4 : eqS n.names m.names
  · have Hf := Lib.hid (eqN_names h4)
    have H4 := Lib.hid h4
    clear h1 h2 h3 h4
    go_enter Try.func29, Try.ntmps29
    go_wp2_with (go_at_call 83; refine (eqStringS_ok _ _ _ _ _ _ _ (Hns.out.grow (by repeat (first | with_reducible exact Ext.refl _ _ | with_reducible refine Ext.trans ?_ (by assumption) | with_reducible refine Ext.drew ?_ | with_reducible refine Ext.drewN ?_ _ | with_reducible refine Ext.alloc ?_ _ | with_reducible refine Ext.setNew ?_ (by simp; done) _ | with_reducible refine Ext.setNew ?_ (by simp; omega) _))) (Hns'.out.grow (by repeat (first | with_reducible exact Ext.refl _ _ | with_reducible refine Ext.trans ?_ (by assumption) | with_reducible refine Ext.drew ?_ | with_reducible refine Ext.drewN ?_ _ | with_reducible refine Ext.alloc ?_ _ | with_reducible refine Ext.setNew ?_ (by simp; done) _ | with_reducible refine Ext.setNew ?_ (by simp; omega) _)))).mono ?_; rintro e w2 ⟨rfl, hg2⟩; simp only [H4.out])
    go_ret
    exact ⟨by simp [Hf.out], (by repeat (first | with_reducible exact Ext.refl _ _ | with_reducible refine Ext.trans ?_ (by assumption) | with_reducible refine Ext.drew ?_ | with_reducible refine Ext.drewN ?_ _ | with_reducible refine Ext.alloc ?_ _ | with_reducible refine Ext.setNew ?_ (by simp; done) _ | with_reducible refine Ext.setNew ?_ (by simp; omega) _))⟩
  have H4 := Lib.hid h4
  cases h5 : eqL n.kids m.kids
  · have Hf := Lib.hid (eqN_kids h5)
    have H5 := Lib.hid h5
    clear h1 h2 h3 h4 h5
    go_enter Try.func29, Try.ntmps29
    go_wp2_with (first | (go_at_call 83; refine (eqStringS_ok _ _ _ _ _ _ _ (Hns.out.grow (by repeat (first | with_reducible exact Ext.refl _ _ | with_reducible refine Ext.trans ?_ (by assumption) | with_reducible refine Ext.drew ?_ | with_reducible refine Ext.drewN ?_ _ | with_reducible refine Ext.alloc ?_ _ | with_reducible refine Ext.setNew ?_ (by simp; done) _ | with_reducible refine Ext.setNew ?_ (by simp; omega) _))) (Hns'.out.grow (by repeat (first | with_reducible exact Ext.refl _ _ | with_reducible refine Ext.trans ?_ (by assumption) | with_reducible refine Ext.drew ?_ | with_reducible refine Ext.drewN ?_ _ | with_reducible refine Ext.alloc ?_ _ | with_reducible refine Ext.setNew ?_ (by simp; done) _ | with_reducible refine Ext.setNew ?_ (by simp; omega) _)))).mono ?_; rintro e w2 ⟨rfl, hg2⟩; simp only [H4.out]; have hcc := bcell hg2) | (go_at_call 84; refine (eqNodeS_of _ _ Ih.out _ _ _ _ _ (Hks.out.grow (by repeat (first | with_reducible exact Ext.refl _ _ | with_reducible refine Ext.trans ?_ (by assumption) | with_reducible refine Ext.drew ?_ | with_reducible refine Ext.drewN ?_ _ | with_reducible refine Ext.alloc ?_ _ | with_reducible refine Ext.setNew ?_ (by simp; done) _ | with_reducible refine Ext.setNew ?_ (by simp; omega) _))) (Hks'.out.grow (by repeat (first | with_reducible exact Ext.refl _ _ | with_reducible refine Ext.trans ?_ (by assumption) | with_reducible refine Ext.drew ?_ | with_reducible refine Ext.drewN ?_ _ | with_reducible refine Ext.alloc ?_ _ | with_reducible refine Ext.setNew ?_ (by simp; done) _ | with_reducible refine Ext.setNew ?_ (by simp; omega) _)))).mono ?_; rintro e w3 ⟨rfl, hg3⟩; simp only [H5.out]))
    go_ret
    exact ⟨by simp [Hf.out], (by repeat (first | with_reducible exact Ext.refl _ _ | with_reducible refine Ext.trans ?_ (by assumption) | with_reducible refine Ext.drew ?_ | with_reducible refine Ext.drewN ?_ _ | with_reducible refine Ext.alloc ?_ _ | with_reducible refine Ext.setNew ?_ (by simp; done) _ | with_reducible refine Ext.setNew ?_ (by simp; omega) _))⟩
  · have Hf := Lib.hid (eqN_all h1 h2 h3 h4 h5)
    have H5 := Lib.hid h5
    clear h1 h2 h3 h4 h5
    go_enter Try.func29, Try.ntmps29
    go_wp2_with (first | (go_at_call 83; refine (eqStringS_ok _ _ _ _ _ _ _ (Hns.out.grow (by repeat (first | with_reducible exact Ext.refl _ _ | with_reducible refine Ext.trans ?_ (by assumption) | with_reducible refine Ext.drew ?_ | with_reducible refine Ext.drewN ?_ _ | with_reducible refine Ext.alloc ?_ _ | with_reducible refine Ext.setNew ?_ (by simp; done) _ | with_reducible refine Ext.setNew ?_ (by simp; omega) _))) (Hns'.out.grow (by repeat (first | with_reducible exact Ext.refl _ _ | with_reducible refine Ext.trans ?_ (by assumption) | with_reducible refine Ext.drew ?_ | with_reducible refine Ext.drewN ?_ _ | with_reducible refine Ext.alloc ?_ _ | with_reducible refine Ext.setNew ?_ (by simp; done) _ | with_reducible refine Ext.setNew ?_ (by simp; omega) _)))).mono ?_; rintro e w2 ⟨rfl, hg2⟩; simp only [H4.out]; have hcc := bcell hg2) | (go_at_call 84; refine (eqNodeS_of _ _ Ih.out _ _ _ _ _ (Hks.out.grow (by repeat (first | with_reducible exact Ext.refl _ _ | with_reducible refine Ext.trans ?_ (by assumption) | with_reducible refine Ext.drew ?_ | with_reducible refine Ext.drewN ?_ _ | with_reducible refine Ext.alloc ?_ _ | with_reducible refine Ext.setNew ?_ (by simp; done) _ | with_reducible refine Ext.setNew ?_ (by simp; omega) _))) (Hks'.out.grow (by repeat (first | with_reducible exact Ext.refl _ _ | with_reducible refine Ext.trans ?_ (by assumption) | with_reducible refine Ext.drew ?_ | with_reducible refine Ext.drewN ?_ _ | with_reducible refine Ext.alloc ?_ _ | with_reducible refine Ext.setNew ?_ (by simp; done) _ | with_reducible refine Ext.setNew ?_ (by simp; omega) _)))).mono ?_; rintro e w3 ⟨rfl, hg3⟩; simp only [H5.out]))
    go_ret
    exact ⟨by simp [Hf.out], (by repeat (first | with_reducible exact Ext.refl _ _ | with_reducible refine Ext.trans ?_ (by assumption) | with_reducible refine Ext.drew ?_ | with_reducible refine Ext.drewN ?_ _ | with_reducible refine Ext.alloc ?_ _ | with_reducible refine Ext.setNew ?_ (by simp; done) _ | with_reducible refine Ext.setNew ?_ (by simp; omega) _))⟩

theorem eqNodeS_ok (l m : List Nd) (a b : Option Addr) (c d : Nat) (w : World) (ha : NodesR w any a c l) (hb : NodesR w any b d m) :
    Calls Try.prog 84 #[.slice a l.length c, .slice b m.length d] w fun e w' => e = .returned (.bool (eqL l m)) ∧ Grow w w' :=
  eqNodeS_of l m (fun k _ => eqNode_ok k) a b c d w ha hb

end Go.Proofs.Ytmeobmegnneegaa
