/-
  Texts of this claim, joined: EntLaw, EntMark, Entries, Compare, CompareW, CompareS, FRange, MarkB, Uni, Row, CopyI, ItmLaw, ItmTo, Rules, Sto, FindI, StabB, StoV.
-/
import Derived.Lib.Bytealg
import Derived.Laws.CopyOwn
import Derived.Deep.RegionHeld3
import Derived.Test.YtmeobmegnneegaaGiB

/-
  The walks of the laws' helpers on Entry: sizes, copies, comparisons with themselves. (Printed by wip/gentypes.py.)
-/
namespace Go.Proofs.Ytmeobmegnneegaa
open Go.RowKit

abbrev Ent := Nd × ByteArray
def entRep : Rep Ent := pairRep nodeRep (strRep)
theorem entRep_n : entRep.n = 6 := rfl
def entL (x : Ent) (na0 : Option Addr) (nc0 : Nat) (ka0 : Option Addr) (kc0 : Nat) : List Value := [.int .i64 x.1.kind, .int .i64 x.1.num, .string x.1.text, .slice na0 x.1.names.length nc0, .slice ka0 x.1.kids.length kc0, .string x.2]
def costEnt (x : Ent) : Nat := costN x.1 + x.2.size
def costEntL (l : List Ent) : Nat := l.length + (l.map costEnt).sum
def sumEnt (l : List Ent) : Nat := (l.map costEnt).sum
theorem sumEnt_snoc (l : List Ent) (x : Ent) : sumEnt (l ++ [x]) = sumEnt l + costEnt x := by simp [sumEnt]
theorem sumEnt_take (l : List Ent) (k : Nat) : sumEnt (l.take k) ≤ sumEnt l := by
  unfold sumEnt; rw [List.map_take]; exact sum_take_le _ _
theorem costEnt_get (l : List Ent) (k : Nat) (h : k < l.length) : costEnt l[k] ≤ costEntL l := by
  have := sumEnt_take l (k + 1)
  rw [take_snoc' _ _ h, sumEnt_snoc] at this
  unfold costEntL; unfold sumEnt at *; omega

theorem entRep_open {w : World} {S : Nat → Prop} {x : Ent} {cs : List Value} (h : entRep.R w S x cs) : ∃ (na0 : Option Addr) (nc0 : Nat) (ka0 : Option Addr) (kc0 : Nat), cs = entL x na0 nc0 ka0 kc0 ∧ NodeC w S x.1 na0 nc0 ka0 kc0 ∧ x.2.size ≤ big := by
  obtain ⟨_, _, rfl, ⟨na0, nc0, ka0, kc0, rfl, h0⟩, ⟨rfl, h1⟩⟩ := h
  exact ⟨na0, nc0, ka0, kc0, rfl, h0, h1⟩

theorem entRep_openF {w : World} {x : Ent} {cs : List Value} {fp : List Nat} (h : entRep.F w x cs fp) : ∃ (na0 : Option Addr) (nc0 : Nat) (ka0 : Option Addr) (kc0 : Nat), cs = entL x na0 nc0 ka0 kc0 ∧ True ∧ x.2.size ≤ big := by
  obtain ⟨_, _, _, _, rfl, _, ⟨na0, nc0, ka0, kc0, rfl, h0⟩, ⟨rfl, h1, _⟩⟩ := h
  exact ⟨na0, nc0, ka0, kc0, rfl, trivial, h1⟩

end Go.Proofs.Ytmeobmegnneegaa

/-
  The walk of markEntryS. (Printed by wip/genmark.py.)
-/
namespace Go.Proofs.Ytmeobmegnneegaa
open Go.RowKit

def cntEnt (x : Ent) : Nat := cntK x.1 + 1
def mkEnt (k : Nat) (x : Ent) : Ent := (mkK (k) x.1, mtxt (k + cntK x.1))

end Go.Proofs.Ytmeobmegnneegaa

/-
  The walks of impl.areEntries and spec.validEntries.
-/
namespace Go.Proofs.Ytmeobmegnneegaa
open Go.RowKit

def entsV (l : List Ent) : Bool := l.all (fun e => validB e.1)
def entsB (l : List Ent) : Bool := decide (l.length ≤ 10) && entsV l
theorem entsV_drop (l : List Ent) (k : Nat) (h : k < l.length) : entsV (l.drop k) = (validB l[k].1 && entsV (l.drop (k + 1))) := by
  unfold entsV; rw [drop_cons _ _ h, List.all_cons]
theorem entsV_end (l : List Ent) (k : Nat) (h : ¬ k < l.length) : entsV (l.drop k) = true := by
  rw [List.drop_eq_nil_of_le (Nat.le_of_not_lt h)]; rfl

end Go.Proofs.Ytmeobmegnneegaa

/-
  The order of nodes: the plain law and the walks of impl.compareValid and spec.compare.
-/
namespace Go.Proofs.Ytmeobmegnneegaa
open Go.RowKit

def sgnI (a b : Int) : Int := if a < b then -1 else if b < a then 1 else 0
def sgnT (a b : ByteArray) : Int := if lt a b then -1 else if lt b a then 1 else 0

theorem sgnI_refl (a : Int) : sgnI a a = 0 := by simp [sgnI]
theorem sgnI_zero {a b : Int} : sgnI a b = 0 ↔ a = b := by
  unfold sgnI
  by_cases h1 : a < b
  · simp [h1]; omega
  · by_cases h2 : b < a
    · simp [h1, h2]; omega
    · simp [h1, h2]; omega
theorem sgnT_refl (a : ByteArray) : sgnT a a = 0 := by simp [sgnT, lt_irr]
theorem sgnT_zero {a b : ByteArray} : sgnT a b = 0 ↔ a = b := by
  rcases bl_cases a b with ⟨h1, h2, _, _, h3⟩ | ⟨h1, h2, _, _, h3⟩ | h
  · simp [sgnT, lt, h1, h3]
  · simp [sgnT, lt, h1, h2, h3]
  · subst h; simp [sgnT_refl]

theorem compareBytes_bl : ∀ a b : List UInt8, Lib.compareBytes a b = if Op.bytesLess a b then -1 else if Op.bytesLess b a then 1 else 0
  | [], [] => rfl
  | [], _ :: _ => rfl
  | _ :: _, [] => rfl
  | x :: a, y :: b => by
    have ih := compareBytes_bl a b
    simp only [Lib.compareBytes, Op.bytesLess]
    rcases (show x.toNat < y.toNat ∨ x.toNat = y.toNat ∨ y.toNat < x.toNat from by omega) with h | h | h
    · have h1 : x < y := UInt8.lt_iff_toNat_lt.2 h
      simp [h1]
    · have h3 : x = y := UInt8.toNat_inj.1 h
      subst h3
      have h1 : ¬ x < x := fun h' => by have := UInt8.lt_iff_toNat_lt.1 h'; omega
      simp [h1, ih]
    · have h1 : y < x := UInt8.lt_iff_toNat_lt.2 h
      have h2 : ¬ x < y := fun h' => by have := UInt8.lt_iff_toNat_lt.1 h'; omega
      have h3 : ¬ x = y := fun e => by subst e; omega
      simp [h1, h2, h3]

theorem run_cmpstring (a b : ByteArray) (w : World) :
    (callFunc 140 #[.string a, .string b]).run Try.prog w = .ok (.value (.int .i64 (sgnT a b))) w := by
  rw [run_callFunc_extern (P := Try.prog) (f := 140) (fn := Try.f140) (e := Extern.BytealgCompare.compare) (by kernel_rfl) (by kernel_rfl) (by kernel_rfl) (by kernel_rfl) (by kernel_rfl)]
  rw [Lib.run_compareString, compareBytes_bl]
  simp only [← ByteArray.toList_eq]
  rfl

theorem stringsCompare_ok (a b : ByteArray) (w : World) : Calls Try.prog 125 #[.string a, .string b] w fun e w' => e = .returned (.int .i64 (sgnT a b)) ∧ w' = w := by
  have hx := run_cmpstring a b w
  have h2 : Calls Try.prog 134 #[.string a, .string b] w fun e w' => e = .returned (.int .i64 (sgnT a b)) ∧ w' = w := by
    go_enter Try.func134, Try.ntmps134
    go_wp2
    go_ret
    exact ⟨by simp, rfl⟩
  clear hx
  go_enter Try.func125, Try.ntmps125
  go_wp2_with fail
  refine h2.mono ?_
  rintro e w' ⟨rfl, rfl⟩
  go_wp2_with fail
  go_ret
  exact ⟨by simp, rfl⟩

end Go.Proofs.Ytmeobmegnneegaa

/-
  The order of nodes, and the walks of impl.compareValid and spec.compare.
-/
namespace Go.Proofs.Ytmeobmegnneegaa
open Go.RowKit

mutual
/-- The order of nodes. -/
def cmpN : Nd → Nd → Int
  | ⟨kind, num, text, names, kids⟩, b =>
    if sgnI kind b.kind ≠ 0 then sgnI kind b.kind else if sgnI num b.num ≠ 0 then sgnI num b.num else if sgnT text b.text ≠ 0 then sgnT text b.text
    else cmpKs (decide (kind = 4)) names b.names kids b.kids
def cmpKs : Bool → List ByteArray → List ByteArray → List Nd → List Nd → Int
  | m, ns, ms, k :: ks, j :: js =>
    if m = true ∧ sgnT (ns.headD ⟨#[]⟩) (ms.headD ⟨#[]⟩) ≠ 0 then sgnT (ns.headD ⟨#[]⟩) (ms.headD ⟨#[]⟩) else if cmpN k j ≠ 0 then cmpN k j else cmpKs m ns.tail ms.tail ks js
  | _, _, _, [], js => sgnI 0 js.length
  | _, _, _, ks, [] => sgnI ks.length 0
end

theorem cmpN_eq (a b : Nd) : cmpN a b = if sgnI a.kind b.kind ≠ 0 then sgnI a.kind b.kind else if sgnI a.num b.num ≠ 0 then sgnI a.num b.num else if sgnT a.text b.text ≠ 0 then sgnT a.text b.text
    else cmpKs (decide (a.kind = 4)) a.names b.names a.kids b.kids := by cases a; simp [cmpN]

theorem headD_drop (l : List ByteArray) (k : Nat) (h : k < l.length) (d : ByteArray) : (l.drop k).headD d = l[k] := by
  rw [drop_cons _ _ h]; rfl
theorem cmpKs_map {ns ms : List ByteArray} {ks js : List Nd} {k : Nat} (h1 : k < ks.length) (h2 : k < js.length) (h3 : k < ns.length) (h4 : k < ms.length) :
    cmpKs true (ns.drop k) (ms.drop k) (ks.drop k) (js.drop k) = if sgnT ns[k] ms[k] ≠ 0 then sgnT ns[k] ms[k] else if cmpN ks[k] js[k] ≠ 0 then cmpN ks[k] js[k] else cmpKs true (ns.drop (k + 1)) (ms.drop (k + 1)) (ks.drop (k + 1)) (js.drop (k + 1)) := by
  rw [drop_cons _ _ h1, drop_cons _ _ h2, cmpKs, headD_drop _ _ h3, headD_drop _ _ h4]
  simp [List.tail_drop]
theorem cmpKs_list {ns ms : List ByteArray} {ks js : List Nd} {k : Nat} (h1 : k < ks.length) (h2 : k < js.length) :
    cmpKs false (ns.drop k) (ms.drop k) (ks.drop k) (js.drop k) = if cmpN ks[k] js[k] ≠ 0 then cmpN ks[k] js[k] else cmpKs false (ns.drop (k + 1)) (ms.drop (k + 1)) (ks.drop (k + 1)) (js.drop (k + 1)) := by
  rw [drop_cons _ _ h1, drop_cons _ _ h2, cmpKs]
  simp [List.tail_drop]
theorem cmpKs_end (m : Bool) (ns ms : List ByteArray) (ks js : List Nd) (k : Nat) (hk1 : k ≤ ks.length) (hk2 : k ≤ js.length) (h : ¬ (k < ks.length ∧ k < js.length)) :
    cmpKs m (ns.drop k) (ms.drop k) (ks.drop k) (js.drop k) = sgnI ks.length js.length := by
  by_cases h1 : k < ks.length
  · have h2 : k = js.length := by omega
    have e : js.drop k = [] := List.drop_eq_nil_of_le (by omega)
    rw [drop_cons _ _ h1, e, cmpKs]
    · simp only [List.length_cons, List.length_drop, sgnI]
      rw [if_neg (by omega), if_pos (by omega), if_neg (by omega), if_pos (by omega)]
    · intro h; simp at h; omega
  · have h2 : k = ks.length := by omega
    have e : ks.drop k = [] := List.drop_eq_nil_of_le (by omega)
    rw [e, cmpKs]
    simp only [List.length_drop, sgnI]
    by_cases h3 : k < js.length
    · rw [if_pos (by omega), if_pos (by omega)]
    · rw [if_neg (by omega), if_neg (by omega), if_neg (by omega), if_neg (by omega)]

theorem bne0 {c : Int} (h : c = 0) : (c != 0) = false := by simp [h]
theorem bne1 {c : Int} (h : ¬ c = 0) : (c != 0) = true := by simp [h]

end Go.Proofs.Ytmeobmegnneegaa

/-
  The walk of spec.compare.
-/
namespace Go.Proofs.Ytmeobmegnneegaa
open Go.RowKit

end Go.Proofs.Ytmeobmegnneegaa

/-
  The walks of impl.FindRange and spec.FindRange.
-/
namespace Go.Proofs.Ytmeobmegnneegaa
open Go.RowKit

def frB (lo hi : Nd) (e : Ent) : Bool := decide (cmpN lo e.1 ≤ 0) && decide (cmpN e.1 hi ≤ 0)
def frL (lo hi : Nd) (l : List Ent) : List ByteArray := (l.filter (frB lo hi)).map (·.2)
def frS (lo hi : Nd) (l : List Ent) : List ByteArray := if entsB l && validB lo && validB hi then frL lo hi l else []
theorem frL_yes {lo hi : Nd} {l : List Ent} {k : Nat} (h : k < l.length) (hb : frB lo hi l[k] = true) : frL lo hi (l.take (k + 1)) = frL lo hi (l.take k) ++ [l[k].2] := by
  unfold frL; rw [take_snoc' _ _ h, List.filter_append]; simp [hb]
theorem frL_no {lo hi : Nd} {l : List Ent} {k : Nat} (h : k < l.length) (hb : frB lo hi l[k] = false) : frL lo hi (l.take (k + 1)) = frL lo hi (l.take k) := by
  unfold frL; rw [take_snoc' _ _ h, List.filter_append]; simp [hb]
theorem frL_len (lo hi : Nd) (l : List Ent) (k : Nat) : (frL lo hi (l.take k)).length ≤ k := by
  unfold frL
  rw [List.length_map]
  exact Nat.le_trans (List.length_filter_le _ _) (by simp; omega)
theorem frL_mem {lo hi : Nd} {l : List Ent} {x : ByteArray} (h : x ∈ frL lo hi l) : ∃ e ∈ l, x = e.2 := by
  unfold frL at h
  obtain ⟨e, he, rfl⟩ := List.mem_map.1 h
  exact ⟨e, (List.mem_filter.1 he).1, rfl⟩
theorem entsB_len {l : List Ent} (h : entsB l = true) : l.length ≤ 10 := by
  simp only [entsB, Bool.and_eq_true, decide_eq_true_eq] at h; exact h.1
theorem entsB_good {l : List Ent} (h : entsB l = true) : ∀ e ∈ l, Good e.1 := by
  simp only [entsB, Bool.and_eq_true, entsV, List.all_eq_true] at h; exact fun e he => validB_good (h.2 e he)
theorem entsR_texts {w : World} {S : Nat → Prop} {a : Option Addr} {c : Nat} {l : List Ent} (h : SlR entRep w S a c l) : ∀ e ∈ l, e.2.size ≤ big := by
  intro e he
  obtain ⟨k, hk, rfl⟩ := List.getElem_of_mem he
  rcases h.2.2 with hh | ⟨_, _, _, _, hkr⟩
  · rw [hh] at hk; simp at hk
  · obtain ⟨cs, _, hx⟩ := hkr k hk
    obtain ⟨_, _, _, _, _, _, h1⟩ := entRep_open hx
    exact h1

/-- A row of strings that lies in memory made since w. -/
def OwnS (w w' : World) (xs : List ByteArray) (v : Value) : Prop := ∃ a c fp, v = .slice a xs.length c ∧ StrsF w' a c xs fp ∧ Free w.heap.size w' fp
theorem OwnS.nil (w w' : World) : OwnS w w' [] (.slice none 0 0) := ⟨none, 0, [], rfl, ⟨Nat.le_refl _, Nat.zero_le _, by simp, .inl ⟨rfl, rfl⟩⟩, Free.nil _ _⟩
theorem OwnS.grow {w w' w'' : World} {xs : List ByteArray} {v : Value} (h : OwnS w w' xs v) (hg : Grow w' w'') : OwnS w w'' xs v := by
  obtain ⟨a, c, fp, hv, h1, h2⟩ := h
  exact ⟨a, c, fp, hv, h1.keep (hg.keeps h2 (fun _ _ h => h)), h2.ext hg (fun _ _ h => h)⟩
theorem Free.down {B B' : Nat} {w : World} {fp : List Nat} (h : Free B w fp) (hb : B' ≤ B) : Free B' w fp := ⟨h.1, fun y hy => ⟨Nat.le_trans hb (h.2 y hy).1, (h.2 y hy).2⟩⟩
theorem OwnS.row {w w' : World} {B : Nat} {T : TypeId} {v : Value} {n : Nat} {xs : List ByteArray} (hB : w.heap.size ≤ B) (h : w'.ownsRow B T 1 v n (xs.map Value.string)) (hx : ∀ x ∈ xs, x.size ≤ big) : OwnS w w' xs v := by
  obtain ⟨a, c, fp, hv, h1, h2, _⟩ := strs_of_row h hx
  exact ⟨a, c, fp, hv, h1, h2.down hB⟩
theorem row_len {w : World} {B : Nat} {T : TypeId} {v : Value} {n : Nat} {xs : List Value} (h : w.ownsRow B T 1 v n xs) : n = xs.length := by have := h.1; omega

def FrRel (w : World) (lo hi : Nd) (l : List Ent) (t i : Value) (wr : World) : Prop :=
  ∃ (v : Value) (k : Nat), v = t ∧ k ≤ l.length ∧ i = .int .i64 k ∧ wr.ownsRow (w.heap.size + 2) 9 1 v (frL lo hi (l.take k)).length ((frL lo hi (l.take k)).map Value.string)

end Go.Proofs.Ytmeobmegnneegaa

/-
  How many marks a value takes, and blocks that lie between two bounds.
-/
namespace Go.Proofs.Ytmeobmegnneegaa
open Go.RowKit

mutual
theorem cntK_le : ∀ n : Nd, cntK n ≤ 3 + 3 * costN n
  | ⟨_, _, text, names, kids⟩ => by
    have h := cntL_le kids
    have h2 : names.length ≤ costS names := by simp [costS]
    simp only [cntK, costN]; omega
theorem cntL_le : ∀ l : List Nd, cntL l ≤ 3 * costL l
  | [] => by simp [cntL]
  | k :: ks => by
    have h1 := cntK_le k
    have h2 := cntL_le ks
    simp only [cntL, costL]; omega
end
theorem cntT_le (n : Nd) : cntT n ≤ 3 * costN n := by
  have := cntK_le n
  rw [cntK_eq] at this; unfold cntT; omega
theorem cntEnt_le (l : List Ent) : cntR cntEnt l ≤ 4 * costEntL l := by
  induction l with
  | nil => simp [cntR]
  | cons x l ih =>
    have h := cntK_le x.1
    have e : cntEnt x = cntK x.1 + 1 := rfl
    simp only [cntR, costEntL, List.map_cons, List.sum_cons, List.length_cons, costEnt] at ih ⊢
    omega

/-- The blocks of a list lie from A on and below Z, each once and not frozen. -/
def Seg (A Z : Nat) (w : World) (fp : List Nat) : Prop := Free A w fp ∧ ∀ y ∈ fp, y < Z
theorem Seg.of {A : Nat} {w : World} {fp : List Nat} (h : Free A w fp) : Seg A w.heap.size w fp := ⟨h, fun y hy => (h.2 y hy).2.1⟩
theorem Seg.grow {A Z : Nat} {w w' : World} {fp : List Nat} (h : Seg A Z w fp) (hg : Grow w w') : Seg A Z w' fp := ⟨h.1.ext hg (fun _ _ h => h), h.2⟩
theorem Seg.off {A Z A' Z' : Nat} {w w0 : World} {fp fx : List Nat} (h : Seg A Z w fp) (hx : Seg A' Z' w0 fx) (hd : Z ≤ A' ∨ Z' ≤ A) : ∀ y ∈ fp, ¬ inl fx y := fun y hy h2 => by
  have h3 := h.2 y hy
  have h4 := (h.1.2 y hy).1
  have h5 := hx.2 y h2
  have h6 := (hx.1.2 y h2).1
  omega
theorem Seg.ext {A Z A' Z' : Nat} {w w' w0 : World} {fp fx : List Nat} (h : Seg A Z w fp) (hx : Seg A' Z' w0 fx) (hd : Z ≤ A' ∨ Z' ≤ A) (he : Ext (inl fx) w w') : Seg A Z w' fp := ⟨h.1.ext he (h.off hx hd), h.2⟩
theorem Seg.keeps {A Z A' Z' : Nat} {w w' w0 : World} {fp fx : List Nat} (h : Seg A Z w fp) (hx : Seg A' Z' w0 fx) (hd : Z ≤ A' ∨ Z' ≤ A) (he : Ext (inl fx) w w') : ∀ b ∈ fp, ∀ o, w'.cell? ⟨b, o, none⟩ = w.cell? ⟨b, o, none⟩ := he.keeps h.1 (h.off hx hd)
theorem Seg.marked {A Z : Nat} {w w' : World} {fp : List Nat} (h : Seg A Z w fp) (h' : Free A w' fp) : Seg A Z w' fp := ⟨h', h.2⟩
theorem Seg.inner {A Z : Nat} {w0 w w' : World} {fp : List Nat} (h : Seg A Z w fp) (hg : Grow w0 w) (he : Ext (inl fp) w w') (hA : w0.heap.size ≤ A) : Grow w0 w' :=
  hg.inner he (fun i hi => Nat.le_trans hA (h.1.2 i hi).1)
theorem Seg.box {A Z b : Nat} {w0 w w' : World} {fp : List Nat} {cs : List Value} (h : Seg A Z w0 fp) (hB : BoxN w b cs) (he : Ext (inl fp) w w') (hd : b < A ∨ Z ≤ b) : BoxN w' b cs :=
  hB.ext he (fun hi => by have h3 := h.2 b hi; have h4 := (h.1.2 b hi).1; omega)
/-- What lies below A stays. -/
theorem Seg.below {A Z : Nat} {w0 w w' : World} {fp : List Nat} {a : Option Addr} {c Y : Nat} {xs : List ByteArray} (h : Seg A Z w0 fp) (hs : StrsR w (fun k => k < Y) a c xs) (he : Ext (inl fp) w w') (hd : Y ≤ A) : StrsR w' (fun k => k < Y) a c xs :=
  hs.ext he (fun k hk hi => by have h4 := (h.1.2 k hi).1; omega)
theorem StrsR.under {S : Nat → Prop} {w : World} {a : Option Addr} {c : Nat} {xs : List ByteArray} (h : StrsR w S a c xs) : StrsR w (fun k => k < w.heap.size) a c xs := h.lt.mono (fun _ h => h.2)

end Go.Proofs.Ytmeobmegnneegaa

/-
  Data and their values: one form for all types; the laws' helpers on rows of texts and on nodes in that form.
-/
namespace Go.Proofs.Ytmeobmegnneegaa
open Go.RowKit

def packA (cs : List Value) : Value := .agg cs.toArray
def packO (cs : List Value) : Value := cs.headD undef

/-- A value reads as data. -/
def RV {α : Type} (E : Rep α) (pk : List Value → Value) (w : World) (S : Nat → Prop) (x : α) (v : Value) : Prop := ∃ cs, v = pk cs ∧ E.R w S x cs
/-- A value that owns its memory. -/
def FV {α : Type} (E : Rep α) (pk : List Value → Value) (w : World) (x : α) (v : Value) (fp : List Nat) : Prop := ∃ cs, v = pk cs ∧ E.F w x cs fp

section
variable {α : Type} {E : Rep α} {pk : List Value → Value}
theorem RV.ext {X S : Nat → Prop} {w w' : World} {x : α} {v : Value} (h : RV E pk w S x v) (he : Ext X w w') (hS : ∀ k, S k → ¬ X k) : RV E pk w' S x v := by
  obtain ⟨cs, hv, hc⟩ := h; exact ⟨cs, hv, E.ext he hS hc⟩
theorem RV.grow {S : Nat → Prop} {w w' : World} {x : α} {v : Value} (h : RV E pk w S x v) (hg : Grow w w') : RV E pk w' S x v := h.ext hg (fun _ _ h => h)
theorem RV.mono {S T : Nat → Prop} {w : World} {x : α} {v : Value} (h : RV E pk w S x v) (hS : ∀ k, S k → T k) : RV E pk w T x v := by
  obtain ⟨cs, hv, hc⟩ := h; exact ⟨cs, hv, E.mono hS hc⟩
theorem RV.any {S : Nat → Prop} {w : World} {x : α} {v : Value} (h : RV E pk w S x v) : RV E pk w any x v := h.mono (fun _ _ => trivial)
theorem RV.under {S : Nat → Prop} {w : World} {x : α} {v : Value} (h : RV E pk w S x v) : RV E pk w (fun k => k < w.heap.size) x v := by
  obtain ⟨cs, hv, hc⟩ := h; exact ⟨cs, hv, E.mono (fun _ h => h.2) (E.lt hc)⟩
theorem FV.keep {w w' : World} {x : α} {v : Value} {fp : List Nat} (h : FV E pk w x v fp) (hk : ∀ b ∈ fp, ∀ o, w'.cell? ⟨b, o, none⟩ = w.cell? ⟨b, o, none⟩) : FV E pk w' x v fp := by
  obtain ⟨cs, hv, hc⟩ := h; exact ⟨cs, hv, E.keep hc hk⟩
theorem FV.rv {w : World} {x : α} {v : Value} {fp : List Nat} (h : FV E pk w x v fp) : RV E pk w Go.Proofs.Ytmeobmegnneegaa.any x v := by
  obtain ⟨cs, hv, hc⟩ := h; exact ⟨cs, hv, E.toR hc (fun _ _ => trivial)⟩
theorem FV.grow {w w' : World} {x : α} {v : Value} {fp : List Nat} {A Z : Nat} (h : FV E pk w x v fp) (hs : Seg A Z w fp) (hg : Grow w w') : FV E pk w' x v fp := h.keep (hg.keeps hs.1 (fun _ _ h => h))
/-- Data below A stay where blocks of a segment from A on turn. -/
theorem Seg.rv {A Z Y : Nat} {w0 w w' : World} {fp : List Nat} {x : α} {v : Value} (h : Seg A Z w0 fp) (hs : RV E pk w (fun k => k < Y) x v) (he : Ext (inl fp) w w') (hd : Y ≤ A) : RV E pk w' (fun k => k < Y) x v :=
  hs.ext he (fun k hk hi => by have h4 := (h.1.2 k hi).1; omega)
end

/-! ### Rows of texts -/
theorem strs_open {w : World} {S : Nat → Prop} {x : List ByteArray} {v : Value} (h : RV strsRep packO w S x v) : ∃ a c, v = .slice a x.length c ∧ StrsR w S a c x := by
  obtain ⟨cs, rfl, a, c, rfl, hs⟩ := h; exact ⟨a, c, rfl, hs⟩
theorem strs_shut {w : World} {S : Nat → Prop} {x : List ByteArray} {a : Option Addr} {c : Nat} (h : StrsR w S a c x) : RV strsRep packO w S x (.slice a x.length c) := ⟨_, rfl, a, c, rfl, h⟩
theorem strs_shutF {w : World} {x : List ByteArray} {a : Option Addr} {c : Nat} {fp : List Nat} (h : StrsF w a c x fp) : FV strsRep packO w x (.slice a x.length c) fp := ⟨_, rfl, a, c, rfl, h⟩
def cntS (x : List ByteArray) : Nat := x.length
def mkSS (k : Nat) (x : List ByteArray) : List ByteArray := mkS k x.length
theorem uSzS (x : List ByteArray) (v : Value) (left : Int) (w : World) (h0 : 0 ≤ left) (h1 : left ≤ 1048576) (h : RV strsRep packO w any x v) :
    Calls Try.prog 68 #[v, .int .i64 left] w fun e w' => e = .returned (.int .i64 (szR (costS x) left)) ∧ Grow w w' := by
  obtain ⟨a, c, rfl, hs⟩ := strs_open h
  exact szStringS_ok a c x left w hs h0 h1
theorem uToS (x : List ByteArray) (v : Value) (w : World) (hc : costS x ≤ 1048576) (h : RV strsRep packO w any x v) :
    Calls Try.prog 75 #[v] w fun e w' => ∃ v' fp, e = .returned v' ∧ Grow w w' ∧ FV strsRep packO w' x v' fp ∧ Free w.heap.size w' fp := by
  obtain ⟨a, c, rfl, hs⟩ := strs_open h
  exact (toStringS_ok a c x w hs (by unfold costS at hc; omega)).mono fun e w' ⟨a', c', fp, he, hg, hF, hfr⟩ => ⟨_, fp, he, hg, strs_shutF hF, hfr⟩
theorem uEqS (x : List ByteArray) (v u : Value) (w : World) (h : RV strsRep packO w any x v) (h' : RV strsRep packO w any x u) :
    Calls Try.prog 83 #[v, u] w fun e w' => e = .returned (.bool true) ∧ Grow w w' := by
  obtain ⟨a, c, rfl, hs⟩ := strs_open h
  obtain ⟨a', c', rfl, hs'⟩ := strs_open h'
  exact (eqStringS_ok _ _ _ _ x x w hs hs').mono fun e w' ⟨he, hg⟩ => ⟨by rw [he]; simp [eqS], hg⟩
theorem uMarkS (x : List ByteArray) (v : Value) (fp : List Nat) (B k : Nat) (i : Int) (w : World) (hi : i = (k : Int)) (hF : FV strsRep packO w x v fp) (hfr : Free B w fp) (h1 : 0 < k) (h2 : k + cntS x ≤ 1000000000) :
    Calls Try.prog 86 #[v, .int .i64 i] w fun e w' => e = .returned (.int .i64 ((k + cntS x : Nat) : Int)) ∧ Ext (inl fp) w w' ∧ Free B w' fp ∧ FV strsRep packO w' (mkSS k x) v fp := by
  obtain ⟨cs, rfl, a, c, rfl, hs⟩ := hF
  exact (markStringS_i a c x fp B k i w hi hs hfr h1 h2).mono fun e w' ⟨he, hx, hf, hF⟩ => ⟨he, hx, hf, by
    have := strs_shutF hF
    unfold mkSS
    rw [mkS_len] at this
    exact this⟩
theorem uHeldS (x : List ByteArray) (v : Value) (k : Nat) (i : Int) (w : World) (hi : i = (k : Int)) (h : RV strsRep packO w any (mkSS k x) v) (h1 : 0 < k) (h2 : k + cntS x ≤ 1000000000) :
    Calls Try.prog 96 #[v, .int .i64 i] w fun e w' => e = .returned (.int .i64 ((k + cntS x : Nat) : Int)) ∧ Grow w w' := by
  obtain ⟨a, c, rfl, hs⟩ := strs_open h
  unfold mkSS at hs ⊢
  rw [mkS_len]
  exact heldStringS_i a c x.length k i w hi hs h1 h2

/-! ### Nodes -/
theorem node_open {w : World} {S : Nat → Prop} {x : Nd} {v : Value} (h : RV nodeRep packA w S x v) : NodeR w S x v := by
  obtain ⟨cs, rfl, na, nc, ka, kc, rfl, hs⟩ := h; exact ⟨na, nc, ka, kc, rfl, hs⟩
theorem node_shut {w : World} {S : Nat → Prop} {x : Nd} {v : Value} (h : NodeR w S x v) : RV nodeRep packA w S x v := by
  obtain ⟨na, nc, ka, kc, rfl, hs⟩ := h; exact ⟨_, rfl, na, nc, ka, kc, rfl, hs⟩
theorem node_cells {w : World} {x : Nd} {cs : List Value} {fp : List Nat} (h : nodeRep.F w x cs fp) : ∃ na nc ka kc, cs = nodeL x na nc ka kc := by
  obtain ⟨na, nc, ka, kc, rfl, _⟩ := h; exact ⟨na, nc, ka, kc, rfl⟩
theorem uSzN (x : Nd) (v : Value) (left : Int) (w : World) (h0 : 0 ≤ left) (h1 : left ≤ 1048576) (h : RV nodeRep packA w any x v) :
    Calls Try.prog 23 #[v, .int .i64 left] w fun e w' => e = .returned (.int .i64 (szR (costN x) left)) ∧ Grow w w' := szNode_ok x v left w h0 h1 (node_open h)
theorem uToN (x : Nd) (v : Value) (w : World) (hc : costN x ≤ 1048576) (h : RV nodeRep packA w any x v) :
    Calls Try.prog 26 #[v] w fun e w' => ∃ v' fp, e = .returned v' ∧ Grow w w' ∧ FV nodeRep packA w' x v' fp ∧ Free w.heap.size w' fp :=
  (toNode_ok x v w hc (node_open h)).mono fun e w' ⟨v', fp, he, hg, ⟨na, nc, ka, kc, hv, hF⟩, hfr⟩ => ⟨v', fp, he, hg, ⟨_, hv, na, nc, ka, kc, rfl, hF⟩, hfr⟩
theorem uEqN (x : Nd) (v u : Value) (w : World) (h : RV nodeRep packA w any x v) (h' : RV nodeRep packA w any x u) :
    Calls Try.prog 29 #[v, u] w fun e w' => e = .returned (.bool true) ∧ Grow w w' :=
  (eqNode_ok x x v u w (node_open h) (node_open h')).mono fun e w' ⟨he, hg⟩ => ⟨by rw [he, eqN_refl], hg⟩
theorem uMarkN (x : Nd) (v : Value) (fp : List Nat) (B k : Nat) (i : Int) (w : World) (hi : i = (k : Int)) (hF : FV nodeRep packA w x v fp) (hfr : Free B w fp) (h1 : 0 < k) (h2 : k + cntT x ≤ 1000000000) :
    Calls Try.prog 31 #[v, .int .i64 i] w fun e w' => e = .returned (.int .i64 ((k + cntT x : Nat) : Int)) ∧ Ext (inl fp) w w' ∧ Free B w' fp ∧ FV nodeRep packA w' (mkT k x) v fp := by
  obtain ⟨cs, rfl, na, nc, ka, kc, rfl, hs⟩ := hF
  refine (markNode_ok x na nc ka kc fp B k i w hi hs hfr h1 h2).mono fun e w' ⟨he, hx, hf, hF⟩ => ⟨he, hx, hf, _, rfl, na, nc, ka, kc, ?_, hF⟩
  unfold nodeL mkT
  simp only [mkS_len, mkL_len]
theorem uHeldN (x : Nd) (v : Value) (k : Nat) (i : Int) (w : World) (hi : i = (k : Int)) (h : RV nodeRep packA w any (mkT k x) v) (h1 : 0 < k) (h2 : k + cntT x ≤ 1000000000) :
    Calls Try.prog 107 #[v, .int .i64 i] w fun e w' => e = .returned (.int .i64 ((k + cntT x : Nat) : Int)) ∧ Grow w w' := by
  obtain ⟨na, nc, ka, kc, rfl, hs⟩ := node_open h
  exact heldNode_ok x na nc ka kc k i w hi ⟨na, nc, ka, kc, rfl, hs⟩ h1 h2

end Go.Proofs.Ytmeobmegnneegaa

/-
  Rows of data that are being made by appending: data that read (RowR), data that own their memory (RowO).
-/
namespace Go.Proofs.Ytmeobmegnneegaa
open Go Go.RowKit

section
variable {α : Type} {E : Rep α}

/-- Cells that read as data, one behind the other. -/
def RCells (E : Rep α) (w : World) (S : Nat → Prop) : List α → List Value → Prop
  | [], cs => cs = []
  | x :: l, cs => ∃ c d, cs = c ++ d ∧ E.R w S x c ∧ RCells E w S l d
/-- Cells that read as data that own their memory. -/
def FCells (E : Rep α) (w : World) : List α → List Value → List Nat → Prop
  | [], cs, fp => cs = [] ∧ fp = []
  | x :: l, cs, fp => ∃ c d f g, cs = c ++ d ∧ fp = f ++ g ∧ E.F w x c f ∧ FCells E w l d g

theorem RCells.len {w : World} {S : Nat → Prop} : ∀ {l : List α} {cs : List Value}, RCells E w S l cs → cs.length = l.length * E.n
  | [], _, h => by cases h; simp
  | x :: l, cs, ⟨c, d, e, h1, h2⟩ => by rw [e, List.length_append, E.rlen h1, RCells.len h2, List.length_cons, Nat.succ_mul]; omega
theorem RCells.snoc {w : World} {S : Nat → Prop} {x : α} {c : List Value} (hx : E.R w S x c) : ∀ {l : List α} {cs : List Value}, RCells E w S l cs → RCells E w S (l ++ [x]) (cs ++ c)
  | [], _, h => by cases h; exact ⟨c, [], by simp, hx, rfl⟩
  | y :: l, cs, ⟨c', d, e, h1, h2⟩ => ⟨c', d ++ c, by rw [e, List.append_assoc], h1, RCells.snoc hx h2⟩
theorem RCells.app {w : World} {S : Nat → Prop} {m : List α} {ds : List Value} (hm : RCells E w S m ds) : ∀ {l : List α} {cs : List Value}, RCells E w S l cs → RCells E w S (l ++ m) (cs ++ ds)
  | [], _, h => by cases h; simpa using hm
  | y :: l, cs, ⟨c', d, e, h1, h2⟩ => ⟨c', d ++ ds, by rw [e, List.append_assoc], h1, RCells.app hm h2⟩
theorem RCells.ext {X S : Nat → Prop} {w w' : World} (h : Ext X w w') (hS : ∀ k, S k → ¬ X k) : ∀ {l : List α} {cs : List Value}, RCells E w S l cs → RCells E w' S l cs
  | [], _, h => h
  | x :: l, cs, ⟨c, d, e, h1, h2⟩ => ⟨c, d, e, E.ext h hS h1, RCells.ext h hS h2⟩
theorem RCells.mono {S T : Nat → Prop} {w : World} (hS : ∀ k, S k → T k) : ∀ {l : List α} {cs : List Value}, RCells E w S l cs → RCells E w T l cs
  | [], _, h => h
  | x :: l, cs, ⟨c, d, e, h1, h2⟩ => ⟨c, d, e, E.mono hS h1, RCells.mono hS h2⟩
theorem RCells.lt {S : Nat → Prop} {w : World} : ∀ {l : List α} {cs : List Value}, RCells E w S l cs → RCells E w (fun k => S k ∧ k < w.heap.size) l cs
  | [], _, h => h
  | x :: l, cs, ⟨c, d, e, h1, h2⟩ => ⟨c, d, e, E.lt h1, RCells.lt h2⟩
theorem RCells.get {w : World} {S : Nat → Prop} : ∀ {l : List α} {cs : List Value}, RCells E w S l cs → ∀ i (h : i < l.length), ∃ c, (∀ j v, c[j]? = some v → cs[i * E.n + j]? = some v) ∧ E.R w S l[i] c
  | [], _, _, i, h => absurd h (by simp)
  | x :: l, cs, ⟨c, d, e, h1, h2⟩, 0, _ => ⟨c, fun j v hj => by
      subst e; rw [Nat.zero_mul, Nat.zero_add, List.getElem?_append_left (List.getElem?_eq_some_iff.1 hj).1]; exact hj, h1⟩
  | x :: l, cs, ⟨c, d, e, h1, h2⟩, i + 1, h => by
    obtain ⟨c', h3, h4⟩ := RCells.get h2 i (by simpa using h)
    refine ⟨c', fun j v hj => ?_, by simpa using h4⟩
    subst e
    have hl := E.rlen h1
    rw [List.getElem?_append_right (by rw [hl, Nat.succ_mul]; omega), hl, show (i + 1) * E.n + j - E.n = i * E.n + j by rw [Nat.succ_mul]; omega]
    exact h3 j v hj

theorem FCells.len {w : World} : ∀ {l : List α} {cs : List Value} {fp : List Nat}, FCells E w l cs fp → cs.length = l.length * E.n
  | [], _, _, h => by rw [h.1]; simp
  | x :: l, cs, fp, ⟨c, d, f, g, e, _, h1, h2⟩ => by rw [e, List.length_append, E.flen h1, FCells.len h2, List.length_cons, Nat.succ_mul]; omega
theorem FCells.snoc {w : World} {x : α} {c : List Value} {f' : List Nat} (hx : E.F w x c f') : ∀ {l : List α} {cs : List Value} {fp : List Nat}, FCells E w l cs fp → FCells E w (l ++ [x]) (cs ++ c) (fp ++ f')
  | [], _, _, h => by obtain ⟨rfl, rfl⟩ := h; exact ⟨c, [], f', [], by simp, by simp, hx, rfl, rfl⟩
  | y :: l, cs, fp, ⟨c', d, f, g, e1, e2, h1, h2⟩ => ⟨c', d ++ c, f, g ++ f', by rw [e1, List.append_assoc], by rw [e2, List.append_assoc], h1, FCells.snoc hx h2⟩
theorem FCells.keep {w w' : World} : ∀ {l : List α} {cs : List Value} {fp : List Nat}, FCells E w l cs fp → (∀ b ∈ fp, ∀ o, w'.cell? ⟨b, o, none⟩ = w.cell? ⟨b, o, none⟩) → FCells E w' l cs fp
  | [], _, _, h, _ => h
  | x :: l, cs, fp, ⟨c, d, f, g, e1, e2, h1, h2⟩, hk => ⟨c, d, f, g, e1, e2, E.keep h1 (fun b hb => hk b (by rw [e2]; simp [hb])), FCells.keep h2 (fun b hb => hk b (by rw [e2]; simp [hb]))⟩
theorem FCells.toR {w : World} {S : Nat → Prop} : ∀ {l : List α} {cs : List Value} {fp : List Nat}, FCells E w l cs fp → (∀ b ∈ fp, S b) → RCells E w S l cs
  | [], _, _, h, _ => h.1
  | x :: l, cs, fp, ⟨c, d, f, g, e1, e2, h1, h2⟩, hk => ⟨c, d, e1, E.toR h1 (fun b hb => hk b (by rw [e2]; simp [hb])), FCells.toR h2 (fun b hb => hk b (by rw [e2]; simp [hb]))⟩
theorem FCells.row {w : World} {b : Nat} : ∀ {l : List α} {cs : List Value} {fp : List Nat} {o : Nat}, FCells E w l cs fp → (∀ i v, cs[i]? = some v → w.cell? ⟨b, o + i, none⟩ = some v) → RowF E w b o l fp
  | [], _, _, _, h, _ => h.2
  | x :: l, cs, fp, o, ⟨c, d, f, g, e1, e2, h1, h2⟩, hk => by
    have hl := E.flen h1
    refine ⟨f, g, c, e2, fun i v hi => hk i v (by rw [e1, List.getElem?_append_left (List.getElem?_eq_some_iff.1 hi).1]; exact hi), h1, FCells.row h2 (fun i v hi => ?_)⟩
    have := hk (E.n + i) v (by rw [e1, List.getElem?_append_right (by omega), hl, Nat.add_sub_cancel_left]; exact hi)
    rw [Nat.add_assoc]; exact this

/-- The block of a row. -/
def rowB (t : Value) (k : Nat) : Prop := t.ownBlock = some k

/-- A row that reads as data. -/
def RowR (E : Rep α) (B : Nat) (T : TypeId) (w : World) (t : Value) (l : List α) : Prop := ∃ cs, w.ownsRow B T E.n t l.length cs ∧ RCells E w (offRow B t) l cs
/-- A row of data that own their memory. -/
def RowO (E : Rep α) (B : Nat) (T : TypeId) (w : World) (t : Value) (l : List α) : Prop :=
  ∃ cs fp, w.ownsRow B T E.n t l.length cs ∧ FCells E w l cs fp ∧ Free B w fp ∧ ∀ b ∈ fp, ¬ rowB t b

variable {B : Nat} {T : TypeId} {w w' w0 : World} {t : Value} {l : List α}

theorem RowR.nil : RowR E B T w (.slice none 0 0) [] := ⟨[], World.ownsRow_nil _ _ _ _, rfl⟩
theorem RowO.nil : RowO E B T w (.slice none 0 0) [] := ⟨[], [], World.ownsRow_nil _ _ _ _, ⟨rfl, rfl⟩, Free.nil _ _, by simp⟩
theorem RowR.made (h : B ≤ w.heap.size) : RowR E B T (w.alloc (.cells #[] T)) (.slice (some ⟨w.heap.size, 0, Option.none⟩) 0 0) [] :=
  ⟨[], World.ownsRow_made w #[] 0 h (by unfold maxLen; omega) (by simp), rfl⟩
theorem RowO.made (h : B ≤ w.heap.size) : RowO E B T (w.alloc (.cells #[] T)) (.slice (some ⟨w.heap.size, 0, Option.none⟩) 0 0) [] :=
  ⟨[], [], World.ownsRow_made w #[] 0 h (by unfold maxLen; omega) (by simp), ⟨rfl, rfl⟩, Free.nil _ _, by simp⟩
theorem RowR.grow (h : RowR E B T w t l) (hg : Grow w w') : RowR E B T w' t l := by
  obtain ⟨cs, h1, h2⟩ := h; exact ⟨cs, row_grow h1 hg, h2.ext hg (fun _ _ h => h)⟩
theorem RowO.grow (h : RowO E B T w t l) (hg : Grow w w') : RowO E B T w' t l := by
  obtain ⟨cs, fp, h1, h2, h3, h4⟩ := h; exact ⟨cs, fp, row_grow h1 hg, h2.keep (hg.keeps h3 (fun _ _ h => h)), h3.ext hg (fun _ _ h => h), h4⟩
theorem RowR.low (h : RowR E B T w t l) : ∀ k, rowB t k → B ≤ k ∧ k < w.heap.size := by obtain ⟨cs, h1, _⟩ := h; exact h1.lt
theorem RowO.low (h : RowO E B T w t l) : ∀ k, rowB t k → B ≤ k ∧ k < w.heap.size := by obtain ⟨cs, fp, h1, _⟩ := h; exact h1.lt
theorem RowR.slice (h : RowR E B T w t l) : ∃ a c, t = .slice a l.length c := by
  obtain ⟨cs, h1, _⟩ := h
  rcases h1.2 with ⟨rfl, h0⟩ | ⟨g, cap, cur, rfl, _⟩
  · exact ⟨_, _, by rw [h0]⟩
  · exact ⟨_, _, rfl⟩
theorem RowO.slice (h : RowO E B T w t l) : ∃ a c, t = .slice a l.length c := by
  obtain ⟨cs, fp, h1, _⟩ := h
  rcases h1.2 with ⟨rfl, h0⟩ | ⟨g, cap, cur, rfl, _⟩
  · exact ⟨_, _, by rw [h0]⟩
  · exact ⟨_, _, rfl⟩
theorem RowO.rowR (h : RowO E B T w t l) : RowR E B T w t l := by
  obtain ⟨cs, fp, h1, h2, h3, h4⟩ := h
  exact ⟨cs, h1, h2.toR (fun b hb => ⟨(h3.2 b hb).1, h4 b hb⟩)⟩

/-- A row reads as a slice. -/
theorem RowR.slR (h : RowR E B T w t l) : ∃ a c, t = .slice a l.length c ∧ SlR E w (upB B) a c l := by
  obtain ⟨cs, ⟨h1, h2⟩, h3⟩ := h
  rcases h2 with ⟨rfl, h0⟩ | ⟨g, cap, cur, rfl, hb, hg, hle, hcap, hcs, htake⟩
  · exact ⟨none, 0, by rw [h0], by omega, by unfold big; omega, .inl (List.length_eq_zero_iff.1 h0)⟩
  · refine ⟨_, cap, rfl, hle, by unfold maxLen at hcap; unfold big; omega, .inr ⟨g, 0, rfl, hb, fun i hi => ?_⟩⟩
    obtain ⟨c, h4, h5⟩ := h3.get i hi
    refine ⟨c, fun j v hj => ?_, E.mono (fun k hk => hk.1) h5⟩
    have := row_cells hg htake (i * E.n + j) v (h4 j v hj)
    rw [Nat.add_assoc]; exact this
theorem RowR.rv {hp : 0 < E.n} (h : RowR E B T w t l) : RV (slRep E hp) packO w (upB B) l t := by
  obtain ⟨a, c, rfl, hs⟩ := h.slR; exact ⟨_, rfl, a, c, rfl, hs⟩
/-- A row that owns its memory. -/
theorem RowO.fv {hp : 0 < E.n} (h : RowO E B T w t l) : ∃ fp, FV (slRep E hp) packO w l t fp ∧ Free B w fp := by
  obtain ⟨cs, fp, ⟨h1, h2⟩, h3, h4, h5⟩ := h
  by_cases he : l = []
  · subst he
    obtain ⟨rfl, rfl⟩ := h3
    rcases h2 with ⟨rfl, h0⟩ | ⟨g, cap, cur, rfl, hb, hg, hle, hcap, hcs, htake⟩
    · exact ⟨[], ⟨_, rfl, _, _, rfl, Nat.zero_le _, Nat.zero_le _, .inl ⟨rfl, rfl⟩⟩, Free.nil _ _⟩
    · exact ⟨[], ⟨_, rfl, _, _, rfl, Nat.zero_le _, Nat.zero_le _, .inl ⟨rfl, rfl⟩⟩, Free.nil _ _⟩
  · rcases h2 with ⟨rfl, h0⟩ | ⟨g, cap, cur, rfl, hb, hg, hle, hcap, hcs, htake⟩
    · exact absurd (List.length_eq_zero_iff.1 h0) he
    · refine ⟨g :: fp, ⟨_, rfl, _, cap, rfl, hle, by unfold maxLen at hcap; unfold big; omega, .inr ⟨g, 0, fp, he, rfl, rfl, h3.row (row_cells hg htake)⟩⟩, ?_⟩
      refine ⟨List.nodup_cons.2 ⟨fun hm => h5 g hm rfl, h4.1⟩, fun b hb' => ?_⟩
      rcases List.mem_cons.1 hb' with rfl | hb'
      · refine ⟨hb, (Array.getElem?_eq_some_iff.1 hg).1, fun o => ?_⟩
        simp [World.frozen?, hg]
      · exact h4.2 b hb'

/-- What an append leaves. -/
theorem grownBy_rowB (h : w.grownBy w' t.ownBlock) : Ext (rowB t) w w' := grownBy_ext h

theorem RowR.snoc {x : α} {c cs : List Value} {t' : Value} (h1 : w.ownsRow B T E.n t l.length cs) (h2 : RCells E w (fun k => offRow B t k ∧ k < w.heap.size) l cs) (hx : E.R w (fun k => offRow B t k ∧ k < w.heap.size) x c)
    (h3 : w'.ownsRow B T E.n t' (l.length + 1) (cs ++ c)) (hg : w.grownBy w' t.ownBlock) (hv : t'.ownBlock = t.ownBlock ∨ t'.ownBlock = some w.heap.size) : RowR E B T w' t' (l ++ [x]) := by
  have he := grownBy_rowB hg
  have hoff : ∀ k, (offRow B t k ∧ k < w.heap.size) → offRow B t' k := fun k hk => ⟨hk.1.1, fun e => by
    rcases hv with hv | hv
    · exact hk.1.2 (hv ▸ e)
    · rw [hv] at e; cases e; omega⟩
  refine ⟨cs ++ c, by simpa using h3, ?_⟩
  exact (RCells.snoc (E.ext he (fun k hk => hk.1.2) hx) (h2.ext he (fun k hk => hk.1.2))).mono hoff

theorem RowO.snoc {x : α} {c : List Value} {f : List Nat} {t' : Value} {cs : List Value} {fp : List Nat} (hown : w0.ownsRow B T E.n t l.length cs) (hF : FCells E w0 l cs fp) (hfr : Free B w0 fp) (hoff : ∀ b ∈ fp, ¬ rowB t b)
    (hg : Grow w0 w) (hx : E.F w x c f) (hfx : Free w0.heap.size w f) (hb : B ≤ w0.heap.size)
    (h3 : w'.ownsRow B T E.n t' (l.length + 1) (cs ++ c)) (hgr : w.grownBy w' t.ownBlock) (hv : t'.ownBlock = t.ownBlock ∨ t'.ownBlock = some w.heap.size) : RowO E B T w' t' (l ++ [x]) := by
  have he := grownBy_rowB hgr
  have hlow := hown.lt
  have hfr1 := hfr.ext hg (fun _ _ h => h)
  have hofx : ∀ b ∈ f, ¬ rowB t b := fun b hb' e => by have := (hlow b e).2; have := (hfx.2 b hb').1; omega
  refine ⟨cs ++ c, fp ++ f, by simpa using h3, FCells.snoc (E.keep hx (he.keeps hfx hofx)) ((hF.keep (hg.keeps hfr (fun _ _ h => h))).keep (he.keeps hfr1 hoff)), ?_, fun b hb' e => ?_⟩
  · refine Free.app2 (hfr1.ext he hoff) ((hfx.ext he hofx).mono hb) (fun y h1 h2 => ?_)
    have := (hfr.2 y h1).2.1
    have := (hfx.2 y h2).1
    omega
  · rcases List.mem_append.1 hb' with h1 | h1
    · rcases hv with hv | hv
      · exact hoff b h1 (hv.symm.trans e)
      · unfold rowB at e; rw [hv] at e; cases e; have := (hfr1.2 _ h1).2.1; omega
    · rcases hv with hv | hv
      · exact hofx b h1 (hv.symm.trans e)
      · unfold rowB at e; rw [hv] at e; cases e; have := (hfx.2 _ h1).2.1; omega

/-- One datum more, which owns its memory. -/
theorem wpList_appO {P : Program} (w : World) {ops : Array Oper} {rest : List Oper} {o : Oper} {a : Act} {Q : Exit → Act → World → Prop} (hgd : o.guard = none) (s y : Operand) (tt : TypeId)
    (ho : o.op = .call { callee := .builtin .append, args := #[s, y], argTypes := #[tt, tt] }) (E : Rep α)
    (B : Nat) (e : TypeId) (i : TypeInfo) (z : Value) (bytes : Nat) (ht : P.underlying tt = some (.slice e)) (hi : P.info? e = some i) (hz : i.zero = some z)
    (hsize : i.size = E.n) (hby : i.bytes = bytes) (hzs : z.cells.size = E.n) (hsz : 0 < E.n)
    (t : Value) (l : List α) (hs : a.eval s = t) (w0 : World) (hrow : RowO E B e w0 t l) (hg : Grow w0 w)
    (ad : Addr) (c0 : Nat) (x : α) (c : List Value) (f : List Nat) (hy : a.eval y = .slice (some ad) 1 c0) (hx : E.F w x c f) (hfx : Free w0.heap.size w f)
    (hcell : ∀ j u, c[j]? = some u → w.cell? (ad.add j) = some u) (h1 : ∀ u ∈ c, u.oneCell' = true)
    (h63 : l.length + 1 ≤ maxLen) (hbytes : (l.length + 1) * bytes ≤ 140737488355328) (hbase : B ≤ w0.heap.size)
    (h : ∀ t' w', RowO E B e w' t' (l ++ [x]) → Ext (rowB t) w w' → wpList P ops Q rest (a.put o.dst t') w') : wpList P ops Q (o :: rest) a w := by
  obtain ⟨cs, fp, hown, hF, hfr, hoff⟩ := hrow
  refine wpList_append2 w hgd s y tt ho B e i z E.n bytes ht hi hz hsize hby hzs hsz t l.length cs hs (row_grow hown hg) ad 1 c0 c hy (by rw [E.flen hx]; omega) hcell h1 h63 hbytes (Nat.le_trans hbase hg.size) ?_
  intro v' w' h2 h3 h4
  exact h v' w' (RowO.snoc hown hF hfr hoff hg hx hfx hbase h2 h3 h4) (grownBy_rowB h3)

/-- One datum more, which reads. -/
theorem wpList_appR {P : Program} (w : World) {ops : Array Oper} {rest : List Oper} {o : Oper} {a : Act} {Q : Exit → Act → World → Prop} (hgd : o.guard = none) (s y : Operand) (tt : TypeId)
    (ho : o.op = .call { callee := .builtin .append, args := #[s, y], argTypes := #[tt, tt] }) (E : Rep α)
    (B : Nat) (e : TypeId) (i : TypeInfo) (z : Value) (bytes : Nat) (ht : P.underlying tt = some (.slice e)) (hi : P.info? e = some i) (hz : i.zero = some z)
    (hsize : i.size = E.n) (hby : i.bytes = bytes) (hzs : z.cells.size = E.n) (hsz : 0 < E.n)
    (t : Value) (l : List α) (hs : a.eval s = t) (w0 : World) (hrow : RowR E B e w0 t l) (hg : Grow w0 w)
    (ad : Addr) (c0 : Nat) (x : α) (c : List Value) (hy : a.eval y = .slice (some ad) 1 c0) (hx : E.R w (offRow B t) x c)
    (hcell : ∀ j u, c[j]? = some u → w.cell? (ad.add j) = some u) (h1 : ∀ u ∈ c, u.oneCell' = true)
    (h63 : l.length + 1 ≤ maxLen) (hbytes : (l.length + 1) * bytes ≤ 140737488355328) (hbase : B ≤ w.heap.size)
    (h : ∀ t' w', RowR E B e w' t' (l ++ [x]) → Ext (rowB t) w w' → wpList P ops Q rest (a.put o.dst t') w') : wpList P ops Q (o :: rest) a w := by
  obtain ⟨cs, hown, hR⟩ := hrow
  refine wpList_append2 w hgd s y tt ho B e i z E.n bytes ht hi hz hsize hby hzs hsz t l.length cs hs (row_grow hown hg) ad 1 c0 c hy (by rw [E.rlen hx]; omega) hcell h1 h63 hbytes hbase ?_
  intro v' w' h2 h3 h4
  exact h v' w' (RowR.snoc (row_grow hown hg) (hR.ext hg (fun _ _ h => h)).lt (E.lt hx) h2 h3 h4) (grownBy_rowB h3)

/-- A box below the row stays. -/
theorem BoxN.rowed {b : Nat} {cs : List Value} (h : BoxN w b cs) (he : Ext (rowB t) w w') (hb : ∀ k, rowB t k → b < k) : BoxN w' b cs := h.ext he (fun e => by have := hb b e; omega)
theorem Grow.rowed {W : World} (h : Grow W w) (he : Ext (rowB t) w w') (hb : ∀ k, rowB t k → W.heap.size ≤ k) : Grow W w' := h.inner he hb
end

end Go.Proofs.Ytmeobmegnneegaa

/-
  The walk of impl.copyNode.
-/
namespace Go.Proofs.Ytmeobmegnneegaa
open Go.RowKit

theorem set_ext (w : World) (b o : Nat) (v : Value) : Ext (fun k => k = b) w (w.setCell ⟨b, o, none⟩ v) := Ext.setIn (X := fun k => k = b) (Ext.refl _ w) (p := ⟨b, o, none⟩) rfl v
theorem below_ext {g : Nat} {w w' : World} (h : Below g w w') (hl : w.heap.size = g + 1) : Ext (fun k => k = g) w w' :=
  ⟨h.os, h.tape, h.output, h.size, fun k hk hx => h.block k (by omega)⟩

theorem heap_at {w : World} {o : Obj} {g : Nat} (h : g = w.heap.size) : (w.alloc o).heap[g]? = some o := by subst h; exact heap_alloc_new w o

theorem wpList_copy_strs {P : Program} {w : World} {ops : Array Oper} {rest : List Oper} {o : Oper} {a : Act} {Q : Exit → Act → World → Prop} (hgd : o.guard = none) (d s : Operand) (dT sT : TypeId)
    (ho : o.op = .call { callee := .builtin .copy, args := #[d, s], argTypes := #[dT, sT] }) (elem : TypeId) (hu : P.underlying dT = some (.slice elem)) (hsz : (P.info? elem).map (·.size) = some 1)
    (names : List ByteArray) (S : Nat → Prop) (na : Option Addr) (nc g cap : Nat) (hd : a.eval d = .slice (some ⟨g, 0, none⟩) names.length cap) (hs : a.eval s = .slice na names.length nc)
    (cur : Array Value) (t : TypeId) (hg : w.heap[g]? = some (.cells cur t (0, 0))) (hcs : cur.size = names.length) (hgl : w.heap.size = g + 1) (hsrc : StrsR w S na nc names) (hne : 0 < names.length)
    (h : ∀ w', (∀ i (hi : i < names.length), w'.cell? ⟨g, i, none⟩ = some (.string names[i])) → (∀ o, w'.frozen? ⟨g, o, none⟩ = false) → g < w'.heap.size → Ext (fun k => k = g) w w' →
      wpList P ops Q rest (a.put o.dst (goInt names.length)) w') : wpList P ops Q (o :: rest) a w := by
  obtain ⟨_, _, _, h4⟩ := hsrc
  rcases h4 with rfl | ⟨b, oo, rfl, _, hc⟩
  · simp at hne
  have hmin : (names.map Value.string).length = Nat.min names.length names.length := by simp
  refine wpList_copy_splice hgd d s dT sT ho elem hu hsz (some ⟨g, 0, none⟩) (some ⟨b, oo, none⟩) names.length cap names.length nc hd hs g 0 cur.toList t (by simpa using hg) (names.map Value.string) hmin
    (fun _ => ⟨rfl, _, rfl, fun j v hj => ?_⟩) (by simp [hcs]) (by intro v hv; simp at hv; obtain ⟨x, _, rfl⟩ := hv; simp [Value.oneCell']) g w (Below.refl _ _) (Nat.le_refl _) ?_
  · rw [addr_add]
    simp only [List.getElem?_map, Option.map_eq_some_iff] at hj
    obtain ⟨x, hx, rfl⟩ := hj
    obtain ⟨hj', rfl⟩ := List.getElem?_eq_some_iff.1 hx
    exact hc j hj'
  · intro w' hw' hb
    have hw := hw'.out
    have he := below_ext hb hgl
    have hsp : splice cur.toList 0 (names.map Value.string) = names.map Value.string := by
      unfold splice
      simp [hcs]
    rw [hsp] at hw
    have hlen : (names.map Value.string).length = names.length := by simp
    have := h w' (fun i hi => ?_) (fun o => ?_) (Array.getElem?_eq_some_iff.1 hw).1 he
    · rw [hlen]; exact this
    · unfold World.cell?
      simp only [hw]
      simp [hi]
    · unfold World.frozen?
      simp [hw]

theorem st5_far {w : World} {b o b' q : Nat} {v0 v1 v2 v3 v4 : Value} (h : b' ≠ b) :
    (((((w.setCell ⟨b, o, none⟩ v0).setCell ⟨b, o + 1, none⟩ v1).setCell ⟨b, o + 2, none⟩ v2).setCell ⟨b, o + 3, none⟩ v3).setCell ⟨b, o + 4, none⟩ v4).cell? ⟨b', q, none⟩ = w.cell? ⟨b', q, none⟩ := by
  rw [World.cell?_setCell_other _ _ _ _ (by intro e; cases e; exact h rfl), World.cell?_setCell_other _ _ _ _ (by intro e; cases e; exact h rfl), World.cell?_setCell_other _ _ _ _ (by intro e; cases e; exact h rfl),
    World.cell?_setCell_other _ _ _ _ (by intro e; cases e; exact h rfl), World.cell?_setCell_other _ _ _ _ (by intro e; cases e; exact h rfl)]

theorem strs_st5 {wr w2 : World} {a : Option Addr} {c B R o : Nat} {xs : List ByteArray} {f1 : List Nat} (v0 v1 v2 v3 v4 : Value) (hF : StrsF wr a c xs f1) (h1 : Free B wr f1) (hg : Grow wr w2) (hR : ∀ y ∈ f1, y < R) :
    StrsF (store5 w2 R o v0 v1 v2 v3 v4) a c xs f1 ∧ Free B (store5 w2 R o v0 v1 v2 v3 v4) f1 := by
  have h2 := h1.ext hg (fun _ _ h => h)
  have he5 := store5_ext w2 R o v0 v1 v2 v3 v4
  have hx : ∀ b ∈ f1, ¬ b = R := fun b hb e => by have := hR b hb; omega
  have hF1 := hF.keep (hg.keeps h1 (fun _ _ h => h))
  exact ⟨hF1.keep (he5.keeps h2 hx), h2.ext he5 hx⟩
theorem box_st5 {wr w2 : World} {b R o : Nat} {cs : List Value} (v0 v1 v2 v3 v4 : Value) (h : BoxN wr b cs) (hg : Grow wr w2) (hb : b ≠ R) : BoxN (store5 w2 R o v0 v1 v2 v3 v4) b cs :=
  (h.grow hg).ext (store5_ext w2 R o v0 v1 v2 v3 v4) hb
/-- What holds at the head of the loop over the kids. -/
def CpRel (w : World) (n : Nd) (ns : Value) (R : Nat) (f1 : List Nat) (i : Value) (wr : World) : Prop :=
  ∃ (k : Nat) (fp : List Nat), k ≤ n.kids.length ∧ i = .int .i64 k ∧ Grow w wr ∧ BoxN wr (w.heap.size + 1) [.int .i64 0, .int .i64 0, .string ⟨#[]⟩, .slice none 0 0, .slice none 0 0] ∧
    BoxN wr (w.heap.size + 1 + 1) [.int .i64 n.kind, .int .i64 n.num, .string n.text, ns, .slice (some ⟨R, 0, none⟩) n.kids.length n.kids.length] ∧
    (∃ na2 nc2, ns = .slice na2 n.names.length nc2 ∧ StrsF wr na2 nc2 n.names f1) ∧ Free (w.heap.size + 3) wr f1 ∧ (∀ y ∈ f1, y < R) ∧ RowIn wr R (n.kids.length * 5) ∧ KidsF wr R 0 (n.kids.take k) fp ∧ Free (R + 1) wr fp

theorem cpRel_next {w wr w2 : World} {n : Nd} {ns : Value} {R k : Nat} {f1 fp f' : List Nat} {na2 : Option Addr} {nc2 : Nat} {ka2 : Option Addr} {kc2 : Nat} (hlt : k < n.kids.length) (hRw : w.heap.size + 1 + 1 < R)
    (hg0 : Grow w wr) (hbr : BoxN wr (w.heap.size + 1) [.int .i64 0, .int .i64 0, .string ⟨#[]⟩, .slice none 0 0, .slice none 0 0])
    (hbl : BoxN wr (w.heap.size + 1 + 1) [.int .i64 n.kind, .int .i64 n.num, .string n.text, ns, .slice (some ⟨R, 0, none⟩) n.kids.length n.kids.length])
    (hst : ∃ na2 nc2, ns = .slice na2 n.names.length nc2 ∧ StrsF wr na2 nc2 n.names f1) (hf1 : Free (w.heap.size + 3) wr f1) (hl1 : ∀ y ∈ f1, y < R) (hrow : RowIn wr R (n.kids.length * 5))
    (hkf : KidsF wr R 0 (n.kids.take k) fp) (hfr : Free (R + 1) wr fp) (hg2 : Grow wr w2) (hN : NodeF w2 n.kids[k] na2 nc2 ka2 kc2 f') (hf' : Free wr.heap.size w2 f') :
    CpRel w n ns R f1 (.int .i64 ((k : Int) + 1)) (store5 w2 R (k * 5) (.int .i64 n.kids[k].kind) (.int .i64 n.kids[k].num) (.string n.kids[k].text) (.slice na2 n.kids[k].names.length nc2) (.slice ka2 n.kids[k].kids.length kc2)) := by
  have zr := hrow.1
  have hrow2 := hrow.ext hg2 (fun h => h)
  have hl : (n.kids.take k).length = k := by simp; omega
  have hbf : R ∉ fp := fun h => by have := (hfr.2 _ h).1; omega
  have hbf' : R ∉ f' := fun h => by have := (hf'.2 _ h).1; omega
  have hkf2 := hkf.keep (hg2.keeps hfr (fun _ _ h => h)) (fun o' _ ho => hg2.cell (p := ⟨R, o', none⟩) hrow.1 (fun h => h))
  have hlay := KidsF.lay hrow2 hkf2 hN (by rw [hl]; omega) hbf hbf'
  rw [hl] at hlay
  have hfr3 := Free.append hfr hf' hg2 (Nat.le_refl _) (by omega)
  have he5 := store5_ext w2 R (k * 5) (.int .i64 n.kids[k].kind) (.int .i64 n.kids[k].num) (.string n.kids[k].text) (.slice na2 n.kids[k].names.length nc2) (.slice ka2 n.kids[k].kids.length kc2)
  obtain ⟨a, c, hs, hF⟩ := hst
  obtain ⟨hF2, hf2⟩ := strs_st5 (o := k * 5) (.int .i64 n.kids[k].kind) (.int .i64 n.kids[k].num) (.string n.kids[k].text) (.slice na2 n.kids[k].names.length nc2) (.slice ka2 n.kids[k].kids.length kc2) hF hf1 hg2 hl1
  have hgw : Grow w (store5 w2 R (k * 5) (.int .i64 n.kids[k].kind) (.int .i64 n.kids[k].num) (.string n.kids[k].text) (.slice na2 n.kids[k].names.length nc2) (.slice ka2 n.kids[k].kids.length kc2)) := Grow.inner (hg0.trans hg2) he5 (by intro i hi; have : i = R := hi; omega)
  refine ⟨k + 1, fp ++ f', by omega, by go_num, hgw, box_st5 _ _ _ _ _ hbr hg2 (by omega), box_st5 _ _ _ _ _ hbl hg2 (by omega), ⟨a, c, hs, hF2⟩, hf2, hl1, store5_row hrow2 _ _ _ _ _ _, ?_, store5_free hfr3 _ _ _ _ _ _ _⟩
  rw [take_snoc' _ _ hlt]; exact hlay

def CopyIOk (n : Nd) : Prop := ∀ (v : Value) (w : World), Good n → NodeR w any n v →
  Calls Try.prog 81 #[v] w fun e w' => ∃ v' fp, e = .returned v' ∧ Grow w w' ∧ NodeO w' n v' fp ∧ Free w.heap.size w' fp

set_option maxRecDepth 100000 in
set_option maxHeartbeats 4000000 in
theorem copyI_none (n : Nd) (ih : ∀ k ∈ n.kids, CopyIOk k) (hn0 : ¬ 0 < n.names.length) (hk0 : ¬ 0 < n.kids.length) : CopyIOk n := by
  intro v w hg hn
  obtain ⟨na, nc, ka, kc, rfl, hc⟩ := hn
  obtain ⟨htx, hns, hks⟩ := hc.parts
  have l6 := hg.kids6
  have n6 : n.names.length ≤ 6 := by have := hg.len; omega
  have Htx := Lib.hid htx
  have Hns := Lib.hid hns
  have Hks := Lib.hid hks
  have Ih := Lib.hid ih
  have Hg := Lib.hid hg
  clear hc hns hks ih hg htx
  unfold nodeV
  have hmk := run_mk (P := Try.prog) 25 9 _ 1 16 Try.underlying25 info_string .i64 .i64 n.names.length (by omega) (by omega)
  have hmk2 := run_mk (P := Try.prog) 37 39 _ 5 80 Try.underlying37 info_Node .i64 .i64 n.kids.length (by omega) (by omega)
  have Hn0 : Hid (n.names = []) := Lib.hid (List.length_eq_zero_iff.1 (by omega))
  have Hnl : Hid (n.names.length = 0) := Lib.hid (by omega)
  go_enter Try.func81, Try.ntmps81
  go_wp2_with fail
  refine bodyPost_ret (v := nodeV n none 0 none 0) ?_ rfl ⟨_, [], rfl, (by repeat (first | with_reducible exact Ext.refl _ _ | with_reducible refine Ext.trans ?_ (by assumption) | with_reducible refine Ext.drew ?_ | with_reducible refine Ext.drewN ?_ _ | with_reducible refine Ext.alloc ?_ _ | with_reducible refine Ext.setNew ?_ (by simp; done) _ | with_reducible refine Ext.setNew ?_ (by simp; omega) _)), ⟨none, 0, none, 0, rfl, ?_⟩, Free.nil _ _⟩
  · simp [results, Try.results81, go_sem, nodeV, Hnl.out]; omega
  · exact NodeF.mk (f1 := []) (f2 := []) Htx.out ⟨by omega, by unfold big; omega, by rw [Hn0.out]; simp, .inl ⟨Hn0.out, rfl⟩⟩ ⟨by omega, by unfold big; omega, .inl ⟨List.length_eq_zero_iff.1 (by omega), rfl⟩⟩


set_option maxRecDepth 100000 in
set_option maxHeartbeats 4000000 in
theorem copyI_kids (n : Nd) (ih : ∀ k ∈ n.kids, CopyIOk k) (hn0 : ¬ 0 < n.names.length) (hk0 : 0 < n.kids.length) : CopyIOk n := by
  intro v w hg hn
  obtain ⟨na, nc, ka, kc, rfl, hc⟩ := hn
  obtain ⟨htx, hns, hks⟩ := hc.parts
  have l6 := hg.kids6
  have n6 : n.names.length ≤ 6 := by have := hg.len; omega
  have Htx := Lib.hid htx
  have Hns := Lib.hid hns
  have Hks := Lib.hid hks
  have Ih := Lib.hid ih
  have Hg := Lib.hid hg
  clear hc hns hks ih hg htx
  unfold nodeV
  have hmk := run_mk (P := Try.prog) 25 9 _ 1 16 Try.underlying25 info_string .i64 .i64 n.names.length (by omega) (by omega)
  have hmk2 := run_mk (P := Try.prog) 37 39 _ 5 80 Try.underlying37 info_Node .i64 .i64 n.kids.length (by omega) (by omega)
  have Hn0 : Hid (n.names = []) := Lib.hid (List.length_eq_zero_iff.1 (by omega))
  have Hnl : Hid (n.names.length = 0) := Lib.hid (by omega)
  go_enter Try.func81, Try.ntmps81
  go_wp2_with fail
  clear hmk hmk2
  go_loopw [4, 5, 39] (fun _ _ i wr => CpRel w n (.slice none 0 0) (w.heap.size + 1 + 1 + 1) ([]) i wr) (fun _ _ i _ => n.kids.length - (intOf i).toNat)
  case round =>
    obtain ⟨k, fp, hk, rfl, hg0, hbr, hbl, hst, hf1, hlt1, hrow, hkf, hfr⟩ := hrel
    have Hbr := Lib.hid hbr
    have Hbl := Lib.hid hbl
    have Hst := Lib.hid hst
    have Hf1 := Lib.hid hf1
    have Hl1 := Lib.hid hlt1
    have Hrow := Lib.hid hrow
    have Hkf := Lib.hid hkf
    have Hfr := Lib.hid hfr
    have zr := hrow.1
    have zl := hbl.lt
    clear hbr hbl hst hf1 hlt1 hrow hkf hfr
    by_cases hlt : k < n.kids.length
    · obtain ⟨_, _, hks⟩ := (Hks.out).ext hg0 (fun _ _ h => h)
      rcases hks with hks | ⟨bk, ok, rfl, _, hkr⟩
      · simp [hks] at hlt
      obtain ⟨na', nc', ka', kc', c0, c1, c2, c3, c4, hkc⟩ := hkr.get k hlt
      have Hkc := Lib.hid hkc
      clear hkr hkc
      have zb : bk < wr.heap.size := lt_of_cell c0
      have ha : Grow wr (wr.alloc (.cells #[.int .i64 n.kids[k].kind, .int .i64 n.kids[k].num, .string n.kids[k].text, .slice na' n.kids[k].names.length nc', .slice ka' n.kids[k].kids.length kc'] 39)) := (Ext.refl nil wr).alloc _
      have hbk := BoxN.new wr [.int .i64 n.kids[k].kind, .int .i64 n.kids[k].num, .string n.kids[k].text, .slice na' n.kids[k].names.length nc', .slice ka' n.kids[k].kids.length kc'] 39
      have Hc : Hid (∀ w', Grow wr w' → Calls Try.prog 81 #[.agg #[.int .i64 n.kids[k].kind, .int .i64 n.kids[k].num, .string n.kids[k].text, .slice na' n.kids[k].names.length nc', .slice ka' n.kids[k].kids.length kc']] w' fun e w'' => ∃ v' fp, e = .returned v' ∧ Grow w' w'' ∧ NodeO w'' n.kids[k] v' fp ∧ Free w'.heap.size w'' fp) := Lib.hid (fun w' hg' => Ih.out _ (List.getElem_mem hlt) _ _ (Hg.out.kid (List.getElem_mem hlt)) ⟨_, _, _, _, rfl, Hkc.out.ext hg' (fun _ _ h => h)⟩)
      have Hbl1 := Lib.hid (Hbl.out.grow ha)
      have Hbk := Lib.hid hbk
      have hrk : (k : Int) < (n.kids.length : Int) := by omega
      have hrk0 : (0 : Int) ≤ (k : Int) := by omega
      go_wp2_with fail
      obtain ⟨wa, hwa, ga, ba, bk2, za⟩ : ∃ wa, wr.alloc (.cells #[.int .i64 n.kids[k].kind, .int .i64 n.kids[k].num, .string n.kids[k].text, .slice na' n.kids[k].names.length nc', .slice ka' n.kids[k].kids.length kc'] 39) = wa ∧ Grow wr wa ∧ BoxN wa (w.heap.size + 1 + 1) [.int .i64 n.kind, .int .i64 n.num, .string n.text, .slice none 0 0, .slice (some ⟨w.heap.size + 1 + 1 + 1, 0, none⟩) n.kids.length n.kids.length] ∧ BoxN wa wr.heap.size [.int .i64 n.kids[k].kind, .int .i64 n.kids[k].num, .string n.kids[k].text, .slice na' n.kids[k].names.length nc', .slice ka' n.kids[k].kids.length kc'] ∧ wa.heap.size = wr.heap.size + 1 := ⟨_, rfl, ha, Hbl1.out, Hbk.out, by simp⟩
      rw [hwa]
      clear hwa ha hbk c0 c1 c2 c3 c4
      have za' : wr.heap.size < wa.heap.size := by omega
      clear za
      have y4 := ba.cell 4 _ rfl
      have x0 := bk2.cell 0 _ rfl
      have x1 := bk2.cell 1 _ rfl
      have x2 := bk2.cell 2 _ rfl
      have x3 := bk2.cell 3 _ rfl
      have x4 := bk2.cell 4 _ rfl
      clear ba bk2
      go_region_held3 (fun w' => w'.cell? ⟨w.heap.size + 1 + 1, 4, none⟩ = some (.slice (some ⟨w.heap.size + 1 + 1 + 1, 0, none⟩) n.kids.length n.kids.length) ∧ w'.cell? ⟨wr.heap.size, 0, none⟩ = some (.int .i64 n.kids[k].kind) ∧ w'.cell? ⟨wr.heap.size, 1, none⟩ = some (.int .i64 n.kids[k].num) ∧ w'.cell? ⟨wr.heap.size, 2, none⟩ = some (.string n.kids[k].text) ∧ w'.cell? ⟨wr.heap.size, 3, none⟩ = some (.slice na' n.kids[k].names.length nc') ∧ w'.cell? ⟨wr.heap.size, 4, none⟩ = some (.slice ka' n.kids[k].kids.length kc'))
        (first | (go_keep; done) | (refine ⟨?_, ?_, ?_, ?_, ?_, ?_⟩ <;> (first | (first | with_reducible exact hg2.some (by simpa using y4) | with_reducible exact hg2.some (by simpa using x0) | with_reducible exact hg2.some (by simpa using x1) | with_reducible exact hg2.some (by simpa using x2) | with_reducible exact hg2.some (by simpa using x3) | with_reducible exact hg2.some (by simpa using x4)) | (with_reducible rw [st5_far]; (first | with_reducible exact hg2.some (by simpa using y4) | with_reducible exact hg2.some (by simpa using x0) | with_reducible exact hg2.some (by simpa using x1) | with_reducible exact hg2.some (by simpa using x2) | with_reducible exact hg2.some (by simpa using x3) | with_reducible exact hg2.some (by simpa using x4)); omega))))
        ((go_at_call 81; refine (Hc.out _ (ga.drewN _)).mono ?_; rintro e w2 ⟨v', f', rfl, hg2, hN, hf'⟩; obtain ⟨na2, nc2, ka2, kc2, rfl, hN⟩ := hN; have hg2' := (ga.drewN _).trans hg2; have hrow2 := Hrow.out.ext hg2' (fun h => h); have hfz := hrow2.2.2; obtain ⟨u0, d0⟩ := hrow2.2.1 (k * 5) (by omega); obtain ⟨u1, d1⟩ := hrow2.2.1 (k * 5 + 1) (by omega); obtain ⟨u2, d2⟩ := hrow2.2.1 (k * 5 + 2) (by omega); obtain ⟨u3, d3⟩ := hrow2.2.1 (k * 5 + 3) (by omega); obtain ⟨u4, d4⟩ := hrow2.2.1 (k * 5 + 4) (by omega); have Hrow2 := Lib.hid hrow2; clear hrow2; unfold nodeV))
      rename_i hHeld
      clear hHeld y4 x0 x1 x2 x3 x4 d0 d1 d2 d3 d4 hfz
      have hsz2 : (wa.drewN 1).heap.size = wa.heap.size := rfl
      have hrel := cpRel_next hlt (by omega) hg0 Hbr.out Hbl.out Hst.out Hf1.out Hl1.out Hrow.out Hkf.out Hfr.out hg2' hN (hf'.mono (B' := wr.heap.size) (by omega))
      have Hrel := Lib.hid hrel
      clear hrel
      go_wp2_with fail
      go_roundw
      case rel => exact Hrel.out
      case measure => simp [intOf]; omega
    · have hke : k = n.kids.length := by omega
      subst hke
      rw [List.take_length] at Hkf
      obtain ⟨na2, nc2, hns, hF⟩ := Hst.out
      have Hns2 := Lib.hid hns
      have HF := Lib.hid hF
      have hfl := Hbl.out.fr
      have hfb := Hbr.out.fr
      have q0 := Hbl.out.cell 0 _ rfl
      have q1 := Hbl.out.cell 1 _ rfl
      have q2 := Hbl.out.cell 2 _ rfl
      have q3 := Hbl.out.cell 3 _ rfl
      have q4 := Hbl.out.cell 4 _ rfl
      have r0 := Hbr.out.cell 0 _ rfl
      have r1 := Hbr.out.cell 1 _ rfl
      have r2 := Hbr.out.cell 2 _ rfl
      have r3 := Hbr.out.cell 3 _ rfl
      have r4 := Hbr.out.cell 4 _ rfl
      clear hns hF
      go_wp2_with fail
      clear q0 q1 q2 q3 q4 r0 r1 r2 r3 r4
      have BF := ((((Hbr.out.set 0 (by simp) (.int .i64 n.kind)).set 1 (by simp) (.int .i64 n.num)).set 2 (by simp) (.string n.text)).set 3 (by simp) (.slice none 0 0)).set 4 (by simp) (.slice (some ⟨w.heap.size + 1 + 1 + 1, 0, none⟩) n.kids.length n.kids.length)
      have s0 := BF.cell 0 _ rfl
      have s1 := BF.cell 1 _ rfl
      have s2 := BF.cell 2 _ rfl
      have s3 := BF.cell 3 _ rfl
      have s4 := BF.cell 4 _ rfl
      have he5 := store5_ext wr (w.heap.size + 1) 0 (.int .i64 n.kind) (.int .i64 n.num) (.string n.text) (.slice none 0 0) (.slice (some ⟨w.heap.size + 1 + 1 + 1, 0, none⟩) n.kids.length n.kids.length)
      have x1 : ∀ b ∈ ([] : List Nat), ¬ (b = w.heap.size + 1) := fun b hb e => by have := (Hf1.out.2 b hb).1; omega
      have x2 : ∀ b ∈ (w.heap.size + 1 + 1 + 1) :: fp, ¬ (b = w.heap.size + 1) := fun b hb e => by
        rcases List.mem_cons.1 hb with rfl | hb
        · omega
        · have := (Hfr.out.2 b hb).1; omega
      have hfrR : Free (w.heap.size + 1 + 1 + 1) wr ((w.heap.size + 1 + 1 + 1) :: fp) := Free.cons Hrow.out (by omega) Hfr.out
      refine bodyPost_ret (v := .agg #[.int .i64 n.kind, .int .i64 n.num, .string n.text, .slice none 0 0, .slice (some ⟨w.heap.size + 1 + 1 + 1, 0, none⟩) n.kids.length n.kids.length]) ?_ rfl ⟨_, ([]) ++ ((w.heap.size + 1 + 1 + 1) :: fp), rfl, hg0.inner he5 (by intro i hi; omega), ⟨na2, nc2, _, _, by rw [Hns2.out]; rfl, ?_⟩, ?_⟩
      · simp [results, Try.results81, go_sem, s0, s1, s2, s3, s4]
      · refine NodeF.mk Htx.out (HF.out.keep (he5.keeps Hf1.out x1)) ⟨Nat.le_refl _, Hks.out.2.1, .inr ⟨w.heap.size + 1 + 1 + 1, 0, fp, ?_, rfl, rfl, ?_⟩⟩
        · intro e; rw [e] at hk0; simp at hk0
        · exact Hkf.out.keep (he5.keeps Hfr.out (fun b hb e => x2 b (by simp [hb]) e)) (fun o' _ _ => he5.cell (p := ⟨w.heap.size + 1 + 1 + 1, o', none⟩) Hrow.out.1 (by intro e; have e' : w.heap.size + 1 + 1 + 1 = w.heap.size + 1 := e; omega))
      · refine Free.app2 ((Hf1.out.ext he5 x1).mono (by omega)) ((hfrR.ext he5 x2).mono (by omega)) (fun y h1 h2 => ?_)
        have := Hl1.out y h1
        rcases List.mem_cons.1 h2 with h3 | h3
        · omega
        · have := (Hfr.out.2 y h3).1; omega
  case atStart =>
    refine ⟨0, [], Nat.zero_le _, rfl, (by repeat (first | with_reducible exact Ext.refl _ _ | with_reducible refine Ext.trans ?_ (by assumption) | with_reducible refine Ext.drew ?_ | with_reducible refine Ext.drewN ?_ _ | with_reducible refine Ext.alloc ?_ _ | with_reducible refine Ext.setNew ?_ (by simp; done) _ | with_reducible refine Ext.setNew ?_ (by simp; omega) _)), (BoxN.new1 w _ [.int .i64 0, .int .i64 0, .string ⟨#[]⟩, .slice none 0 0, .slice none 0 0] _).grow (((Ext.refl nil _).alloc _).alloc _), (BoxN.new2 w _ _ [.int .i64 n.kind, .int .i64 n.num, .string n.text, .slice none 0 0, .slice (some ⟨w.heap.size + 1 + 1 + 1, 0, none⟩) n.kids.length n.kids.length] _).grow ((Ext.refl nil _).alloc _), ⟨none, 0, by rw [Hnl.out], ?_⟩, Free.nil _ _, by simp, ?_, by simp [KidsF], Free.nil _ _⟩
    · rw [Hn0.out]; exact ⟨Nat.le_refl _, Nat.zero_le _, by simp, .inl ⟨rfl, rfl⟩⟩
    · have := RowIn.made (((w.alloc (.cells #[.int .i64 n.kind, .int .i64 n.num, .string n.text, .slice na n.names.length nc, .slice ka n.kids.length kc] 39)).alloc (.cells #[.int .i64 0, .int .i64 0, .string ⟨#[]⟩, .slice none 0 0, .slice none 0 0] 39)).alloc (.cells #[.int .i64 n.kind, .int .i64 n.num, .string n.text, .slice none 0 0, .slice (some ⟨w.heap.size + 1 + 1 + 1, 0, none⟩) n.kids.length n.kids.length] 39)) #[.int .i64 0, .int .i64 0, .string ⟨#[]⟩, .slice none 0 0, .slice none 0 0] (n.kids.length * 5) 39
      simpa using this

set_option maxRecDepth 100000 in
set_option maxHeartbeats 4000000 in
theorem copyI_names (n : Nd) (ih : ∀ k ∈ n.kids, CopyIOk k) (hn0 : 0 < n.names.length) (hk0 : ¬ 0 < n.kids.length) : CopyIOk n := by
  intro v w hg hn
  obtain ⟨na, nc, ka, kc, rfl, hc⟩ := hn
  obtain ⟨htx, hns, hks⟩ := hc.parts
  have l6 := hg.kids6
  have n6 : n.names.length ≤ 6 := by have := hg.len; omega
  have Htx := Lib.hid htx
  have Hns := Lib.hid hns
  have Hks := Lib.hid hks
  have Ih := Lib.hid ih
  have Hg := Lib.hid hg
  clear hc hns hks ih hg htx
  unfold nodeV
  have hmk := run_mk (P := Try.prog) 25 9 _ 1 16 Try.underlying25 info_string .i64 .i64 n.names.length (by omega) (by omega)
  have hmk2 := run_mk (P := Try.prog) 37 39 _ 5 80 Try.underlying37 info_Node .i64 .i64 n.kids.length (by omega) (by omega)
  have hB0 := BoxN.new1 w (.cells #[.int .i64 n.kind, .int .i64 n.num, .string n.text, .slice na n.names.length nc, .slice ka n.kids.length kc] 39) [.int .i64 0, .int .i64 0, .string ⟨#[]⟩, .slice none 0 0, .slice none 0 0] 39
  have hB1 := BoxN.new2 w (.cells #[.int .i64 n.kind, .int .i64 n.num, .string n.text, .slice na n.names.length nc, .slice ka n.kids.length kc] 39) (.cells #[.int .i64 0, .int .i64 0, .string ⟨#[]⟩, .slice none 0 0, .slice none 0 0] 39) [.int .i64 n.kind, .int .i64 n.num, .string n.text, .slice (some ⟨w.heap.size + 1 + 1 + 1, 0, none⟩) n.names.length n.names.length, .slice none 0 0] 39
  have hBp := ((BoxN.new w [.int .i64 n.kind, .int .i64 n.num, .string n.text, .slice na n.names.length nc, .slice ka n.kids.length kc] 39).grow ((Ext.refl nil _).alloc (.cells #[.int .i64 0, .int .i64 0, .string ⟨#[]⟩, .slice none 0 0, .slice none 0 0] 39))).grow ((Ext.refl nil _).alloc (.cells #[.int .i64 n.kind, .int .i64 n.num, .string n.text, .slice (some ⟨w.heap.size + 1 + 1 + 1, 0, none⟩) n.names.length n.names.length, .slice none 0 0] 39))
  have HB0 := Lib.hid hB0
  have HB1 := Lib.hid hB1
  have HBp := Lib.hid hBp
  clear hB0 hB1 hBp
  go_enter Try.func81, Try.ntmps81
  go_wp2_with ((refine wpList_copy_strs rfl (.tmp 23) (.tmp 25) 25 25 rfl 9 Try.underlying25 ?c0 n.names any na nc (w.heap.size + 1 + 1 + 1) n.names.length rfl rfl _ 9 (heap_at (by simp)) ?c1 ?c2 ?c3 hn0 ?_))
  case c0 => kernel_rfl
  case c1 => rw [size_madeCells]
  case c2 => simp
  case c3 => exact Hns.out.grow (((((Ext.refl nil w).alloc _).alloc _).alloc _).alloc _)
  intro w3 hc3 hfz3 hlt3 he3
  have hs3 : StrsF w3 (some ⟨w.heap.size + 1 + 1 + 1, 0, none⟩) n.names.length n.names [w.heap.size + 1 + 1 + 1] := ⟨Nat.le_refl _, by unfold big; omega, Hns.out.2.2.1, .inr ⟨_, 0, by intro e; rw [e] at hn0; simp at hn0, rfl, rfl, fun i hi => by rw [Nat.zero_add]; exact hc3 i hi⟩⟩
  have hf3 : Free (w.heap.size + 3) w3 [w.heap.size + 1 + 1 + 1] := ⟨by simp, fun b hb => by simp at hb; subst hb; exact ⟨by omega, hlt3, hfz3⟩⟩
  have hg3 : Grow w w3 := Grow.inner (((((Ext.refl nil w).alloc _).alloc _).alloc _).alloc _) he3 (by intro i hi; omega)
  have HS3 := Lib.hid hs3
  have HF3 := Lib.hid hf3
  replace HB0 := Lib.hid ((HB0.out.grow (((Ext.refl nil _).alloc (.cells #[.int .i64 n.kind, .int .i64 n.num, .string n.text, .slice (some ⟨w.heap.size + 1 + 1 + 1, 0, none⟩) n.names.length n.names.length, .slice none 0 0] 39)).alloc _)).ext he3 (by omega))
  replace HB1 := Lib.hid ((HB1.out.grow ((Ext.refl nil _).alloc _)).ext he3 (by omega))
  replace HBp := Lib.hid ((HBp.out.grow ((Ext.refl nil _).alloc _)).ext he3 (by omega))
  clear hs3 hf3 hc3 hfz3 he3
  have q0 := HB1.out.cell 0 _ rfl
  have q1 := HB1.out.cell 1 _ rfl
  have q2 := HB1.out.cell 2 _ rfl
  have q3 := HB1.out.cell 3 _ rfl
  have q4 := HB1.out.cell 4 _ rfl
  have hfl := HB1.out.fr
  have zl := HB1.out.lt
  have p4 := HBp.out.cell 4 _ rfl
  have zp := HBp.out.lt
  have hfb := HB0.out.fr
  have r0 := HB0.out.cell 0 _ rfl
  have r1 := HB0.out.cell 1 _ rfl
  have r2 := HB0.out.cell 2 _ rfl
  have r3 := HB0.out.cell 3 _ rfl
  have r4 := HB0.out.cell 4 _ rfl
  go_wp2_with fail
  clear q0 q1 q2 q3 q4 r0 r1 r2 r3 r4 p4
  have BF := ((((HB0.out.set 0 (by simp) (.int .i64 n.kind)).set 1 (by simp) (.int .i64 n.num)).set 2 (by simp) (.string n.text)).set 3 (by simp) (.slice (some ⟨w.heap.size + 1 + 1 + 1, 0, none⟩) n.names.length n.names.length)).set 4 (by simp) (.slice none 0 0)
  have s0 := BF.cell 0 _ rfl
  have s1 := BF.cell 1 _ rfl
  have s2 := BF.cell 2 _ rfl
  have s3 := BF.cell 3 _ rfl
  have s4 := BF.cell 4 _ rfl
  have he5 := store5_ext w3 (w.heap.size + 1) 0 (.int .i64 n.kind) (.int .i64 n.num) (.string n.text) (.slice (some ⟨w.heap.size + 1 + 1 + 1, 0, none⟩) n.names.length n.names.length) (.slice none 0 0)
  have x1 : ∀ b ∈ [w.heap.size + 1 + 1 + 1], ¬ (b = w.heap.size + 1) := fun b hb e => by simp at hb; omega
  have hk : n.kids = [] := List.length_eq_zero_iff.1 (by omega)
  have hkl : n.kids.length = 0 := by omega
  refine bodyPost_ret (v := .agg #[.int .i64 n.kind, .int .i64 n.num, .string n.text, .slice (some ⟨w.heap.size + 1 + 1 + 1, 0, none⟩) n.names.length n.names.length, .slice none 0 0]) ?_ rfl ⟨_, [w.heap.size + 1 + 1 + 1] ++ [], rfl, hg3.inner he5 (by intro i hi; have : i = w.heap.size + 1 := hi; omega), ⟨_, _, none, 0, by rw [nodeV, hkl], ?_⟩, ?_⟩
  · simp [results, Try.results81, go_sem, s0, s1, s2, s3, s4]
  · exact NodeF.mk Htx.out (HS3.out.keep (he5.keeps HF3.out x1)) ⟨by omega, by unfold big; omega, .inl ⟨hk, rfl⟩⟩
  · have := (HF3.out.ext he5 x1).mono (B' := w.heap.size) (by omega)
    exact this

set_option maxRecDepth 100000 in
set_option maxHeartbeats 4000000 in
theorem copyI_both (n : Nd) (ih : ∀ k ∈ n.kids, CopyIOk k) (hn0 : 0 < n.names.length) (hk0 : 0 < n.kids.length) : CopyIOk n := by
  intro v w hg hn
  obtain ⟨na, nc, ka, kc, rfl, hc⟩ := hn
  obtain ⟨htx, hns, hks⟩ := hc.parts
  have l6 := hg.kids6
  have n6 : n.names.length ≤ 6 := by have := hg.len; omega
  have Htx := Lib.hid htx
  have Hns := Lib.hid hns
  have Hks := Lib.hid hks
  have Ih := Lib.hid ih
  have Hg := Lib.hid hg
  clear hc hns hks ih hg htx
  unfold nodeV
  have hmk := run_mk (P := Try.prog) 25 9 _ 1 16 Try.underlying25 info_string .i64 .i64 n.names.length (by omega) (by omega)
  have hmk2 := run_mk (P := Try.prog) 37 39 _ 5 80 Try.underlying37 info_Node .i64 .i64 n.kids.length (by omega) (by omega)
  have hB0 := BoxN.new1 w (.cells #[.int .i64 n.kind, .int .i64 n.num, .string n.text, .slice na n.names.length nc, .slice ka n.kids.length kc] 39) [.int .i64 0, .int .i64 0, .string ⟨#[]⟩, .slice none 0 0, .slice none 0 0] 39
  have hB1 := BoxN.new2 w (.cells #[.int .i64 n.kind, .int .i64 n.num, .string n.text, .slice na n.names.length nc, .slice ka n.kids.length kc] 39) (.cells #[.int .i64 0, .int .i64 0, .string ⟨#[]⟩, .slice none 0 0, .slice none 0 0] 39) [.int .i64 n.kind, .int .i64 n.num, .string n.text, .slice (some ⟨w.heap.size + 1 + 1 + 1, 0, none⟩) n.names.length n.names.length, .slice none 0 0] 39
  have hBp := ((BoxN.new w [.int .i64 n.kind, .int .i64 n.num, .string n.text, .slice na n.names.length nc, .slice ka n.kids.length kc] 39).grow ((Ext.refl nil _).alloc (.cells #[.int .i64 0, .int .i64 0, .string ⟨#[]⟩, .slice none 0 0, .slice none 0 0] 39))).grow ((Ext.refl nil _).alloc (.cells #[.int .i64 n.kind, .int .i64 n.num, .string n.text, .slice (some ⟨w.heap.size + 1 + 1 + 1, 0, none⟩) n.names.length n.names.length, .slice none 0 0] 39))
  have HB0 := Lib.hid hB0
  have HB1 := Lib.hid hB1
  have HBp := Lib.hid hBp
  clear hB0 hB1 hBp
  go_enter Try.func81, Try.ntmps81
  go_wp2_with ((refine wpList_copy_strs rfl (.tmp 23) (.tmp 25) 25 25 rfl 9 Try.underlying25 ?c0 n.names any na nc (w.heap.size + 1 + 1 + 1) n.names.length rfl rfl _ 9 (heap_at (by simp)) ?c1 ?c2 ?c3 hn0 ?_))
  case c0 => kernel_rfl
  case c1 => rw [size_madeCells]
  case c2 => simp
  case c3 => exact Hns.out.grow (((((Ext.refl nil w).alloc _).alloc _).alloc _).alloc _)
  intro w3 hc3 hfz3 hlt3 he3
  have hs3 : StrsF w3 (some ⟨w.heap.size + 1 + 1 + 1, 0, none⟩) n.names.length n.names [w.heap.size + 1 + 1 + 1] := ⟨Nat.le_refl _, by unfold big; omega, Hns.out.2.2.1, .inr ⟨_, 0, by intro e; rw [e] at hn0; simp at hn0, rfl, rfl, fun i hi => by rw [Nat.zero_add]; exact hc3 i hi⟩⟩
  have hf3 : Free (w.heap.size + 3) w3 [w.heap.size + 1 + 1 + 1] := ⟨by simp, fun b hb => by simp at hb; subst hb; exact ⟨by omega, hlt3, hfz3⟩⟩
  have hg3 : Grow w w3 := Grow.inner (((((Ext.refl nil w).alloc _).alloc _).alloc _).alloc _) he3 (by intro i hi; omega)
  have HS3 := Lib.hid hs3
  have HF3 := Lib.hid hf3
  replace HB0 := Lib.hid ((HB0.out.grow (((Ext.refl nil _).alloc (.cells #[.int .i64 n.kind, .int .i64 n.num, .string n.text, .slice (some ⟨w.heap.size + 1 + 1 + 1, 0, none⟩) n.names.length n.names.length, .slice none 0 0] 39)).alloc _)).ext he3 (by omega))
  replace HB1 := Lib.hid ((HB1.out.grow ((Ext.refl nil _).alloc _)).ext he3 (by omega))
  replace HBp := Lib.hid ((HBp.out.grow ((Ext.refl nil _).alloc _)).ext he3 (by omega))
  clear hs3 hf3 hc3 hfz3 he3
  have q0 := HB1.out.cell 0 _ rfl
  have q1 := HB1.out.cell 1 _ rfl
  have q2 := HB1.out.cell 2 _ rfl
  have q3 := HB1.out.cell 3 _ rfl
  have q4 := HB1.out.cell 4 _ rfl
  have hfl := HB1.out.fr
  have zl := HB1.out.lt
  have p4 := HBp.out.cell 4 _ rfl
  have zp := HBp.out.lt
  have hfb := HB0.out.fr
  have r0 := HB0.out.cell 0 _ rfl
  have r1 := HB0.out.cell 1 _ rfl
  have r2 := HB0.out.cell 2 _ rfl
  have r3 := HB0.out.cell 3 _ rfl
  have r4 := HB0.out.cell 4 _ rfl
  go_wp2_with fail
  clear q0 q1 q2 q3 q4 r0 r1 r2 r3 r4 p4 hfl hfb hmk hmk2
  have he3 : Ext (fun k => k = w.heap.size + 1 + 1) w3 (w3.setCell ⟨w.heap.size + 1 + 1, 4, none⟩ (.slice (some ⟨w3.heap.size, 0, none⟩) n.kids.length n.kids.length)) := set_ext _ _ _ _
  have x3 : ∀ b ∈ [w.heap.size + 1 + 1 + 1], ¬ (b = w.heap.size + 1 + 1) := fun b hb e => by simp at hb; omega
  have hrow0 := RowIn.made (w3.setCell ⟨w.heap.size + 1 + 1, 4, none⟩ (.slice (some ⟨w3.heap.size, 0, none⟩) n.kids.length n.kids.length)) #[.int .i64 0, .int .i64 0, .string ⟨#[]⟩, .slice none 0 0, .slice none 0 0] (n.kids.length * 5) 39
  rw [size_setCell] at hrow0
  have Hrow0 := Lib.hid hrow0
  have hst0 : ∃ na2 nc2, (.slice (some ⟨w.heap.size + 1 + 1 + 1, 0, none⟩) n.names.length n.names.length : Value) = .slice na2 n.names.length nc2 ∧ StrsF ((w3.setCell ⟨w.heap.size + 1 + 1, 4, none⟩ (.slice (some ⟨w3.heap.size, 0, none⟩) n.kids.length n.kids.length)).alloc (.cells (madeCells #[.int .i64 0, .int .i64 0, .string ⟨#[]⟩, .slice none 0 0, .slice none 0 0] (n.kids.length * 5)) 39)) na2 nc2 n.names [w.heap.size + 1 + 1 + 1] := by
    have h4 := HF3.out.ext he3 x3
    exact ⟨_, _, rfl, (HS3.out.keep (he3.keeps HF3.out x3)).keep (Ext.keeps ((Ext.refl nil _).alloc _) h4 (fun _ _ h => h))⟩
  have hf0 : Free (w.heap.size + 3) ((w3.setCell ⟨w.heap.size + 1 + 1, 4, none⟩ (.slice (some ⟨w3.heap.size, 0, none⟩) n.kids.length n.kids.length)).alloc (.cells (madeCells #[.int .i64 0, .int .i64 0, .string ⟨#[]⟩, .slice none 0 0, .slice none 0 0] (n.kids.length * 5)) 39)) [w.heap.size + 1 + 1 + 1] := (HF3.out.ext he3 x3).ext ((Ext.refl nil _).alloc _) (fun _ _ h => h)
  have Hst0 := Lib.hid hst0
  have Hf0 := Lib.hid hf0
  clear hst0 hf0 hrow0 he3 x3
  go_loopw [4, 5, 39] (fun _ _ i wr => CpRel w n (.slice (some ⟨w.heap.size + 1 + 1 + 1, 0, none⟩) n.names.length n.names.length) (w3.heap.size) ([w.heap.size + 1 + 1 + 1]) i wr) (fun _ _ i _ => n.kids.length - (intOf i).toNat)
  case round =>
    obtain ⟨k, fp, hk, rfl, hg0, hbr, hbl, hst, hf1, hlt1, hrow, hkf, hfr⟩ := hrel
    have Hbr := Lib.hid hbr
    have Hbl := Lib.hid hbl
    have Hst := Lib.hid hst
    have Hf1 := Lib.hid hf1
    have Hl1 := Lib.hid hlt1
    have Hrow := Lib.hid hrow
    have Hkf := Lib.hid hkf
    have Hfr := Lib.hid hfr
    have zr := hrow.1
    have zl := hbl.lt
    clear hbr hbl hst hf1 hlt1 hrow hkf hfr
    by_cases hlt : k < n.kids.length
    · obtain ⟨_, _, hks⟩ := (Hks.out).ext hg0 (fun _ _ h => h)
      rcases hks with hks | ⟨bk, ok, rfl, _, hkr⟩
      · simp [hks] at hlt
      obtain ⟨na', nc', ka', kc', c0, c1, c2, c3, c4, hkc⟩ := hkr.get k hlt
      have Hkc := Lib.hid hkc
      clear hkr hkc
      have zb : bk < wr.heap.size := lt_of_cell c0
      have ha : Grow wr (wr.alloc (.cells #[.int .i64 n.kids[k].kind, .int .i64 n.kids[k].num, .string n.kids[k].text, .slice na' n.kids[k].names.length nc', .slice ka' n.kids[k].kids.length kc'] 39)) := (Ext.refl nil wr).alloc _
      have hbk := BoxN.new wr [.int .i64 n.kids[k].kind, .int .i64 n.kids[k].num, .string n.kids[k].text, .slice na' n.kids[k].names.length nc', .slice ka' n.kids[k].kids.length kc'] 39
      have Hc : Hid (∀ w', Grow wr w' → Calls Try.prog 81 #[.agg #[.int .i64 n.kids[k].kind, .int .i64 n.kids[k].num, .string n.kids[k].text, .slice na' n.kids[k].names.length nc', .slice ka' n.kids[k].kids.length kc']] w' fun e w'' => ∃ v' fp, e = .returned v' ∧ Grow w' w'' ∧ NodeO w'' n.kids[k] v' fp ∧ Free w'.heap.size w'' fp) := Lib.hid (fun w' hg' => Ih.out _ (List.getElem_mem hlt) _ _ (Hg.out.kid (List.getElem_mem hlt)) ⟨_, _, _, _, rfl, Hkc.out.ext hg' (fun _ _ h => h)⟩)
      have Hbl1 := Lib.hid (Hbl.out.grow ha)
      have Hbk := Lib.hid hbk
      have hrk : (k : Int) < (n.kids.length : Int) := by omega
      have hrk0 : (0 : Int) ≤ (k : Int) := by omega
      go_wp2_with fail
      obtain ⟨wa, hwa, ga, ba, bk2, za⟩ : ∃ wa, wr.alloc (.cells #[.int .i64 n.kids[k].kind, .int .i64 n.kids[k].num, .string n.kids[k].text, .slice na' n.kids[k].names.length nc', .slice ka' n.kids[k].kids.length kc'] 39) = wa ∧ Grow wr wa ∧ BoxN wa (w.heap.size + 1 + 1) [.int .i64 n.kind, .int .i64 n.num, .string n.text, .slice (some ⟨w.heap.size + 1 + 1 + 1, 0, none⟩) n.names.length n.names.length, .slice (some ⟨w3.heap.size, 0, none⟩) n.kids.length n.kids.length] ∧ BoxN wa wr.heap.size [.int .i64 n.kids[k].kind, .int .i64 n.kids[k].num, .string n.kids[k].text, .slice na' n.kids[k].names.length nc', .slice ka' n.kids[k].kids.length kc'] ∧ wa.heap.size = wr.heap.size + 1 := ⟨_, rfl, ha, Hbl1.out, Hbk.out, by simp⟩
      rw [hwa]
      clear hwa ha hbk c0 c1 c2 c3 c4
      have za' : wr.heap.size < wa.heap.size := by omega
      clear za
      have y4 := ba.cell 4 _ rfl
      have x0 := bk2.cell 0 _ rfl
      have x1 := bk2.cell 1 _ rfl
      have x2 := bk2.cell 2 _ rfl
      have x3 := bk2.cell 3 _ rfl
      have x4 := bk2.cell 4 _ rfl
      clear ba bk2
      go_region_held3 (fun w' => w'.cell? ⟨w.heap.size + 1 + 1, 4, none⟩ = some (.slice (some ⟨w3.heap.size, 0, none⟩) n.kids.length n.kids.length) ∧ w'.cell? ⟨wr.heap.size, 0, none⟩ = some (.int .i64 n.kids[k].kind) ∧ w'.cell? ⟨wr.heap.size, 1, none⟩ = some (.int .i64 n.kids[k].num) ∧ w'.cell? ⟨wr.heap.size, 2, none⟩ = some (.string n.kids[k].text) ∧ w'.cell? ⟨wr.heap.size, 3, none⟩ = some (.slice na' n.kids[k].names.length nc') ∧ w'.cell? ⟨wr.heap.size, 4, none⟩ = some (.slice ka' n.kids[k].kids.length kc'))
        (first | (go_keep; done) | (refine ⟨?_, ?_, ?_, ?_, ?_, ?_⟩ <;> (first | (first | with_reducible exact hg2.some (by simpa using y4) | with_reducible exact hg2.some (by simpa using x0) | with_reducible exact hg2.some (by simpa using x1) | with_reducible exact hg2.some (by simpa using x2) | with_reducible exact hg2.some (by simpa using x3) | with_reducible exact hg2.some (by simpa using x4)) | (with_reducible rw [st5_far]; (first | with_reducible exact hg2.some (by simpa using y4) | with_reducible exact hg2.some (by simpa using x0) | with_reducible exact hg2.some (by simpa using x1) | with_reducible exact hg2.some (by simpa using x2) | with_reducible exact hg2.some (by simpa using x3) | with_reducible exact hg2.some (by simpa using x4)); omega))))
        ((go_at_call 81; refine (Hc.out _ (ga.drewN _)).mono ?_; rintro e w2 ⟨v', f', rfl, hg2, hN, hf'⟩; obtain ⟨na2, nc2, ka2, kc2, rfl, hN⟩ := hN; have hg2' := (ga.drewN _).trans hg2; have hrow2 := Hrow.out.ext hg2' (fun h => h); have hfz := hrow2.2.2; obtain ⟨u0, d0⟩ := hrow2.2.1 (k * 5) (by omega); obtain ⟨u1, d1⟩ := hrow2.2.1 (k * 5 + 1) (by omega); obtain ⟨u2, d2⟩ := hrow2.2.1 (k * 5 + 2) (by omega); obtain ⟨u3, d3⟩ := hrow2.2.1 (k * 5 + 3) (by omega); obtain ⟨u4, d4⟩ := hrow2.2.1 (k * 5 + 4) (by omega); have Hrow2 := Lib.hid hrow2; clear hrow2; unfold nodeV))
      rename_i hHeld
      clear hHeld y4 x0 x1 x2 x3 x4 d0 d1 d2 d3 d4 hfz
      have hsz2 : (wa.drewN 1).heap.size = wa.heap.size := rfl
      have hrel := cpRel_next hlt (by omega) hg0 Hbr.out Hbl.out Hst.out Hf1.out Hl1.out Hrow.out Hkf.out Hfr.out hg2' hN (hf'.mono (B' := wr.heap.size) (by omega))
      have Hrel := Lib.hid hrel
      clear hrel
      go_wp2_with fail
      go_roundw
      case rel => exact Hrel.out
      case measure => simp [intOf]; omega
    · have hke : k = n.kids.length := by omega
      subst hke
      rw [List.take_length] at Hkf
      obtain ⟨na2, nc2, hns, hF⟩ := Hst.out
      have Hns2 := Lib.hid hns
      have HF := Lib.hid hF
      have hfl := Hbl.out.fr
      have hfb := Hbr.out.fr
      have q0 := Hbl.out.cell 0 _ rfl
      have q1 := Hbl.out.cell 1 _ rfl
      have q2 := Hbl.out.cell 2 _ rfl
      have q3 := Hbl.out.cell 3 _ rfl
      have q4 := Hbl.out.cell 4 _ rfl
      have r0 := Hbr.out.cell 0 _ rfl
      have r1 := Hbr.out.cell 1 _ rfl
      have r2 := Hbr.out.cell 2 _ rfl
      have r3 := Hbr.out.cell 3 _ rfl
      have r4 := Hbr.out.cell 4 _ rfl
      clear hns hF
      go_wp2_with fail
      clear q0 q1 q2 q3 q4 r0 r1 r2 r3 r4
      have BF := ((((Hbr.out.set 0 (by simp) (.int .i64 n.kind)).set 1 (by simp) (.int .i64 n.num)).set 2 (by simp) (.string n.text)).set 3 (by simp) (.slice (some ⟨w.heap.size + 1 + 1 + 1, 0, none⟩) n.names.length n.names.length)).set 4 (by simp) (.slice (some ⟨w3.heap.size, 0, none⟩) n.kids.length n.kids.length)
      have s0 := BF.cell 0 _ rfl
      have s1 := BF.cell 1 _ rfl
      have s2 := BF.cell 2 _ rfl
      have s3 := BF.cell 3 _ rfl
      have s4 := BF.cell 4 _ rfl
      have he5 := store5_ext wr (w.heap.size + 1) 0 (.int .i64 n.kind) (.int .i64 n.num) (.string n.text) (.slice (some ⟨w.heap.size + 1 + 1 + 1, 0, none⟩) n.names.length n.names.length) (.slice (some ⟨w3.heap.size, 0, none⟩) n.kids.length n.kids.length)
      have x1 : ∀ b ∈ ([w.heap.size + 1 + 1 + 1] : List Nat), ¬ (b = w.heap.size + 1) := fun b hb e => by have := (Hf1.out.2 b hb).1; omega
      have x2 : ∀ b ∈ (w3.heap.size) :: fp, ¬ (b = w.heap.size + 1) := fun b hb e => by
        rcases List.mem_cons.1 hb with rfl | hb
        · omega
        · have := (Hfr.out.2 b hb).1; omega
      have hfrR : Free (w.heap.size + 1 + 1 + 1) wr ((w3.heap.size) :: fp) := Free.cons Hrow.out (by omega) Hfr.out
      refine bodyPost_ret (v := .agg #[.int .i64 n.kind, .int .i64 n.num, .string n.text, .slice (some ⟨w.heap.size + 1 + 1 + 1, 0, none⟩) n.names.length n.names.length, .slice (some ⟨w3.heap.size, 0, none⟩) n.kids.length n.kids.length]) ?_ rfl ⟨_, ([w.heap.size + 1 + 1 + 1]) ++ ((w3.heap.size) :: fp), rfl, hg0.inner he5 (by intro i hi; omega), ⟨na2, nc2, _, _, by rw [Hns2.out]; rfl, ?_⟩, ?_⟩
      · simp [results, Try.results81, go_sem, s0, s1, s2, s3, s4]
      · refine NodeF.mk Htx.out (HF.out.keep (he5.keeps Hf1.out x1)) ⟨Nat.le_refl _, Hks.out.2.1, .inr ⟨w3.heap.size, 0, fp, ?_, rfl, rfl, ?_⟩⟩
        · intro e; rw [e] at hk0; simp at hk0
        · exact Hkf.out.keep (he5.keeps Hfr.out (fun b hb e => x2 b (by simp [hb]) e)) (fun o' _ _ => he5.cell (p := ⟨w3.heap.size, o', none⟩) Hrow.out.1 (by intro e; have e' : w3.heap.size = w.heap.size + 1 := e; omega))
      · refine Free.app2 ((Hf1.out.ext he5 x1).mono (by omega)) ((hfrR.ext he5 x2).mono (by omega)) (fun y h1 h2 => ?_)
        have := Hl1.out y h1
        rcases List.mem_cons.1 h2 with h3 | h3
        · omega
        · have := (Hfr.out.2 y h3).1; omega
  case atStart =>
    exact ⟨0, [], Nat.zero_le _, rfl, (hg3.setNew (p := ⟨w.heap.size + 1 + 1, 4, none⟩) (by show w.heap.size ≤ w.heap.size + 1 + 1; omega) _).alloc _, (HB0.out.other (by simp) _).grow ((Ext.refl nil _).alloc _), (HB1.out.set 4 (by simp) _).grow ((Ext.refl nil _).alloc _), Hst0.out, Hf0.out, fun y hy => by simp at hy; omega, Hrow0.out, by simp [KidsF], Free.nil _ _⟩

theorem copyNodeI_ok : ∀ n, CopyIOk n := Nd.ind' CopyIOk fun n ih => by
  by_cases hn0 : 0 < n.names.length
  · by_cases hk0 : 0 < n.kids.length
    · exact copyI_both n ih hn0 hk0
    · exact copyI_names n ih hn0 hk0
  · by_cases hk0 : 0 < n.kids.length
    · exact copyI_kids n ih hn0 hk0
    · exact copyI_none n ih hn0 hk0


end Go.Proofs.Ytmeobmegnneegaa

/-
  The walks of the laws' helpers on Item: sizes, copies, comparisons with themselves. (Printed by wip/gentypes.py.)
-/
namespace Go.Proofs.Ytmeobmegnneegaa
open Go.RowKit

abbrev Itm := ByteArray × Int × Nd
def itmRep : Rep Itm := pairRep strRep (pairRep intRep (nodeRep))
theorem itmRep_n : itmRep.n = 7 := rfl
def itmL (x : Itm) (na2 : Option Addr) (nc2 : Nat) (ka2 : Option Addr) (kc2 : Nat) : List Value := [.string x.1, .int .i64 x.2.1, .int .i64 x.2.2.kind, .int .i64 x.2.2.num, .string x.2.2.text, .slice na2 x.2.2.names.length nc2, .slice ka2 x.2.2.kids.length kc2]
def costItm (x : Itm) : Nat := x.1.size + costN x.2.2
def costItmL (l : List Itm) : Nat := l.length + (l.map costItm).sum
def sumItm (l : List Itm) : Nat := (l.map costItm).sum
theorem sumItm_snoc (l : List Itm) (x : Itm) : sumItm (l ++ [x]) = sumItm l + costItm x := by simp [sumItm]
theorem sumItm_take (l : List Itm) (k : Nat) : sumItm (l.take k) ≤ sumItm l := by
  unfold sumItm; rw [List.map_take]; exact sum_take_le _ _
theorem costItm_get (l : List Itm) (k : Nat) (h : k < l.length) : costItm l[k] ≤ costItmL l := by
  have := sumItm_take l (k + 1)
  rw [take_snoc' _ _ h, sumItm_snoc] at this
  unfold costItmL; unfold sumItm at *; omega

theorem itmRep_open {w : World} {S : Nat → Prop} {x : Itm} {cs : List Value} (h : itmRep.R w S x cs) : ∃ (na2 : Option Addr) (nc2 : Nat) (ka2 : Option Addr) (kc2 : Nat), cs = itmL x na2 nc2 ka2 kc2 ∧ x.1.size ≤ big ∧ NodeC w S x.2.2 na2 nc2 ka2 kc2 := by
  obtain ⟨_, _, rfl, ⟨rfl, h0⟩, ⟨_, _, rfl, rfl, ⟨na2, nc2, ka2, kc2, rfl, h2⟩⟩⟩ := h
  exact ⟨na2, nc2, ka2, kc2, rfl, h0, h2⟩

theorem itmRep_openF {w : World} {x : Itm} {cs : List Value} {fp : List Nat} (h : itmRep.F w x cs fp) : ∃ (na2 : Option Addr) (nc2 : Nat) (ka2 : Option Addr) (kc2 : Nat), cs = itmL x na2 nc2 ka2 kc2 ∧ x.1.size ≤ big ∧ True := by
  obtain ⟨_, _, _, _, rfl, _, ⟨rfl, h0, _⟩, ⟨_, _, _, _, rfl, _, ⟨rfl, _⟩, ⟨na2, nc2, ka2, kc2, rfl, h2⟩⟩⟩ := h
  exact ⟨na2, nc2, ka2, kc2, rfl, h0, trivial⟩

set_option maxHeartbeats 2000000 in
theorem szItem_ok (x : Itm) (cs : List Value) (left : Int) (w : World) (hb0 : 0 ≤ left) (hb1 : left ≤ 1048576) (hx : itmRep.R w any x cs) :
    Calls Try.prog 110 #[.agg cs.toArray, .int .i64 left] w fun e w' => e = .returned (.int .i64 (szR (costItm x) left)) ∧ Grow w w' := by
  obtain ⟨na2, nc2, ka2, kc2, rfl, h0, h2⟩ := itmRep_open hx
  have hs0 : x.1.size ≤ 9223372036854775807 := h0
  have H2 := Lib.hid h2
  clear h0 h2
  have Hce : Hid (costItm x = x.1.size + costN x.2.2) := Lib.hid rfl
  unfold itmL
  by_cases a0 : left < ((x.1.size : Nat) : Int)
  · have Hf := Lib.hid (szR_neg (c := costItm x) (left := left) (by have := Hce.out; omega))
    go_enter Try.func110, Try.ntmps110
    go_wp2_with fail
    go_ret
    exact ⟨by simp [Hf.out], (by repeat (first | with_reducible exact Ext.refl _ _ | with_reducible refine Ext.trans ?_ (by assumption) | with_reducible refine Ext.drew ?_ | with_reducible refine Ext.drewN ?_ _ | with_reducible refine Ext.alloc ?_ _ | with_reducible refine Ext.setNew ?_ (by simp; done) _ | with_reducible refine Ext.setNew ?_ (by simp; omega) _))⟩
  by_cases a2 : left - ((x.1.size : Nat) : Int) < ((costN x.2.2 : Nat) : Int)
  · have Hf := Lib.hid (szR_neg (c := costItm x) (left := left) (by have := Hce.out; omega))
    have Hs2 := Lib.hid (szR_neg a2)
    go_enter Try.func110, Try.ntmps110
    go_wp2_with fail
    refine (szNode_ok x.2.2 _ _ _ (by omega) (by omega) ⟨_, _, _, _, rfl, H2.out.grow' (by repeat (first | with_reducible exact Ext.refl _ _ | with_reducible refine Ext.trans ?_ (by assumption) | with_reducible refine Ext.drew ?_ | with_reducible refine Ext.drewN ?_ _ | with_reducible refine Ext.alloc ?_ _ | with_reducible refine Ext.setNew ?_ (by simp; done) _ | with_reducible refine Ext.setNew ?_ (by simp; omega) _))⟩).mono ?_
    rintro e w3 ⟨rfl, hg3⟩
    simp only [Hs2.out]
    have hcc3 := bcell hg3
    go_wp2_with fail
    go_ret
    exact ⟨by simp [Hf.out], (by repeat (first | with_reducible exact Ext.refl _ _ | with_reducible refine Ext.trans ?_ (by assumption) | with_reducible refine Ext.drew ?_ | with_reducible refine Ext.drewN ?_ _ | with_reducible refine Ext.alloc ?_ _ | with_reducible refine Ext.setNew ?_ (by simp; done) _ | with_reducible refine Ext.setNew ?_ (by simp; omega) _))⟩
  have Hs2 := Lib.hid (szR_pos (c := costN x.2.2) (left := left - ((x.1.size : Nat) : Int)) (by omega))
  have Hf := Lib.hid (szR_pos (c := costItm x) (left := left) (by have := Hce.out; omega))
  go_enter Try.func110, Try.ntmps110
  go_wp2_with fail
  refine (szNode_ok x.2.2 _ _ _ (by omega) (by omega) ⟨_, _, _, _, rfl, H2.out.grow' (by repeat (first | with_reducible exact Ext.refl _ _ | with_reducible refine Ext.trans ?_ (by assumption) | with_reducible refine Ext.drew ?_ | with_reducible refine Ext.drewN ?_ _ | with_reducible refine Ext.alloc ?_ _ | with_reducible refine Ext.setNew ?_ (by simp; done) _ | with_reducible refine Ext.setNew ?_ (by simp; omega) _))⟩).mono ?_
  rintro e w3 ⟨rfl, hg3⟩
  simp only [Hs2.out]
  have hcc3 := bcell hg3
  go_wp2_with fail
  go_ret
  exact ⟨by have h1 := Hf.out; have h2 := Hce.out; rw [h1]; simp; omega, (by repeat (first | with_reducible exact Ext.refl _ _ | with_reducible refine Ext.trans ?_ (by assumption) | with_reducible refine Ext.drew ?_ | with_reducible refine Ext.drewN ?_ _ | with_reducible refine Ext.alloc ?_ _ | with_reducible refine Ext.setNew ?_ (by simp; done) _ | with_reducible refine Ext.setNew ?_ (by simp; omega) _))⟩

set_option maxHeartbeats 1000000 in
theorem szItemS_ok (l : List Itm) (a : Option Addr) (c : Nat) (left : Int) (w : World) (hn : SlR itmRep w any a c l) (h0 : 0 ≤ left) (h1 : left ≤ 1048576) :
    Calls Try.prog 67 #[.slice a l.length c, .int .i64 left] w fun e w' => e = .returned (.int .i64 (szR (costItmL l) left)) ∧ Grow w w' := by
  have hbig : l.length ≤ 9223372036854775807 := hn.2.1
  have hce : costItmL l = l.length + sumItm l := rfl
  have Hce := Lib.hid hce
  have Hn := Lib.hid hn
  clear hn hce
  by_cases hl : left < (l.length : Int)
  · have Hf := Lib.hid (szR_neg (c := costItmL l) (left := left) (by rw [Hce.out]; omega))
    go_enter Try.func67, Try.ntmps67
    go_wp2
    go_ret
    exact ⟨by rw [Hf.out]; simp, Ext.refl _ _⟩
  · go_enter Try.func67, Try.ntmps67
    go_wp2
    go_loopw [1, 5] (fun t i wr => Grow w wr ∧ ∃ (k : Nat) (r : Int), k ≤ l.length ∧ i = .int .i64 k ∧ t = .int .i64 r ∧ 0 ≤ r ∧ r ≤ 1048576 ∧ Hid (r = left - l.length - sumItm (l.take k))) (fun _ i _ => l.length - (intOf i).toNat)
    case atStart => exact ⟨Ext.refl _ _, 0, _, Nat.zero_le _, rfl, rfl, by omega, by omega, Lib.hid (by simp [sumItm])⟩
    case round =>
      obtain ⟨hg, k, r, hk, rfl, rfl, hr0, hr1, Hr⟩ := hrel
      have hst := sumItm_take l k
      by_cases hlt : k < l.length
      · obtain ⟨_, _, hks⟩ := (Hn.out).grow hg
        rcases hks with hks | ⟨bk, ok, rfl, _, hkr⟩
        · simp [hks] at hlt
        obtain ⟨cs, hcs, hx⟩ := hkr k hlt
        have Hx := Lib.hid hx
        obtain ⟨na2, nc2, ka2, kc2, rfl, h0, h2⟩ := itmRep_open hx
        rw [itmRep_n] at hcs
        have x0 : wr.cell? ⟨bk, ok + k * 7, none⟩ = _ := hcs 0 _ rfl
        have x1 := hcs 1 _ rfl
        have x2 := hcs 2 _ rfl
        have x3 := hcs 3 _ rfl
        have x4 := hcs 4 _ rfl
        have x5 := hcs 5 _ rfl
        have x6 := hcs 6 _ rfl
        have hst2 := sumItm_take l (k + 1)
        rw [take_snoc' _ _ hlt, sumItm_snoc] at hst2
        clear hkr hcs hx h0 h2
        by_cases hneg : r < (costItm l[k] : Int)
        · have Hf : Hid (szR (costItmL l) left = -1) := Lib.hid (szR_neg (by rw [Hce.out]; have := Hr.out; omega))
          have Hs := Lib.hid (szR_neg hneg)
          go_wp2_with fail
          refine (szItem_ok l[k] _ _ _ hr0 hr1 Hx.out).mono ?_
          rintro e w2 ⟨rfl, hg2⟩
          simp only [Hs.out]
          go_wp2_with fail
          go_ret
          exact ⟨by simp [Hf.out], hg.trans hg2⟩
        · have Hs := Lib.hid (szR_pos (c := costItm l[k]) (left := r) (by omega))
          go_wp2_with fail
          refine (szItem_ok l[k] _ _ _ hr0 hr1 Hx.out).mono ?_
          rintro e w2 ⟨rfl, hg2⟩
          simp only [Hs.out]
          go_wp2_with fail
          go_roundw
          case rel => exact ⟨hg.trans hg2, k + 1, _, by omega, by go_num, rfl, by omega, by omega, Lib.hid (by rw [take_snoc' _ _ hlt, sumItm_snoc, Hr.out]; omega)⟩
          case measure => simp [intOf]; omega
      · have hke : k = l.length := by omega
        have Hf : Hid (szR (costItmL l) left = r) := Lib.hid (by
          have h2 := Hr.out
          rw [hke, List.take_length] at h2
          rw [szR_pos (by rw [Hce.out]; omega), Hce.out]; omega)
        have Hke := Lib.hid hke
        clear hke
        go_wp2
        go_ret
        exact ⟨by simp [Hf.out], hg⟩

set_option maxHeartbeats 2000000 in
theorem eqItem_same (x : Itm) (cs ds : List Value) (w : World) (hx : itmRep.R w any x cs) (hy : itmRep.R w any x ds) :
    Calls Try.prog 57 #[.agg cs.toArray, .agg ds.toArray] w fun e w' => e = .returned (.bool true) ∧ Grow w w' := by
  obtain ⟨na2, nc2, ka2, kc2, rfl, h0, h2⟩ := itmRep_open hx
  obtain ⟨na2', nc2', ka2', kc2', rfl, h0', h2'⟩ := itmRep_open hy
  have H2 := Lib.hid h2
  have H2' := Lib.hid h2'
  have e0 : (x.1.toList == x.1.toList) = true := by simp
  have e1 : (x.2.1 != x.2.1) = false := by simp
  have E2 : Hid (eqN x.2.2 x.2.2 = true) := Lib.hid (eqN_refl _)
  clear hx hy h0 h0' h2 h2'
  unfold itmL
  go_enter Try.func57, Try.ntmps57
  go_wp2_with fail
  refine (eqNode_ok x.2.2 x.2.2 _ _ _ ⟨_, _, _, _, rfl, H2.out.grow' (by repeat (first | with_reducible exact Ext.refl _ _ | with_reducible refine Ext.trans ?_ (by assumption) | with_reducible refine Ext.drew ?_ | with_reducible refine Ext.drewN ?_ _ | with_reducible refine Ext.alloc ?_ _ | with_reducible refine Ext.setNew ?_ (by simp; done) _ | with_reducible refine Ext.setNew ?_ (by simp; omega) _))⟩ ⟨_, _, _, _, rfl, H2'.out.grow' (by repeat (first | with_reducible exact Ext.refl _ _ | with_reducible refine Ext.trans ?_ (by assumption) | with_reducible refine Ext.drew ?_ | with_reducible refine Ext.drewN ?_ _ | with_reducible refine Ext.alloc ?_ _ | with_reducible refine Ext.setNew ?_ (by simp; done) _ | with_reducible refine Ext.setNew ?_ (by simp; omega) _))⟩).mono ?_
  rintro e w4 ⟨rfl, hg4⟩
  simp only [E2.out]
  have hcc4 := bcell hg4
  go_wp2_with fail
  go_ret
  exact ⟨by simp, (by repeat (first | with_reducible exact Ext.refl _ _ | with_reducible refine Ext.trans ?_ (by assumption) | with_reducible refine Ext.drew ?_ | with_reducible refine Ext.drewN ?_ _ | with_reducible refine Ext.alloc ?_ _ | with_reducible refine Ext.setNew ?_ (by simp; done) _ | with_reducible refine Ext.setNew ?_ (by simp; omega) _))⟩

set_option maxRecDepth 100000 in
set_option maxHeartbeats 1000000 in
theorem eqItemS_same (l : List Itm) (a b : Option Addr) (c d : Nat) (w : World) (ha : SlR itmRep w any a c l) (hb : SlR itmRep w any b d l) :
    Calls Try.prog 82 #[.slice a l.length c, .slice b l.length d] w fun e w' => e = .returned (.bool true) ∧ Grow w w' := by
  have hbig : l.length ≤ 9223372036854775807 := ha.2.1
  have Ha := Lib.hid ha
  have Hb := Lib.hid hb
  clear ha hb
  have hlb : ((l.length : Int) != (l.length : Int)) = false := by simp
  go_enter Try.func82, Try.ntmps82
  go_wp2
  go_loopw [4, 5] (fun n i wr => n = .bool false ∧ Grow w wr ∧ ∃ k : Nat, k ≤ l.length ∧ i = .int .i64 k) (fun _ i _ => l.length - (intOf i).toNat)
  case atStart => exact ⟨rfl, Ext.refl _ _, 0, Nat.zero_le _, rfl⟩
  case round =>
    obtain ⟨rfl, hg, k, hk, rfl⟩ := hrel
    by_cases hlt : k < l.length
    · obtain ⟨_, _, ha4⟩ := (Ha.out).grow hg
      obtain ⟨_, _, hb4⟩ := (Hb.out).grow hg
      rcases ha4 with hh | ⟨ba, oa, rfl, _, hca⟩
      · rw [hh] at hlt; simp at hlt
      rcases hb4 with hh | ⟨bb, ob, rfl, _, hcb⟩
      · rw [hh] at hlt; simp at hlt
      obtain ⟨cs, hcs, hx⟩ := hca k hlt
      obtain ⟨ds, hds, hy⟩ := hcb k hlt
      have Hx := Lib.hid hx
      have Hy := Lib.hid hy
      obtain ⟨na2, nc2, ka2, kc2, rfl, h0, h2⟩ := itmRep_open hx
      obtain ⟨na2', nc2', ka2', kc2', rfl, h0', h2'⟩ := itmRep_open hy
      rw [itmRep_n] at hcs hds
      have x0 : wr.cell? ⟨ba, oa + k * 7, none⟩ = _ := hcs 0 _ rfl
      have x1 := hcs 1 _ rfl
      have x2 := hcs 2 _ rfl
      have x3 := hcs 3 _ rfl
      have x4 := hcs 4 _ rfl
      have x5 := hcs 5 _ rfl
      have x6 := hcs 6 _ rfl
      have y0 : wr.cell? ⟨bb, ob + k * 7, none⟩ = _ := hds 0 _ rfl
      have y1 := hds 1 _ rfl
      have y2 := hds 2 _ rfl
      have y3 := hds 3 _ rfl
      have y4 := hds 4 _ rfl
      have y5 := hds 5 _ rfl
      have y6 := hds 6 _ rfl
      clear hca hcb Ha Hb hcs hds hx hy h0 h0' h2 h2'
      go_wp2_with fail
      (refine wp_region_later (by kernel_rfl) (by kernel_rfl) ?_; (repeat (first | go_big_quiet_step ((go_at_call 57; exact later_call (v := .bool true) (eqItem_same l[k] _ _ _ (itmRep.grow Hx.out (later_grow _ _)) (itmRep.grow Hy.out (later_grow _ _))))) | quiet_step ((go_at_call 57; exact later_call (v := .bool true) (eqItem_same l[k] _ _ _ (itmRep.grow Hx.out (later_grow _ _)) (itmRep.grow Hy.out (later_grow _ _))))))); refine wpQuiet_nil ?_; rintro _ ⟨x_w2, rfl⟩; have hg_w2 := later_grow wr x_w2; generalize later wr x_w2 = w2 at hg_w2 ⊢)
      go_wp2_with fail
      go_roundw
      case rel => exact ⟨rfl, hg.trans hg_w2, k + 1, by omega, by go_num⟩
      case measure => simp [intOf]; omega
    · go_wp2_with fail
      go_ret
      exact ⟨by simp, hg⟩

end Go.Proofs.Ytmeobmegnneegaa

/-
  The walks of the laws' copies of Item. (Printed by wip/gento.py.)
-/
namespace Go.Proofs.Ytmeobmegnneegaa
open Go.RowKit

set_option maxHeartbeats 4000000 in
theorem toItem_ok (x : Itm) (cs : List Value) (w : World) (hcost : costItm x ≤ 1048576) (hx : itmRep.R w any x cs) :
    Calls Try.prog 114 #[.agg cs.toArray] w fun e w' => ∃ cs' fp, e = .returned (.agg (cs' : List Value).toArray) ∧ Grow w w' ∧ itmRep.F w' x cs' fp ∧ Free w.heap.size w' fp := by
  have hce : costItm x = x.1.size + costN x.2.2 := rfl
  rw [hce] at hcost
  obtain ⟨na2, nc2, ka2, kc2, rfl, h0, h2⟩ := itmRep_open hx
  have H0 := Lib.hid h0
  have H2 := Lib.hid h2
  clear hx hce h0 h2
  have B0 := ((BoxN.new w (itmL x na2 nc2 ka2 kc2) 117).grow ((Ext.refl nil _).alloc (.cells #[.string ⟨#[]⟩, .int .i64 0, .int .i64 0, .int .i64 0, .string ⟨#[]⟩, .slice none 0 0, .slice none 0 0] 62))).grow ((Ext.refl nil _).alloc (.cells #[.string x.1, .int .i64 x.2.1, .int .i64 0, .int .i64 0, .string ⟨#[]⟩, .slice none 0 0, .slice none 0 0] 62))
  have B1 := (BoxN.new1 w (.cells (itmL x na2 nc2 ka2 kc2).toArray 117) [.string ⟨#[]⟩, .int .i64 0, .int .i64 0, .int .i64 0, .string ⟨#[]⟩, .slice none 0 0, .slice none 0 0] 62).grow ((Ext.refl nil _).alloc (.cells #[.string x.1, .int .i64 x.2.1, .int .i64 0, .int .i64 0, .string ⟨#[]⟩, .slice none 0 0, .slice none 0 0] 62))
  have B2 := BoxN.new2 w (.cells (itmL x na2 nc2 ka2 kc2).toArray 117) (.cells #[.string ⟨#[]⟩, .int .i64 0, .int .i64 0, .int .i64 0, .string ⟨#[]⟩, .slice none 0 0, .slice none 0 0] 62) [.string x.1, .int .i64 x.2.1, .int .i64 0, .int .i64 0, .string ⟨#[]⟩, .slice none 0 0, .slice none 0 0] 62
  have hgp : Grow w (((w.alloc (.cells (itmL x na2 nc2 ka2 kc2).toArray 117)).alloc (.cells #[.string ⟨#[]⟩, .int .i64 0, .int .i64 0, .int .i64 0, .string ⟨#[]⟩, .slice none 0 0, .slice none 0 0] 62)).alloc (.cells #[.string x.1, .int .i64 x.2.1, .int .i64 0, .int .i64 0, .string ⟨#[]⟩, .slice none 0 0, .slice none 0 0] 62)) := (by repeat (first | with_reducible exact Ext.refl _ _ | with_reducible refine Ext.trans ?_ (by assumption) | with_reducible refine Ext.drew ?_ | with_reducible refine Ext.drewN ?_ _ | with_reducible refine Ext.alloc ?_ _ | with_reducible refine Ext.setNew ?_ (by simp; done) _ | with_reducible refine Ext.setNew ?_ (by simp; omega) _))
  have HB0 := Lib.hid B0
  have HB1 := Lib.hid B1
  have HB2 := Lib.hid B2
  have Hgp := Lib.hid hgp
  clear B0 B1 B2 hgp
  unfold itmL at *
  go_enter Try.func114, Try.ntmps114
  go_wp2_with fail
  refine (toNode_ok x.2.2 (nodeV x.2.2 na2 nc2 ka2 kc2) _ (by omega) ⟨_, _, _, _, rfl, H2.out.grow' (Ext.trans Hgp.out (Ext.refl _ _))⟩).mono ?_
  rintro e w1 ⟨v2, f2, rfl, hg, hF, hf⟩
  obtain ⟨na2', nc2', ka2', kc2', rfl, hF⟩ := hF
  have e0 := Ext.trans (Ext.refl (fun k => k = w.heap.size + 1 ∨ k = w.heap.size + 1 + 1) _) (hg.toX' (X := (fun k => k = w.heap.size + 1 ∨ k = w.heap.size + 1 + 1)))
  have B0 := HB0.out.grow hg
  have B1 := HB1.out.grow hg
  have B2 := HB2.out.grow hg
  have hgp := Hgp.out.inner e0 (by intro i hi; omega)
  simp only [World.size_alloc] at hf
  have Hf2 := Lib.hid hf
  have HF2 := Lib.hid hF
  have HE0 := Lib.hid e0
  clear hg hF hf e0 HB0 HB1 HB2 Hgp
  have HB0 := Lib.hid B0
  have HB1 := Lib.hid B1
  have HB2 := Lib.hid B2
  have Hgp := Lib.hid hgp
  clear B0 B1 B2 hgp
  unfold nodeV
  have p0 := HB0.out.cell 0 _ rfl
  have p1 := HB0.out.cell 1 _ rfl
  have p2 := HB0.out.cell 2 _ rfl
  have p3 := HB0.out.cell 3 _ rfl
  have p4 := HB0.out.cell 4 _ rfl
  have p5 := HB0.out.cell 5 _ rfl
  have p6 := HB0.out.cell 6 _ rfl
  have q0 := HB2.out.cell 0 _ rfl
  have q1 := HB2.out.cell 1 _ rfl
  have q2 := HB2.out.cell 2 _ rfl
  have q3 := HB2.out.cell 3 _ rfl
  have q4 := HB2.out.cell 4 _ rfl
  have q5 := HB2.out.cell 5 _ rfl
  have q6 := HB2.out.cell 6 _ rfl
  have qf := HB2.out.fr
  have r0 := HB1.out.cell 0 _ rfl
  have r1 := HB1.out.cell 1 _ rfl
  have r2 := HB1.out.cell 2 _ rfl
  have r3 := HB1.out.cell 3 _ rfl
  have r4 := HB1.out.cell 4 _ rfl
  have r5 := HB1.out.cell 5 _ rfl
  have r6 := HB1.out.cell 6 _ rfl
  have rf := HB1.out.fr
  have z1 : w.heap.size + 1 + 1 < w1.heap.size := HB2.out.lt
  go_wp2_with fail
  clear p0 q0 p1 q1 p2 q2 p3 q3 p4 q4 p5 q5 p6 q6 qf rf r0 r1 r2 r3 r4 r5 r6
  have BF := ((((((((((((HB1.out.other (p := ⟨w.heap.size + 1 + 1, 2, none⟩) (by simp) (.int .i64 x.2.2.kind)).other (p := ⟨w.heap.size + 1 + 1, 3, none⟩) (by simp) (.int .i64 x.2.2.num)).other (p := ⟨w.heap.size + 1 + 1, 4, none⟩) (by simp) (.string x.2.2.text)).other (p := ⟨w.heap.size + 1 + 1, 5, none⟩) (by simp) (.slice na2' x.2.2.names.length nc2')).other (p := ⟨w.heap.size + 1 + 1, 6, none⟩) (by simp) (.slice ka2' x.2.2.kids.length kc2')).set 0 (by simp) (.string x.1)).set 1 (by simp) (.int .i64 x.2.1)).set 2 (by simp) (.int .i64 x.2.2.kind)).set 3 (by simp) (.int .i64 x.2.2.num)).set 4 (by simp) (.string x.2.2.text)).set 5 (by simp) (.slice na2' x.2.2.names.length nc2')).set 6 (by simp) (.slice ka2' x.2.2.kids.length kc2'))
  have x2 : ∀ b ∈ f2, ¬ (b = w.heap.size + 1 ∨ b = w.heap.size + 1 + 1) := fun b hb => by have := (Hf2.out.2 b hb).1; omega
  have fin : ∀ W, Ext (fun k => k = w.heap.size + 1 ∨ k = w.heap.size + 1 + 1) w1 W → ∃ cs' fp, Ending.returned (.agg ([.string x.1, .int .i64 x.2.1, .int .i64 x.2.2.kind, .int .i64 x.2.2.num, .string x.2.2.text, .slice na2' x.2.2.names.length nc2', .slice ka2' x.2.2.kids.length kc2'] : List Value).toArray) = Ending.returned (.agg (cs' : List Value).toArray) ∧ Grow w W ∧ itmRep.F W x cs' fp ∧ Free w.heap.size W fp := by
    intro W hW
    have g2 : Ext (fun k => k = w.heap.size + 1 ∨ k = w.heap.size + 1 + 1) w1 W := hW
    have F2 := Hf2.out.ext g2 x2
    have k2 := HF2.out.keep (g2.keeps Hf2.out x2)
    refine ⟨_, ([] ++ ([] ++ f2)), rfl, Hgp.out.inner hW (by intro i hi; omega), ⟨[.string x.1], [.int .i64 x.2.1, .int .i64 x.2.2.kind, .int .i64 x.2.2.num, .string x.2.2.text, .slice na2' x.2.2.names.length nc2', .slice ka2' x.2.2.kids.length kc2'], [], ([] ++ f2), rfl, rfl, ⟨rfl, H0.out, rfl⟩, ⟨[.int .i64 x.2.1], [.int .i64 x.2.2.kind, .int .i64 x.2.2.num, .string x.2.2.text, .slice na2' x.2.2.names.length nc2', .slice ka2' x.2.2.kids.length kc2'], [], f2, rfl, rfl, ⟨rfl, rfl⟩, ⟨na2', nc2', ka2', kc2', rfl, k2⟩⟩⟩, ?_⟩
    simp only [List.nil_append]
    exact F2.mono (by omega)
  have r0 := BF.cell 0 _ rfl
  have r1 := BF.cell 1 _ rfl
  have r2 := BF.cell 2 _ rfl
  have r3 := BF.cell 3 _ rfl
  have r4 := BF.cell 4 _ rfl
  have r5 := BF.cell 5 _ rfl
  have r6 := BF.cell 6 _ rfl
  refine bodyPost_ret (v := .agg #[.string x.1, .int .i64 x.2.1, .int .i64 x.2.2.kind, .int .i64 x.2.2.num, .string x.2.2.text, .slice na2' x.2.2.names.length nc2', .slice ka2' x.2.2.kids.length kc2']) ?_ rfl ?_
  · simp [results, Try.results114, go_sem, r0, r1, r2, r3, r4, r5, r6]
  · refine fin _ ?_
    exact (by repeat (first | with_reducible exact Ext.refl _ _ | with_reducible refine Ext.setIn ?_ (by simp) _ | with_reducible refine Ext.trans ?_ (Ext.mono (by assumption) (fun _ h => False.elim h))))

theorem info_Item : (Try.prog.info? 62).map (fun i => (i.zero, i.size, i.bytes)) = some (some (.agg #[.string ⟨#[]⟩, .int .i64 0, .int .i64 0, .int .i64 0, .string ⟨#[]⟩, .slice none 0 0, .slice none 0 0]), 7, 104) := by kernel_rfl

set_option maxHeartbeats 2000000 in
theorem toItemS_ok (l : List Itm) (a : Option Addr) (c : Nat) (w : World) (hcost : costItmL l ≤ 1048576) (hn : SlR itmRep w any a c l) :
    Calls Try.prog 74 #[.slice a l.length c] w fun e w' => ∃ a' c' fp, e = .returned (.slice a' l.length c') ∧ Grow w w' ∧ SlF itmRep w' a' c' l fp ∧ Free w.heap.size w' fp := by
  have hb : l.length ≤ 1048576 := by unfold costItmL at hcost; omega
  have Hn := Lib.hid hn
  clear hn
  have hmk := run_mk (P := Try.prog) 31 62 _ 7 104 Try.underlying31 info_Item .i64 .i64 l.length (by omega) (by omega)
  go_enter Try.func74, Try.ntmps74
  go_wp2
  clear hmk
  go_loopw [4] (fun i wr => ∃ (k : Nat) (fp : List Nat), k ≤ l.length ∧ i = .int .i64 k ∧ Grow w wr ∧ RowIn wr w.heap.size (l.length * 7) ∧ RowF itmRep wr w.heap.size 0 (l.take k) fp ∧ Free (w.heap.size + 1) wr fp) (fun i _ => l.length - (intOf i).toNat)
  case atStart => exact ⟨0, [], Nat.zero_le _, rfl, (Ext.refl _ _).alloc _, RowIn.made _ _ _ _, rfl, Free.nil _ _⟩
  case round =>
    obtain ⟨k, fp, hk, rfl, hg, hrow, hkf, hfr⟩ := hrel
    have Hrow := Lib.hid hrow
    have Hkf := Lib.hid hkf
    have Hfr := Lib.hid hfr
    clear hrow hkf hfr
    by_cases hlt : k < l.length
    · obtain ⟨_, _, hks⟩ := (Hn.out).grow hg
      rcases hks with hks | ⟨bk, ok, rfl, _, hkr⟩
      · simp [hks] at hlt
      obtain ⟨cs, hcs, hx⟩ := hkr k hlt
      have Hx := Lib.hid hx
      obtain ⟨na2, nc2, ka2, kc2, rfl, h0, h2⟩ := itmRep_open hx
      rw [itmRep_n] at hcs
      have x0 : wr.cell? ⟨bk, ok + k * 7, none⟩ = _ := hcs 0 _ rfl
      have x1 := hcs 1 _ rfl
      have x2 := hcs 2 _ rfl
      have x3 := hcs 3 _ rfl
      have x4 := hcs 4 _ rfl
      have x5 := hcs 5 _ rfl
      have x6 := hcs 6 _ rfl
      have hck := costItm_get l k hlt
      clear hkr hcs hx h0 h2
      go_wp2_with fail
      refine (toItem_ok l[k] _ _ (by omega) Hx.out).mono ?_
      rintro e w2 ⟨ds, f', rfl, hg2, hN, hf'⟩
      clear x0 x1 x2 x3 x4 x5 x6
      have Hl := itmRep.flen hN
      have HN := Lib.hid hN
      obtain ⟨na2', nc2', ka2', kc2', rfl, g0, g2⟩ := itmRep_openF hN
      have hrow2 := Hrow.out.ext hg2 (fun h => h)
      have hfz := hrow2.2.2
      obtain ⟨u0, d0⟩ := hrow2.2.1 (k * 7) (by omega)
      obtain ⟨u1, d1⟩ := hrow2.2.1 (k * 7 + 1) (by omega)
      obtain ⟨u2, d2⟩ := hrow2.2.1 (k * 7 + 2) (by omega)
      obtain ⟨u3, d3⟩ := hrow2.2.1 (k * 7 + 3) (by omega)
      obtain ⟨u4, d4⟩ := hrow2.2.1 (k * 7 + 4) (by omega)
      obtain ⟨u5, d5⟩ := hrow2.2.1 (k * 7 + 5) (by omega)
      obtain ⟨u6, d6⟩ := hrow2.2.1 (k * 7 + 6) (by omega)
      have Hrow2 := Lib.hid hrow2
      clear hrow2 hN Hl g0 g2
      unfold itmL at *
      go_wp2_with fail
      clear d0 d1 d2 d3 d4 d5 d6 hfz
      have hl : (l.take k).length = k := by simp; omega
      have hbf : w.heap.size ∉ fp := fun h => by have := (Hfr.out.2 _ h).1; omega
      have hbf' : w.heap.size ∉ f' := fun h => by have := (hf'.2 _ h).1; have := Hrow.out.1; omega
      have hfr2 := Hfr.out.ext hg2 (fun _ _ h => h)
      have hkf2 := Hkf.out.keep (hg2.keeps Hfr.out (fun _ _ h => h)) (fun o' _ ho => hg2.cell (p := ⟨w.heap.size, o', none⟩) Hrow.out.1 (fun h => h))
      have hlay := RowF.lay Hrow2.out hkf2 HN.out (by rw [hl, itmRep_n]; omega) hbf hbf'
      rw [hl, itmRep_n] at hlay
      have hfr3 := Free.append Hfr.out hf' hg2 (Nat.le_refl _) (by have := Hrow.out.1; omega)
      go_roundw
      case rel =>
        rw [show (((((((w2.setCell ⟨w.heap.size, k * 7, none⟩ (.string l[k].1)).setCell ⟨w.heap.size, k * 7 + 1, none⟩ (.int .i64 l[k].2.1)).setCell ⟨w.heap.size, k * 7 + 2, none⟩ (.int .i64 l[k].2.2.kind)).setCell ⟨w.heap.size, k * 7 + 3, none⟩ (.int .i64 l[k].2.2.num)).setCell ⟨w.heap.size, k * 7 + 4, none⟩ (.string l[k].2.2.text)).setCell ⟨w.heap.size, k * 7 + 5, none⟩ (.slice na2' l[k].2.2.names.length nc2')).setCell ⟨w.heap.size, k * 7 + 6, none⟩ (.slice ka2' l[k].2.2.kids.length kc2')) = storeL w2 w.heap.size (k * 7) [.string l[k].1, .int .i64 l[k].2.1, .int .i64 l[k].2.2.kind, .int .i64 l[k].2.2.num, .string l[k].2.2.text, .slice na2' l[k].2.2.names.length nc2', .slice ka2' l[k].2.2.kids.length kc2'] from rfl]
        exact ⟨k + 1, fp ++ f', by omega, by go_num, Grow.inner (hg.trans hg2) (storeL_ext w.heap.size [.string l[k].1, .int .i64 l[k].2.1, .int .i64 l[k].2.2.kind, .int .i64 l[k].2.2.num, .string l[k].2.2.text, .slice na2' l[k].2.2.names.length nc2', .slice ka2' l[k].2.2.kids.length kc2'] w2 (k * 7)) (by intro i hi; omega), storeL_row _ _ _ Hrow2.out, by rw [take_snoc' _ _ hlt]; exact hlay, storeL_free _ _ _ hfr3⟩
      case measure => simp [intOf]; omega
    · have hke : k = l.length := by omega
      subst hke
      go_wp2
      go_ret
      rw [List.take_length] at Hkf
      by_cases hne : l = []
      · subst hne
        exact ⟨_, _, [], rfl, hg, ⟨Nat.le_refl _, by simp, .inl ⟨rfl, rfl⟩⟩, Free.nil _ _⟩
      · exact ⟨_, _, w.heap.size :: fp, rfl, hg, ⟨Nat.le_refl _, Hn.out.2.1, .inr ⟨_, 0, fp, hne, rfl, rfl, Hkf.out⟩⟩, Free.cons Hrow.out (Nat.le_refl _) Hfr.out⟩

end Go.Proofs.Ytmeobmegnneegaa

/-
  The walks of what makes names, pointers and tags valid.
-/
namespace Go.Proofs.Ytmeobmegnneegaa
open Go.RowKit

/-- A letter or a digit of a name. -/
def nameC (c : UInt8) : Bool := inR c.toNat 97 122 || inR c.toNat 48 57
/-- A digit to the base 16. -/
def hexC (c : UInt8) : Bool := inR c.toNat 48 57 || inR c.toNat 97 102
def nameB (s : ByteArray) : Bool := decide (1 ≤ s.size) && decide (s.size ≤ 8) && s.data.toList.all nameC
def tagB (s : ByteArray) : Bool := decide (s.size = 4) && s.data.toList.all hexC

theorem inR_cases (c a b : Int) : (c < a ∧ inR c a b = false) ∨ (b < c ∧ inR c a b = false) ∨ (a ≤ c ∧ c ≤ b ∧ inR c a b = true) := by
  by_cases h1 : c < a
  · exact .inl ⟨h1, by simp [inR]; omega⟩
  · by_cases h2 : b < c
    · exact .inr (.inl ⟨h2, by simp [inR]; omega⟩)
    · exact .inr (.inr ⟨by omega, by omega, by simp [inR]; omega⟩)

theorem all_end {p : UInt8 → Bool} (s : ByteArray) (k : Nat) (h : ¬ k < s.size) (hk : k ≤ s.size) (h1 : (s.data.toList.take k).all p = true) : s.data.toList.all p = true := by
  have : k = s.data.toList.length := by simp; omega
  rwa [this, List.take_length] at h1

set_option maxHeartbeats 1000000 in
theorem isName_ok (s : ByteArray) (w : World) (hs : s.size ≤ big) :
    Calls Try.prog 77 #[.string s] w fun e w' => e = .returned (.bool (nameB s)) ∧ w = w' := by
  unfold big at hs
  by_cases h0 : s.size = 0
  · have he : s.toList.isEmpty = true := by rw [ByteArray.toList_eq]; simp; exact ByteArray.size_eq_zero_iff.1 h0 ▸ rfl
    have Hf : Hid (nameB s = false) := Lib.hid (by simp [nameB, h0])
    clear h0
    go_enter Try.func77, Try.ntmps77
    go_wp2
    go_ret
    exact ⟨by simp [Hf.out], rfl⟩
  have he : s.toList.isEmpty = false := by
    rw [ByteArray.toList_eq, List.isEmpty_eq_false_iff]
    intro h
    have : s.data.toList.length = 0 := by rw [h]; rfl
    exact h0 (by simpa using this)
  have h0 : 1 ≤ s.size := by omega
  by_cases h8 : 8 < s.size
  · have Hf : Hid (nameB s = false) := Lib.hid (by simp [nameB]; omega)
    go_enter Try.func77, Try.ntmps77
    go_wp2
    go_ret
    exact ⟨by simp [Hf.out], rfl⟩
  · have h8' : s.size ≤ 8 := by omega
    clear h8
    go_enter Try.func77, Try.ntmps77
    go_wp2
    go_loop [2, 3] (fun n i => n = .bool false ∧ ∃ k : Nat, k ≤ s.size ∧ i = .int .i64 k ∧ Hid ((s.data.toList.take k).all nameC = true)) (fun _ i => s.size - (intOf i).toNat)
    case atStart => exact ⟨rfl, 0, Nat.zero_le _, rfl, Lib.hid rfl⟩
    case round =>
      obtain ⟨rfl, k, hk, rfl, Hall⟩ := hrel
      by_cases hlt : k < s.size
      · have fin0 : inR (s[k].toNat : Int) 97 122 = false → inR (s[k].toNat : Int) 48 57 = false → nameB s = false := fun h1 h2 => by
          have := all_stop s k hlt (p := nameC) (by simp [nameC, h1, h2])
          simp [nameB, this]
        have fin1 : (inR (s[k].toNat : Int) 97 122 = true ∨ inR (s[k].toNat : Int) 48 57 = true) → (s.data.toList.take (k + 1)).all nameC = true := fun h => all_step s k hlt Hall.out (by rcases h with h | h <;> simp [nameC, h])
        have Fin0 := Lib.hid fin0
        have Fin1 := Lib.hid fin1
        clear fin0 fin1
        rcases inR_cases (s[k].toNat : Int) 97 122 with ⟨a1, a2⟩ | ⟨a1, a2⟩ | ⟨a1, a1', a2⟩
        · rcases inR_cases (s[k].toNat : Int) 48 57 with ⟨b1, b2⟩ | ⟨b1, b2⟩ | ⟨b1, b1', b2⟩
          · have Hf := Lib.hid (Fin0.out a2 b2)
            clear a2 b2
            go_wp2
            go_ret
            exact ⟨by simp [Hf.out], rfl⟩
          · have Hf := Lib.hid (Fin0.out a2 b2)
            clear a2 b2
            go_wp2
            go_ret
            exact ⟨by simp [Hf.out], rfl⟩
          · have Hf := Lib.hid (Fin1.out (.inr b2))
            clear a2 b2
            go_wp2
            go_round
            case rel => exact ⟨rfl, k + 1, by omega, by go_num, Hf⟩
            case measure => simp [intOf]; omega
        · have b1 : 57 < (s[k].toNat : Int) := by omega
          have Hf := Lib.hid (Fin0.out a2 (by simp [inR]; omega))
          clear a2
          go_wp2
          go_ret
          exact ⟨by simp [Hf.out], rfl⟩
        · have Hf := Lib.hid (Fin1.out (.inl a2))
          clear a2
          go_wp2
          go_round
          case rel => exact ⟨rfl, k + 1, by omega, by go_num, Hf⟩
          case measure => simp [intOf]; omega
      · have Hf : Hid (nameB s = true) := Lib.hid (by simp [nameB, all_end s k hlt hk Hall.out]; omega)
        go_wp2
        go_ret
        exact ⟨by simp [Hf.out], rfl⟩

set_option maxHeartbeats 1000000 in
theorem validName_ok (s : ByteArray) (w : World) (hs : s.size ≤ big) :
    Calls Try.prog 71 #[.string s] w fun e w' => e = .returned (.bool (nameB s)) ∧ w = w' := by
  unfold big at hs
  go_enter Try.func71, Try.ntmps71
  go_wp2
  go_loop [2, 3] (fun n i => n = .bool false ∧ ∃ k : Nat, k ≤ s.size ∧ i = .int .i64 k ∧ Hid ((s.data.toList.take k).all nameC = true)) (fun _ i => s.size - (intOf i).toNat)
  case atStart => exact ⟨rfl, 0, Nat.zero_le _, rfl, Lib.hid rfl⟩
  case round =>
    obtain ⟨rfl, k, hk, rfl, Hall⟩ := hrel
    by_cases hlt : k < s.size
    · have hby := byte_lt s[k]
      cases a2 : inR (s[k].toNat : Int) 97 122
      · cases b2 : inR (s[k].toNat : Int) 48 57
        · have Hf : Hid (nameB s = false) := Lib.hid (by
            have := all_stop s k hlt (p := nameC) (by simp [nameC, a2, b2])
            simp [nameB, this])
          go_wp2_with (go_at_call 95; refine (inRange_ok _ _ _ _).mono ?_; rintro e w' ⟨rfl, rfl⟩)
          go_ret
          exact ⟨by simp [Hf.out], rfl⟩
        · have Hf := Lib.hid (all_step s k hlt Hall.out (p := nameC) (by simp [nameC, b2]))
          go_wp2_with (go_at_call 95; refine (inRange_ok _ _ _ _).mono ?_; rintro e w' ⟨rfl, rfl⟩)
          go_round
          case rel => exact ⟨rfl, k + 1, by omega, by go_num, Hf⟩
          case measure => simp [intOf]; omega
      · have Hf := Lib.hid (all_step s k hlt Hall.out (p := nameC) (by simp [nameC, a2]))
        go_wp2_with (go_at_call 95; refine (inRange_ok _ _ _ _).mono ?_; rintro e w' ⟨rfl, rfl⟩)
        go_round
        case rel => exact ⟨rfl, k + 1, by omega, by go_num, Hf⟩
        case measure => simp [intOf]; omega
    · have Hf : Hid (nameB s = inR s.size 1 8) := Lib.hid (by rw [Bool.eq_iff_iff]; simp [nameB, all_end s k hlt hk Hall.out, inR]; omega)
      go_wp2_with (go_at_call 95; refine (inRange_ok _ _ _ _).mono ?_; rintro e w' ⟨rfl, rfl⟩)
      go_ret
      exact ⟨by simp [Hf.out], rfl⟩

def pathB (p : List ByteArray) : Bool := decide (p.length ≤ 5) && p.all plainT

theorem allD_step {α : Type} {p : α → Bool} (xs : List α) (k : Nat) (h : k < xs.length) : (xs.drop k).all p = (p xs[k] && (xs.drop (k + 1)).all p) := by
  rw [drop_cons xs k h, List.all_cons]
theorem allD_end {α : Type} {p : α → Bool} (xs : List α) (k : Nat) (h : ¬ k < xs.length) : (xs.drop k).all p = true := by
  rw [List.drop_eq_nil_of_le (by omega)]; rfl

def hexL : List UInt8 := [48, 49, 50, 51, 52, 53, 54, 55, 56, 57, 97, 98, 99, 100, 101, 102]
theorem hexL_nat : ∀ n, n < 256 → decide (Lib.indexByte hexL (UInt8.ofNat n) < 0) = !hexC (UInt8.ofNat n) := by decide +kernel
theorem hexL_idx (c : UInt8) : decide (Lib.indexByte hexL c < 0) = !hexC c := by
  have h := hexL_nat c.toNat c.toNat_lt
  rwa [UInt8.ofNat_toNat] at h

end Go.Proofs.Ytmeobmegnneegaa

/-
  Stores as data: how they lie in memory, when they are valid.
-/
namespace Go.Proofs.Ytmeobmegnneegaa
open Go.RowKit

abbrev Sto := List Itm × Int
theorem itmRep_pos : 0 < itmRep.n := by rw [itmRep_n]; omega
def stoRep : Rep Sto := pairRep (slRep itmRep itmRep_pos) intRep
def stoL (s : Sto) (a : Option Addr) (c : Nat) : List Value := [.slice a s.1.length c, .int .i64 s.2]
def stoV (s : Sto) (a : Option Addr) (c : Nat) : Value := .agg #[.slice a s.1.length c, .int .i64 s.2]
def costSto (s : Sto) : Nat := costItmL s.1
theorem sto_open {w : World} {S : Nat → Prop} {s : Sto} {v : Value} (h : RV stoRep packA w S s v) : ∃ a c, v = stoV s a c ∧ SlR itmRep w S a c s.1 := by
  obtain ⟨cs, rfl, _, _, rfl, ⟨a, c, rfl, h⟩, rfl⟩ := h; exact ⟨a, c, rfl, h⟩
theorem sto_shut {w : World} {S : Nat → Prop} {s : Sto} {a : Option Addr} {c : Nat} (h : SlR itmRep w S a c s.1) : RV stoRep packA w S s (stoV s a c) := ⟨_, rfl, _, _, rfl, ⟨a, c, rfl, h⟩, rfl⟩
theorem sto_openF {w : World} {s : Sto} {v : Value} {fp : List Nat} (h : FV stoRep packA w s v fp) : ∃ a c, v = stoV s a c ∧ SlF itmRep w a c s.1 fp := by
  obtain ⟨cs, rfl, _, _, f, g, rfl, rfl, ⟨a, c, rfl, h⟩, ⟨rfl, rfl⟩⟩ := h; exact ⟨a, c, rfl, by simpa using h⟩
theorem sto_shutF {w : World} {s : Sto} {a : Option Addr} {c : Nat} {fp : List Nat} (h : SlF itmRep w a c s.1 fp) : FV stoRep packA w s (stoV s a c) fp :=
  ⟨_, rfl, _, _, fp, [], rfl, by simp, ⟨a, c, rfl, h⟩, ⟨rfl, rfl⟩⟩

/-! ### Valid stores -/
def itmB (clock : Int) (x : Itm) : Bool := nameB x.1 && inR x.2.1 1 clock && validB x.2.2
def itmsFrom (clock : Int) : Option ByteArray → List Itm → Bool
  | _, [] => true
  | p, x :: r => (match p with | none => true | some y => lt y x.1) && itmB clock x && itmsFrom clock (some x.1) r
def itmsAt (clock : Int) (l : List Itm) (k : Nat) : Bool := itmsFrom clock (if k = 0 then none else (l[k - 1]?).map (·.1)) (l.drop k)
def itmsB (clock : Int) (l : List Itm) : Bool := itmsFrom clock none l
def storeB (s : Sto) : Bool := decide (s.1.length ≤ 10) && inR s.2 0 999 && itmsB s.2 s.1
theorem itmsAt_zero (clock : Int) (l : List Itm) : itmsAt clock l 0 = itmsB clock l := by simp [itmsAt, itmsB]
theorem itmsAt_end (clock : Int) (l : List Itm) (k : Nat) (h : ¬ k < l.length) : itmsAt clock l k = true := by
  unfold itmsAt; rw [List.drop_eq_nil_of_le (by omega)]; cases k <;> simp [itmsFrom]
theorem itmsAt_first (clock : Int) (l : List Itm) (h : 0 < l.length) : itmsAt clock l 0 = (itmB clock l[0] && itmsAt clock l 1) := by
  unfold itmsAt; rw [drop_cons l 0 h]; simp [itmsFrom, h]
theorem itmsAt_next (clock : Int) (l : List Itm) (k : Nat) (h : k < l.length) (h0 : 0 < k) : itmsAt clock l k = (lt l[k - 1].1 l[k].1 && itmB clock l[k] && itmsAt clock l (k + 1)) := by
  unfold itmsAt
  rw [drop_cons l k h, if_neg (by omega), List.getElem?_eq_getElem (by omega)]
  simp [itmsFrom, h]
theorem itmsAt_bad {clock : Int} {l : List Itm} {k : Nat} (h : k < l.length) (hb : itmB clock l[k] = false ∨ (0 < k ∧ lt (l[k - 1]'(by omega)).1 l[k].1 = false)) : itmsAt clock l k = false := by
  rcases Nat.eq_zero_or_pos k with rfl | h0
  · rcases hb with hb | ⟨hb, _⟩
    · rw [itmsAt_first _ _ h, hb]; rfl
    · omega
  · rw [itmsAt_next _ _ _ h h0]
    rcases hb with hb | ⟨_, hb⟩
    · rw [hb]; simp
    · rw [hb]; simp
theorem itmsAt_good {clock : Int} {l : List Itm} {k : Nat} (h : k < l.length) (hb : itmB clock l[k] = true) (ho : ∀ _ : 0 < k, lt (l[k - 1]'(by omega)).1 l[k].1 = true) : itmsAt clock l k = itmsAt clock l (k + 1) := by
  rcases Nat.eq_zero_or_pos k with rfl | h0
  · rw [itmsAt_first _ _ h, hb]; rfl
  · rw [itmsAt_next _ _ _ h h0, hb, ho h0]; simp
theorem itmsFrom_all {clock : Int} : ∀ {p : Option ByteArray} {l : List Itm}, itmsFrom clock p l = true → ∀ x ∈ l, itmB clock x = true
  | _, [], _, x, hx => by cases hx
  | p, y :: r, h, x, hx => by
    unfold itmsFrom at h
    simp only [Bool.and_eq_true] at h
    rcases List.mem_cons.1 hx with rfl | hx
    · exact h.1.2
    · exact itmsFrom_all h.2 x hx
theorem lt_trans {a b c : ByteArray} (h1 : lt a b = true) (h2 : lt b c = true) : lt a c = true := bl_trans _ _ _ h1 h2
theorem itmsFrom_asc {clock : Int} : ∀ {p : Option ByteArray} {l : List Itm}, itmsFrom clock p l = true → (l.map (·.1)).Pairwise (fun a b => lt a b = true) ∧ ∀ y, p = some y → ∀ x ∈ l, lt y x.1 = true
  | _, [], _ => ⟨List.Pairwise.nil, fun _ _ x hx => by cases hx⟩
  | p, y :: r, h => by
    unfold itmsFrom at h
    simp only [Bool.and_eq_true] at h
    obtain ⟨i1, i2⟩ := itmsFrom_asc h.2
    refine ⟨List.Pairwise.cons (fun z hz => ?_) i1, ?_⟩
    · obtain ⟨x, hx, rfl⟩ := List.mem_map.1 hz
      exact i2 _ rfl x hx
    · rintro q rfl x hx
      have h0 : lt q y.1 = true := h.1.1
      rcases List.mem_cons.1 hx with rfl | hx
      · exact h0
      · exact lt_trans h0 (i2 _ rfl x hx)
theorem storeB_parts {s : Sto} (h : storeB s = true) : s.1.length ≤ 10 ∧ 0 ≤ s.2 ∧ s.2 ≤ 999 ∧ (∀ x ∈ s.1, itmB s.2 x = true) ∧ (s.1.map (·.1)).Pairwise (fun a b => lt a b = true) := by
  unfold storeB inR at h
  simp only [Bool.and_eq_true, decide_eq_true_eq] at h
  exact ⟨h.1.1, h.1.2.1, h.1.2.2, itmsFrom_all h.2, (itmsFrom_asc h.2).1⟩

end Go.Proofs.Ytmeobmegnneegaa

/-
  A name among documents in order: the walks of impl.findItem and spec.find.
-/
namespace Go.Proofs.Ytmeobmegnneegaa
open Go.RowKit

def nmL (l : List Itm) : List ByteArray := l.map (·.1)
theorem nmL_len (l : List Itm) : (nmL l).length = l.length := by simp [nmL]
theorem nmL_get (l : List Itm) (i : Nat) (h : i < (nmL l).length) : (nmL l)[i] = (l[i]'(by rw [nmL_len] at h; exact h)).1 := by simp [nmL]
theorem sgnT_lt {a b : ByteArray} (h : lt a b = true) : sgnT a b = -1 := by unfold sgnT; rw [if_pos h]
theorem sgnT_ge {a b : ByteArray} (h : lt a b = false) : 0 ≤ sgnT a b ∧ sgnT a b ≤ 1 := by unfold sgnT; rw [if_neg (by simp [h])]; split <;> omega
theorem sgnT_bd (a b : ByteArray) : -1 ≤ sgnT a b ∧ sgnT a b ≤ 1 := by
  by_cases h : lt a b = true
  · rw [sgnT_lt h]; omega
  · have := sgnT_ge (a := a) (b := b) (by simpa using h); omega

theorem findCl_ok (x : Itm) (cs : List Value) (s : ByteArray) (w : World) (hx : itmRep.R w any x cs) :
    Calls Try.prog 124 #[.agg cs.toArray, .string s] w fun e w' => e = .returned (.int .i64 (sgnT x.1 s)) ∧ Grow w w' := by
  obtain ⟨na2, nc2, ka2, kc2, rfl, h0, h2⟩ := itmRep_open hx
  clear hx h2
  unfold itmL
  go_enter Try.func124, Try.ntmps124
  go_wp2_with fail
  refine (stringsCompare_ok _ _ _).mono ?_
  rintro e w' ⟨rfl, rfl⟩
  go_wp2_with fail
  go_ret
  exact ⟨by simp, (by repeat (first | with_reducible exact Ext.refl _ _ | with_reducible refine Ext.trans ?_ (by assumption) | with_reducible refine Ext.drew ?_ | with_reducible refine Ext.drewN ?_ _ | with_reducible refine Ext.alloc ?_ _ | with_reducible refine Ext.setNew ?_ (by simp; done) _ | with_reducible refine Ext.setNew ?_ (by simp; omega) _))⟩

set_option maxHeartbeats 4000000 in
theorem bsF_ok (l : List Itm) (a : Option Addr) (c : Nat) (s : ByteArray) (w : World) (ha : SlR itmRep w any a c l) (hsort : Asc (nmL l)) (hbig : l.length ≤ 1000000) :
    Calls Try.prog 123 #[.slice a l.length c, .string s, .func (.func 124) #[] #[]] w
      fun e w' => e = .returned (.tuple #[.int .i64 (lbound (nmL l) s : Nat), .bool (mem (nmL l) s)]) ∧ Grow w w' := by
  have Ha := Lib.hid ha
  have S := Lib.hid hsort
  have hln := nmL_len l
  have Hln := Lib.hid hln
  clear ha hsort hln
  go_enter Try.func123, Try.ntmps123
  go_wp2
  go_loopg [9, 10] l.length (fun g s7 s8 wr => ∃ lo hi : Nat, s7 = .int .i64 lo ∧ s8 = .int .i64 hi ∧ lo ≤ hi ∧ hi ≤ l.length ∧ hi - lo ≤ g ∧ Grow w wr ∧ (∀ t (h : t < (nmL l).length), t < lo → lt (nmL l)[t] s = true) ∧ (∀ t (h : t < (nmL l).length), hi ≤ t → lt (nmL l)[t] s = false))
  case atStart => exact ⟨0, l.length, rfl, rfl, Nat.zero_le _, Nat.le_refl _, by omega, Ext.refl _ _, fun t _ ht => absurd ht (Nat.not_lt_zero _), fun t h1 h2 => by rw [Hln.out] at h1; omega⟩
  case round =>
    obtain ⟨lo, hi, rfl, rfl, hlh, hin, hg, hgr, h1, h2⟩ := hrel
    have I1 := Lib.hid h1
    have I2 := Lib.hid h2
    clear h1 h2
    by_cases hlt : lo < hi
    · obtain ⟨_, _, hks⟩ := (Ha.out).grow hgr
      rcases hks with rfl | ⟨bk, ok, rfl, _, hkr⟩
      · exfalso; simp at hin; omega
      have hm : (lo + hi) / 2 < l.length := by omega
      obtain ⟨m, hmm⟩ : ∃ m, m = (lo + hi) / 2 := ⟨_, rfl⟩
      have hmI : ((lo : Int) + (hi : Int)) / 2 = (m : Int) := by omega
      have hml : m < l.length := by rw [hmm]; exact hm
      obtain ⟨cs, hcs, hx⟩ := hkr m hml
      obtain ⟨na0, nc0, ka0, kc0, rfl, hsz, h0⟩ := itmRep_open hx
      rw [itmRep_n] at hcs
      have x0 : wr.cell? ⟨bk, ok + m * 7, none⟩ = _ := hcs 0 _ rfl
      have x1 := hcs 1 _ rfl
      have x2 := hcs 2 _ rfl
      have x3 := hcs 3 _ rfl
      have x4 := hcs 4 _ rfl
      have x5 := hcs 5 _ rfl
      have x6 := hcs 6 _ rfl
      have Hx := Lib.hid hx
      have hgm : (nmL l)[m]'(by rw [Hln.out]; exact hml) = l[m].1 := nmL_get l m _
      have Hgm := Lib.hid hgm
      have k1 : (m : Int) < (l.length : Int) := by omega
      have k0 : (0 : Int) ≤ (m : Int) := by omega
      have Hmm := Lib.hid hmm
      have mlo : lo ≤ m := by omega
      have mhi : m < hi := by omega
      clear hkr hcs hx h0 hgm Ha hsz hm hmm
      cases hyx : lt l[m].1 s
      · have Y := Lib.hid hyx
        obtain ⟨y1, y2⟩ := sgnT_ge hyx
        clear hyx
        go_wp2_with fail
        refine (findCl_ok l[m] (itmL l[m] na0 nc0 ka0 kc0) s wr Hx.out).mono ?_
        rintro e w2 ⟨rfl, hg2⟩
        go_wp2_with fail
        go_roundg (m - lo)
        case measure => omega
        case rel =>
          refine ⟨lo, m, rfl, rfl, by omega, by omega, Nat.le_refl _, hgr.trans hg2, I1.out, fun t h ht => ?_⟩
          rcases Nat.eq_or_lt_of_le ht with rfl | h'
          · rw [Hgm.out]; exact Y.out
          · have := S.out _ t (by rw [Hln.out]; exact hml) h h'
            rw [Hgm.out] at this
            cases hx : lt (nmL l)[t] s
            · rfl
            · have := bl_trans _ _ _ this hx
              have := Y.out
              simp_all
      · have Y := Lib.hid hyx
        have y1 := sgnT_lt hyx
        clear hyx
        go_wp2_with fail
        refine (findCl_ok l[m] (itmL l[m] na0 nc0 ka0 kc0) s wr Hx.out).mono ?_
        rintro e w2 ⟨rfl, hg2⟩
        simp only [y1]
        go_wp2_with fail
        go_roundg (hi - (m + 1))
        case measure => omega
        case rel =>
          refine ⟨m + 1, hi, by go_num, rfl, by omega, hin, Nat.le_refl _, hgr.trans hg2, fun t h ht => ?_, I2.out⟩
          rcases Nat.eq_or_lt_of_le (show t ≤ m by omega) with rfl | h'
          · rw [Hgm.out]; exact Y.out
          · have := S.out t _ h (by rw [Hln.out]; exact hml) h'
            rw [Hgm.out] at this
            exact bl_trans _ _ _ this Y.out
    · have : hi = lo := by omega
      subst this
      obtain ⟨e1, e2, e3⟩ := lb_end S.out (by rw [Hln.out]; exact hin) I1.out I2.out
      have E1 := Lib.hid e1
      have E2 := Lib.hid e2
      have E3 := Lib.hid e3
      clear e1 e2 e3
      by_cases hn : hi < l.length
      · obtain ⟨_, _, hks⟩ := (Ha.out).grow hgr
        rcases hks with rfl | ⟨bk, ok, rfl, _, hkr⟩
        · exfalso; simp at hn
        obtain ⟨cs, hcs, hx⟩ := hkr hi hn
        obtain ⟨na0, nc0, ka0, kc0, rfl, hsz, h0⟩ := itmRep_open hx
        rw [itmRep_n] at hcs
        have x0 : wr.cell? ⟨bk, ok + hi * 7, none⟩ = _ := hcs 0 _ rfl
        have x1 := hcs 1 _ rfl
        have x2 := hcs 2 _ rfl
        have x3 := hcs 3 _ rfl
        have x4 := hcs 4 _ rfl
        have x5 := hcs 5 _ rfl
        have x6 := hcs 6 _ rfl
        have Hx := Lib.hid hx
        have E2' : Hid (mem (nmL l) s = decide (l[hi].1 = s)) := Lib.hid (by rw [E2.out (by rw [Hln.out]; exact hn), nmL_get])
        clear hkr hcs hx h0 Ha hsz
        by_cases hd : l[hi].1 = s
        · have y1 : sgnT l[hi].1 s = 0 := sgnT_zero.2 hd
          have Hd := Lib.hid hd
          clear hd
          go_wp2_with fail
          refine (findCl_ok l[hi] (itmL l[hi] na0 nc0 ka0 kc0) s wr Hx.out).mono ?_
          rintro e w2 ⟨rfl, hg2⟩
          simp only [y1]
          go_wp2_with fail
          go_ret2
          exact ⟨by rw [E1.out, E2'.out]; simp [Hd.out], hgr.trans hg2⟩
        · have y1 : (sgnT l[hi].1 s == 0) = false := by simpa using fun h => hd (sgnT_zero.1 h)
          have Hd := Lib.hid hd
          clear hd
          go_wp2_with fail
          refine (findCl_ok l[hi] (itmL l[hi] na0 nc0 ka0 kc0) s wr Hx.out).mono ?_
          rintro e w2 ⟨rfl, hg2⟩
          go_wp2_with fail
          go_ret2
          exact ⟨by rw [E1.out, E2'.out]; simp [Hd.out], hgr.trans hg2⟩
      · have E3' := Lib.hid (E3.out (by rw [Hln.out]; exact hn))
        go_wp2_with fail
        go_ret2
        exact ⟨by rw [E1.out, E3'.out]; first | rfl | simp, hgr⟩

theorem findItem_ok (l : List Itm) (a : Option Addr) (c : Nat) (s : ByteArray) (w : World) (ha : SlR itmRep w any a c l) (hsort : Asc (nmL l)) (hbig : l.length ≤ 1000000) :
    Calls Try.prog 97 #[.slice a l.length c, .string s] w fun e w' => e = .returned (.tuple #[.int .i64 (lbound (nmL l) s : Nat), .bool (mem (nmL l) s)]) ∧ Grow w w' := by
  go_enter Try.func97, Try.ntmps97
  go_wp2_with fail
  refine (bsF_ok l a c s w ha hsort hbig).mono ?_
  rintro e w2 ⟨rfl, hg2⟩
  go_wp2_with fail
  go_ret2
  exact ⟨by simp, hg2⟩

/-- The index of a name, as the reference looks for it. -/
def fIx (l : List Itm) (s : ByteArray) : Int := if mem (nmL l) s then (lbound (nmL l) s : Nat) else -1
theorem fIx_at {l : List Itm} (ha : Asc (nmL l)) {s : ByteArray} {k : Nat} (h : k < l.length) (he : l[k].1 = s) : fIx l s = k := by
  have hk : k < (nmL l).length := by rw [nmL_len]; exact h
  have hg : (nmL l)[k] = s := by rw [nmL_get]; exact he
  have hm : mem (nmL l) s = true := mem_iff.2 (hg ▸ List.getElem_mem hk)
  unfold fIx
  rw [if_pos hm, lb_of (k := k) (Nat.le_of_lt hk) (fun t ht htk => hg ▸ ha t k ht hk htk) (fun t ht htk => ?_)]
  rcases Nat.eq_or_lt_of_le htk with rfl | h'
  · rw [hg]; exact lt_irr _
  · have := ha k t hk ht h'
    rw [hg] at this
    exact bl_asymm _ _ this
theorem fIx_no {l : List Itm} {s : ByteArray} (h : ∀ k (hk : k < l.length), l[k].1 ≠ s) : fIx l s = -1 := by
  unfold fIx
  rw [mem_no]
  · rfl
  · intro hm
    obtain ⟨i, hi, he⟩ := List.getElem_of_mem hm
    rw [nmL_get] at he
    exact h i (by rw [nmL_len] at hi; exact hi) he

theorem find_ok (s : Sto) (nm : ByteArray) (v : Value) (w : World) (h : RV stoRep packA w any s v) (hasc : Asc (nmL s.1)) :
    Calls Try.prog 99 #[v, .string nm] w fun e w' => e = .returned (.int .i64 (fIx s.1 nm)) ∧ Grow w w' := by
  obtain ⟨a, c, rfl, hs⟩ := sto_open h
  have hbig : s.1.length ≤ 9223372036854775807 := hs.2.1
  have Hs := Lib.hid hs
  have Hasc := Lib.hid hasc
  clear h hs hasc
  unfold stoV
  have HB := Lib.hid (BoxN.new w [.slice a s.1.length c, .int .i64 s.2] 33)
  go_enter Try.func99, Try.ntmps99
  go_wp2_with fail
  go_loopw [4, 5] (fun n i wr => n = .int .i64 0 ∧ Grow w wr ∧ BoxN wr w.heap.size [.slice a s.1.length c, .int .i64 s.2] ∧ ∃ k : Nat, k ≤ s.1.length ∧ i = .int .i64 k ∧ Hid (∀ j (hj : j < s.1.length), j < k → s.1[j].1 ≠ nm)) (fun _ i _ => s.1.length - (intOf i).toNat)
  case atStart => exact ⟨rfl, (by repeat (first | with_reducible exact Ext.refl _ _ | with_reducible refine Ext.trans ?_ (by assumption) | with_reducible refine Ext.drew ?_ | with_reducible refine Ext.drewN ?_ _ | with_reducible refine Ext.alloc ?_ _ | with_reducible refine Ext.setNew ?_ (by simp; done) _ | with_reducible refine Ext.setNew ?_ (by simp; omega) _)), HB.out, 0, Nat.zero_le _, rfl, Lib.hid (fun j hj h => by omega)⟩
  case round =>
    obtain ⟨rfl, hg, hB, k, hk, rfl, Hr⟩ := hrel
    have HB := Lib.hid hB
    have q0 := hB.cell 0 _ rfl
    have q1 := hB.cell 1 _ rfl
    clear hB
    by_cases hlt : k < s.1.length
    · obtain ⟨_, _, hks⟩ := (Hs.out).grow hg
      rcases hks with hks | ⟨bk, ok, rfl, _, hkr⟩
      · simp [hks] at hlt
      obtain ⟨cs, hcs, hx⟩ := hkr k hlt
      obtain ⟨na0, nc0, ka0, kc0, rfl, hsz, h0⟩ := itmRep_open hx
      rw [itmRep_n] at hcs
      have x0 : wr.cell? ⟨bk, ok + k * 7, none⟩ = _ := hcs 0 _ rfl
      clear hkr hcs hx h0
      have hq := beq_toList s.1[k].1 nm
      by_cases hd : s.1[k].1 = nm
      · have hq1 : (s.1[k].1.toList == nm.toList) = true := by rw [hq]; simpa using hd
        have Hd := Lib.hid (fIx_at Hasc.out hlt hd)
        clear hq hd
        go_wp2_with fail
        go_ret
        exact ⟨by simp [Hd.out], hg⟩
      · have hq1 : (s.1[k].1.toList == nm.toList) = false := by rw [hq]; simpa using hd
        have Hd := Lib.hid hd
        clear hq hd
        go_wp2_with fail
        go_roundw
        case rel => exact ⟨rfl, hg, HB.out, k + 1, by omega, by go_num, Lib.hid (fun j hj h => by
          rcases Nat.eq_or_lt_of_le (Nat.le_of_lt_succ h) with rfl | h'
          · exact Hd.out
          · exact Hr.out j hj h')⟩
        case measure => simp [intOf]; omega
    · have Hd := Lib.hid (fIx_no (l := s.1) (s := nm) (fun j hj => Hr.out j hj (by omega)))
      go_wp2_with fail
      go_ret
      exact ⟨by simp [Hd.out], hg⟩

end Go.Proofs.Ytmeobmegnneegaa

/-
  A region that draws its order, makes memory and stores into a box of the call's own.
-/
namespace Go.Proofs.Ytmeobmegnneegaa
open Go Go.RowKit

/-- The world goes on; box b (n cells) may turn, but what K says of it stays once it is true. -/
def RB (b n : Nat) (K : World → Prop) (w w' : World) : Prop := Ext (fun k => k = b) w w' ∧ (RowIn w b n → RowIn w' b n) ∧ (K w → K w')

theorem RB.refl (b n : Nat) (K : World → Prop) (w : World) : RB b n K w w := ⟨Ext.refl _ _, fun h => h, fun h => h⟩
theorem RB.trans {b n : Nat} {K : World → Prop} {a c d : World} (h : RB b n K a c) (k : RB b n K c d) : RB b n K a d := ⟨h.1.trans k.1, fun x => k.2.1 (h.2.1 x), fun x => k.2.2 (h.2.2 x)⟩

/-- Some later world. -/
structure LaterB (b n : Nat) (K : World → Prop) (w : World) : Type where
  at' : World
  rel : RB b n K w at'
def laterB {b n : Nat} {K : World → Prop} (w : World) (x : LaterB b n K w) : World := x.at'
instance laterB_some (b n : Nat) (K : World → Prop) (w : World) : Nonempty (LaterB b n K w) := ⟨⟨w, RB.refl _ _ _ _⟩⟩
theorem laterB_rel {b n : Nat} {K : World → Prop} (w : World) (x : LaterB b n K w) : RB b n K w (laterB w x) := x.rel

@[go_sem] theorem laterB_cell {b n : Nat} {K : World → Prop} (w : World) (x : LaterB b n K w) (a : Addr) (h : (w.cell? a).isSome = true) (hb : ¬ a.block = b) : (laterB w x).cell? a = w.cell? a := by
  obtain ⟨v, hv⟩ := Option.isSome_iff_exists.1 h
  rw [hv]; exact (laterB_rel w x).1.some hv hb

section
variable {P : Program} {ops : Array Oper} {Vs : Nat → Option (Value → World → Prop)} {w : World} {Q : Act → World → Prop} {b n : Nat} {K : World → Prop}

theorem rb_drew {w w' : World} (h : RB b n K w.drew w') (hK : K w → K w.drew) : RB b n K w w' :=
  ⟨((Ext.refl _ w).drew).trans h.1, fun x => h.2.1 ⟨x.1, x.2.1, x.2.2⟩, fun x => h.2.2 (hK x)⟩

theorem stabB_quiet {o : Oper} {rest : List Oper} {k : Nat} {a : Act} {E : Env} (hKd : K w → K w.drew) (he : easy o = true) (hw : Region.wanted o (yielded ops a.tmps) = true) (hV : Vs k = none)
    (h : ∀ J : Act → Prop, (∀ a, wpStab P ops (RB b n K) Vs (fun w' => RB b n K w.drew w') Q rest (k + 1) a E → J a) → o.quiet P a (fun w' => ∃ x : LaterB b n K w, w' = laterB w x) J) :
    wpStab P ops (RB b n K) Vs (fun w' => RB b n K w.drew w') Q (o :: rest) k a E := by
  unfold wpStab
  rw [if_pos hw]
  unfold does
  rw [hV]
  obtain ⟨v, h1, h2⟩ := h _ (fun _ h => h)
  refine ⟨v, fun w' hc => ?_, h2⟩
  have h3 := h1 w' ⟨⟨w', rb_drew hc.1 hKd⟩, rfl⟩
  unfold Oper.quietAt at h3
  unfold valAt
  have hne := noEnter (P := P) he a.eval w'
  generalize (execOp a.eval o).run P w' = r at *
  cases r with
  | ok n' w2 =>
    cases n' <;> simp only [Oper.quietUpon] at h3 <;> simp only [valUpon]
    case value u => exact ⟨h3.2, by rw [h3.1]; exact RB.refl _ _ _ _⟩
    case skip => exact ⟨h3.2, by rw [h3.1]; exact RB.refl _ _ _ _⟩
    case enter f args => exact absurd rfl (hne w2 f args)
  | halt x w2 => simp only [Oper.quietUpon] at h3

/-- An operation that hands back something unseen. -/
theorem stabB_made {o : Oper} {rest : List Oper} {k : Nat} {a : Act} {E : Env} (V : Value → World → Prop) (hKd : K w → K w.drew) (hw : Region.wanted o (yielded ops a.tmps) = true) (hV : Vs k = some V)
    (h : ∀ x : LaterB b n K w, (∀ e ∈ o.after, Region.binds .any e = true → E e.on (laterB w x)) → stabAt (RB b n K) P o a (laterB w x) V)
    (h2 : ∀ v, (∃ x : LaterB b n K w, V v (laterB w x)) → wpStab P ops (RB b n K) Vs (fun w' => RB b n K w.drew w') Q rest (k + 1) (a.put o.dst v) (E.upd k (V v))) :
    wpStab P ops (RB b n K) Vs (fun w' => RB b n K w.drew w') Q (o :: rest) k a E := by
  unfold wpStab
  rw [if_pos hw]
  unfold does
  rw [hV]
  exact ⟨fun w' hc => h ⟨w', rb_drew hc.1 hKd⟩ hc.2, fun v w' hc _ hv => h2 v ⟨⟨w', rb_drew hc hKd⟩, hv⟩⟩

theorem stabB_end {k : Nat} {a : Act} {E : Env} (hKd : K w → K w.drew) (h : ∀ w', RB b n K w w' → (∀ j, E j w') → Q a w') : wpStab P ops (RB b n K) Vs (fun w' => RB b n K w.drew w') Q [] k a E :=
  fun w' hc hE => h w' (rb_drew hc hKd) hE

/-- A call. -/
theorem stabB_call {o : Oper} {a : Act} {w : World} {V : Value → World → Prop} {f : FuncId} {args : Array Value} (hr : (execOp a.eval o).run P w = .ok (.enter f args) w)
    (hK : ∀ w', Grow w w' → K w → K w') (hc : Calls P f args w fun e w' => ∃ v, e = .returned v ∧ Grow w w' ∧ V v w') : stabAt (RB b n K) P o a w V := by
  unfold stabAt
  rw [hr]
  exact ⟨rfl, hc.mono fun e w' ⟨v, he, hg, hv⟩ => ⟨v, he, ⟨hg.mono (fun _ h => False.elim h), fun h => h.ext hg (fun h => h), hK w' hg⟩, hv⟩⟩

/-- An operation that makes memory. -/
theorem stabB_val {o : Oper} {a : Act} {w w' : World} {V : Value → World → Prop} {v : Value} (hr : (execOp a.eval o).run P w = .ok (.value v) w') (hg : Grow w w')
    (hK : K w → K w') (hv : V v w') : stabAt (RB b n K) P o a w V := by
  unfold stabAt
  rw [hr]
  exact ⟨⟨hg.mono (fun _ h => False.elim h), fun h => h.ext hg (fun h => h), hK⟩, hv⟩

/-- The store into the box. -/
theorem stabB_store {o : Oper} {a : Act} {w : World} {V : Value → World → Prop} {vs : List Value} (hr : (execOp a.eval o).run P w = .ok .skip (storeL w b 0 vs))
    (hK : K w → K (storeL w b 0 vs)) (hv : V undef (storeL w b 0 vs)) : stabAt (RB b n K) P o a w V := by
  unfold stabAt
  rw [hr]
  exact ⟨⟨storeL_ext _ _ _ _, fun h => storeL_row _ _ _ h, hK⟩, hv⟩
end

theorem exec_append {P : Program} {o : Oper} {a : Act} {w w' : World} (s x : Operand) (t : TypeId) (ho : o.op = .call { callee := .builtin .append, args := #[s, x], argTypes := #[t, t] }) (v y v' : Value) (hs : a.eval s = v) (hx : a.eval x = y)
    (hr : (Builtin.append_ #[t, t] o.type #[v, y]).run P w = .ok v' w') : (execOp a.eval o).run P w = .ok (.value v') w' := by
  unfold execOp
  simp only [ho, resolve, invoke, builtin, Sem.run_bind, Sem.run_pure, Result.andThen_ok, List.map_toArray, List.map_cons, List.map_nil, hs, hx, hr]

end Go.Proofs.Ytmeobmegnneegaa

/-
  The walks of impl.ValidStore and spec.validStore.
-/
namespace Go.Proofs.Ytmeobmegnneegaa
open Go.RowKit

theorem isLimit_ok (n : Int) (w : World) : Calls Try.prog 94 #[.int .i64 n] w fun e w' => e = .returned (.bool (inR n 1 10)) ∧ w' = w := by
  go_enter Try.func94, Try.ntmps94
  go_wp2
  all_goals (go_ret; exact ⟨by simp [inR] <;> omega, rfl⟩)

theorem bl_ne {a b : ByteArray} (h : lt a b = true) : (a.toList == b.toList) = false := by
  cases h' : a.toList == b.toList
  · rfl
  · have : a.toList = b.toList := by simpa using h'
    unfold lt at h
    rw [this, bl_irrefl] at h; cases h

theorem bl_ne' {a b : ByteArray} (h : lt a b = true) : (b.toList == a.toList) = false := by
  have := bl_ne h
  rw [beq_toList] at this ⊢; simp only [decide_eq_false_iff_not] at this ⊢; exact fun e => this e.symm
theorem not_lt_cases {a b : ByteArray} (h : lt a b = false) : Op.bytesLess b.toList a.toList = true ∨ (Op.bytesLess b.toList a.toList = false ∧ (b.toList == a.toList) = true) := by
  have h3 := bl_tri b.toList a.toList
  unfold lt at h
  rw [h] at h3
  cases h4 : Op.bytesLess b.toList a.toList
  · rw [h4] at h3; exact .inr ⟨rfl, by simpa using h3⟩
  · exact .inl rfl

theorem isName_same (x : ByteArray) (w : World) (hs : x.size ≤ big) : Calls Try.prog 77 #[.string x] w fun e w' => e = .returned (.bool (nameB x)) ∧ w' = w :=
  (isName_ok x w hs).mono fun _ _ ⟨h1, h2⟩ => ⟨h1, h2.symm⟩

set_option maxHeartbeats 4000000 in
theorem ValidStore_ok (s : Sto) (v : Value) (w : World) (h : RV stoRep packA w any s v) :
    Calls Try.prog 42 #[v] w fun e w' => e = .returned (.bool (storeB s)) ∧ Grow w w' := by
  obtain ⟨a, c, rfl, hs⟩ := sto_open h
  have hbig : s.1.length ≤ 9223372036854775807 := hs.2.1
  have Hs := Lib.hid hs
  clear h hs
  unfold stoV
  by_cases hbad : 10 < s.1.length ∨ s.2 < 0 ∨ 999 < s.2
  · have Hb : Hid (storeB s = false) := Lib.hid (by simp only [storeB, inR, Bool.and_eq_false_iff, decide_eq_false_iff_not]; omega)
    rcases hbad with hb | hb | hb
    · go_enter Try.func42, Try.ntmps42
      go_wp2_with fail
      go_ret
      exact ⟨by simp [Hb.out], (by repeat (first | with_reducible exact Ext.refl _ _ | with_reducible refine Ext.trans ?_ (by assumption) | with_reducible refine Ext.drew ?_ | with_reducible refine Ext.drewN ?_ _ | with_reducible refine Ext.alloc ?_ _ | with_reducible refine Ext.setNew ?_ (by simp; done) _ | with_reducible refine Ext.setNew ?_ (by simp; omega) _))⟩
    · by_cases hl : 10 < s.1.length
      all_goals
        go_enter Try.func42, Try.ntmps42
        go_wp2_with fail
        go_ret
        exact ⟨by simp [Hb.out], (by repeat (first | with_reducible exact Ext.refl _ _ | with_reducible refine Ext.trans ?_ (by assumption) | with_reducible refine Ext.drew ?_ | with_reducible refine Ext.drewN ?_ _ | with_reducible refine Ext.alloc ?_ _ | with_reducible refine Ext.setNew ?_ (by simp; done) _ | with_reducible refine Ext.setNew ?_ (by simp; omega) _))⟩
    · by_cases hl : 10 < s.1.length
      · go_enter Try.func42, Try.ntmps42
        go_wp2_with fail
        go_ret
        exact ⟨by simp [Hb.out], (by repeat (first | with_reducible exact Ext.refl _ _ | with_reducible refine Ext.trans ?_ (by assumption) | with_reducible refine Ext.drew ?_ | with_reducible refine Ext.drewN ?_ _ | with_reducible refine Ext.alloc ?_ _ | with_reducible refine Ext.setNew ?_ (by simp; done) _ | with_reducible refine Ext.setNew ?_ (by simp; omega) _))⟩
      · have h0 : 0 ≤ s.2 := by omega
        go_enter Try.func42, Try.ntmps42
        go_wp2_with fail
        go_ret
        exact ⟨by simp [Hb.out], (by repeat (first | with_reducible exact Ext.refl _ _ | with_reducible refine Ext.trans ?_ (by assumption) | with_reducible refine Ext.drew ?_ | with_reducible refine Ext.drewN ?_ _ | with_reducible refine Ext.alloc ?_ _ | with_reducible refine Ext.setNew ?_ (by simp; done) _ | with_reducible refine Ext.setNew ?_ (by simp; omega) _))⟩
  have hl : s.1.length ≤ 10 := by omega
  have h0 : 0 ≤ s.2 := by omega
  have h9 : s.2 ≤ 999 := by omega
  have Hb : Hid (storeB s = itmsB s.2 s.1) := Lib.hid (by simp [storeB, inR, hl, h0, h9])
  clear hbad
  have HB := Lib.hid (BoxN.new w [.slice a s.1.length c, .int .i64 s.2] 33)
  go_enter Try.func42, Try.ntmps42
  go_wp2_with fail
  go_loopw [2, 3, 4, 22] (fun n _ _ i wr => n = .bool false ∧ Grow w wr ∧ BoxN wr w.heap.size [.slice a s.1.length c, .int .i64 s.2] ∧ ∃ k : Nat, k ≤ s.1.length ∧ i = .int .i64 k ∧ Hid (itmsB s.2 s.1 = itmsAt s.2 s.1 k)) (fun _ _ _ i _ => s.1.length - (intOf i).toNat)
  case atStart => exact ⟨rfl, (by repeat (first | with_reducible exact Ext.refl _ _ | with_reducible refine Ext.trans ?_ (by assumption) | with_reducible refine Ext.drew ?_ | with_reducible refine Ext.drewN ?_ _ | with_reducible refine Ext.alloc ?_ _ | with_reducible refine Ext.setNew ?_ (by simp; done) _ | with_reducible refine Ext.setNew ?_ (by simp; omega) _)), HB.out, 0, Nat.zero_le _, rfl, Lib.hid (itmsAt_zero _ _).symm⟩
  case round =>
    obtain ⟨rfl, hg, hB, k, hk, rfl, Hr⟩ := hrel
    have HB := Lib.hid hB
    have zB := hB.lt
    clear hB
    by_cases hlt : k < s.1.length
    · obtain ⟨_, _, hks⟩ := (Hs.out).grow hg
      rcases hks with hks | ⟨bk, ok, rfl, _, hkr⟩
      · simp [hks] at hlt
      obtain ⟨cs, hcs, hx⟩ := hkr k hlt
      obtain ⟨na0, nc0, ka0, kc0, rfl, hsz, h0⟩ := itmRep_open hx
      rw [itmRep_n] at hcs
      have x0 : wr.cell? ⟨bk, ok + k * 7, none⟩ = _ := hcs 0 _ rfl
      have x1 := hcs 1 _ rfl
      have x2 := hcs 2 _ rfl
      have x3 := hcs 3 _ rfl
      have x4 := hcs 4 _ rfl
      have x5 := hcs 5 _ rfl
      have x6 := hcs 6 _ rfl
      have zb : bk < wr.heap.size := lt_of_cell x0
      have H0 := Lib.hid h0
      have q0 := HB.out.cell 0 _ rfl
      have q1 := HB.out.cell 1 _ rfl
      have prev : ∀ h0 : 0 < k, wr.cell? ⟨bk, ok + (k - 1) * 7, none⟩ = some (.string (s.1[k - 1]'(by omega)).1) := fun h0 => by
        obtain ⟨cs', hcs', hx'⟩ := hkr (k - 1) (by omega)
        obtain ⟨_, _, _, _, rfl, _, _⟩ := itmRep_open hx'
        rw [itmRep_n] at hcs'
        exact hcs' 0 _ rfl
      have Prev := Lib.hid prev
      clear hkr hcs hx h0 prev
      have hg1 : ∀ o : Obj, Grow w (wr.alloc o) := fun o => hg.alloc o
      by_cases hbad : nameB s.1[k].1 = false ∨ (0 < k ∧ lt (s.1[k - 1]'(by omega)).1 s.1[k].1 = false)
      · have Hs : Hid (itmsAt s.2 s.1 k = false) := Lib.hid (itmsAt_bad hlt (hbad.imp (fun h => by unfold itmB; rw [h]; rfl) id))
        by_cases hn : nameB s.1[k].1 = false
        · have Hn := Lib.hid hn
          clear hn hbad
          go_wp2_with fail
          go_quiet ((go_at_call 77; exact Calls.quiet_of_same (by simpa only [Hn.out] using isName_same s.1[k].1 _ hsz)))
          go_wp2_with fail
          go_ret
          exact ⟨by simp [Hb.out, Hr.out, Hs.out], (by repeat (first | with_reducible exact Ext.refl _ _ | with_reducible refine Ext.trans ?_ (by assumption) | with_reducible refine Ext.drew ?_ | with_reducible refine Ext.drewN ?_ _ | with_reducible refine Ext.alloc ?_ _ | with_reducible refine Ext.setNew ?_ (by simp; done) _ | with_reducible refine Ext.setNew ?_ (by simp; omega) _))⟩
        · have hn : nameB s.1[k].1 = true := by simpa using hn
          obtain ⟨hk0, hlt'⟩ := hbad.resolve_left (by simp [hn])
          have Hn := Lib.hid hn
          have hki : (0 : Int) < (k : Int) := by omega
          have y0 := Prev.out hk0
          have k1 : ((k : Int) - 1).toNat = k - 1 := by omega
          have k2 : (0 : Int) ≤ (k : Int) - 1 := by omega
          have k3 : (k : Int) - 1 < (s.1.length : Int) := by omega
          clear hn
          rcases bl_cases (s.1[k - 1]'(by omega)).1 s.1[k].1 with ⟨l1, l2, l3, l4, _⟩ | ⟨l1, l2, l3, l4, _⟩ | l0
          · have := hlt'.symm.trans l1; cases this
          · clear hlt'
            go_wp2_with fail
            go_quiet ((go_at_call 77; exact Calls.quiet_of_same (by simpa only [Hn.out] using isName_same s.1[k].1 _ hsz)))
            go_wp2_with fail
            go_ret
            exact ⟨by simp [Hb.out, Hr.out, Hs.out], (by repeat (first | with_reducible exact Ext.refl _ _ | with_reducible refine Ext.trans ?_ (by assumption) | with_reducible refine Ext.drew ?_ | with_reducible refine Ext.drewN ?_ _ | with_reducible refine Ext.alloc ?_ _ | with_reducible refine Ext.setNew ?_ (by simp; done) _ | with_reducible refine Ext.setNew ?_ (by simp; omega) _))⟩
          · rw [l0] at y0
            clear l0 hlt'
            have l1 := blF_irrefl s.1[k].1
            go_wp2_with fail
            go_quiet ((go_at_call 77; exact Calls.quiet_of_same (by simpa only [Hn.out] using isName_same s.1[k].1 _ hsz)))
            go_wp2_with fail
            go_ret
            exact ⟨by simp [Hb.out, Hr.out, Hs.out], (by repeat (first | with_reducible exact Ext.refl _ _ | with_reducible refine Ext.trans ?_ (by assumption) | with_reducible refine Ext.drew ?_ | with_reducible refine Ext.drewN ?_ _ | with_reducible refine Ext.alloc ?_ _ | with_reducible refine Ext.setNew ?_ (by simp; done) _ | with_reducible refine Ext.setNew ?_ (by simp; omega) _))⟩
      · have hn : nameB s.1[k].1 = true := by
          cases h : nameB s.1[k].1
          · exact absurd (.inl h) hbad
          · rfl
        have hord : ∀ h0 : 0 < k, lt (s.1[k - 1]'(by omega)).1 s.1[k].1 = true := fun h0 => by
          cases h : lt (s.1[k - 1]'(by omega)).1 s.1[k].1
          · exact absurd (.inr ⟨h0, h⟩) hbad
          · rfl
        have Hn := Lib.hid hn
        have Hord := Lib.hid hord
        have fin : ∀ (wz : World), Hid (itmB s.2 s.1[k] = (inR s.1[k].2.1 1 s.2 && validB s.1[k].2.2)) := fun _ => Lib.hid (by unfold itmB; rw [hn]; rfl)
        have Hi := fin w
        clear hbad hn hord fin
        by_cases hk0 : 0 < k
        · have hki : (0 : Int) < (k : Int) := by omega
          have y0 := Prev.out hk0
          have k1 : ((k : Int) - 1).toNat = k - 1 := by omega
          have k2 : (0 : Int) ≤ (k : Int) - 1 := by omega
          have k3 : (k : Int) - 1 < (s.1.length : Int) := by omega
          have l1 : lt (s.1[k - 1]'(by omega)).1 s.1[k].1 = true := Hord.out hk0
          have l2 : Op.bytesLess s.1[k].1.toList (s.1[k - 1]'(by omega)).1.toList = false := bl_asymm _ _ l1
          have l3 : ((s.1[k - 1]'(by omega)).1.toList == s.1[k].1.toList) = false := bl_ne l1
          go_wp2_with fail
          go_quiet ((go_at_call 77; exact Calls.quiet_of_same (by simpa only [Hn.out] using isName_same s.1[k].1 _ hsz)))
          by_cases hv1 : s.1[k].2.1 < 1
          · have Hs : Hid (itmsAt s.2 s.1 k = false) := Lib.hid (itmsAt_bad hlt (.inl (by rw [Hi.out]; simp [inR]; omega)))
            go_wp2_with fail
            go_ret
            exact ⟨by simp [Hb.out, Hr.out, Hs.out], (by repeat (first | with_reducible exact Ext.refl _ _ | with_reducible refine Ext.trans ?_ (by assumption) | with_reducible refine Ext.drew ?_ | with_reducible refine Ext.drewN ?_ _ | with_reducible refine Ext.alloc ?_ _ | with_reducible refine Ext.setNew ?_ (by simp; done) _ | with_reducible refine Ext.setNew ?_ (by simp; omega) _))⟩
          by_cases hv2 : s.2 < s.1[k].2.1
          · have Hs : Hid (itmsAt s.2 s.1 k = false) := Lib.hid (itmsAt_bad hlt (.inl (by rw [Hi.out]; simp [inR]; omega)))
            go_wp2_with fail
            go_ret
            exact ⟨by simp [Hb.out, Hr.out, Hs.out], (by repeat (first | with_reducible exact Ext.refl _ _ | with_reducible refine Ext.trans ?_ (by assumption) | with_reducible refine Ext.drew ?_ | with_reducible refine Ext.drewN ?_ _ | with_reducible refine Ext.alloc ?_ _ | with_reducible refine Ext.setNew ?_ (by simp; done) _ | with_reducible refine Ext.setNew ?_ (by simp; omega) _))⟩
          cases hvb : validB s.1[k].2.2
          · have Hs : Hid (itmsAt s.2 s.1 k = false) := Lib.hid (itmsAt_bad hlt (.inl (by rw [Hi.out, hvb]; simp)))
            have Hv := Lib.hid hvb
            clear hvb
            go_wp2_with fail
            refine (ValidNode_ok s.1[k].2.2 _ _ ⟨_, _, _, _, rfl, H0.out.grow' (by repeat (first | with_reducible exact Ext.refl _ _ | with_reducible refine Ext.trans ?_ (by assumption) | with_reducible refine Ext.drew ?_ | with_reducible refine Ext.drewN ?_ _ | with_reducible refine Ext.alloc ?_ _ | with_reducible refine Ext.setNew ?_ (by simp; done) _ | with_reducible refine Ext.setNew ?_ (by simp; omega) _))⟩).mono ?_
            rintro e w3 ⟨rfl, hg3⟩
            simp only [Hv.out]
            go_wp2_with fail
            go_ret
            exact ⟨by simp [Hb.out, Hr.out, Hs.out], (by repeat (first | with_reducible exact Ext.refl _ _ | with_reducible refine Ext.trans ?_ (by assumption) | with_reducible refine Ext.drew ?_ | with_reducible refine Ext.drewN ?_ _ | with_reducible refine Ext.alloc ?_ _ | with_reducible refine Ext.setNew ?_ (by simp; done) _ | with_reducible refine Ext.setNew ?_ (by simp; omega) _))⟩
          · have Hs : Hid (itmsAt s.2 s.1 k = itmsAt s.2 s.1 (k + 1)) := Lib.hid (itmsAt_good hlt (by rw [Hi.out, hvb]; simp [inR]; omega) Hord.out)
            have Hv := Lib.hid hvb
            clear hvb
            go_wp2_with fail
            refine (ValidNode_ok s.1[k].2.2 _ _ ⟨_, _, _, _, rfl, H0.out.grow' (by repeat (first | with_reducible exact Ext.refl _ _ | with_reducible refine Ext.trans ?_ (by assumption) | with_reducible refine Ext.drew ?_ | with_reducible refine Ext.drewN ?_ _ | with_reducible refine Ext.alloc ?_ _ | with_reducible refine Ext.setNew ?_ (by simp; done) _ | with_reducible refine Ext.setNew ?_ (by simp; omega) _))⟩).mono ?_
            rintro e w3 ⟨rfl, hg3⟩
            simp only [Hv.out]
            have hgr : Grow wr w3 := (by repeat (first | with_reducible exact Ext.refl _ _ | with_reducible refine Ext.trans ?_ (by assumption) | with_reducible refine Ext.drew ?_ | with_reducible refine Ext.drewN ?_ _ | with_reducible refine Ext.alloc ?_ _ | with_reducible refine Ext.setNew ?_ (by simp; done) _ | with_reducible refine Ext.setNew ?_ (by simp; omega) _))
            go_wp2_with fail
            go_roundw
            case rel => exact ⟨rfl, hg.trans hgr, HB.out.grow hgr, k + 1, by omega, by go_num, Lib.hid (by rw [Hr.out, Hs.out])⟩
            case measure => simp [intOf]; omega
        · have hki : ¬ (0 : Int) < (k : Int) := by omega
          go_wp2_with fail
          go_quiet ((go_at_call 77; exact Calls.quiet_of_same (by simpa only [Hn.out] using isName_same s.1[k].1 _ hsz)))
          by_cases hv1 : s.1[k].2.1 < 1
          · have Hs : Hid (itmsAt s.2 s.1 k = false) := Lib.hid (itmsAt_bad hlt (.inl (by rw [Hi.out]; simp [inR]; omega)))
            go_wp2_with fail
            go_ret
            exact ⟨by simp [Hb.out, Hr.out, Hs.out], (by repeat (first | with_reducible exact Ext.refl _ _ | with_reducible refine Ext.trans ?_ (by assumption) | with_reducible refine Ext.drew ?_ | with_reducible refine Ext.drewN ?_ _ | with_reducible refine Ext.alloc ?_ _ | with_reducible refine Ext.setNew ?_ (by simp; done) _ | with_reducible refine Ext.setNew ?_ (by simp; omega) _))⟩
          by_cases hv2 : s.2 < s.1[k].2.1
          · have Hs : Hid (itmsAt s.2 s.1 k = false) := Lib.hid (itmsAt_bad hlt (.inl (by rw [Hi.out]; simp [inR]; omega)))
            go_wp2_with fail
            go_ret
            exact ⟨by simp [Hb.out, Hr.out, Hs.out], (by repeat (first | with_reducible exact Ext.refl _ _ | with_reducible refine Ext.trans ?_ (by assumption) | with_reducible refine Ext.drew ?_ | with_reducible refine Ext.drewN ?_ _ | with_reducible refine Ext.alloc ?_ _ | with_reducible refine Ext.setNew ?_ (by simp; done) _ | with_reducible refine Ext.setNew ?_ (by simp; omega) _))⟩
          cases hvb : validB s.1[k].2.2
          · have Hs : Hid (itmsAt s.2 s.1 k = false) := Lib.hid (itmsAt_bad hlt (.inl (by rw [Hi.out, hvb]; simp)))
            have Hv := Lib.hid hvb
            clear hvb
            go_wp2_with fail
            refine (ValidNode_ok s.1[k].2.2 _ _ ⟨_, _, _, _, rfl, H0.out.grow' (by repeat (first | with_reducible exact Ext.refl _ _ | with_reducible refine Ext.trans ?_ (by assumption) | with_reducible refine Ext.drew ?_ | with_reducible refine Ext.drewN ?_ _ | with_reducible refine Ext.alloc ?_ _ | with_reducible refine Ext.setNew ?_ (by simp; done) _ | with_reducible refine Ext.setNew ?_ (by simp; omega) _))⟩).mono ?_
            rintro e w3 ⟨rfl, hg3⟩
            simp only [Hv.out]
            go_wp2_with fail
            go_ret
            exact ⟨by simp [Hb.out, Hr.out, Hs.out], (by repeat (first | with_reducible exact Ext.refl _ _ | with_reducible refine Ext.trans ?_ (by assumption) | with_reducible refine Ext.drew ?_ | with_reducible refine Ext.drewN ?_ _ | with_reducible refine Ext.alloc ?_ _ | with_reducible refine Ext.setNew ?_ (by simp; done) _ | with_reducible refine Ext.setNew ?_ (by simp; omega) _))⟩
          · have Hs : Hid (itmsAt s.2 s.1 k = itmsAt s.2 s.1 (k + 1)) := Lib.hid (itmsAt_good hlt (by rw [Hi.out, hvb]; simp [inR]; omega) Hord.out)
            have Hv := Lib.hid hvb
            clear hvb
            go_wp2_with fail
            refine (ValidNode_ok s.1[k].2.2 _ _ ⟨_, _, _, _, rfl, H0.out.grow' (by repeat (first | with_reducible exact Ext.refl _ _ | with_reducible refine Ext.trans ?_ (by assumption) | with_reducible refine Ext.drew ?_ | with_reducible refine Ext.drewN ?_ _ | with_reducible refine Ext.alloc ?_ _ | with_reducible refine Ext.setNew ?_ (by simp; done) _ | with_reducible refine Ext.setNew ?_ (by simp; omega) _))⟩).mono ?_
            rintro e w3 ⟨rfl, hg3⟩
            simp only [Hv.out]
            have hgr : Grow wr w3 := (by repeat (first | with_reducible exact Ext.refl _ _ | with_reducible refine Ext.trans ?_ (by assumption) | with_reducible refine Ext.drew ?_ | with_reducible refine Ext.drewN ?_ _ | with_reducible refine Ext.alloc ?_ _ | with_reducible refine Ext.setNew ?_ (by simp; done) _ | with_reducible refine Ext.setNew ?_ (by simp; omega) _))
            go_wp2_with fail
            go_roundw
            case rel => exact ⟨rfl, hg.trans hgr, HB.out.grow hgr, k + 1, by omega, by go_num, Lib.hid (by rw [Hr.out, Hs.out])⟩
            case measure => simp [intOf]; omega
    · have He := Lib.hid (itmsAt_end s.2 s.1 k hlt)
      go_wp2_with fail
      go_ret
      exact ⟨by simp [Hb.out, Hr.out, He.out], hg⟩

end Go.Proofs.Ytmeobmegnneegaa
