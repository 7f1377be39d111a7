/-
  Texts of this claim, joined: EntLaw, EntMark, Entries, Compare, CompareW, CompareS, FRange, MarkB, Uni, ItmLaw, ItmTo, Rules, Sto, StabB, StoV, StoVS, Page, PageS, Paths, Row.
-/
import Derived.Lib.Bytealg
import Derived.Test.YtmeobmegnneegaaApB

/-
  The walks of the laws' helpers on Entry: sizes, copies, comparisons with themselves. (Printed by wip/gentypes.py.)
-/
namespace Go.Proofs.Ytmeobmegnneegaa
open Go.RowKit

abbrev Ent := Nd × ByteArray
def entRep : Rep Ent := pairRep nodeRep (strRep)
theorem entRep_n : entRep.n = 6 := rfl
def entL (x : Ent) (na0 : Option Addr) (nc0 : Nat) (ka0 : Option Addr) (kc0 : Nat) : List Value := [.int .i64 x.1.kind, .int .i64 x.1.num, .string x.1.text, .slice na0 x.1.names.length nc0, .slice ka0 x.1.kids.length kc0, .string x.2]
def costEnt (x : Ent) : Nat := costN x.1 + x.2.size
def costEntL (l : List Ent) : Nat := l.length + (l.map costEnt).sum
def sumEnt (l : List Ent) : Nat := (l.map costEnt).sum
theorem sumEnt_snoc (l : List Ent) (x : Ent) : sumEnt (l ++ [x]) = sumEnt l + costEnt x := by simp [sumEnt]
theorem sumEnt_take (l : List Ent) (k : Nat) : sumEnt (l.take k) ≤ sumEnt l := by
  unfold sumEnt; rw [List.map_take]; exact sum_take_le _ _
theorem costEnt_get (l : List Ent) (k : Nat) (h : k < l.length) : costEnt l[k] ≤ costEntL l := by
  have := sumEnt_take l (k + 1)
  rw [take_snoc' _ _ h, sumEnt_snoc] at this
  unfold costEntL; unfold sumEnt at *; omega

theorem entRep_open {w : World} {S : Nat → Prop} {x : Ent} {cs : List Value} (h : entRep.R w S x cs) : ∃ (na0 : Option Addr) (nc0 : Nat) (ka0 : Option Addr) (kc0 : Nat), cs = entL x na0 nc0 ka0 kc0 ∧ NodeC w S x.1 na0 nc0 ka0 kc0 ∧ x.2.size ≤ big := by
  obtain ⟨_, _, rfl, ⟨na0, nc0, ka0, kc0, rfl, h0⟩, ⟨rfl, h1⟩⟩ := h
  exact ⟨na0, nc0, ka0, kc0, rfl, h0, h1⟩

theorem entRep_openF {w : World} {x : Ent} {cs : List Value} {fp : List Nat} (h : entRep.F w x cs fp) : ∃ (na0 : Option Addr) (nc0 : Nat) (ka0 : Option Addr) (kc0 : Nat), cs = entL x na0 nc0 ka0 kc0 ∧ True ∧ x.2.size ≤ big := by
  obtain ⟨_, _, _, _, rfl, _, ⟨na0, nc0, ka0, kc0, rfl, h0⟩, ⟨rfl, h1, _⟩⟩ := h
  exact ⟨na0, nc0, ka0, kc0, rfl, trivial, h1⟩

end Go.Proofs.Ytmeobmegnneegaa

/-
  The walk of markEntryS. (Printed by wip/genmark.py.)
-/
namespace Go.Proofs.Ytmeobmegnneegaa
open Go.RowKit

def cntEnt (x : Ent) : Nat := cntK x.1 + 1
def mkEnt (k : Nat) (x : Ent) : Ent := (mkK (k) x.1, mtxt (k + cntK x.1))

end Go.Proofs.Ytmeobmegnneegaa

/-
  The walks of impl.areEntries and spec.validEntries.
-/
namespace Go.Proofs.Ytmeobmegnneegaa
open Go.RowKit

def entsV (l : List Ent) : Bool := l.all (fun e => validB e.1)
def entsB (l : List Ent) : Bool := decide (l.length ≤ 10) && entsV l
theorem entsV_drop (l : List Ent) (k : Nat) (h : k < l.length) : entsV (l.drop k) = (validB l[k].1 && entsV (l.drop (k + 1))) := by
  unfold entsV; rw [drop_cons _ _ h, List.all_cons]
theorem entsV_end (l : List Ent) (k : Nat) (h : ¬ k < l.length) : entsV (l.drop k) = true := by
  rw [List.drop_eq_nil_of_le (Nat.le_of_not_lt h)]; rfl

end Go.Proofs.Ytmeobmegnneegaa

/-
  The order of nodes: the plain law and the walks of impl.compareValid and spec.compare.
-/
namespace Go.Proofs.Ytmeobmegnneegaa
open Go.RowKit

def sgnI (a b : Int) : Int := if a < b then -1 else if b < a then 1 else 0
def sgnT (a b : ByteArray) : Int := if lt a b then -1 else if lt b a then 1 else 0

theorem sgnI_refl (a : Int) : sgnI a a = 0 := by simp [sgnI]
theorem sgnI_zero {a b : Int} : sgnI a b = 0 ↔ a = b := by
  unfold sgnI
  by_cases h1 : a < b
  · simp [h1]; omega
  · by_cases h2 : b < a
    · simp [h1, h2]; omega
    · simp [h1, h2]; omega
theorem sgnT_refl (a : ByteArray) : sgnT a a = 0 := by simp [sgnT, lt_irr]
theorem sgnT_zero {a b : ByteArray} : sgnT a b = 0 ↔ a = b := by
  rcases bl_cases a b with ⟨h1, h2, _, _, h3⟩ | ⟨h1, h2, _, _, h3⟩ | h
  · simp [sgnT, lt, h1, h3]
  · simp [sgnT, lt, h1, h2, h3]
  · subst h; simp [sgnT_refl]

theorem compareBytes_bl : ∀ a b : List UInt8, Lib.compareBytes a b = if Op.bytesLess a b then -1 else if Op.bytesLess b a then 1 else 0
  | [], [] => rfl
  | [], _ :: _ => rfl
  | _ :: _, [] => rfl
  | x :: a, y :: b => by
    have ih := compareBytes_bl a b
    simp only [Lib.compareBytes, Op.bytesLess]
    rcases (show x.toNat < y.toNat ∨ x.toNat = y.toNat ∨ y.toNat < x.toNat from by omega) with h | h | h
    · have h1 : x < y := UInt8.lt_iff_toNat_lt.2 h
      simp [h1]
    · have h3 : x = y := UInt8.toNat_inj.1 h
      subst h3
      have h1 : ¬ x < x := fun h' => by have := UInt8.lt_iff_toNat_lt.1 h'; omega
      simp [h1, ih]
    · have h1 : y < x := UInt8.lt_iff_toNat_lt.2 h
      have h2 : ¬ x < y := fun h' => by have := UInt8.lt_iff_toNat_lt.1 h'; omega
      have h3 : ¬ x = y := fun e => by subst e; omega
      simp [h1, h2, h3]

theorem run_cmpstring (a b : ByteArray) (w : World) :
    (callFunc 140 #[.string a, .string b]).run Try.prog w = .ok (.value (.int .i64 (sgnT a b))) w := by
  rw [run_callFunc_extern (P := Try.prog) (f := 140) (fn := Try.f140) (e := Extern.BytealgCompare.compare) (by kernel_rfl) (by kernel_rfl) (by kernel_rfl) (by kernel_rfl) (by kernel_rfl)]
  rw [Lib.run_compareString, compareBytes_bl]
  simp only [← ByteArray.toList_eq]
  rfl

theorem stringsCompare_ok (a b : ByteArray) (w : World) : Calls Try.prog 125 #[.string a, .string b] w fun e w' => e = .returned (.int .i64 (sgnT a b)) ∧ w' = w := by
  have hx := run_cmpstring a b w
  have h2 : Calls Try.prog 134 #[.string a, .string b] w fun e w' => e = .returned (.int .i64 (sgnT a b)) ∧ w' = w := by
    go_enter Try.func134, Try.ntmps134
    go_wp2
    go_ret
    exact ⟨by simp, rfl⟩
  clear hx
  go_enter Try.func125, Try.ntmps125
  go_wp2_with fail
  refine h2.mono ?_
  rintro e w' ⟨rfl, rfl⟩
  go_wp2_with fail
  go_ret
  exact ⟨by simp, rfl⟩

end Go.Proofs.Ytmeobmegnneegaa

/-
  The order of nodes, and the walks of impl.compareValid and spec.compare.
-/
namespace Go.Proofs.Ytmeobmegnneegaa
open Go.RowKit

mutual
/-- The order of nodes. -/
def cmpN : Nd → Nd → Int
  | ⟨kind, num, text, names, kids⟩, b =>
    if sgnI kind b.kind ≠ 0 then sgnI kind b.kind else if sgnI num b.num ≠ 0 then sgnI num b.num else if sgnT text b.text ≠ 0 then sgnT text b.text
    else cmpKs (decide (kind = 4)) names b.names kids b.kids
def cmpKs : Bool → List ByteArray → List ByteArray → List Nd → List Nd → Int
  | m, ns, ms, k :: ks, j :: js =>
    if m = true ∧ sgnT (ns.headD ⟨#[]⟩) (ms.headD ⟨#[]⟩) ≠ 0 then sgnT (ns.headD ⟨#[]⟩) (ms.headD ⟨#[]⟩) else if cmpN k j ≠ 0 then cmpN k j else cmpKs m ns.tail ms.tail ks js
  | _, _, _, [], js => sgnI 0 js.length
  | _, _, _, ks, [] => sgnI ks.length 0
end

theorem cmpN_eq (a b : Nd) : cmpN a b = if sgnI a.kind b.kind ≠ 0 then sgnI a.kind b.kind else if sgnI a.num b.num ≠ 0 then sgnI a.num b.num else if sgnT a.text b.text ≠ 0 then sgnT a.text b.text
    else cmpKs (decide (a.kind = 4)) a.names b.names a.kids b.kids := by cases a; simp [cmpN]

theorem headD_drop (l : List ByteArray) (k : Nat) (h : k < l.length) (d : ByteArray) : (l.drop k).headD d = l[k] := by
  rw [drop_cons _ _ h]; rfl
theorem cmpKs_map {ns ms : List ByteArray} {ks js : List Nd} {k : Nat} (h1 : k < ks.length) (h2 : k < js.length) (h3 : k < ns.length) (h4 : k < ms.length) :
    cmpKs true (ns.drop k) (ms.drop k) (ks.drop k) (js.drop k) = if sgnT ns[k] ms[k] ≠ 0 then sgnT ns[k] ms[k] else if cmpN ks[k] js[k] ≠ 0 then cmpN ks[k] js[k] else cmpKs true (ns.drop (k + 1)) (ms.drop (k + 1)) (ks.drop (k + 1)) (js.drop (k + 1)) := by
  rw [drop_cons _ _ h1, drop_cons _ _ h2, cmpKs, headD_drop _ _ h3, headD_drop _ _ h4]
  simp [List.tail_drop]
theorem cmpKs_list {ns ms : List ByteArray} {ks js : List Nd} {k : Nat} (h1 : k < ks.length) (h2 : k < js.length) :
    cmpKs false (ns.drop k) (ms.drop k) (ks.drop k) (js.drop k) = if cmpN ks[k] js[k] ≠ 0 then cmpN ks[k] js[k] else cmpKs false (ns.drop (k + 1)) (ms.drop (k + 1)) (ks.drop (k + 1)) (js.drop (k + 1)) := by
  rw [drop_cons _ _ h1, drop_cons _ _ h2, cmpKs]
  simp [List.tail_drop]
theorem cmpKs_end (m : Bool) (ns ms : List ByteArray) (ks js : List Nd) (k : Nat) (hk1 : k ≤ ks.length) (hk2 : k ≤ js.length) (h : ¬ (k < ks.length ∧ k < js.length)) :
    cmpKs m (ns.drop k) (ms.drop k) (ks.drop k) (js.drop k) = sgnI ks.length js.length := by
  by_cases h1 : k < ks.length
  · have h2 : k = js.length := by omega
    have e : js.drop k = [] := List.drop_eq_nil_of_le (by omega)
    rw [drop_cons _ _ h1, e, cmpKs]
    · simp only [List.length_cons, List.length_drop, sgnI]
      rw [if_neg (by omega), if_pos (by omega), if_neg (by omega), if_pos (by omega)]
    · intro h; simp at h; omega
  · have h2 : k = ks.length := by omega
    have e : ks.drop k = [] := List.drop_eq_nil_of_le (by omega)
    rw [e, cmpKs]
    simp only [List.length_drop, sgnI]
    by_cases h3 : k < js.length
    · rw [if_pos (by omega), if_pos (by omega)]
    · rw [if_neg (by omega), if_neg (by omega), if_neg (by omega), if_neg (by omega)]

theorem bne0 {c : Int} (h : c = 0) : (c != 0) = false := by simp [h]
theorem bne1 {c : Int} (h : ¬ c = 0) : (c != 0) = true := by simp [h]

end Go.Proofs.Ytmeobmegnneegaa

/-
  The walk of spec.compare.
-/
namespace Go.Proofs.Ytmeobmegnneegaa
open Go.RowKit

end Go.Proofs.Ytmeobmegnneegaa

/-
  The walks of impl.FindRange and spec.FindRange.
-/
namespace Go.Proofs.Ytmeobmegnneegaa
open Go.RowKit

def frB (lo hi : Nd) (e : Ent) : Bool := decide (cmpN lo e.1 ≤ 0) && decide (cmpN e.1 hi ≤ 0)
def frL (lo hi : Nd) (l : List Ent) : List ByteArray := (l.filter (frB lo hi)).map (·.2)
def frS (lo hi : Nd) (l : List Ent) : List ByteArray := if entsB l && validB lo && validB hi then frL lo hi l else []
theorem frL_yes {lo hi : Nd} {l : List Ent} {k : Nat} (h : k < l.length) (hb : frB lo hi l[k] = true) : frL lo hi (l.take (k + 1)) = frL lo hi (l.take k) ++ [l[k].2] := by
  unfold frL; rw [take_snoc' _ _ h, List.filter_append]; simp [hb]
theorem frL_no {lo hi : Nd} {l : List Ent} {k : Nat} (h : k < l.length) (hb : frB lo hi l[k] = false) : frL lo hi (l.take (k + 1)) = frL lo hi (l.take k) := by
  unfold frL; rw [take_snoc' _ _ h, List.filter_append]; simp [hb]
theorem frL_len (lo hi : Nd) (l : List Ent) (k : Nat) : (frL lo hi (l.take k)).length ≤ k := by
  unfold frL
  rw [List.length_map]
  exact Nat.le_trans (List.length_filter_le _ _) (by simp; omega)
theorem frL_mem {lo hi : Nd} {l : List Ent} {x : ByteArray} (h : x ∈ frL lo hi l) : ∃ e ∈ l, x = e.2 := by
  unfold frL at h
  obtain ⟨e, he, rfl⟩ := List.mem_map.1 h
  exact ⟨e, (List.mem_filter.1 he).1, rfl⟩
theorem entsB_len {l : List Ent} (h : entsB l = true) : l.length ≤ 10 := by
  simp only [entsB, Bool.and_eq_true, decide_eq_true_eq] at h; exact h.1
theorem entsB_good {l : List Ent} (h : entsB l = true) : ∀ e ∈ l, Good e.1 := by
  simp only [entsB, Bool.and_eq_true, entsV, List.all_eq_true] at h; exact fun e he => validB_good (h.2 e he)
theorem entsR_texts {w : World} {S : Nat → Prop} {a : Option Addr} {c : Nat} {l : List Ent} (h : SlR entRep w S a c l) : ∀ e ∈ l, e.2.size ≤ big := by
  intro e he
  obtain ⟨k, hk, rfl⟩ := List.getElem_of_mem he
  rcases h.2.2 with hh | ⟨_, _, _, _, hkr⟩
  · rw [hh] at hk; simp at hk
  · obtain ⟨cs, _, hx⟩ := hkr k hk
    obtain ⟨_, _, _, _, _, _, h1⟩ := entRep_open hx
    exact h1

/-- A row of strings that lies in memory made since w. -/
def OwnS (w w' : World) (xs : List ByteArray) (v : Value) : Prop := ∃ a c fp, v = .slice a xs.length c ∧ StrsF w' a c xs fp ∧ Free w.heap.size w' fp
theorem OwnS.nil (w w' : World) : OwnS w w' [] (.slice none 0 0) := ⟨none, 0, [], rfl, ⟨Nat.le_refl _, Nat.zero_le _, by simp, .inl ⟨rfl, rfl⟩⟩, Free.nil _ _⟩
theorem OwnS.grow {w w' w'' : World} {xs : List ByteArray} {v : Value} (h : OwnS w w' xs v) (hg : Grow w' w'') : OwnS w w'' xs v := by
  obtain ⟨a, c, fp, hv, h1, h2⟩ := h
  exact ⟨a, c, fp, hv, h1.keep (hg.keeps h2 (fun _ _ h => h)), h2.ext hg (fun _ _ h => h)⟩
theorem Free.down {B B' : Nat} {w : World} {fp : List Nat} (h : Free B w fp) (hb : B' ≤ B) : Free B' w fp := ⟨h.1, fun y hy => ⟨Nat.le_trans hb (h.2 y hy).1, (h.2 y hy).2⟩⟩
theorem OwnS.row {w w' : World} {B : Nat} {T : TypeId} {v : Value} {n : Nat} {xs : List ByteArray} (hB : w.heap.size ≤ B) (h : w'.ownsRow B T 1 v n (xs.map Value.string)) (hx : ∀ x ∈ xs, x.size ≤ big) : OwnS w w' xs v := by
  obtain ⟨a, c, fp, hv, h1, h2, _⟩ := strs_of_row h hx
  exact ⟨a, c, fp, hv, h1, h2.down hB⟩
theorem row_len {w : World} {B : Nat} {T : TypeId} {v : Value} {n : Nat} {xs : List Value} (h : w.ownsRow B T 1 v n xs) : n = xs.length := by have := h.1; omega

def FrRel (w : World) (lo hi : Nd) (l : List Ent) (t i : Value) (wr : World) : Prop :=
  ∃ (v : Value) (k : Nat), v = t ∧ k ≤ l.length ∧ i = .int .i64 k ∧ wr.ownsRow (w.heap.size + 2) 9 1 v (frL lo hi (l.take k)).length ((frL lo hi (l.take k)).map Value.string)

end Go.Proofs.Ytmeobmegnneegaa

/-
  How many marks a value takes, and blocks that lie between two bounds.
-/
namespace Go.Proofs.Ytmeobmegnneegaa
open Go.RowKit

mutual
theorem cntK_le : ∀ n : Nd, cntK n ≤ 3 + 3 * costN n
  | ⟨_, _, text, names, kids⟩ => by
    have h := cntL_le kids
    have h2 : names.length ≤ costS names := by simp [costS]
    simp only [cntK, costN]; omega
theorem cntL_le : ∀ l : List Nd, cntL l ≤ 3 * costL l
  | [] => by simp [cntL]
  | k :: ks => by
    have h1 := cntK_le k
    have h2 := cntL_le ks
    simp only [cntL, costL]; omega
end
theorem cntT_le (n : Nd) : cntT n ≤ 3 * costN n := by
  have := cntK_le n
  rw [cntK_eq] at this; unfold cntT; omega
theorem cntEnt_le (l : List Ent) : cntR cntEnt l ≤ 4 * costEntL l := by
  induction l with
  | nil => simp [cntR]
  | cons x l ih =>
    have h := cntK_le x.1
    have e : cntEnt x = cntK x.1 + 1 := rfl
    simp only [cntR, costEntL, List.map_cons, List.sum_cons, List.length_cons, costEnt] at ih ⊢
    omega

/-- The blocks of a list lie from A on and below Z, each once and not frozen. -/
def Seg (A Z : Nat) (w : World) (fp : List Nat) : Prop := Free A w fp ∧ ∀ y ∈ fp, y < Z
theorem Seg.of {A : Nat} {w : World} {fp : List Nat} (h : Free A w fp) : Seg A w.heap.size w fp := ⟨h, fun y hy => (h.2 y hy).2.1⟩
theorem Seg.grow {A Z : Nat} {w w' : World} {fp : List Nat} (h : Seg A Z w fp) (hg : Grow w w') : Seg A Z w' fp := ⟨h.1.ext hg (fun _ _ h => h), h.2⟩
theorem Seg.off {A Z A' Z' : Nat} {w w0 : World} {fp fx : List Nat} (h : Seg A Z w fp) (hx : Seg A' Z' w0 fx) (hd : Z ≤ A' ∨ Z' ≤ A) : ∀ y ∈ fp, ¬ inl fx y := fun y hy h2 => by
  have h3 := h.2 y hy
  have h4 := (h.1.2 y hy).1
  have h5 := hx.2 y h2
  have h6 := (hx.1.2 y h2).1
  omega
theorem Seg.ext {A Z A' Z' : Nat} {w w' w0 : World} {fp fx : List Nat} (h : Seg A Z w fp) (hx : Seg A' Z' w0 fx) (hd : Z ≤ A' ∨ Z' ≤ A) (he : Ext (inl fx) w w') : Seg A Z w' fp := ⟨h.1.ext he (h.off hx hd), h.2⟩
theorem Seg.keeps {A Z A' Z' : Nat} {w w' w0 : World} {fp fx : List Nat} (h : Seg A Z w fp) (hx : Seg A' Z' w0 fx) (hd : Z ≤ A' ∨ Z' ≤ A) (he : Ext (inl fx) w w') : ∀ b ∈ fp, ∀ o, w'.cell? ⟨b, o, none⟩ = w.cell? ⟨b, o, none⟩ := he.keeps h.1 (h.off hx hd)
theorem Seg.marked {A Z : Nat} {w w' : World} {fp : List Nat} (h : Seg A Z w fp) (h' : Free A w' fp) : Seg A Z w' fp := ⟨h', h.2⟩
theorem Seg.inner {A Z : Nat} {w0 w w' : World} {fp : List Nat} (h : Seg A Z w fp) (hg : Grow w0 w) (he : Ext (inl fp) w w') (hA : w0.heap.size ≤ A) : Grow w0 w' :=
  hg.inner he (fun i hi => Nat.le_trans hA (h.1.2 i hi).1)
theorem Seg.box {A Z b : Nat} {w0 w w' : World} {fp : List Nat} {cs : List Value} (h : Seg A Z w0 fp) (hB : BoxN w b cs) (he : Ext (inl fp) w w') (hd : b < A ∨ Z ≤ b) : BoxN w' b cs :=
  hB.ext he (fun hi => by have h3 := h.2 b hi; have h4 := (h.1.2 b hi).1; omega)
/-- What lies below A stays. -/
theorem Seg.below {A Z : Nat} {w0 w w' : World} {fp : List Nat} {a : Option Addr} {c Y : Nat} {xs : List ByteArray} (h : Seg A Z w0 fp) (hs : StrsR w (fun k => k < Y) a c xs) (he : Ext (inl fp) w w') (hd : Y ≤ A) : StrsR w' (fun k => k < Y) a c xs :=
  hs.ext he (fun k hk hi => by have h4 := (h.1.2 k hi).1; omega)
theorem StrsR.under {S : Nat → Prop} {w : World} {a : Option Addr} {c : Nat} {xs : List ByteArray} (h : StrsR w S a c xs) : StrsR w (fun k => k < w.heap.size) a c xs := h.lt.mono (fun _ h => h.2)

end Go.Proofs.Ytmeobmegnneegaa

/-
  Data and their values: one form for all types; the laws' helpers on rows of texts and on nodes in that form.
-/
namespace Go.Proofs.Ytmeobmegnneegaa
open Go.RowKit

def packA (cs : List Value) : Value := .agg cs.toArray
def packO (cs : List Value) : Value := cs.headD undef

/-- A value reads as data. -/
def RV {α : Type} (E : Rep α) (pk : List Value → Value) (w : World) (S : Nat → Prop) (x : α) (v : Value) : Prop := ∃ cs, v = pk cs ∧ E.R w S x cs
/-- A value that owns its memory. -/
def FV {α : Type} (E : Rep α) (pk : List Value → Value) (w : World) (x : α) (v : Value) (fp : List Nat) : Prop := ∃ cs, v = pk cs ∧ E.F w x cs fp

section
variable {α : Type} {E : Rep α} {pk : List Value → Value}
theorem RV.ext {X S : Nat → Prop} {w w' : World} {x : α} {v : Value} (h : RV E pk w S x v) (he : Ext X w w') (hS : ∀ k, S k → ¬ X k) : RV E pk w' S x v := by
  obtain ⟨cs, hv, hc⟩ := h; exact ⟨cs, hv, E.ext he hS hc⟩
theorem RV.grow {S : Nat → Prop} {w w' : World} {x : α} {v : Value} (h : RV E pk w S x v) (hg : Grow w w') : RV E pk w' S x v := h.ext hg (fun _ _ h => h)
theorem RV.mono {S T : Nat → Prop} {w : World} {x : α} {v : Value} (h : RV E pk w S x v) (hS : ∀ k, S k → T k) : RV E pk w T x v := by
  obtain ⟨cs, hv, hc⟩ := h; exact ⟨cs, hv, E.mono hS hc⟩
theorem RV.any {S : Nat → Prop} {w : World} {x : α} {v : Value} (h : RV E pk w S x v) : RV E pk w any x v := h.mono (fun _ _ => trivial)
theorem RV.under {S : Nat → Prop} {w : World} {x : α} {v : Value} (h : RV E pk w S x v) : RV E pk w (fun k => k < w.heap.size) x v := by
  obtain ⟨cs, hv, hc⟩ := h; exact ⟨cs, hv, E.mono (fun _ h => h.2) (E.lt hc)⟩
theorem FV.keep {w w' : World} {x : α} {v : Value} {fp : List Nat} (h : FV E pk w x v fp) (hk : ∀ b ∈ fp, ∀ o, w'.cell? ⟨b, o, none⟩ = w.cell? ⟨b, o, none⟩) : FV E pk w' x v fp := by
  obtain ⟨cs, hv, hc⟩ := h; exact ⟨cs, hv, E.keep hc hk⟩
theorem FV.rv {w : World} {x : α} {v : Value} {fp : List Nat} (h : FV E pk w x v fp) : RV E pk w Go.Proofs.Ytmeobmegnneegaa.any x v := by
  obtain ⟨cs, hv, hc⟩ := h; exact ⟨cs, hv, E.toR hc (fun _ _ => trivial)⟩
theorem FV.grow {w w' : World} {x : α} {v : Value} {fp : List Nat} {A Z : Nat} (h : FV E pk w x v fp) (hs : Seg A Z w fp) (hg : Grow w w') : FV E pk w' x v fp := h.keep (hg.keeps hs.1 (fun _ _ h => h))
/-- Data below A stay where blocks of a segment from A on turn. -/
theorem Seg.rv {A Z Y : Nat} {w0 w w' : World} {fp : List Nat} {x : α} {v : Value} (h : Seg A Z w0 fp) (hs : RV E pk w (fun k => k < Y) x v) (he : Ext (inl fp) w w') (hd : Y ≤ A) : RV E pk w' (fun k => k < Y) x v :=
  hs.ext he (fun k hk hi => by have h4 := (h.1.2 k hi).1; omega)
end

/-! ### Rows of texts -/
theorem strs_open {w : World} {S : Nat → Prop} {x : List ByteArray} {v : Value} (h : RV strsRep packO w S x v) : ∃ a c, v = .slice a x.length c ∧ StrsR w S a c x := by
  obtain ⟨cs, rfl, a, c, rfl, hs⟩ := h; exact ⟨a, c, rfl, hs⟩
theorem strs_shut {w : World} {S : Nat → Prop} {x : List ByteArray} {a : Option Addr} {c : Nat} (h : StrsR w S a c x) : RV strsRep packO w S x (.slice a x.length c) := ⟨_, rfl, a, c, rfl, h⟩
theorem strs_shutF {w : World} {x : List ByteArray} {a : Option Addr} {c : Nat} {fp : List Nat} (h : StrsF w a c x fp) : FV strsRep packO w x (.slice a x.length c) fp := ⟨_, rfl, a, c, rfl, h⟩
def cntS (x : List ByteArray) : Nat := x.length
def mkSS (k : Nat) (x : List ByteArray) : List ByteArray := mkS k x.length
theorem uSzS (x : List ByteArray) (v : Value) (left : Int) (w : World) (h0 : 0 ≤ left) (h1 : left ≤ 1048576) (h : RV strsRep packO w any x v) :
    Calls Try.prog 68 #[v, .int .i64 left] w fun e w' => e = .returned (.int .i64 (szR (costS x) left)) ∧ Grow w w' := by
  obtain ⟨a, c, rfl, hs⟩ := strs_open h
  exact szStringS_ok a c x left w hs h0 h1
theorem uToS (x : List ByteArray) (v : Value) (w : World) (hc : costS x ≤ 1048576) (h : RV strsRep packO w any x v) :
    Calls Try.prog 75 #[v] w fun e w' => ∃ v' fp, e = .returned v' ∧ Grow w w' ∧ FV strsRep packO w' x v' fp ∧ Free w.heap.size w' fp := by
  obtain ⟨a, c, rfl, hs⟩ := strs_open h
  exact (toStringS_ok a c x w hs (by unfold costS at hc; omega)).mono fun e w' ⟨a', c', fp, he, hg, hF, hfr⟩ => ⟨_, fp, he, hg, strs_shutF hF, hfr⟩
theorem uEqS (x : List ByteArray) (v u : Value) (w : World) (h : RV strsRep packO w any x v) (h' : RV strsRep packO w any x u) :
    Calls Try.prog 83 #[v, u] w fun e w' => e = .returned (.bool true) ∧ Grow w w' := by
  obtain ⟨a, c, rfl, hs⟩ := strs_open h
  obtain ⟨a', c', rfl, hs'⟩ := strs_open h'
  exact (eqStringS_ok _ _ _ _ x x w hs hs').mono fun e w' ⟨he, hg⟩ => ⟨by rw [he]; simp [eqS], hg⟩
theorem uMarkS (x : List ByteArray) (v : Value) (fp : List Nat) (B k : Nat) (i : Int) (w : World) (hi : i = (k : Int)) (hF : FV strsRep packO w x v fp) (hfr : Free B w fp) (h1 : 0 < k) (h2 : k + cntS x ≤ 1000000000) :
    Calls Try.prog 86 #[v, .int .i64 i] w fun e w' => e = .returned (.int .i64 ((k + cntS x : Nat) : Int)) ∧ Ext (inl fp) w w' ∧ Free B w' fp ∧ FV strsRep packO w' (mkSS k x) v fp := by
  obtain ⟨cs, rfl, a, c, rfl, hs⟩ := hF
  exact (markStringS_i a c x fp B k i w hi hs hfr h1 h2).mono fun e w' ⟨he, hx, hf, hF⟩ => ⟨he, hx, hf, by
    have := strs_shutF hF
    unfold mkSS
    rw [mkS_len] at this
    exact this⟩
theorem uHeldS (x : List ByteArray) (v : Value) (k : Nat) (i : Int) (w : World) (hi : i = (k : Int)) (h : RV strsRep packO w any (mkSS k x) v) (h1 : 0 < k) (h2 : k + cntS x ≤ 1000000000) :
    Calls Try.prog 96 #[v, .int .i64 i] w fun e w' => e = .returned (.int .i64 ((k + cntS x : Nat) : Int)) ∧ Grow w w' := by
  obtain ⟨a, c, rfl, hs⟩ := strs_open h
  unfold mkSS at hs ⊢
  rw [mkS_len]
  exact heldStringS_i a c x.length k i w hi hs h1 h2

/-! ### Nodes -/
theorem node_open {w : World} {S : Nat → Prop} {x : Nd} {v : Value} (h : RV nodeRep packA w S x v) : NodeR w S x v := by
  obtain ⟨cs, rfl, na, nc, ka, kc, rfl, hs⟩ := h; exact ⟨na, nc, ka, kc, rfl, hs⟩
theorem node_shut {w : World} {S : Nat → Prop} {x : Nd} {v : Value} (h : NodeR w S x v) : RV nodeRep packA w S x v := by
  obtain ⟨na, nc, ka, kc, rfl, hs⟩ := h; exact ⟨_, rfl, na, nc, ka, kc, rfl, hs⟩
theorem node_cells {w : World} {x : Nd} {cs : List Value} {fp : List Nat} (h : nodeRep.F w x cs fp) : ∃ na nc ka kc, cs = nodeL x na nc ka kc := by
  obtain ⟨na, nc, ka, kc, rfl, _⟩ := h; exact ⟨na, nc, ka, kc, rfl⟩
theorem uSzN (x : Nd) (v : Value) (left : Int) (w : World) (h0 : 0 ≤ left) (h1 : left ≤ 1048576) (h : RV nodeRep packA w any x v) :
    Calls Try.prog 23 #[v, .int .i64 left] w fun e w' => e = .returned (.int .i64 (szR (costN x) left)) ∧ Grow w w' := szNode_ok x v left w h0 h1 (node_open h)
theorem uToN (x : Nd) (v : Value) (w : World) (hc : costN x ≤ 1048576) (h : RV nodeRep packA w any x v) :
    Calls Try.prog 26 #[v] w fun e w' => ∃ v' fp, e = .returned v' ∧ Grow w w' ∧ FV nodeRep packA w' x v' fp ∧ Free w.heap.size w' fp :=
  (toNode_ok x v w hc (node_open h)).mono fun e w' ⟨v', fp, he, hg, ⟨na, nc, ka, kc, hv, hF⟩, hfr⟩ => ⟨v', fp, he, hg, ⟨_, hv, na, nc, ka, kc, rfl, hF⟩, hfr⟩
theorem uEqN (x : Nd) (v u : Value) (w : World) (h : RV nodeRep packA w any x v) (h' : RV nodeRep packA w any x u) :
    Calls Try.prog 29 #[v, u] w fun e w' => e = .returned (.bool true) ∧ Grow w w' :=
  (eqNode_ok x x v u w (node_open h) (node_open h')).mono fun e w' ⟨he, hg⟩ => ⟨by rw [he, eqN_refl], hg⟩
theorem uMarkN (x : Nd) (v : Value) (fp : List Nat) (B k : Nat) (i : Int) (w : World) (hi : i = (k : Int)) (hF : FV nodeRep packA w x v fp) (hfr : Free B w fp) (h1 : 0 < k) (h2 : k + cntT x ≤ 1000000000) :
    Calls Try.prog 31 #[v, .int .i64 i] w fun e w' => e = .returned (.int .i64 ((k + cntT x : Nat) : Int)) ∧ Ext (inl fp) w w' ∧ Free B w' fp ∧ FV nodeRep packA w' (mkT k x) v fp := by
  obtain ⟨cs, rfl, na, nc, ka, kc, rfl, hs⟩ := hF
  refine (markNode_ok x na nc ka kc fp B k i w hi hs hfr h1 h2).mono fun e w' ⟨he, hx, hf, hF⟩ => ⟨he, hx, hf, _, rfl, na, nc, ka, kc, ?_, hF⟩
  unfold nodeL mkT
  simp only [mkS_len, mkL_len]
theorem uHeldN (x : Nd) (v : Value) (k : Nat) (i : Int) (w : World) (hi : i = (k : Int)) (h : RV nodeRep packA w any (mkT k x) v) (h1 : 0 < k) (h2 : k + cntT x ≤ 1000000000) :
    Calls Try.prog 107 #[v, .int .i64 i] w fun e w' => e = .returned (.int .i64 ((k + cntT x : Nat) : Int)) ∧ Grow w w' := by
  obtain ⟨na, nc, ka, kc, rfl, hs⟩ := node_open h
  exact heldNode_ok x na nc ka kc k i w hi ⟨na, nc, ka, kc, rfl, hs⟩ h1 h2

end Go.Proofs.Ytmeobmegnneegaa

/-
  The walks of the laws' helpers on Item: sizes, copies, comparisons with themselves. (Printed by wip/gentypes.py.)
-/
namespace Go.Proofs.Ytmeobmegnneegaa
open Go.RowKit

abbrev Itm := ByteArray × Int × Nd
def itmRep : Rep Itm := pairRep strRep (pairRep intRep (nodeRep))
theorem itmRep_n : itmRep.n = 7 := rfl
def itmL (x : Itm) (na2 : Option Addr) (nc2 : Nat) (ka2 : Option Addr) (kc2 : Nat) : List Value := [.string x.1, .int .i64 x.2.1, .int .i64 x.2.2.kind, .int .i64 x.2.2.num, .string x.2.2.text, .slice na2 x.2.2.names.length nc2, .slice ka2 x.2.2.kids.length kc2]
def costItm (x : Itm) : Nat := x.1.size + costN x.2.2
def costItmL (l : List Itm) : Nat := l.length + (l.map costItm).sum
def sumItm (l : List Itm) : Nat := (l.map costItm).sum
theorem sumItm_snoc (l : List Itm) (x : Itm) : sumItm (l ++ [x]) = sumItm l + costItm x := by simp [sumItm]
theorem sumItm_take (l : List Itm) (k : Nat) : sumItm (l.take k) ≤ sumItm l := by
  unfold sumItm; rw [List.map_take]; exact sum_take_le _ _
theorem costItm_get (l : List Itm) (k : Nat) (h : k < l.length) : costItm l[k] ≤ costItmL l := by
  have := sumItm_take l (k + 1)
  rw [take_snoc' _ _ h, sumItm_snoc] at this
  unfold costItmL; unfold sumItm at *; omega

theorem itmRep_open {w : World} {S : Nat → Prop} {x : Itm} {cs : List Value} (h : itmRep.R w S x cs) : ∃ (na2 : Option Addr) (nc2 : Nat) (ka2 : Option Addr) (kc2 : Nat), cs = itmL x na2 nc2 ka2 kc2 ∧ x.1.size ≤ big ∧ NodeC w S x.2.2 na2 nc2 ka2 kc2 := by
  obtain ⟨_, _, rfl, ⟨rfl, h0⟩, ⟨_, _, rfl, rfl, ⟨na2, nc2, ka2, kc2, rfl, h2⟩⟩⟩ := h
  exact ⟨na2, nc2, ka2, kc2, rfl, h0, h2⟩

theorem itmRep_openF {w : World} {x : Itm} {cs : List Value} {fp : List Nat} (h : itmRep.F w x cs fp) : ∃ (na2 : Option Addr) (nc2 : Nat) (ka2 : Option Addr) (kc2 : Nat), cs = itmL x na2 nc2 ka2 kc2 ∧ x.1.size ≤ big ∧ True := by
  obtain ⟨_, _, _, _, rfl, _, ⟨rfl, h0, _⟩, ⟨_, _, _, _, rfl, _, ⟨rfl, _⟩, ⟨na2, nc2, ka2, kc2, rfl, h2⟩⟩⟩ := h
  exact ⟨na2, nc2, ka2, kc2, rfl, h0, trivial⟩

set_option maxHeartbeats 2000000 in
theorem szItem_ok (x : Itm) (cs : List Value) (left : Int) (w : World) (hb0 : 0 ≤ left) (hb1 : left ≤ 1048576) (hx : itmRep.R w any x cs) :
    Calls Try.prog 110 #[.agg cs.toArray, .int .i64 left] w fun e w' => e = .returned (.int .i64 (szR (costItm x) left)) ∧ Grow w w' := by
  obtain ⟨na2, nc2, ka2, kc2, rfl, h0, h2⟩ := itmRep_open hx
  have hs0 : x.1.size ≤ 9223372036854775807 := h0
  have H2 := Lib.hid h2
  clear h0 h2
  have Hce : Hid (costItm x = x.1.size + costN x.2.2) := Lib.hid rfl
  unfold itmL
  by_cases a0 : left < ((x.1.size : Nat) : Int)
  · have Hf := Lib.hid (szR_neg (c := costItm x) (left := left) (by have := Hce.out; omega))
    go_enter Try.func110, Try.ntmps110
    go_wp2_with fail
    go_ret
    exact ⟨by simp [Hf.out], (by repeat (first | with_reducible exact Ext.refl _ _ | with_reducible refine Ext.trans ?_ (by assumption) | with_reducible refine Ext.drew ?_ | with_reducible refine Ext.drewN ?_ _ | with_reducible refine Ext.alloc ?_ _ | with_reducible refine Ext.setNew ?_ (by simp; done) _ | with_reducible refine Ext.setNew ?_ (by simp; omega) _))⟩
  by_cases a2 : left - ((x.1.size : Nat) : Int) < ((costN x.2.2 : Nat) : Int)
  · have Hf := Lib.hid (szR_neg (c := costItm x) (left := left) (by have := Hce.out; omega))
    have Hs2 := Lib.hid (szR_neg a2)
    go_enter Try.func110, Try.ntmps110
    go_wp2_with fail
    refine (szNode_ok x.2.2 _ _ _ (by omega) (by omega) ⟨_, _, _, _, rfl, H2.out.grow' (by repeat (first | with_reducible exact Ext.refl _ _ | with_reducible refine Ext.trans ?_ (by assumption) | with_reducible refine Ext.drew ?_ | with_reducible refine Ext.drewN ?_ _ | with_reducible refine Ext.alloc ?_ _ | with_reducible refine Ext.setNew ?_ (by simp; done) _ | with_reducible refine Ext.setNew ?_ (by simp; omega) _))⟩).mono ?_
    rintro e w3 ⟨rfl, hg3⟩
    simp only [Hs2.out]
    have hcc3 := bcell hg3
    go_wp2_with fail
    go_ret
    exact ⟨by simp [Hf.out], (by repeat (first | with_reducible exact Ext.refl _ _ | with_reducible refine Ext.trans ?_ (by assumption) | with_reducible refine Ext.drew ?_ | with_reducible refine Ext.drewN ?_ _ | with_reducible refine Ext.alloc ?_ _ | with_reducible refine Ext.setNew ?_ (by simp; done) _ | with_reducible refine Ext.setNew ?_ (by simp; omega) _))⟩
  have Hs2 := Lib.hid (szR_pos (c := costN x.2.2) (left := left - ((x.1.size : Nat) : Int)) (by omega))
  have Hf := Lib.hid (szR_pos (c := costItm x) (left := left) (by have := Hce.out; omega))
  go_enter Try.func110, Try.ntmps110
  go_wp2_with fail
  refine (szNode_ok x.2.2 _ _ _ (by omega) (by omega) ⟨_, _, _, _, rfl, H2.out.grow' (by repeat (first | with_reducible exact Ext.refl _ _ | with_reducible refine Ext.trans ?_ (by assumption) | with_reducible refine Ext.drew ?_ | with_reducible refine Ext.drewN ?_ _ | with_reducible refine Ext.alloc ?_ _ | with_reducible refine Ext.setNew ?_ (by simp; done) _ | with_reducible refine Ext.setNew ?_ (by simp; omega) _))⟩).mono ?_
  rintro e w3 ⟨rfl, hg3⟩
  simp only [Hs2.out]
  have hcc3 := bcell hg3
  go_wp2_with fail
  go_ret
  exact ⟨by have h1 := Hf.out; have h2 := Hce.out; rw [h1]; simp; omega, (by repeat (first | with_reducible exact Ext.refl _ _ | with_reducible refine Ext.trans ?_ (by assumption) | with_reducible refine Ext.drew ?_ | with_reducible refine Ext.drewN ?_ _ | with_reducible refine Ext.alloc ?_ _ | with_reducible refine Ext.setNew ?_ (by simp; done) _ | with_reducible refine Ext.setNew ?_ (by simp; omega) _))⟩

set_option maxHeartbeats 1000000 in
theorem szItemS_ok (l : List Itm) (a : Option Addr) (c : Nat) (left : Int) (w : World) (hn : SlR itmRep w any a c l) (h0 : 0 ≤ left) (h1 : left ≤ 1048576) :
    Calls Try.prog 67 #[.slice a l.length c, .int .i64 left] w fun e w' => e = .returned (.int .i64 (szR (costItmL l) left)) ∧ Grow w w' := by
  have hbig : l.length ≤ 9223372036854775807 := hn.2.1
  have hce : costItmL l = l.length + sumItm l := rfl
  have Hce := Lib.hid hce
  have Hn := Lib.hid hn
  clear hn hce
  by_cases hl : left < (l.length : Int)
  · have Hf := Lib.hid (szR_neg (c := costItmL l) (left := left) (by rw [Hce.out]; omega))
    go_enter Try.func67, Try.ntmps67
    go_wp2
    go_ret
    exact ⟨by rw [Hf.out]; simp, Ext.refl _ _⟩
  · go_enter Try.func67, Try.ntmps67
    go_wp2
    go_loopw [1, 5] (fun t i wr => Grow w wr ∧ ∃ (k : Nat) (r : Int), k ≤ l.length ∧ i = .int .i64 k ∧ t = .int .i64 r ∧ 0 ≤ r ∧ r ≤ 1048576 ∧ Hid (r = left - l.length - sumItm (l.take k))) (fun _ i _ => l.length - (intOf i).toNat)
    case atStart => exact ⟨Ext.refl _ _, 0, _, Nat.zero_le _, rfl, rfl, by omega, by omega, Lib.hid (by simp [sumItm])⟩
    case round =>
      obtain ⟨hg, k, r, hk, rfl, rfl, hr0, hr1, Hr⟩ := hrel
      have hst := sumItm_take l k
      by_cases hlt : k < l.length
      · obtain ⟨_, _, hks⟩ := (Hn.out).grow hg
        rcases hks with hks | ⟨bk, ok, rfl, _, hkr⟩
        · simp [hks] at hlt
        obtain ⟨cs, hcs, hx⟩ := hkr k hlt
        have Hx := Lib.hid hx
        obtain ⟨na2, nc2, ka2, kc2, rfl, h0, h2⟩ := itmRep_open hx
        rw [itmRep_n] at hcs
        have x0 : wr.cell? ⟨bk, ok + k * 7, none⟩ = _ := hcs 0 _ rfl
        have x1 := hcs 1 _ rfl
        have x2 := hcs 2 _ rfl
        have x3 := hcs 3 _ rfl
        have x4 := hcs 4 _ rfl
        have x5 := hcs 5 _ rfl
        have x6 := hcs 6 _ rfl
        have hst2 := sumItm_take l (k + 1)
        rw [take_snoc' _ _ hlt, sumItm_snoc] at hst2
        clear hkr hcs hx h0 h2
        by_cases hneg : r < (costItm l[k] : Int)
        · have Hf : Hid (szR (costItmL l) left = -1) := Lib.hid (szR_neg (by rw [Hce.out]; have := Hr.out; omega))
          have Hs := Lib.hid (szR_neg hneg)
          go_wp2_with fail
          refine (szItem_ok l[k] _ _ _ hr0 hr1 Hx.out).mono ?_
          rintro e w2 ⟨rfl, hg2⟩
          simp only [Hs.out]
          go_wp2_with fail
          go_ret
          exact ⟨by simp [Hf.out], hg.trans hg2⟩
        · have Hs := Lib.hid (szR_pos (c := costItm l[k]) (left := r) (by omega))
          go_wp2_with fail
          refine (szItem_ok l[k] _ _ _ hr0 hr1 Hx.out).mono ?_
          rintro e w2 ⟨rfl, hg2⟩
          simp only [Hs.out]
          go_wp2_with fail
          go_roundw
          case rel => exact ⟨hg.trans hg2, k + 1, _, by omega, by go_num, rfl, by omega, by omega, Lib.hid (by rw [take_snoc' _ _ hlt, sumItm_snoc, Hr.out]; omega)⟩
          case measure => simp [intOf]; omega
      · have hke : k = l.length := by omega
        have Hf : Hid (szR (costItmL l) left = r) := Lib.hid (by
          have h2 := Hr.out
          rw [hke, List.take_length] at h2
          rw [szR_pos (by rw [Hce.out]; omega), Hce.out]; omega)
        have Hke := Lib.hid hke
        clear hke
        go_wp2
        go_ret
        exact ⟨by simp [Hf.out], hg⟩

set_option maxHeartbeats 2000000 in
theorem eqItem_same (x : Itm) (cs ds : List Value) (w : World) (hx : itmRep.R w any x cs) (hy : itmRep.R w any x ds) :
    Calls Try.prog 57 #[.agg cs.toArray, .agg ds.toArray] w fun e w' => e = .returned (.bool true) ∧ Grow w w' := by
  obtain ⟨na2, nc2, ka2, kc2, rfl, h0, h2⟩ := itmRep_open hx
  obtain ⟨na2', nc2', ka2', kc2', rfl, h0', h2'⟩ := itmRep_open hy
  have H2 := Lib.hid h2
  have H2' := Lib.hid h2'
  have e0 : (x.1.toList == x.1.toList) = true := by simp
  have e1 : (x.2.1 != x.2.1) = false := by simp
  have E2 : Hid (eqN x.2.2 x.2.2 = true) := Lib.hid (eqN_refl _)
  clear hx hy h0 h0' h2 h2'
  unfold itmL
  go_enter Try.func57, Try.ntmps57
  go_wp2_with fail
  refine (eqNode_ok x.2.2 x.2.2 _ _ _ ⟨_, _, _, _, rfl, H2.out.grow' (by repeat (first | with_reducible exact Ext.refl _ _ | with_reducible refine Ext.trans ?_ (by assumption) | with_reducible refine Ext.drew ?_ | with_reducible refine Ext.drewN ?_ _ | with_reducible refine Ext.alloc ?_ _ | with_reducible refine Ext.setNew ?_ (by simp; done) _ | with_reducible refine Ext.setNew ?_ (by simp; omega) _))⟩ ⟨_, _, _, _, rfl, H2'.out.grow' (by repeat (first | with_reducible exact Ext.refl _ _ | with_reducible refine Ext.trans ?_ (by assumption) | with_reducible refine Ext.drew ?_ | with_reducible refine Ext.drewN ?_ _ | with_reducible refine Ext.alloc ?_ _ | with_reducible refine Ext.setNew ?_ (by simp; done) _ | with_reducible refine Ext.setNew ?_ (by simp; omega) _))⟩).mono ?_
  rintro e w4 ⟨rfl, hg4⟩
  simp only [E2.out]
  have hcc4 := bcell hg4
  go_wp2_with fail
  go_ret
  exact ⟨by simp, (by repeat (first | with_reducible exact Ext.refl _ _ | with_reducible refine Ext.trans ?_ (by assumption) | with_reducible refine Ext.drew ?_ | with_reducible refine Ext.drewN ?_ _ | with_reducible refine Ext.alloc ?_ _ | with_reducible refine Ext.setNew ?_ (by simp; done) _ | with_reducible refine Ext.setNew ?_ (by simp; omega) _))⟩

set_option maxRecDepth 100000 in
set_option maxHeartbeats 1000000 in
theorem eqItemS_same (l : List Itm) (a b : Option Addr) (c d : Nat) (w : World) (ha : SlR itmRep w any a c l) (hb : SlR itmRep w any b d l) :
    Calls Try.prog 82 #[.slice a l.length c, .slice b l.length d] w fun e w' => e = .returned (.bool true) ∧ Grow w w' := by
  have hbig : l.length ≤ 9223372036854775807 := ha.2.1
  have Ha := Lib.hid ha
  have Hb := Lib.hid hb
  clear ha hb
  have hlb : ((l.length : Int) != (l.length : Int)) = false := by simp
  go_enter Try.func82, Try.ntmps82
  go_wp2
  go_loopw [4, 5] (fun n i wr => n = .bool false ∧ Grow w wr ∧ ∃ k : Nat, k ≤ l.length ∧ i = .int .i64 k) (fun _ i _ => l.length - (intOf i).toNat)
  case atStart => exact ⟨rfl, Ext.refl _ _, 0, Nat.zero_le _, rfl⟩
  case round =>
    obtain ⟨rfl, hg, k, hk, rfl⟩ := hrel
    by_cases hlt : k < l.length
    · obtain ⟨_, _, ha4⟩ := (Ha.out).grow hg
      obtain ⟨_, _, hb4⟩ := (Hb.out).grow hg
      rcases ha4 with hh | ⟨ba, oa, rfl, _, hca⟩
      · rw [hh] at hlt; simp at hlt
      rcases hb4 with hh | ⟨bb, ob, rfl, _, hcb⟩
      · rw [hh] at hlt; simp at hlt
      obtain ⟨cs, hcs, hx⟩ := hca k hlt
      obtain ⟨ds, hds, hy⟩ := hcb k hlt
      have Hx := Lib.hid hx
      have Hy := Lib.hid hy
      obtain ⟨na2, nc2, ka2, kc2, rfl, h0, h2⟩ := itmRep_open hx
      obtain ⟨na2', nc2', ka2', kc2', rfl, h0', h2'⟩ := itmRep_open hy
      rw [itmRep_n] at hcs hds
      have x0 : wr.cell? ⟨ba, oa + k * 7, none⟩ = _ := hcs 0 _ rfl
      have x1 := hcs 1 _ rfl
      have x2 := hcs 2 _ rfl
      have x3 := hcs 3 _ rfl
      have x4 := hcs 4 _ rfl
      have x5 := hcs 5 _ rfl
      have x6 := hcs 6 _ rfl
      have y0 : wr.cell? ⟨bb, ob + k * 7, none⟩ = _ := hds 0 _ rfl
      have y1 := hds 1 _ rfl
      have y2 := hds 2 _ rfl
      have y3 := hds 3 _ rfl
      have y4 := hds 4 _ rfl
      have y5 := hds 5 _ rfl
      have y6 := hds 6 _ rfl
      clear hca hcb Ha Hb hcs hds hx hy h0 h0' h2 h2'
      go_wp2_with fail
      (refine wp_region_later (by kernel_rfl) (by kernel_rfl) ?_; (repeat (first | go_big_quiet_step ((go_at_call 57; exact later_call (v := .bool true) (eqItem_same l[k] _ _ _ (itmRep.grow Hx.out (later_grow _ _)) (itmRep.grow Hy.out (later_grow _ _))))) | quiet_step ((go_at_call 57; exact later_call (v := .bool true) (eqItem_same l[k] _ _ _ (itmRep.grow Hx.out (later_grow _ _)) (itmRep.grow Hy.out (later_grow _ _))))))); refine wpQuiet_nil ?_; rintro _ ⟨x_w2, rfl⟩; have hg_w2 := later_grow wr x_w2; generalize later wr x_w2 = w2 at hg_w2 ⊢)
      go_wp2_with fail
      go_roundw
      case rel => exact ⟨rfl, hg.trans hg_w2, k + 1, by omega, by go_num⟩
      case measure => simp [intOf]; omega
    · go_wp2_with fail
      go_ret
      exact ⟨by simp, hg⟩

end Go.Proofs.Ytmeobmegnneegaa

/-
  The walks of the laws' copies of Item. (Printed by wip/gento.py.)
-/
namespace Go.Proofs.Ytmeobmegnneegaa
open Go.RowKit

set_option maxHeartbeats 4000000 in
theorem toItem_ok (x : Itm) (cs : List Value) (w : World) (hcost : costItm x ≤ 1048576) (hx : itmRep.R w any x cs) :
    Calls Try.prog 114 #[.agg cs.toArray] w fun e w' => ∃ cs' fp, e = .returned (.agg (cs' : List Value).toArray) ∧ Grow w w' ∧ itmRep.F w' x cs' fp ∧ Free w.heap.size w' fp := by
  have hce : costItm x = x.1.size + costN x.2.2 := rfl
  rw [hce] at hcost
  obtain ⟨na2, nc2, ka2, kc2, rfl, h0, h2⟩ := itmRep_open hx
  have H0 := Lib.hid h0
  have H2 := Lib.hid h2
  clear hx hce h0 h2
  have B0 := ((BoxN.new w (itmL x na2 nc2 ka2 kc2) 117).grow ((Ext.refl nil _).alloc (.cells #[.string ⟨#[]⟩, .int .i64 0, .int .i64 0, .int .i64 0, .string ⟨#[]⟩, .slice none 0 0, .slice none 0 0] 62))).grow ((Ext.refl nil _).alloc (.cells #[.string x.1, .int .i64 x.2.1, .int .i64 0, .int .i64 0, .string ⟨#[]⟩, .slice none 0 0, .slice none 0 0] 62))
  have B1 := (BoxN.new1 w (.cells (itmL x na2 nc2 ka2 kc2).toArray 117) [.string ⟨#[]⟩, .int .i64 0, .int .i64 0, .int .i64 0, .string ⟨#[]⟩, .slice none 0 0, .slice none 0 0] 62).grow ((Ext.refl nil _).alloc (.cells #[.string x.1, .int .i64 x.2.1, .int .i64 0, .int .i64 0, .string ⟨#[]⟩, .slice none 0 0, .slice none 0 0] 62))
  have B2 := BoxN.new2 w (.cells (itmL x na2 nc2 ka2 kc2).toArray 117) (.cells #[.string ⟨#[]⟩, .int .i64 0, .int .i64 0, .int .i64 0, .string ⟨#[]⟩, .slice none 0 0, .slice none 0 0] 62) [.string x.1, .int .i64 x.2.1, .int .i64 0, .int .i64 0, .string ⟨#[]⟩, .slice none 0 0, .slice none 0 0] 62
  have hgp : Grow w (((w.alloc (.cells (itmL x na2 nc2 ka2 kc2).toArray 117)).alloc (.cells #[.string ⟨#[]⟩, .int .i64 0, .int .i64 0, .int .i64 0, .string ⟨#[]⟩, .slice none 0 0, .slice none 0 0] 62)).alloc (.cells #[.string x.1, .int .i64 x.2.1, .int .i64 0, .int .i64 0, .string ⟨#[]⟩, .slice none 0 0, .slice none 0 0] 62)) := (by repeat (first | with_reducible exact Ext.refl _ _ | with_reducible refine Ext.trans ?_ (by assumption) | with_reducible refine Ext.drew ?_ | with_reducible refine Ext.drewN ?_ _ | with_reducible refine Ext.alloc ?_ _ | with_reducible refine Ext.setNew ?_ (by simp; done) _ | with_reducible refine Ext.setNew ?_ (by simp; omega) _))
  have HB0 := Lib.hid B0
  have HB1 := Lib.hid B1
  have HB2 := Lib.hid B2
  have Hgp := Lib.hid hgp
  clear B0 B1 B2 hgp
  unfold itmL at *
  go_enter Try.func114, Try.ntmps114
  go_wp2_with fail
  refine (toNode_ok x.2.2 (nodeV x.2.2 na2 nc2 ka2 kc2) _ (by omega) ⟨_, _, _, _, rfl, H2.out.grow' (Ext.trans Hgp.out (Ext.refl _ _))⟩).mono ?_
  rintro e w1 ⟨v2, f2, rfl, hg, hF, hf⟩
  obtain ⟨na2', nc2', ka2', kc2', rfl, hF⟩ := hF
  have e0 := Ext.trans (Ext.refl (fun k => k = w.heap.size + 1 ∨ k = w.heap.size + 1 + 1) _) (hg.toX' (X := (fun k => k = w.heap.size + 1 ∨ k = w.heap.size + 1 + 1)))
  have B0 := HB0.out.grow hg
  have B1 := HB1.out.grow hg
  have B2 := HB2.out.grow hg
  have hgp := Hgp.out.inner e0 (by intro i hi; omega)
  simp only [World.size_alloc] at hf
  have Hf2 := Lib.hid hf
  have HF2 := Lib.hid hF
  have HE0 := Lib.hid e0
  clear hg hF hf e0 HB0 HB1 HB2 Hgp
  have HB0 := Lib.hid B0
  have HB1 := Lib.hid B1
  have HB2 := Lib.hid B2
  have Hgp := Lib.hid hgp
  clear B0 B1 B2 hgp
  unfold nodeV
  have p0 := HB0.out.cell 0 _ rfl
  have p1 := HB0.out.cell 1 _ rfl
  have p2 := HB0.out.cell 2 _ rfl
  have p3 := HB0.out.cell 3 _ rfl
  have p4 := HB0.out.cell 4 _ rfl
  have p5 := HB0.out.cell 5 _ rfl
  have p6 := HB0.out.cell 6 _ rfl
  have q0 := HB2.out.cell 0 _ rfl
  have q1 := HB2.out.cell 1 _ rfl
  have q2 := HB2.out.cell 2 _ rfl
  have q3 := HB2.out.cell 3 _ rfl
  have q4 := HB2.out.cell 4 _ rfl
  have q5 := HB2.out.cell 5 _ rfl
  have q6 := HB2.out.cell 6 _ rfl
  have qf := HB2.out.fr
  have r0 := HB1.out.cell 0 _ rfl
  have r1 := HB1.out.cell 1 _ rfl
  have r2 := HB1.out.cell 2 _ rfl
  have r3 := HB1.out.cell 3 _ rfl
  have r4 := HB1.out.cell 4 _ rfl
  have r5 := HB1.out.cell 5 _ rfl
  have r6 := HB1.out.cell 6 _ rfl
  have rf := HB1.out.fr
  have z1 : w.heap.size + 1 + 1 < w1.heap.size := HB2.out.lt
  go_wp2_with fail
  clear p0 q0 p1 q1 p2 q2 p3 q3 p4 q4 p5 q5 p6 q6 qf rf r0 r1 r2 r3 r4 r5 r6
  have BF := ((((((((((((HB1.out.other (p := ⟨w.heap.size + 1 + 1, 2, none⟩) (by simp) (.int .i64 x.2.2.kind)).other (p := ⟨w.heap.size + 1 + 1, 3, none⟩) (by simp) (.int .i64 x.2.2.num)).other (p := ⟨w.heap.size + 1 + 1, 4, none⟩) (by simp) (.string x.2.2.text)).other (p := ⟨w.heap.size + 1 + 1, 5, none⟩) (by simp) (.slice na2' x.2.2.names.length nc2')).other (p := ⟨w.heap.size + 1 + 1, 6, none⟩) (by simp) (.slice ka2' x.2.2.kids.length kc2')).set 0 (by simp) (.string x.1)).set 1 (by simp) (.int .i64 x.2.1)).set 2 (by simp) (.int .i64 x.2.2.kind)).set 3 (by simp) (.int .i64 x.2.2.num)).set 4 (by simp) (.string x.2.2.text)).set 5 (by simp) (.slice na2' x.2.2.names.length nc2')).set 6 (by simp) (.slice ka2' x.2.2.kids.length kc2'))
  have x2 : ∀ b ∈ f2, ¬ (b = w.heap.size + 1 ∨ b = w.heap.size + 1 + 1) := fun b hb => by have := (Hf2.out.2 b hb).1; omega
  have fin : ∀ W, Ext (fun k => k = w.heap.size + 1 ∨ k = w.heap.size + 1 + 1) w1 W → ∃ cs' fp, Ending.returned (.agg ([.string x.1, .int .i64 x.2.1, .int .i64 x.2.2.kind, .int .i64 x.2.2.num, .string x.2.2.text, .slice na2' x.2.2.names.length nc2', .slice ka2' x.2.2.kids.length kc2'] : List Value).toArray) = Ending.returned (.agg (cs' : List Value).toArray) ∧ Grow w W ∧ itmRep.F W x cs' fp ∧ Free w.heap.size W fp := by
    intro W hW
    have g2 : Ext (fun k => k = w.heap.size + 1 ∨ k = w.heap.size + 1 + 1) w1 W := hW
    have F2 := Hf2.out.ext g2 x2
    have k2 := HF2.out.keep (g2.keeps Hf2.out x2)
    refine ⟨_, ([] ++ ([] ++ f2)), rfl, Hgp.out.inner hW (by intro i hi; omega), ⟨[.string x.1], [.int .i64 x.2.1, .int .i64 x.2.2.kind, .int .i64 x.2.2.num, .string x.2.2.text, .slice na2' x.2.2.names.length nc2', .slice ka2' x.2.2.kids.length kc2'], [], ([] ++ f2), rfl, rfl, ⟨rfl, H0.out, rfl⟩, ⟨[.int .i64 x.2.1], [.int .i64 x.2.2.kind, .int .i64 x.2.2.num, .string x.2.2.text, .slice na2' x.2.2.names.length nc2', .slice ka2' x.2.2.kids.length kc2'], [], f2, rfl, rfl, ⟨rfl, rfl⟩, ⟨na2', nc2', ka2', kc2', rfl, k2⟩⟩⟩, ?_⟩
    simp only [List.nil_append]
    exact F2.mono (by omega)
  have r0 := BF.cell 0 _ rfl
  have r1 := BF.cell 1 _ rfl
  have r2 := BF.cell 2 _ rfl
  have r3 := BF.cell 3 _ rfl
  have r4 := BF.cell 4 _ rfl
  have r5 := BF.cell 5 _ rfl
  have r6 := BF.cell 6 _ rfl
  refine bodyPost_ret (v := .agg #[.string x.1, .int .i64 x.2.1, .int .i64 x.2.2.kind, .int .i64 x.2.2.num, .string x.2.2.text, .slice na2' x.2.2.names.length nc2', .slice ka2' x.2.2.kids.length kc2']) ?_ rfl ?_
  · simp [results, Try.results114, go_sem, r0, r1, r2, r3, r4, r5, r6]
  · refine fin _ ?_
    exact (by repeat (first | with_reducible exact Ext.refl _ _ | with_reducible refine Ext.setIn ?_ (by simp) _ | with_reducible refine Ext.trans ?_ (Ext.mono (by assumption) (fun _ h => False.elim h))))

theorem info_Item : (Try.prog.info? 62).map (fun i => (i.zero, i.size, i.bytes)) = some (some (.agg #[.string ⟨#[]⟩, .int .i64 0, .int .i64 0, .int .i64 0, .string ⟨#[]⟩, .slice none 0 0, .slice none 0 0]), 7, 104) := by kernel_rfl

set_option maxHeartbeats 2000000 in
theorem toItemS_ok (l : List Itm) (a : Option Addr) (c : Nat) (w : World) (hcost : costItmL l ≤ 1048576) (hn : SlR itmRep w any a c l) :
    Calls Try.prog 74 #[.slice a l.length c] w fun e w' => ∃ a' c' fp, e = .returned (.slice a' l.length c') ∧ Grow w w' ∧ SlF itmRep w' a' c' l fp ∧ Free w.heap.size w' fp := by
  have hb : l.length ≤ 1048576 := by unfold costItmL at hcost; omega
  have Hn := Lib.hid hn
  clear hn
  have hmk := run_mk (P := Try.prog) 31 62 _ 7 104 Try.underlying31 info_Item .i64 .i64 l.length (by omega) (by omega)
  go_enter Try.func74, Try.ntmps74
  go_wp2
  clear hmk
  go_loopw [4] (fun i wr => ∃ (k : Nat) (fp : List Nat), k ≤ l.length ∧ i = .int .i64 k ∧ Grow w wr ∧ RowIn wr w.heap.size (l.length * 7) ∧ RowF itmRep wr w.heap.size 0 (l.take k) fp ∧ Free (w.heap.size + 1) wr fp) (fun i _ => l.length - (intOf i).toNat)
  case atStart => exact ⟨0, [], Nat.zero_le _, rfl, (Ext.refl _ _).alloc _, RowIn.made _ _ _ _, rfl, Free.nil _ _⟩
  case round =>
    obtain ⟨k, fp, hk, rfl, hg, hrow, hkf, hfr⟩ := hrel
    have Hrow := Lib.hid hrow
    have Hkf := Lib.hid hkf
    have Hfr := Lib.hid hfr
    clear hrow hkf hfr
    by_cases hlt : k < l.length
    · obtain ⟨_, _, hks⟩ := (Hn.out).grow hg
      rcases hks with hks | ⟨bk, ok, rfl, _, hkr⟩
      · simp [hks] at hlt
      obtain ⟨cs, hcs, hx⟩ := hkr k hlt
      have Hx := Lib.hid hx
      obtain ⟨na2, nc2, ka2, kc2, rfl, h0, h2⟩ := itmRep_open hx
      rw [itmRep_n] at hcs
      have x0 : wr.cell? ⟨bk, ok + k * 7, none⟩ = _ := hcs 0 _ rfl
      have x1 := hcs 1 _ rfl
      have x2 := hcs 2 _ rfl
      have x3 := hcs 3 _ rfl
      have x4 := hcs 4 _ rfl
      have x5 := hcs 5 _ rfl
      have x6 := hcs 6 _ rfl
      have hck := costItm_get l k hlt
      clear hkr hcs hx h0 h2
      go_wp2_with fail
      refine (toItem_ok l[k] _ _ (by omega) Hx.out).mono ?_
      rintro e w2 ⟨ds, f', rfl, hg2, hN, hf'⟩
      clear x0 x1 x2 x3 x4 x5 x6
      have Hl := itmRep.flen hN
      have HN := Lib.hid hN
      obtain ⟨na2', nc2', ka2', kc2', rfl, g0, g2⟩ := itmRep_openF hN
      have hrow2 := Hrow.out.ext hg2 (fun h => h)
      have hfz := hrow2.2.2
      obtain ⟨u0, d0⟩ := hrow2.2.1 (k * 7) (by omega)
      obtain ⟨u1, d1⟩ := hrow2.2.1 (k * 7 + 1) (by omega)
      obtain ⟨u2, d2⟩ := hrow2.2.1 (k * 7 + 2) (by omega)
      obtain ⟨u3, d3⟩ := hrow2.2.1 (k * 7 + 3) (by omega)
      obtain ⟨u4, d4⟩ := hrow2.2.1 (k * 7 + 4) (by omega)
      obtain ⟨u5, d5⟩ := hrow2.2.1 (k * 7 + 5) (by omega)
      obtain ⟨u6, d6⟩ := hrow2.2.1 (k * 7 + 6) (by omega)
      have Hrow2 := Lib.hid hrow2
      clear hrow2 hN Hl g0 g2
      unfold itmL at *
      go_wp2_with fail
      clear d0 d1 d2 d3 d4 d5 d6 hfz
      have hl : (l.take k).length = k := by simp; omega
      have hbf : w.heap.size ∉ fp := fun h => by have := (Hfr.out.2 _ h).1; omega
      have hbf' : w.heap.size ∉ f' := fun h => by have := (hf'.2 _ h).1; have := Hrow.out.1; omega
      have hfr2 := Hfr.out.ext hg2 (fun _ _ h => h)
      have hkf2 := Hkf.out.keep (hg2.keeps Hfr.out (fun _ _ h => h)) (fun o' _ ho => hg2.cell (p := ⟨w.heap.size, o', none⟩) Hrow.out.1 (fun h => h))
      have hlay := RowF.lay Hrow2.out hkf2 HN.out (by rw [hl, itmRep_n]; omega) hbf hbf'
      rw [hl, itmRep_n] at hlay
      have hfr3 := Free.append Hfr.out hf' hg2 (Nat.le_refl _) (by have := Hrow.out.1; omega)
      go_roundw
      case rel =>
        rw [show (((((((w2.setCell ⟨w.heap.size, k * 7, none⟩ (.string l[k].1)).setCell ⟨w.heap.size, k * 7 + 1, none⟩ (.int .i64 l[k].2.1)).setCell ⟨w.heap.size, k * 7 + 2, none⟩ (.int .i64 l[k].2.2.kind)).setCell ⟨w.heap.size, k * 7 + 3, none⟩ (.int .i64 l[k].2.2.num)).setCell ⟨w.heap.size, k * 7 + 4, none⟩ (.string l[k].2.2.text)).setCell ⟨w.heap.size, k * 7 + 5, none⟩ (.slice na2' l[k].2.2.names.length nc2')).setCell ⟨w.heap.size, k * 7 + 6, none⟩ (.slice ka2' l[k].2.2.kids.length kc2')) = storeL w2 w.heap.size (k * 7) [.string l[k].1, .int .i64 l[k].2.1, .int .i64 l[k].2.2.kind, .int .i64 l[k].2.2.num, .string l[k].2.2.text, .slice na2' l[k].2.2.names.length nc2', .slice ka2' l[k].2.2.kids.length kc2'] from rfl]
        exact ⟨k + 1, fp ++ f', by omega, by go_num, Grow.inner (hg.trans hg2) (storeL_ext w.heap.size [.string l[k].1, .int .i64 l[k].2.1, .int .i64 l[k].2.2.kind, .int .i64 l[k].2.2.num, .string l[k].2.2.text, .slice na2' l[k].2.2.names.length nc2', .slice ka2' l[k].2.2.kids.length kc2'] w2 (k * 7)) (by intro i hi; omega), storeL_row _ _ _ Hrow2.out, by rw [take_snoc' _ _ hlt]; exact hlay, storeL_free _ _ _ hfr3⟩
      case measure => simp [intOf]; omega
    · have hke : k = l.length := by omega
      subst hke
      go_wp2
      go_ret
      rw [List.take_length] at Hkf
      by_cases hne : l = []
      · subst hne
        exact ⟨_, _, [], rfl, hg, ⟨Nat.le_refl _, by simp, .inl ⟨rfl, rfl⟩⟩, Free.nil _ _⟩
      · exact ⟨_, _, w.heap.size :: fp, rfl, hg, ⟨Nat.le_refl _, Hn.out.2.1, .inr ⟨_, 0, fp, hne, rfl, rfl, Hkf.out⟩⟩, Free.cons Hrow.out (Nat.le_refl _) Hfr.out⟩

end Go.Proofs.Ytmeobmegnneegaa

/-
  The walks of what makes names, pointers and tags valid.
-/
namespace Go.Proofs.Ytmeobmegnneegaa
open Go.RowKit

/-- A letter or a digit of a name. -/
def nameC (c : UInt8) : Bool := inR c.toNat 97 122 || inR c.toNat 48 57
/-- A digit to the base 16. -/
def hexC (c : UInt8) : Bool := inR c.toNat 48 57 || inR c.toNat 97 102
def nameB (s : ByteArray) : Bool := decide (1 ≤ s.size) && decide (s.size ≤ 8) && s.data.toList.all nameC
def tagB (s : ByteArray) : Bool := decide (s.size = 4) && s.data.toList.all hexC

theorem inR_cases (c a b : Int) : (c < a ∧ inR c a b = false) ∨ (b < c ∧ inR c a b = false) ∨ (a ≤ c ∧ c ≤ b ∧ inR c a b = true) := by
  by_cases h1 : c < a
  · exact .inl ⟨h1, by simp [inR]; omega⟩
  · by_cases h2 : b < c
    · exact .inr (.inl ⟨h2, by simp [inR]; omega⟩)
    · exact .inr (.inr ⟨by omega, by omega, by simp [inR]; omega⟩)

theorem all_end {p : UInt8 → Bool} (s : ByteArray) (k : Nat) (h : ¬ k < s.size) (hk : k ≤ s.size) (h1 : (s.data.toList.take k).all p = true) : s.data.toList.all p = true := by
  have : k = s.data.toList.length := by simp; omega
  rwa [this, List.take_length] at h1

set_option maxHeartbeats 1000000 in
theorem isName_ok (s : ByteArray) (w : World) (hs : s.size ≤ big) :
    Calls Try.prog 77 #[.string s] w fun e w' => e = .returned (.bool (nameB s)) ∧ w = w' := by
  unfold big at hs
  by_cases h0 : s.size = 0
  · have he : s.toList.isEmpty = true := by rw [ByteArray.toList_eq]; simp; exact ByteArray.size_eq_zero_iff.1 h0 ▸ rfl
    have Hf : Hid (nameB s = false) := Lib.hid (by simp [nameB, h0])
    clear h0
    go_enter Try.func77, Try.ntmps77
    go_wp2
    go_ret
    exact ⟨by simp [Hf.out], rfl⟩
  have he : s.toList.isEmpty = false := by
    rw [ByteArray.toList_eq, List.isEmpty_eq_false_iff]
    intro h
    have : s.data.toList.length = 0 := by rw [h]; rfl
    exact h0 (by simpa using this)
  have h0 : 1 ≤ s.size := by omega
  by_cases h8 : 8 < s.size
  · have Hf : Hid (nameB s = false) := Lib.hid (by simp [nameB]; omega)
    go_enter Try.func77, Try.ntmps77
    go_wp2
    go_ret
    exact ⟨by simp [Hf.out], rfl⟩
  · have h8' : s.size ≤ 8 := by omega
    clear h8
    go_enter Try.func77, Try.ntmps77
    go_wp2
    go_loop [2, 3] (fun n i => n = .bool false ∧ ∃ k : Nat, k ≤ s.size ∧ i = .int .i64 k ∧ Hid ((s.data.toList.take k).all nameC = true)) (fun _ i => s.size - (intOf i).toNat)
    case atStart => exact ⟨rfl, 0, Nat.zero_le _, rfl, Lib.hid rfl⟩
    case round =>
      obtain ⟨rfl, k, hk, rfl, Hall⟩ := hrel
      by_cases hlt : k < s.size
      · have fin0 : inR (s[k].toNat : Int) 97 122 = false → inR (s[k].toNat : Int) 48 57 = false → nameB s = false := fun h1 h2 => by
          have := all_stop s k hlt (p := nameC) (by simp [nameC, h1, h2])
          simp [nameB, this]
        have fin1 : (inR (s[k].toNat : Int) 97 122 = true ∨ inR (s[k].toNat : Int) 48 57 = true) → (s.data.toList.take (k + 1)).all nameC = true := fun h => all_step s k hlt Hall.out (by rcases h with h | h <;> simp [nameC, h])
        have Fin0 := Lib.hid fin0
        have Fin1 := Lib.hid fin1
        clear fin0 fin1
        rcases inR_cases (s[k].toNat : Int) 97 122 with ⟨a1, a2⟩ | ⟨a1, a2⟩ | ⟨a1, a1', a2⟩
        · rcases inR_cases (s[k].toNat : Int) 48 57 with ⟨b1, b2⟩ | ⟨b1, b2⟩ | ⟨b1, b1', b2⟩
          · have Hf := Lib.hid (Fin0.out a2 b2)
            clear a2 b2
            go_wp2
            go_ret
            exact ⟨by simp [Hf.out], rfl⟩
          · have Hf := Lib.hid (Fin0.out a2 b2)
            clear a2 b2
            go_wp2
            go_ret
            exact ⟨by simp [Hf.out], rfl⟩
          · have Hf := Lib.hid (Fin1.out (.inr b2))
            clear a2 b2
            go_wp2
            go_round
            case rel => exact ⟨rfl, k + 1, by omega, by go_num, Hf⟩
            case measure => simp [intOf]; omega
        · have b1 : 57 < (s[k].toNat : Int) := by omega
          have Hf := Lib.hid (Fin0.out a2 (by simp [inR]; omega))
          clear a2
          go_wp2
          go_ret
          exact ⟨by simp [Hf.out], rfl⟩
        · have Hf := Lib.hid (Fin1.out (.inl a2))
          clear a2
          go_wp2
          go_round
          case rel => exact ⟨rfl, k + 1, by omega, by go_num, Hf⟩
          case measure => simp [intOf]; omega
      · have Hf : Hid (nameB s = true) := Lib.hid (by simp [nameB, all_end s k hlt hk Hall.out]; omega)
        go_wp2
        go_ret
        exact ⟨by simp [Hf.out], rfl⟩

set_option maxHeartbeats 1000000 in
theorem validName_ok (s : ByteArray) (w : World) (hs : s.size ≤ big) :
    Calls Try.prog 71 #[.string s] w fun e w' => e = .returned (.bool (nameB s)) ∧ w = w' := by
  unfold big at hs
  go_enter Try.func71, Try.ntmps71
  go_wp2
  go_loop [2, 3] (fun n i => n = .bool false ∧ ∃ k : Nat, k ≤ s.size ∧ i = .int .i64 k ∧ Hid ((s.data.toList.take k).all nameC = true)) (fun _ i => s.size - (intOf i).toNat)
  case atStart => exact ⟨rfl, 0, Nat.zero_le _, rfl, Lib.hid rfl⟩
  case round =>
    obtain ⟨rfl, k, hk, rfl, Hall⟩ := hrel
    by_cases hlt : k < s.size
    · have hby := byte_lt s[k]
      cases a2 : inR (s[k].toNat : Int) 97 122
      · cases b2 : inR (s[k].toNat : Int) 48 57
        · have Hf : Hid (nameB s = false) := Lib.hid (by
            have := all_stop s k hlt (p := nameC) (by simp [nameC, a2, b2])
            simp [nameB, this])
          go_wp2_with (go_at_call 95; refine (inRange_ok _ _ _ _).mono ?_; rintro e w' ⟨rfl, rfl⟩)
          go_ret
          exact ⟨by simp [Hf.out], rfl⟩
        · have Hf := Lib.hid (all_step s k hlt Hall.out (p := nameC) (by simp [nameC, b2]))
          go_wp2_with (go_at_call 95; refine (inRange_ok _ _ _ _).mono ?_; rintro e w' ⟨rfl, rfl⟩)
          go_round
          case rel => exact ⟨rfl, k + 1, by omega, by go_num, Hf⟩
          case measure => simp [intOf]; omega
      · have Hf := Lib.hid (all_step s k hlt Hall.out (p := nameC) (by simp [nameC, a2]))
        go_wp2_with (go_at_call 95; refine (inRange_ok _ _ _ _).mono ?_; rintro e w' ⟨rfl, rfl⟩)
        go_round
        case rel => exact ⟨rfl, k + 1, by omega, by go_num, Hf⟩
        case measure => simp [intOf]; omega
    · have Hf : Hid (nameB s = inR s.size 1 8) := Lib.hid (by rw [Bool.eq_iff_iff]; simp [nameB, all_end s k hlt hk Hall.out, inR]; omega)
      go_wp2_with (go_at_call 95; refine (inRange_ok _ _ _ _).mono ?_; rintro e w' ⟨rfl, rfl⟩)
      go_ret
      exact ⟨by simp [Hf.out], rfl⟩

def pathB (p : List ByteArray) : Bool := decide (p.length ≤ 5) && p.all plainT

theorem allD_step {α : Type} {p : α → Bool} (xs : List α) (k : Nat) (h : k < xs.length) : (xs.drop k).all p = (p xs[k] && (xs.drop (k + 1)).all p) := by
  rw [drop_cons xs k h, List.all_cons]
theorem allD_end {α : Type} {p : α → Bool} (xs : List α) (k : Nat) (h : ¬ k < xs.length) : (xs.drop k).all p = true := by
  rw [List.drop_eq_nil_of_le (by omega)]; rfl

def hexL : List UInt8 := [48, 49, 50, 51, 52, 53, 54, 55, 56, 57, 97, 98, 99, 100, 101, 102]
theorem hexL_nat : ∀ n, n < 256 → decide (Lib.indexByte hexL (UInt8.ofNat n) < 0) = !hexC (UInt8.ofNat n) := by decide +kernel
theorem hexL_idx (c : UInt8) : decide (Lib.indexByte hexL c < 0) = !hexC c := by
  have h := hexL_nat c.toNat c.toNat_lt
  rwa [UInt8.ofNat_toNat] at h

end Go.Proofs.Ytmeobmegnneegaa

/-
  Stores as data: how they lie in memory, when they are valid.
-/
namespace Go.Proofs.Ytmeobmegnneegaa
open Go.RowKit

abbrev Sto := List Itm × Int
theorem itmRep_pos : 0 < itmRep.n := by rw [itmRep_n]; omega
def stoRep : Rep Sto := pairRep (slRep itmRep itmRep_pos) intRep
def stoL (s : Sto) (a : Option Addr) (c : Nat) : List Value := [.slice a s.1.length c, .int .i64 s.2]
def stoV (s : Sto) (a : Option Addr) (c : Nat) : Value := .agg #[.slice a s.1.length c, .int .i64 s.2]
def costSto (s : Sto) : Nat := costItmL s.1
theorem sto_open {w : World} {S : Nat → Prop} {s : Sto} {v : Value} (h : RV stoRep packA w S s v) : ∃ a c, v = stoV s a c ∧ SlR itmRep w S a c s.1 := by
  obtain ⟨cs, rfl, _, _, rfl, ⟨a, c, rfl, h⟩, rfl⟩ := h; exact ⟨a, c, rfl, h⟩
theorem sto_shut {w : World} {S : Nat → Prop} {s : Sto} {a : Option Addr} {c : Nat} (h : SlR itmRep w S a c s.1) : RV stoRep packA w S s (stoV s a c) := ⟨_, rfl, _, _, rfl, ⟨a, c, rfl, h⟩, rfl⟩
theorem sto_openF {w : World} {s : Sto} {v : Value} {fp : List Nat} (h : FV stoRep packA w s v fp) : ∃ a c, v = stoV s a c ∧ SlF itmRep w a c s.1 fp := by
  obtain ⟨cs, rfl, _, _, f, g, rfl, rfl, ⟨a, c, rfl, h⟩, ⟨rfl, rfl⟩⟩ := h; exact ⟨a, c, rfl, by simpa using h⟩
theorem sto_shutF {w : World} {s : Sto} {a : Option Addr} {c : Nat} {fp : List Nat} (h : SlF itmRep w a c s.1 fp) : FV stoRep packA w s (stoV s a c) fp :=
  ⟨_, rfl, _, _, fp, [], rfl, by simp, ⟨a, c, rfl, h⟩, ⟨rfl, rfl⟩⟩

/-! ### Valid stores -/
def itmB (clock : Int) (x : Itm) : Bool := nameB x.1 && inR x.2.1 1 clock && validB x.2.2
def itmsFrom (clock : Int) : Option ByteArray → List Itm → Bool
  | _, [] => true
  | p, x :: r => (match p with | none => true | some y => lt y x.1) && itmB clock x && itmsFrom clock (some x.1) r
def itmsAt (clock : Int) (l : List Itm) (k : Nat) : Bool := itmsFrom clock (if k = 0 then none else (l[k - 1]?).map (·.1)) (l.drop k)
def itmsB (clock : Int) (l : List Itm) : Bool := itmsFrom clock none l
def storeB (s : Sto) : Bool := decide (s.1.length ≤ 10) && inR s.2 0 999 && itmsB s.2 s.1
theorem itmsAt_zero (clock : Int) (l : List Itm) : itmsAt clock l 0 = itmsB clock l := by simp [itmsAt, itmsB]
theorem itmsAt_end (clock : Int) (l : List Itm) (k : Nat) (h : ¬ k < l.length) : itmsAt clock l k = true := by
  unfold itmsAt; rw [List.drop_eq_nil_of_le (by omega)]; cases k <;> simp [itmsFrom]
theorem itmsAt_first (clock : Int) (l : List Itm) (h : 0 < l.length) : itmsAt clock l 0 = (itmB clock l[0] && itmsAt clock l 1) := by
  unfold itmsAt; rw [drop_cons l 0 h]; simp [itmsFrom, h]
theorem itmsAt_next (clock : Int) (l : List Itm) (k : Nat) (h : k < l.length) (h0 : 0 < k) : itmsAt clock l k = (lt l[k - 1].1 l[k].1 && itmB clock l[k] && itmsAt clock l (k + 1)) := by
  unfold itmsAt
  rw [drop_cons l k h, if_neg (by omega), List.getElem?_eq_getElem (by omega)]
  simp [itmsFrom, h]
theorem itmsAt_bad {clock : Int} {l : List Itm} {k : Nat} (h : k < l.length) (hb : itmB clock l[k] = false ∨ (0 < k ∧ lt (l[k - 1]'(by omega)).1 l[k].1 = false)) : itmsAt clock l k = false := by
  rcases Nat.eq_zero_or_pos k with rfl | h0
  · rcases hb with hb | ⟨hb, _⟩
    · rw [itmsAt_first _ _ h, hb]; rfl
    · omega
  · rw [itmsAt_next _ _ _ h h0]
    rcases hb with hb | ⟨_, hb⟩
    · rw [hb]; simp
    · rw [hb]; simp
theorem itmsAt_good {clock : Int} {l : List Itm} {k : Nat} (h : k < l.length) (hb : itmB clock l[k] = true) (ho : ∀ _ : 0 < k, lt (l[k - 1]'(by omega)).1 l[k].1 = true) : itmsAt clock l k = itmsAt clock l (k + 1) := by
  rcases Nat.eq_zero_or_pos k with rfl | h0
  · rw [itmsAt_first _ _ h, hb]; rfl
  · rw [itmsAt_next _ _ _ h h0, hb, ho h0]; simp
theorem itmsFrom_all {clock : Int} : ∀ {p : Option ByteArray} {l : List Itm}, itmsFrom clock p l = true → ∀ x ∈ l, itmB clock x = true
  | _, [], _, x, hx => by cases hx
  | p, y :: r, h, x, hx => by
    unfold itmsFrom at h
    simp only [Bool.and_eq_true] at h
    rcases List.mem_cons.1 hx with rfl | hx
    · exact h.1.2
    · exact itmsFrom_all h.2 x hx
theorem lt_trans {a b c : ByteArray} (h1 : lt a b = true) (h2 : lt b c = true) : lt a c = true := bl_trans _ _ _ h1 h2
theorem itmsFrom_asc {clock : Int} : ∀ {p : Option ByteArray} {l : List Itm}, itmsFrom clock p l = true → (l.map (·.1)).Pairwise (fun a b => lt a b = true) ∧ ∀ y, p = some y → ∀ x ∈ l, lt y x.1 = true
  | _, [], _ => ⟨List.Pairwise.nil, fun _ _ x hx => by cases hx⟩
  | p, y :: r, h => by
    unfold itmsFrom at h
    simp only [Bool.and_eq_true] at h
    obtain ⟨i1, i2⟩ := itmsFrom_asc h.2
    refine ⟨List.Pairwise.cons (fun z hz => ?_) i1, ?_⟩
    · obtain ⟨x, hx, rfl⟩ := List.mem_map.1 hz
      exact i2 _ rfl x hx
    · rintro q rfl x hx
      have h0 : lt q y.1 = true := h.1.1
      rcases List.mem_cons.1 hx with rfl | hx
      · exact h0
      · exact lt_trans h0 (i2 _ rfl x hx)
theorem storeB_parts {s : Sto} (h : storeB s = true) : s.1.length ≤ 10 ∧ 0 ≤ s.2 ∧ s.2 ≤ 999 ∧ (∀ x ∈ s.1, itmB s.2 x = true) ∧ (s.1.map (·.1)).Pairwise (fun a b => lt a b = true) := by
  unfold storeB inR at h
  simp only [Bool.and_eq_true, decide_eq_true_eq] at h
  exact ⟨h.1.1, h.1.2.1, h.1.2.2, itmsFrom_all h.2, (itmsFrom_asc h.2).1⟩

end Go.Proofs.Ytmeobmegnneegaa

/-
  A region that draws its order, makes memory and stores into a box of the call's own.
-/
namespace Go.Proofs.Ytmeobmegnneegaa
open Go Go.RowKit

/-- The world goes on; box b (n cells) may turn, but what K says of it stays once it is true. -/
def RB (b n : Nat) (K : World → Prop) (w w' : World) : Prop := Ext (fun k => k = b) w w' ∧ (RowIn w b n → RowIn w' b n) ∧ (K w → K w')

theorem RB.refl (b n : Nat) (K : World → Prop) (w : World) : RB b n K w w := ⟨Ext.refl _ _, fun h => h, fun h => h⟩
theorem RB.trans {b n : Nat} {K : World → Prop} {a c d : World} (h : RB b n K a c) (k : RB b n K c d) : RB b n K a d := ⟨h.1.trans k.1, fun x => k.2.1 (h.2.1 x), fun x => k.2.2 (h.2.2 x)⟩

/-- Some later world. -/
structure LaterB (b n : Nat) (K : World → Prop) (w : World) : Type where
  at' : World
  rel : RB b n K w at'
def laterB {b n : Nat} {K : World → Prop} (w : World) (x : LaterB b n K w) : World := x.at'
instance laterB_some (b n : Nat) (K : World → Prop) (w : World) : Nonempty (LaterB b n K w) := ⟨⟨w, RB.refl _ _ _ _⟩⟩
theorem laterB_rel {b n : Nat} {K : World → Prop} (w : World) (x : LaterB b n K w) : RB b n K w (laterB w x) := x.rel

@[go_sem] theorem laterB_cell {b n : Nat} {K : World → Prop} (w : World) (x : LaterB b n K w) (a : Addr) (h : (w.cell? a).isSome = true) (hb : ¬ a.block = b) : (laterB w x).cell? a = w.cell? a := by
  obtain ⟨v, hv⟩ := Option.isSome_iff_exists.1 h
  rw [hv]; exact (laterB_rel w x).1.some hv hb

section
variable {P : Program} {ops : Array Oper} {Vs : Nat → Option (Value → World → Prop)} {w : World} {Q : Act → World → Prop} {b n : Nat} {K : World → Prop}

theorem rb_drew {w w' : World} (h : RB b n K w.drew w') (hK : K w → K w.drew) : RB b n K w w' :=
  ⟨((Ext.refl _ w).drew).trans h.1, fun x => h.2.1 ⟨x.1, x.2.1, x.2.2⟩, fun x => h.2.2 (hK x)⟩

theorem stabB_quiet {o : Oper} {rest : List Oper} {k : Nat} {a : Act} {E : Env} (hKd : K w → K w.drew) (he : easy o = true) (hw : Region.wanted o (yielded ops a.tmps) = true) (hV : Vs k = none)
    (h : ∀ J : Act → Prop, (∀ a, wpStab P ops (RB b n K) Vs (fun w' => RB b n K w.drew w') Q rest (k + 1) a E → J a) → o.quiet P a (fun w' => ∃ x : LaterB b n K w, w' = laterB w x) J) :
    wpStab P ops (RB b n K) Vs (fun w' => RB b n K w.drew w') Q (o :: rest) k a E := by
  unfold wpStab
  rw [if_pos hw]
  unfold does
  rw [hV]
  obtain ⟨v, h1, h2⟩ := h _ (fun _ h => h)
  refine ⟨v, fun w' hc => ?_, h2⟩
  have h3 := h1 w' ⟨⟨w', rb_drew hc.1 hKd⟩, rfl⟩
  unfold Oper.quietAt at h3
  unfold valAt
  have hne := noEnter (P := P) he a.eval w'
  generalize (execOp a.eval o).run P w' = r at *
  cases r with
  | ok n' w2 =>
    cases n' <;> simp only [Oper.quietUpon] at h3 <;> simp only [valUpon]
    case value u => exact ⟨h3.2, by rw [h3.1]; exact RB.refl _ _ _ _⟩
    case skip => exact ⟨h3.2, by rw [h3.1]; exact RB.refl _ _ _ _⟩
    case enter f args => exact absurd rfl (hne w2 f args)
  | halt x w2 => simp only [Oper.quietUpon] at h3

/-- An operation that hands back something opaque. -/
theorem stabB_made {o : Oper} {rest : List Oper} {k : Nat} {a : Act} {E : Env} (V : Value → World → Prop) (hKd : K w → K w.drew) (hw : Region.wanted o (yielded ops a.tmps) = true) (hV : Vs k = some V)
    (h : ∀ x : LaterB b n K w, (∀ e ∈ o.after, Region.binds .any e = true → E e.on (laterB w x)) → stabAt (RB b n K) P o a (laterB w x) V)
    (h2 : ∀ v, (∃ x : LaterB b n K w, V v (laterB w x)) → wpStab P ops (RB b n K) Vs (fun w' => RB b n K w.drew w') Q rest (k + 1) (a.put o.dst v) (E.upd k (V v))) :
    wpStab P ops (RB b n K) Vs (fun w' => RB b n K w.drew w') Q (o :: rest) k a E := by
  unfold wpStab
  rw [if_pos hw]
  unfold does
  rw [hV]
  exact ⟨fun w' hc => h ⟨w', rb_drew hc.1 hKd⟩ hc.2, fun v w' hc _ hv => h2 v ⟨⟨w', rb_drew hc hKd⟩, hv⟩⟩

theorem stabB_end {k : Nat} {a : Act} {E : Env} (hKd : K w → K w.drew) (h : ∀ w', RB b n K w w' → (∀ j, E j w') → Q a w') : wpStab P ops (RB b n K) Vs (fun w' => RB b n K w.drew w') Q [] k a E :=
  fun w' hc hE => h w' (rb_drew hc hKd) hE

/-- A call. -/
theorem stabB_call {o : Oper} {a : Act} {w : World} {V : Value → World → Prop} {f : FuncId} {args : Array Value} (hr : (execOp a.eval o).run P w = .ok (.enter f args) w)
    (hK : ∀ w', Grow w w' → K w → K w') (hc : Calls P f args w fun e w' => ∃ v, e = .returned v ∧ Grow w w' ∧ V v w') : stabAt (RB b n K) P o a w V := by
  unfold stabAt
  rw [hr]
  exact ⟨rfl, hc.mono fun e w' ⟨v, he, hg, hv⟩ => ⟨v, he, ⟨hg.mono (fun _ h => False.elim h), fun h => h.ext hg (fun h => h), hK w' hg⟩, hv⟩⟩

/-- An operation that makes memory. -/
theorem stabB_val {o : Oper} {a : Act} {w w' : World} {V : Value → World → Prop} {v : Value} (hr : (execOp a.eval o).run P w = .ok (.value v) w') (hg : Grow w w')
    (hK : K w → K w') (hv : V v w') : stabAt (RB b n K) P o a w V := by
  unfold stabAt
  rw [hr]
  exact ⟨⟨hg.mono (fun _ h => False.elim h), fun h => h.ext hg (fun h => h), hK⟩, hv⟩

/-- The store into the box. -/
theorem stabB_store {o : Oper} {a : Act} {w : World} {V : Value → World → Prop} {vs : List Value} (hr : (execOp a.eval o).run P w = .ok .skip (storeL w b 0 vs))
    (hK : K w → K (storeL w b 0 vs)) (hv : V undef (storeL w b 0 vs)) : stabAt (RB b n K) P o a w V := by
  unfold stabAt
  rw [hr]
  exact ⟨⟨storeL_ext _ _ _ _, fun h => storeL_row _ _ _ h, hK⟩, hv⟩
end

theorem exec_append {P : Program} {o : Oper} {a : Act} {w w' : World} (s x : Operand) (t : TypeId) (ho : o.op = .call { callee := .builtin .append, args := #[s, x], argTypes := #[t, t] }) (v y v' : Value) (hs : a.eval s = v) (hx : a.eval x = y)
    (hr : (Builtin.append_ #[t, t] o.type #[v, y]).run P w = .ok v' w') : (execOp a.eval o).run P w = .ok (.value v') w' := by
  unfold execOp
  simp only [ho, resolve, invoke, builtin, Sem.run_bind, Sem.run_pure, Result.andThen_ok, List.map_toArray, List.map_cons, List.map_nil, hs, hx, hr]

end Go.Proofs.Ytmeobmegnneegaa

/-
  The walks of impl.ValidStore and spec.validStore.
-/
namespace Go.Proofs.Ytmeobmegnneegaa
open Go.RowKit

theorem isLimit_ok (n : Int) (w : World) : Calls Try.prog 94 #[.int .i64 n] w fun e w' => e = .returned (.bool (inR n 1 10)) ∧ w' = w := by
  go_enter Try.func94, Try.ntmps94
  go_wp2
  all_goals (go_ret; exact ⟨by simp [inR] <;> omega, rfl⟩)

theorem bl_ne {a b : ByteArray} (h : lt a b = true) : (a.toList == b.toList) = false := by
  cases h' : a.toList == b.toList
  · rfl
  · have : a.toList = b.toList := by simpa using h'
    unfold lt at h
    rw [this, bl_irrefl] at h; cases h

theorem bl_ne' {a b : ByteArray} (h : lt a b = true) : (b.toList == a.toList) = false := by
  have := bl_ne h
  rw [beq_toList] at this ⊢; simp only [decide_eq_false_iff_not] at this ⊢; exact fun e => this e.symm
theorem not_lt_cases {a b : ByteArray} (h : lt a b = false) : Op.bytesLess b.toList a.toList = true ∨ (Op.bytesLess b.toList a.toList = false ∧ (b.toList == a.toList) = true) := by
  have h3 := bl_tri b.toList a.toList
  unfold lt at h
  rw [h] at h3
  cases h4 : Op.bytesLess b.toList a.toList
  · rw [h4] at h3; exact .inr ⟨rfl, by simpa using h3⟩
  · exact .inl rfl

theorem isName_same (x : ByteArray) (w : World) (hs : x.size ≤ big) : Calls Try.prog 77 #[.string x] w fun e w' => e = .returned (.bool (nameB x)) ∧ w' = w :=
  (isName_ok x w hs).mono fun _ _ ⟨h1, h2⟩ => ⟨h1, h2.symm⟩

set_option maxHeartbeats 4000000 in
theorem ValidStore_ok (s : Sto) (v : Value) (w : World) (h : RV stoRep packA w any s v) :
    Calls Try.prog 42 #[v] w fun e w' => e = .returned (.bool (storeB s)) ∧ Grow w w' := by
  obtain ⟨a, c, rfl, hs⟩ := sto_open h
  have hbig : s.1.length ≤ 9223372036854775807 := hs.2.1
  have Hs := Lib.hid hs
  clear h hs
  unfold stoV
  by_cases hbad : 10 < s.1.length ∨ s.2 < 0 ∨ 999 < s.2
  · have Hb : Hid (storeB s = false) := Lib.hid (by simp only [storeB, inR, Bool.and_eq_false_iff, decide_eq_false_iff_not]; omega)
    rcases hbad with hb | hb | hb
    · go_enter Try.func42, Try.ntmps42
      go_wp2_with fail
      go_ret
      exact ⟨by simp [Hb.out], (by repeat (first | with_reducible exact Ext.refl _ _ | with_reducible refine Ext.trans ?_ (by assumption) | with_reducible refine Ext.drew ?_ | with_reducible refine Ext.drewN ?_ _ | with_reducible refine Ext.alloc ?_ _ | with_reducible refine Ext.setNew ?_ (by simp; done) _ | with_reducible refine Ext.setNew ?_ (by simp; omega) _))⟩
    · by_cases hl : 10 < s.1.length
      all_goals
        go_enter Try.func42, Try.ntmps42
        go_wp2_with fail
        go_ret
        exact ⟨by simp [Hb.out], (by repeat (first | with_reducible exact Ext.refl _ _ | with_reducible refine Ext.trans ?_ (by assumption) | with_reducible refine Ext.drew ?_ | with_reducible refine Ext.drewN ?_ _ | with_reducible refine Ext.alloc ?_ _ | with_reducible refine Ext.setNew ?_ (by simp; done) _ | with_reducible refine Ext.setNew ?_ (by simp; omega) _))⟩
    · by_cases hl : 10 < s.1.length
      · go_enter Try.func42, Try.ntmps42
        go_wp2_with fail
        go_ret
        exact ⟨by simp [Hb.out], (by repeat (first | with_reducible exact Ext.refl _ _ | with_reducible refine Ext.trans ?_ (by assumption) | with_reducible refine Ext.drew ?_ | with_reducible refine Ext.drewN ?_ _ | with_reducible refine Ext.alloc ?_ _ | with_reducible refine Ext.setNew ?_ (by simp; done) _ | with_reducible refine Ext.setNew ?_ (by simp; omega) _))⟩
      · have h0 : 0 ≤ s.2 := by omega
        go_enter Try.func42, Try.ntmps42
        go_wp2_with fail
        go_ret
        exact ⟨by simp [Hb.out], (by repeat (first | with_reducible exact Ext.refl _ _ | with_reducible refine Ext.trans ?_ (by assumption) | with_reducible refine Ext.drew ?_ | with_reducible refine Ext.drewN ?_ _ | with_reducible refine Ext.alloc ?_ _ | with_reducible refine Ext.setNew ?_ (by simp; done) _ | with_reducible refine Ext.setNew ?_ (by simp; omega) _))⟩
  have hl : s.1.length ≤ 10 := by omega
  have h0 : 0 ≤ s.2 := by omega
  have h9 : s.2 ≤ 999 := by omega
  have Hb : Hid (storeB s = itmsB s.2 s.1) := Lib.hid (by simp [storeB, inR, hl, h0, h9])
  clear hbad
  have HB := Lib.hid (BoxN.new w [.slice a s.1.length c, .int .i64 s.2] 33)
  go_enter Try.func42, Try.ntmps42
  go_wp2_with fail
  go_loopw [2, 3, 4, 22] (fun n _ _ i wr => n = .bool false ∧ Grow w wr ∧ BoxN wr w.heap.size [.slice a s.1.length c, .int .i64 s.2] ∧ ∃ k : Nat, k ≤ s.1.length ∧ i = .int .i64 k ∧ Hid (itmsB s.2 s.1 = itmsAt s.2 s.1 k)) (fun _ _ _ i _ => s.1.length - (intOf i).toNat)
  case atStart => exact ⟨rfl, (by repeat (first | with_reducible exact Ext.refl _ _ | with_reducible refine Ext.trans ?_ (by assumption) | with_reducible refine Ext.drew ?_ | with_reducible refine Ext.drewN ?_ _ | with_reducible refine Ext.alloc ?_ _ | with_reducible refine Ext.setNew ?_ (by simp; done) _ | with_reducible refine Ext.setNew ?_ (by simp; omega) _)), HB.out, 0, Nat.zero_le _, rfl, Lib.hid (itmsAt_zero _ _).symm⟩
  case round =>
    obtain ⟨rfl, hg, hB, k, hk, rfl, Hr⟩ := hrel
    have HB := Lib.hid hB
    have zB := hB.lt
    clear hB
    by_cases hlt : k < s.1.length
    · obtain ⟨_, _, hks⟩ := (Hs.out).grow hg
      rcases hks with hks | ⟨bk, ok, rfl, _, hkr⟩
      · simp [hks] at hlt
      obtain ⟨cs, hcs, hx⟩ := hkr k hlt
      obtain ⟨na0, nc0, ka0, kc0, rfl, hsz, h0⟩ := itmRep_open hx
      rw [itmRep_n] at hcs
      have x0 : wr.cell? ⟨bk, ok + k * 7, none⟩ = _ := hcs 0 _ rfl
      have x1 := hcs 1 _ rfl
      have x2 := hcs 2 _ rfl
      have x3 := hcs 3 _ rfl
      have x4 := hcs 4 _ rfl
      have x5 := hcs 5 _ rfl
      have x6 := hcs 6 _ rfl
      have zb : bk < wr.heap.size := lt_of_cell x0
      have H0 := Lib.hid h0
      have q0 := HB.out.cell 0 _ rfl
      have q1 := HB.out.cell 1 _ rfl
      have prev : ∀ h0 : 0 < k, wr.cell? ⟨bk, ok + (k - 1) * 7, none⟩ = some (.string (s.1[k - 1]'(by omega)).1) := fun h0 => by
        obtain ⟨cs', hcs', hx'⟩ := hkr (k - 1) (by omega)
        obtain ⟨_, _, _, _, rfl, _, _⟩ := itmRep_open hx'
        rw [itmRep_n] at hcs'
        exact hcs' 0 _ rfl
      have Prev := Lib.hid prev
      clear hkr hcs hx h0 prev
      have hg1 : ∀ o : Obj, Grow w (wr.alloc o) := fun o => hg.alloc o
      by_cases hbad : nameB s.1[k].1 = false ∨ (0 < k ∧ lt (s.1[k - 1]'(by omega)).1 s.1[k].1 = false)
      · have Hs : Hid (itmsAt s.2 s.1 k = false) := Lib.hid (itmsAt_bad hlt (hbad.imp (fun h => by unfold itmB; rw [h]; rfl) id))
        by_cases hn : nameB s.1[k].1 = false
        · have Hn := Lib.hid hn
          clear hn hbad
          go_wp2_with fail
          go_quiet ((go_at_call 77; exact Calls.quiet_of_same (by simpa only [Hn.out] using isName_same s.1[k].1 _ hsz)))
          go_wp2_with fail
          go_ret
          exact ⟨by simp [Hb.out, Hr.out, Hs.out], (by repeat (first | with_reducible exact Ext.refl _ _ | with_reducible refine Ext.trans ?_ (by assumption) | with_reducible refine Ext.drew ?_ | with_reducible refine Ext.drewN ?_ _ | with_reducible refine Ext.alloc ?_ _ | with_reducible refine Ext.setNew ?_ (by simp; done) _ | with_reducible refine Ext.setNew ?_ (by simp; omega) _))⟩
        · have hn : nameB s.1[k].1 = true := by simpa using hn
          obtain ⟨hk0, hlt'⟩ := hbad.resolve_left (by simp [hn])
          have Hn := Lib.hid hn
          have hki : (0 : Int) < (k : Int) := by omega
          have y0 := Prev.out hk0
          have k1 : ((k : Int) - 1).toNat = k - 1 := by omega
          have k2 : (0 : Int) ≤ (k : Int) - 1 := by omega
          have k3 : (k : Int) - 1 < (s.1.length : Int) := by omega
          clear hn
          rcases bl_cases (s.1[k - 1]'(by omega)).1 s.1[k].1 with ⟨l1, l2, l3, l4, _⟩ | ⟨l1, l2, l3, l4, _⟩ | l0
          · have := hlt'.symm.trans l1; cases this
          · clear hlt'
            go_wp2_with fail
            go_quiet ((go_at_call 77; exact Calls.quiet_of_same (by simpa only [Hn.out] using isName_same s.1[k].1 _ hsz)))
            go_wp2_with fail
            go_ret
            exact ⟨by simp [Hb.out, Hr.out, Hs.out], (by repeat (first | with_reducible exact Ext.refl _ _ | with_reducible refine Ext.trans ?_ (by assumption) | with_reducible refine Ext.drew ?_ | with_reducible refine Ext.drewN ?_ _ | with_reducible refine Ext.alloc ?_ _ | with_reducible refine Ext.setNew ?_ (by simp; done) _ | with_reducible refine Ext.setNew ?_ (by simp; omega) _))⟩
          · rw [l0] at y0
            clear l0 hlt'
            have l1 := blF_irrefl s.1[k].1
            go_wp2_with fail
            go_quiet ((go_at_call 77; exact Calls.quiet_of_same (by simpa only [Hn.out] using isName_same s.1[k].1 _ hsz)))
            go_wp2_with fail
            go_ret
            exact ⟨by simp [Hb.out, Hr.out, Hs.out], (by repeat (first | with_reducible exact Ext.refl _ _ | with_reducible refine Ext.trans ?_ (by assumption) | with_reducible refine Ext.drew ?_ | with_reducible refine Ext.drewN ?_ _ | with_reducible refine Ext.alloc ?_ _ | with_reducible refine Ext.setNew ?_ (by simp; done) _ | with_reducible refine Ext.setNew ?_ (by simp; omega) _))⟩
      · have hn : nameB s.1[k].1 = true := by
          cases h : nameB s.1[k].1
          · exact absurd (.inl h) hbad
          · rfl
        have hord : ∀ h0 : 0 < k, lt (s.1[k - 1]'(by omega)).1 s.1[k].1 = true := fun h0 => by
          cases h : lt (s.1[k - 1]'(by omega)).1 s.1[k].1
          · exact absurd (.inr ⟨h0, h⟩) hbad
          · rfl
        have Hn := Lib.hid hn
        have Hord := Lib.hid hord
        have fin : ∀ (wz : World), Hid (itmB s.2 s.1[k] = (inR s.1[k].2.1 1 s.2 && validB s.1[k].2.2)) := fun _ => Lib.hid (by unfold itmB; rw [hn]; rfl)
        have Hi := fin w
        clear hbad hn hord fin
        by_cases hk0 : 0 < k
        · have hki : (0 : Int) < (k : Int) := by omega
          have y0 := Prev.out hk0
          have k1 : ((k : Int) - 1).toNat = k - 1 := by omega
          have k2 : (0 : Int) ≤ (k : Int) - 1 := by omega
          have k3 : (k : Int) - 1 < (s.1.length : Int) := by omega
          have l1 : lt (s.1[k - 1]'(by omega)).1 s.1[k].1 = true := Hord.out hk0
          have l2 : Op.bytesLess s.1[k].1.toList (s.1[k - 1]'(by omega)).1.toList = false := bl_asymm _ _ l1
          have l3 : ((s.1[k - 1]'(by omega)).1.toList == s.1[k].1.toList) = false := bl_ne l1
          go_wp2_with fail
          go_quiet ((go_at_call 77; exact Calls.quiet_of_same (by simpa only [Hn.out] using isName_same s.1[k].1 _ hsz)))
          by_cases hv1 : s.1[k].2.1 < 1
          · have Hs : Hid (itmsAt s.2 s.1 k = false) := Lib.hid (itmsAt_bad hlt (.inl (by rw [Hi.out]; simp [inR]; omega)))
            go_wp2_with fail
            go_ret
            exact ⟨by simp [Hb.out, Hr.out, Hs.out], (by repeat (first | with_reducible exact Ext.refl _ _ | with_reducible refine Ext.trans ?_ (by assumption) | with_reducible refine Ext.drew ?_ | with_reducible refine Ext.drewN ?_ _ | with_reducible refine Ext.alloc ?_ _ | with_reducible refine Ext.setNew ?_ (by simp; done) _ | with_reducible refine Ext.setNew ?_ (by simp; omega) _))⟩
          by_cases hv2 : s.2 < s.1[k].2.1
          · have Hs : Hid (itmsAt s.2 s.1 k = false) := Lib.hid (itmsAt_bad hlt (.inl (by rw [Hi.out]; simp [inR]; omega)))
            go_wp2_with fail
            go_ret
            exact ⟨by simp [Hb.out, Hr.out, Hs.out], (by repeat (first | with_reducible exact Ext.refl _ _ | with_reducible refine Ext.trans ?_ (by assumption) | with_reducible refine Ext.drew ?_ | with_reducible refine Ext.drewN ?_ _ | with_reducible refine Ext.alloc ?_ _ | with_reducible refine Ext.setNew ?_ (by simp; done) _ | with_reducible refine Ext.setNew ?_ (by simp; omega) _))⟩
          cases hvb : validB s.1[k].2.2
          · have Hs : Hid (itmsAt s.2 s.1 k = false) := Lib.hid (itmsAt_bad hlt (.inl (by rw [Hi.out, hvb]; simp)))
            have Hv := Lib.hid hvb
            clear hvb
            go_wp2_with fail
            refine (ValidNode_ok s.1[k].2.2 _ _ ⟨_, _, _, _, rfl, H0.out.grow' (by repeat (first | with_reducible exact Ext.refl _ _ | with_reducible refine Ext.trans ?_ (by assumption) | with_reducible refine Ext.drew ?_ | with_reducible refine Ext.drewN ?_ _ | with_reducible refine Ext.alloc ?_ _ | with_reducible refine Ext.setNew ?_ (by simp; done) _ | with_reducible refine Ext.setNew ?_ (by simp; omega) _))⟩).mono ?_
            rintro e w3 ⟨rfl, hg3⟩
            simp only [Hv.out]
            go_wp2_with fail
            go_ret
            exact ⟨by simp [Hb.out, Hr.out, Hs.out], (by repeat (first | with_reducible exact Ext.refl _ _ | with_reducible refine Ext.trans ?_ (by assumption) | with_reducible refine Ext.drew ?_ | with_reducible refine Ext.drewN ?_ _ | with_reducible refine Ext.alloc ?_ _ | with_reducible refine Ext.setNew ?_ (by simp; done) _ | with_reducible refine Ext.setNew ?_ (by simp; omega) _))⟩
          · have Hs : Hid (itmsAt s.2 s.1 k = itmsAt s.2 s.1 (k + 1)) := Lib.hid (itmsAt_good hlt (by rw [Hi.out, hvb]; simp [inR]; omega) Hord.out)
            have Hv := Lib.hid hvb
            clear hvb
            go_wp2_with fail
            refine (ValidNode_ok s.1[k].2.2 _ _ ⟨_, _, _, _, rfl, H0.out.grow' (by repeat (first | with_reducible exact Ext.refl _ _ | with_reducible refine Ext.trans ?_ (by assumption) | with_reducible refine Ext.drew ?_ | with_reducible refine Ext.drewN ?_ _ | with_reducible refine Ext.alloc ?_ _ | with_reducible refine Ext.setNew ?_ (by simp; done) _ | with_reducible refine Ext.setNew ?_ (by simp; omega) _))⟩).mono ?_
            rintro e w3 ⟨rfl, hg3⟩
            simp only [Hv.out]
            have hgr : Grow wr w3 := (by repeat (first | with_reducible exact Ext.refl _ _ | with_reducible refine Ext.trans ?_ (by assumption) | with_reducible refine Ext.drew ?_ | with_reducible refine Ext.drewN ?_ _ | with_reducible refine Ext.alloc ?_ _ | with_reducible refine Ext.setNew ?_ (by simp; done) _ | with_reducible refine Ext.setNew ?_ (by simp; omega) _))
            go_wp2_with fail
            go_roundw
            case rel => exact ⟨rfl, hg.trans hgr, HB.out.grow hgr, k + 1, by omega, by go_num, Lib.hid (by rw [Hr.out, Hs.out])⟩
            case measure => simp [intOf]; omega
        · have hki : ¬ (0 : Int) < (k : Int) := by omega
          go_wp2_with fail
          go_quiet ((go_at_call 77; exact Calls.quiet_of_same (by simpa only [Hn.out] using isName_same s.1[k].1 _ hsz)))
          by_cases hv1 : s.1[k].2.1 < 1
          · have Hs : Hid (itmsAt s.2 s.1 k = false) := Lib.hid (itmsAt_bad hlt (.inl (by rw [Hi.out]; simp [inR]; omega)))
            go_wp2_with fail
            go_ret
            exact ⟨by simp [Hb.out, Hr.out, Hs.out], (by repeat (first | with_reducible exact Ext.refl _ _ | with_reducible refine Ext.trans ?_ (by assumption) | with_reducible refine Ext.drew ?_ | with_reducible refine Ext.drewN ?_ _ | with_reducible refine Ext.alloc ?_ _ | with_reducible refine Ext.setNew ?_ (by simp; done) _ | with_reducible refine Ext.setNew ?_ (by simp; omega) _))⟩
          by_cases hv2 : s.2 < s.1[k].2.1
          · have Hs : Hid (itmsAt s.2 s.1 k = false) := Lib.hid (itmsAt_bad hlt (.inl (by rw [Hi.out]; simp [inR]; omega)))
            go_wp2_with fail
            go_ret
            exact ⟨by simp [Hb.out, Hr.out, Hs.out], (by repeat (first | with_reducible exact Ext.refl _ _ | with_reducible refine Ext.trans ?_ (by assumption) | with_reducible refine Ext.drew ?_ | with_reducible refine Ext.drewN ?_ _ | with_reducible refine Ext.alloc ?_ _ | with_reducible refine Ext.setNew ?_ (by simp; done) _ | with_reducible refine Ext.setNew ?_ (by simp; omega) _))⟩
          cases hvb : validB s.1[k].2.2
          · have Hs : Hid (itmsAt s.2 s.1 k = false) := Lib.hid (itmsAt_bad hlt (.inl (by rw [Hi.out, hvb]; simp)))
            have Hv := Lib.hid hvb
            clear hvb
            go_wp2_with fail
            refine (ValidNode_ok s.1[k].2.2 _ _ ⟨_, _, _, _, rfl, H0.out.grow' (by repeat (first | with_reducible exact Ext.refl _ _ | with_reducible refine Ext.trans ?_ (by assumption) | with_reducible refine Ext.drew ?_ | with_reducible refine Ext.drewN ?_ _ | with_reducible refine Ext.alloc ?_ _ | with_reducible refine Ext.setNew ?_ (by simp; done) _ | with_reducible refine Ext.setNew ?_ (by simp; omega) _))⟩).mono ?_
            rintro e w3 ⟨rfl, hg3⟩
            simp only [Hv.out]
            go_wp2_with fail
            go_ret
            exact ⟨by simp [Hb.out, Hr.out, Hs.out], (by repeat (first | with_reducible exact Ext.refl _ _ | with_reducible refine Ext.trans ?_ (by assumption) | with_reducible refine Ext.drew ?_ | with_reducible refine Ext.drewN ?_ _ | with_reducible refine Ext.alloc ?_ _ | with_reducible refine Ext.setNew ?_ (by simp; done) _ | with_reducible refine Ext.setNew ?_ (by simp; omega) _))⟩
          · have Hs : Hid (itmsAt s.2 s.1 k = itmsAt s.2 s.1 (k + 1)) := Lib.hid (itmsAt_good hlt (by rw [Hi.out, hvb]; simp [inR]; omega) Hord.out)
            have Hv := Lib.hid hvb
            clear hvb
            go_wp2_with fail
            refine (ValidNode_ok s.1[k].2.2 _ _ ⟨_, _, _, _, rfl, H0.out.grow' (by repeat (first | with_reducible exact Ext.refl _ _ | with_reducible refine Ext.trans ?_ (by assumption) | with_reducible refine Ext.drew ?_ | with_reducible refine Ext.drewN ?_ _ | with_reducible refine Ext.alloc ?_ _ | with_reducible refine Ext.setNew ?_ (by simp; done) _ | with_reducible refine Ext.setNew ?_ (by simp; omega) _))⟩).mono ?_
            rintro e w3 ⟨rfl, hg3⟩
            simp only [Hv.out]
            have hgr : Grow wr w3 := (by repeat (first | with_reducible exact Ext.refl _ _ | with_reducible refine Ext.trans ?_ (by assumption) | with_reducible refine Ext.drew ?_ | with_reducible refine Ext.drewN ?_ _ | with_reducible refine Ext.alloc ?_ _ | with_reducible refine Ext.setNew ?_ (by simp; done) _ | with_reducible refine Ext.setNew ?_ (by simp; omega) _))
            go_wp2_with fail
            go_roundw
            case rel => exact ⟨rfl, hg.trans hgr, HB.out.grow hgr, k + 1, by omega, by go_num, Lib.hid (by rw [Hr.out, Hs.out])⟩
            case measure => simp [intOf]; omega
    · have He := Lib.hid (itmsAt_end s.2 s.1 k hlt)
      go_wp2_with fail
      go_ret
      exact ⟨by simp [Hb.out, Hr.out, He.out], hg⟩

end Go.Proofs.Ytmeobmegnneegaa

/-
  The walk of spec.validStore.
-/
namespace Go.Proofs.Ytmeobmegnneegaa
open Go.RowKit

theorem validName_same (x : ByteArray) (w : World) (hs : x.size ≤ big) : Calls Try.prog 71 #[.string x] w fun e w' => e = .returned (.bool (nameB x)) ∧ w' = w :=
  (validName_ok x w hs).mono fun _ _ ⟨h1, h2⟩ => ⟨h1, h2.symm⟩

set_option maxHeartbeats 8000000 in
theorem validStore_ok (s : Sto) (v : Value) (w : World) (h : RV stoRep packA w any s v) :
    Calls Try.prog 70 #[v] w fun e w' => e = .returned (.bool (storeB s)) ∧ Grow w w' := by
  obtain ⟨a, c, rfl, hs⟩ := sto_open h
  have hbig : s.1.length ≤ 9223372036854775807 := hs.2.1
  have Hs := Lib.hid hs
  clear h hs
  unfold stoV
  have Hb : Hid (storeB s = (decide (s.1.length ≤ 10) && inR s.2 0 999 && itmsB s.2 s.1)) := Lib.hid rfl
  have HB := Lib.hid (BoxN.new w [.slice a s.1.length c, .int .i64 s.2] 33)
  go_enter Try.func70, Try.ntmps70
  go_wp2_with fail
  go_loopw [2, 3, 4] (fun n i _ wr => n = .bool false ∧ Grow w wr ∧ BoxN wr w.heap.size [.slice a s.1.length c, .int .i64 s.2] ∧ ∃ k : Nat, k ≤ s.1.length ∧ i = .int .i64 k ∧ Hid (itmsB s.2 s.1 = itmsAt s.2 s.1 k)) (fun _ i _ _ => s.1.length - (intOf i).toNat)
  case atStart => exact ⟨rfl, (by repeat (first | with_reducible exact Ext.refl _ _ | with_reducible refine Ext.trans ?_ (by assumption) | with_reducible refine Ext.drew ?_ | with_reducible refine Ext.drewN ?_ _ | with_reducible refine Ext.alloc ?_ _ | with_reducible refine Ext.setNew ?_ (by simp; done) _ | with_reducible refine Ext.setNew ?_ (by simp; omega) _)), HB.out, 0, Nat.zero_le _, rfl, Lib.hid (itmsAt_zero _ _).symm⟩
  case round =>
    obtain ⟨rfl, hg, hB, k, hk, rfl, Hr⟩ := hrel
    have HB := Lib.hid hB
    have zB := hB.lt
    clear hB
    have q0 := HB.out.cell 0 _ rfl
    have q1 := HB.out.cell 1 _ rfl
    by_cases hlt : k < s.1.length
    · obtain ⟨_, _, hks⟩ := (Hs.out).grow hg
      rcases hks with hks | ⟨bk, ok, rfl, _, hkr⟩
      · simp [hks] at hlt
      obtain ⟨cs, hcs, hx⟩ := hkr k hlt
      obtain ⟨na0, nc0, ka0, kc0, rfl, hsz, h0⟩ := itmRep_open hx
      rw [itmRep_n] at hcs
      have x0 : wr.cell? ⟨bk, ok + k * 7, none⟩ = _ := hcs 0 _ rfl
      have x1 := hcs 1 _ rfl
      have x2 := hcs 2 _ rfl
      have x3 := hcs 3 _ rfl
      have x4 := hcs 4 _ rfl
      have x5 := hcs 5 _ rfl
      have x6 := hcs 6 _ rfl
      have zb : bk < wr.heap.size := lt_of_cell x0
      have H0 := Lib.hid h0
      have prev : ∀ h0 : 0 < k, wr.cell? ⟨bk, ok + (k - 1) * 7, none⟩ = some (.string (s.1[k - 1]'(by omega)).1) := fun h0 => by
        obtain ⟨cs', hcs', hx'⟩ := hkr (k - 1) (by omega)
        obtain ⟨_, _, _, _, rfl, _, _⟩ := itmRep_open hx'
        rw [itmRep_n] at hcs'
        exact hcs' 0 _ rfl
      have Prev := Lib.hid prev
      have HVc : Hid (∀ w', Grow wr w' → Calls Try.prog 72 #[.agg #[.int .i64 s.1[k].2.2.kind, .int .i64 s.1[k].2.2.num, .string s.1[k].2.2.text, .slice na0 s.1[k].2.2.names.length nc0, .slice ka0 s.1[k].2.2.kids.length kc0]] w' fun e w'' => e = .returned (.bool (validB s.1[k].2.2)) ∧ Grow w' w'') := Lib.hid (fun w' hg => validNode_ok s.1[k].2.2 _ _ ⟨_, _, _, _, rfl, H0.out.grow' hg⟩)
      clear hkr hcs hx h0 prev
      by_cases hbad : itmB s.2 s.1[k] = false ∨ (0 < k ∧ lt (s.1[k - 1]'(by omega)).1 s.1[k].1 = false)
      · have Hs' : Hid (itmsAt s.2 s.1 k = false) := Lib.hid (itmsAt_bad hlt hbad)
        have Hsb : Hid (storeB s = false) := Lib.hid (by rw [Hb.out, Hr.out, Hs'.out]; simp)
        cases hn : nameB s.1[k].1
        · have Hn := Lib.hid hn
          clear hn hbad
          go_wp2_with fail
          (refine wp_region_later (by kernel_rfl) (by kernel_rfl) ?_; (repeat (first | go_big_quiet_step ((first | (go_at_call 71; exact later_call_same (v := .bool false) (by simpa only [Hn.out] using validName_same s.1[k].1 _ hsz)) | (go_at_call 72; exact later_call (v := .bool false) (by simpa only [Hv.out] using HVc.out _ (((Ext.refl nil _).alloc _).trans (later_grow _ _)))) | (go_at_call 95; exact later_call_same (v := .bool false) (by simpa only [Hi.out] using inRange_ok s.1[k].2.1 1 s.2 _)))) | quiet_step ((first | (go_at_call 71; exact later_call_same (v := .bool false) (by simpa only [Hn.out] using validName_same s.1[k].1 _ hsz)) | (go_at_call 72; exact later_call (v := .bool false) (by simpa only [Hv.out] using HVc.out _ (((Ext.refl nil _).alloc _).trans (later_grow _ _)))) | (go_at_call 95; exact later_call_same (v := .bool false) (by simpa only [Hi.out] using inRange_ok s.1[k].2.1 1 s.2 _)))))); refine wpQuiet_nil ?_; rintro _ ⟨x_w2, rfl⟩; have hg_w2 := later_grow _ x_w2; generalize later _ x_w2 = w2 at hg_w2 ⊢)
          go_wp2_with fail
          go_ret
          exact ⟨by simp [Hsb.out], (by repeat (first | with_reducible exact Ext.refl _ _ | with_reducible refine Ext.trans ?_ (by assumption) | with_reducible refine Ext.drew ?_ | with_reducible refine Ext.drewN ?_ _ | with_reducible refine Ext.alloc ?_ _ | with_reducible refine Ext.setNew ?_ (by simp; done) _ | with_reducible refine Ext.setNew ?_ (by simp; omega) _))⟩
        have Hn := Lib.hid hn
        cases hv : validB s.1[k].2.2
        · have Hv := Lib.hid hv
          clear hv hn hbad
          go_wp2_with fail
          (refine wp_region_later (by kernel_rfl) (by kernel_rfl) ?_; (repeat (first | go_big_quiet_step ((first | (go_at_call 71; exact later_call_same (v := .bool true) (by simpa only [Hn.out] using validName_same s.1[k].1 _ hsz)) | (go_at_call 72; exact later_call (v := .bool false) (by simpa only [Hv.out] using HVc.out _ (((Ext.refl nil _).alloc _).trans (later_grow _ _)))) | (go_at_call 95; exact later_call_same (v := .bool false) (by simpa only [Hi.out] using inRange_ok s.1[k].2.1 1 s.2 _)))) | quiet_step ((first | (go_at_call 71; exact later_call_same (v := .bool true) (by simpa only [Hn.out] using validName_same s.1[k].1 _ hsz)) | (go_at_call 72; exact later_call (v := .bool false) (by simpa only [Hv.out] using HVc.out _ (((Ext.refl nil _).alloc _).trans (later_grow _ _)))) | (go_at_call 95; exact later_call_same (v := .bool false) (by simpa only [Hi.out] using inRange_ok s.1[k].2.1 1 s.2 _)))))); refine wpQuiet_nil ?_; rintro _ ⟨x_w2, rfl⟩; have hg_w2 := later_grow _ x_w2; generalize later _ x_w2 = w2 at hg_w2 ⊢)
          go_wp2_with fail
          go_ret
          exact ⟨by simp [Hsb.out], (by repeat (first | with_reducible exact Ext.refl _ _ | with_reducible refine Ext.trans ?_ (by assumption) | with_reducible refine Ext.drew ?_ | with_reducible refine Ext.drewN ?_ _ | with_reducible refine Ext.alloc ?_ _ | with_reducible refine Ext.setNew ?_ (by simp; done) _ | with_reducible refine Ext.setNew ?_ (by simp; omega) _))⟩
        have Hv := Lib.hid hv
        cases hi : inR s.1[k].2.1 1 s.2
        · have Hi := Lib.hid hi
          clear hi hv hn hbad
          go_wp2_with fail
          (refine wp_region_later (by kernel_rfl) (by kernel_rfl) ?_; (repeat (first | go_big_quiet_step ((first | (go_at_call 71; exact later_call_same (v := .bool true) (by simpa only [Hn.out] using validName_same s.1[k].1 _ hsz)) | (go_at_call 72; exact later_call (v := .bool true) (by simpa only [Hv.out] using HVc.out _ (((Ext.refl nil _).alloc _).trans (later_grow _ _)))) | (go_at_call 95; exact later_call_same (v := .bool false) (by simpa only [Hi.out] using inRange_ok s.1[k].2.1 1 s.2 _)))) | quiet_step ((first | (go_at_call 71; exact later_call_same (v := .bool true) (by simpa only [Hn.out] using validName_same s.1[k].1 _ hsz)) | (go_at_call 72; exact later_call (v := .bool true) (by simpa only [Hv.out] using HVc.out _ (((Ext.refl nil _).alloc _).trans (later_grow _ _)))) | (go_at_call 95; exact later_call_same (v := .bool false) (by simpa only [Hi.out] using inRange_ok s.1[k].2.1 1 s.2 _)))))); refine wpQuiet_nil ?_; rintro _ ⟨x_w2, rfl⟩; have hg_w2 := later_grow _ x_w2; generalize later _ x_w2 = w2 at hg_w2 ⊢)
          go_wp2_with fail
          go_ret
          exact ⟨by simp [Hsb.out], (by repeat (first | with_reducible exact Ext.refl _ _ | with_reducible refine Ext.trans ?_ (by assumption) | with_reducible refine Ext.drew ?_ | with_reducible refine Ext.drewN ?_ _ | with_reducible refine Ext.alloc ?_ _ | with_reducible refine Ext.setNew ?_ (by simp; done) _ | with_reducible refine Ext.setNew ?_ (by simp; omega) _))⟩
        have Hi := Lib.hid hi
        obtain ⟨hk0, hlt'⟩ := hbad.resolve_left (by simp [itmB, hn, hv, hi])
        have hki : (0 : Int) < (k : Int) := by omega
        have y0 := Prev.out hk0
        have k1 : ((k : Int) - 1).toNat = k - 1 := by omega
        have k2 : (0 : Int) ≤ (k : Int) - 1 := by omega
        have k3 : (k : Int) - 1 < (s.1.length : Int) := by omega
        clear hn hv hi
        rcases bl_cases (s.1[k - 1]'(by omega)).1 s.1[k].1 with ⟨l1, l2, l3, l4, _⟩ | ⟨l1, l2, l3, l4, _⟩ | l0
        · have := hlt'.symm.trans l1; cases this
        · clear hlt'
          go_wp2_with fail
          (refine wp_region_later (by kernel_rfl) (by kernel_rfl) ?_; (repeat (first | go_big_quiet_step ((first | (go_at_call 71; exact later_call_same (v := .bool true) (by simpa only [Hn.out] using validName_same s.1[k].1 _ hsz)) | (go_at_call 72; exact later_call (v := .bool true) (by simpa only [Hv.out] using HVc.out _ (((Ext.refl nil _).alloc _).trans (later_grow _ _)))) | (go_at_call 95; exact later_call_same (v := .bool true) (by simpa only [Hi.out] using inRange_ok s.1[k].2.1 1 s.2 _)))) | quiet_step ((first | (go_at_call 71; exact later_call_same (v := .bool true) (by simpa only [Hn.out] using validName_same s.1[k].1 _ hsz)) | (go_at_call 72; exact later_call (v := .bool true) (by simpa only [Hv.out] using HVc.out _ (((Ext.refl nil _).alloc _).trans (later_grow _ _)))) | (go_at_call 95; exact later_call_same (v := .bool true) (by simpa only [Hi.out] using inRange_ok s.1[k].2.1 1 s.2 _)))))); refine wpQuiet_nil ?_; rintro _ ⟨x_w2, rfl⟩; have hg_w2 := later_grow _ x_w2; generalize later _ x_w2 = w2 at hg_w2 ⊢)
          go_wp2_with fail
          go_ret
          exact ⟨by simp [Hsb.out], (by repeat (first | with_reducible exact Ext.refl _ _ | with_reducible refine Ext.trans ?_ (by assumption) | with_reducible refine Ext.drew ?_ | with_reducible refine Ext.drewN ?_ _ | with_reducible refine Ext.alloc ?_ _ | with_reducible refine Ext.setNew ?_ (by simp; done) _ | with_reducible refine Ext.setNew ?_ (by simp; omega) _))⟩
        · rw [l0] at y0
          clear l0 hlt'
          have l1 := blF_irrefl s.1[k].1
          go_wp2_with fail
          (refine wp_region_later (by kernel_rfl) (by kernel_rfl) ?_; (repeat (first | go_big_quiet_step ((first | (go_at_call 71; exact later_call_same (v := .bool true) (by simpa only [Hn.out] using validName_same s.1[k].1 _ hsz)) | (go_at_call 72; exact later_call (v := .bool true) (by simpa only [Hv.out] using HVc.out _ (((Ext.refl nil _).alloc _).trans (later_grow _ _)))) | (go_at_call 95; exact later_call_same (v := .bool true) (by simpa only [Hi.out] using inRange_ok s.1[k].2.1 1 s.2 _)))) | quiet_step ((first | (go_at_call 71; exact later_call_same (v := .bool true) (by simpa only [Hn.out] using validName_same s.1[k].1 _ hsz)) | (go_at_call 72; exact later_call (v := .bool true) (by simpa only [Hv.out] using HVc.out _ (((Ext.refl nil _).alloc _).trans (later_grow _ _)))) | (go_at_call 95; exact later_call_same (v := .bool true) (by simpa only [Hi.out] using inRange_ok s.1[k].2.1 1 s.2 _)))))); refine wpQuiet_nil ?_; rintro _ ⟨x_w2, rfl⟩; have hg_w2 := later_grow _ x_w2; generalize later _ x_w2 = w2 at hg_w2 ⊢)
          go_wp2_with fail
          go_ret
          exact ⟨by simp [Hsb.out], (by repeat (first | with_reducible exact Ext.refl _ _ | with_reducible refine Ext.trans ?_ (by assumption) | with_reducible refine Ext.drew ?_ | with_reducible refine Ext.drewN ?_ _ | with_reducible refine Ext.alloc ?_ _ | with_reducible refine Ext.setNew ?_ (by simp; done) _ | with_reducible refine Ext.setNew ?_ (by simp; omega) _))⟩
      · have hgood : itmB s.2 s.1[k] = true := by
          cases h : itmB s.2 s.1[k]
          · exact absurd (.inl h) hbad
          · rfl
        have hord : ∀ h0 : 0 < k, lt (s.1[k - 1]'(by omega)).1 s.1[k].1 = true := fun h0 => by
          cases h : lt (s.1[k - 1]'(by omega)).1 s.1[k].1
          · exact absurd (.inr ⟨h0, h⟩) hbad
          · rfl
        have Hord := Lib.hid hord
        have Hs' : Hid (itmsAt s.2 s.1 k = itmsAt s.2 s.1 (k + 1)) := Lib.hid (itmsAt_good hlt hgood hord)
        unfold itmB at hgood
        simp only [Bool.and_eq_true] at hgood
        have Hn := Lib.hid hgood.1.1
        have Hi := Lib.hid hgood.1.2
        have Hv := Lib.hid hgood.2
        clear hbad hgood hord
        by_cases hk0 : 0 < k
        · have hki : (0 : Int) < (k : Int) := by omega
          have y0 := Prev.out hk0
          have k1 : ((k : Int) - 1).toNat = k - 1 := by omega
          have k2 : (0 : Int) ≤ (k : Int) - 1 := by omega
          have k3 : (k : Int) - 1 < (s.1.length : Int) := by omega
          have l1 : lt (s.1[k - 1]'(by omega)).1 s.1[k].1 = true := Hord.out hk0
          have l2 : Op.bytesLess s.1[k].1.toList (s.1[k - 1]'(by omega)).1.toList = false := bl_asymm _ _ l1
          have l3 : ((s.1[k - 1]'(by omega)).1.toList == s.1[k].1.toList) = false := bl_ne l1
          have l4 : (s.1[k].1.toList == (s.1[k - 1]'(by omega)).1.toList) = false := by rw [beq_toList] at l3 ⊢; simp only [decide_eq_false_iff_not] at l3 ⊢; exact fun e => l3 e.symm
          go_wp2_with fail
          (refine wp_region_later (by kernel_rfl) (by kernel_rfl) ?_; (repeat (first | go_big_quiet_step ((first | (go_at_call 71; exact later_call_same (v := .bool true) (by simpa only [Hn.out] using validName_same s.1[k].1 _ hsz)) | (go_at_call 72; exact later_call (v := .bool true) (by simpa only [Hv.out] using HVc.out _ (((Ext.refl nil _).alloc _).trans (later_grow _ _)))) | (go_at_call 95; exact later_call_same (v := .bool true) (by simpa only [Hi.out] using inRange_ok s.1[k].2.1 1 s.2 _)))) | quiet_step ((first | (go_at_call 71; exact later_call_same (v := .bool true) (by simpa only [Hn.out] using validName_same s.1[k].1 _ hsz)) | (go_at_call 72; exact later_call (v := .bool true) (by simpa only [Hv.out] using HVc.out _ (((Ext.refl nil _).alloc _).trans (later_grow _ _)))) | (go_at_call 95; exact later_call_same (v := .bool true) (by simpa only [Hi.out] using inRange_ok s.1[k].2.1 1 s.2 _)))))); refine wpQuiet_nil ?_; rintro _ ⟨x_w2, rfl⟩; have hg_w2 := later_grow _ x_w2; generalize later _ x_w2 = w2 at hg_w2 ⊢)
          have hgr : Grow wr w2 := (by repeat (first | with_reducible exact Ext.refl _ _ | with_reducible refine Ext.trans ?_ (by assumption) | with_reducible refine Ext.drew ?_ | with_reducible refine Ext.drewN ?_ _ | with_reducible refine Ext.alloc ?_ _ | with_reducible refine Ext.setNew ?_ (by simp; done) _ | with_reducible refine Ext.setNew ?_ (by simp; omega) _))
          go_wp2_with fail
          go_roundw
          case rel => exact ⟨rfl, hg.trans hgr, HB.out.grow hgr, k + 1, by omega, by go_num, Lib.hid (by rw [Hr.out, Hs'.out])⟩
          case measure => simp [intOf]; omega
        · have hki : ¬ (0 : Int) < (k : Int) := by omega
          go_wp2_with fail
          (refine wp_region_later (by kernel_rfl) (by kernel_rfl) ?_; (repeat (first | go_big_quiet_step ((first | (go_at_call 71; exact later_call_same (v := .bool true) (by simpa only [Hn.out] using validName_same s.1[k].1 _ hsz)) | (go_at_call 72; exact later_call (v := .bool true) (by simpa only [Hv.out] using HVc.out _ (((Ext.refl nil _).alloc _).trans (later_grow _ _)))) | (go_at_call 95; exact later_call_same (v := .bool true) (by simpa only [Hi.out] using inRange_ok s.1[k].2.1 1 s.2 _)))) | quiet_step ((first | (go_at_call 71; exact later_call_same (v := .bool true) (by simpa only [Hn.out] using validName_same s.1[k].1 _ hsz)) | (go_at_call 72; exact later_call (v := .bool true) (by simpa only [Hv.out] using HVc.out _ (((Ext.refl nil _).alloc _).trans (later_grow _ _)))) | (go_at_call 95; exact later_call_same (v := .bool true) (by simpa only [Hi.out] using inRange_ok s.1[k].2.1 1 s.2 _)))))); refine wpQuiet_nil ?_; rintro _ ⟨x_w2, rfl⟩; have hg_w2 := later_grow _ x_w2; generalize later _ x_w2 = w2 at hg_w2 ⊢)
          have hgr : Grow wr w2 := (by repeat (first | with_reducible exact Ext.refl _ _ | with_reducible refine Ext.trans ?_ (by assumption) | with_reducible refine Ext.drew ?_ | with_reducible refine Ext.drewN ?_ _ | with_reducible refine Ext.alloc ?_ _ | with_reducible refine Ext.setNew ?_ (by simp; done) _ | with_reducible refine Ext.setNew ?_ (by simp; omega) _))
          go_wp2_with fail
          go_roundw
          case rel => exact ⟨rfl, hg.trans hgr, HB.out.grow hgr, k + 1, by omega, by go_num, Lib.hid (by rw [Hr.out, Hs'.out])⟩
          case measure => simp [intOf]; omega
    · have He := Lib.hid (itmsAt_end s.2 s.1 k hlt)
      by_cases hl : s.1.length ≤ 10
      · have Hf : Hid (storeB s = inR s.2 0 999) := Lib.hid (by rw [Hb.out, Hr.out, He.out]; simp [hl])
        go_wp2_with (go_at_call 95; refine (inRange_ok _ _ _ _).mono ?_; rintro e w' ⟨rfl, rfl⟩)
        go_ret
        exact ⟨by simp [Hf.out], hg⟩
      · have Hf : Hid (storeB s = false) := Lib.hid (by rw [Hb.out]; simp [hl])
        go_wp2_with fail
        go_ret
        exact ⟨by simp [Hf.out], hg⟩

end Go.Proofs.Ytmeobmegnneegaa

/-
  Pages of names: what they are, and the walk of impl.PageOf.
-/
namespace Go.Proofs.Ytmeobmegnneegaa
open Go.RowKit

/-- The names behind a text. -/
def behind (af : ByteArray) (l : List Itm) : List ByteArray := (l.filter (fun x => lt af x.1)).map (·.1)
def pgL (s : Sto) (af : ByteArray) (lim : Int) : List ByteArray := if storeB s && inR lim 1 10 then (behind af s.1).take lim.toNat else []
def pgN (s : Sto) (af : ByteArray) (lim : Int) : ByteArray := if storeB s && inR lim 1 10 && decide (lim < (behind af s.1).length) then ((behind af s.1)[lim.toNat - 1]?).getD ⟨#[]⟩ else ⟨#[]⟩
theorem behind_yes {af : ByteArray} {l : List Itm} {k : Nat} (h : k < l.length) (hb : lt af l[k].1 = true) : behind af (l.take (k + 1)) = behind af (l.take k) ++ [l[k].1] := by
  unfold behind; rw [take_snoc' _ _ h, List.filter_append]; simp [hb]
theorem behind_no {af : ByteArray} {l : List Itm} {k : Nat} (h : k < l.length) (hb : lt af l[k].1 = false) : behind af (l.take (k + 1)) = behind af (l.take k) := by
  unfold behind; rw [take_snoc' _ _ h, List.filter_append]; simp [hb]
theorem behind_len (af : ByteArray) (l : List Itm) (k : Nat) : (behind af (l.take k)).length ≤ k := by
  unfold behind
  rw [List.length_map]
  exact Nat.le_trans (List.length_filter_le _ _) (by simp; omega)
theorem behind_pre (af : ByteArray) (l : List Itm) (k : Nat) : behind af (l.take k) <+: behind af l := by
  unfold behind
  exact (List.IsPrefix.filter _ (List.take_prefix k l)).map _
theorem behind_mem {af : ByteArray} {l : List Itm} {x : ByteArray} (h : x ∈ behind af l) : ∃ e ∈ l, x = e.1 := by
  unfold behind at h
  obtain ⟨e, he, rfl⟩ := List.mem_map.1 h
  exact ⟨e, (List.mem_filter.1 he).1, rfl⟩
/-- A page that is full before an item behind the text. -/
theorem page_full {s : Sto} {af : ByteArray} {lim : Int} {k : Nat} (hv : storeB s = true) (hl : inR lim 1 10 = true) (h : k < s.1.length) (hb : lt af s.1[k].1 = true) (hn : ((behind af (s.1.take k)).length : Int) = lim) :
    pgL s af lim = behind af (s.1.take k) ∧ ∃ h : lim.toNat - 1 < (behind af (s.1.take k)).length, pgN s af lim = (behind af (s.1.take k))[lim.toNat - 1] := by
  obtain ⟨t, ht⟩ := behind_pre af s.1 (k + 1)
  rw [behind_yes h hb, List.append_assoc] at ht
  have h1 : 1 ≤ lim := by simp only [inR, Bool.and_eq_true, decide_eq_true_eq] at hl; exact hl.1
  unfold pgL pgN
  rw [hv, hl, ← ht]
  have hlen : lim.toNat = (behind af (s.1.take k)).length := by omega
  refine ⟨?_, by omega, ?_⟩
  · simp [hlen]
  · have : lim < ((behind af (s.1.take k) ++ ([s.1[k].1] ++ t)).length : Int) := by simp; omega
    simp only [Bool.true_and, this, decide_true, if_true]
    rw [List.getElem?_append_left (by omega), List.getElem?_eq_getElem (by omega)]
    rfl
theorem page_end {s : Sto} {af : ByteArray} {lim : Int} (hv : storeB s = true) (hl : inR lim 1 10 = true) (hn : ((behind af s.1).length : Int) ≤ lim) : pgL s af lim = behind af s.1 ∧ pgN s af lim = ⟨#[]⟩ := by
  unfold pgL pgN
  rw [hv, hl]
  refine ⟨?_, ?_⟩
  · rw [if_pos (by rfl)]; exact List.take_of_length_le (by omega)
  · rw [if_neg]; simp; omega
theorem page_bad {s : Sto} {af : ByteArray} {lim : Int} (h : storeB s = false ∨ inR lim 1 10 = false) : pgL s af lim = [] ∧ pgN s af lim = ⟨#[]⟩ := by
  unfold pgL pgN
  rcases h with h | h <;> rw [h] <;> simp
theorem itmsR_texts {w : World} {S : Nat → Prop} {a : Option Addr} {c : Nat} {l : List Itm} (h : SlR itmRep w S a c l) : ∀ e ∈ l, e.1.size ≤ big := by
  intro e he
  obtain ⟨k, hk, rfl⟩ := List.getElem_of_mem he
  rcases h.2.2 with hh | ⟨_, _, _, _, hkr⟩
  · rw [hh] at hk; simp at hk
  · obtain ⟨cs, _, hx⟩ := hkr k hk
    obtain ⟨_, _, _, _, _, h1, _⟩ := itmRep_open hx
    exact h1
theorem pgL_len (s : Sto) (af : ByteArray) (lim : Int) : (pgL s af lim).length ≤ 10 := by
  unfold pgL; split
  · rename_i h
    simp only [inR, Bool.and_eq_true, decide_eq_true_eq] at h
    simp; omega
  · simp
theorem pgL_cnt (s : Sto) (af : ByteArray) (lim : Int) : cntS (pgL s af lim) ≤ 10 := pgL_len s af lim
theorem OwnS.fv {w w' : World} {xs : List ByteArray} {v : Value} (h : OwnS w w' xs v) : ∃ fp, FV strsRep packO w' xs v fp ∧ Free w.heap.size w' fp := by
  obtain ⟨a, c, fp, rfl, h1, h2⟩ := h
  exact ⟨fp, strs_shutF h1, h2⟩
/-- The cells of a row of strings that is being made. -/
theorem row_string {w : World} {B : Nat} {T : TypeId} {v : Value} {n : Nat} {xs : List ByteArray} (h : w.ownsRow B T 1 v n (xs.map Value.string)) (hne : 0 < n) :
    ∃ b cap, v = .slice (some ⟨b, 0, none⟩) n cap ∧ n ≤ cap ∧ B ≤ b ∧ n = xs.length ∧ ∀ i (hi : i < xs.length), w.cell? ⟨b, i, none⟩ = some (.string xs[i]) := by
  obtain ⟨h1, h2⟩ := h
  have hn : n = xs.length := by simp at h1; omega
  subst hn
  rcases h2 with ⟨rfl, h0⟩ | ⟨g, cap, cur, rfl, hb, hg, hle, hcap, hcs, htake⟩
  · omega
  · refine ⟨g, cap, rfl, hle, hb, rfl, fun i hi => ?_⟩
    unfold World.cell?
    simp only [hg]
    have : cur.toList[i]? = some (Value.string xs[i]) := by
      have h3 : (cur.toList.take (xs.length * 1))[i]? = some (Value.string xs[i]) := by rw [htake]; simp [hi]
      rw [List.getElem?_take] at h3
      rw [if_pos (by omega)] at h3
      exact h3
    rw [Array.getElem?_toList] at this
    simpa [World.frozen?] using this

theorem row_slice {w : World} {B : Nat} {T : TypeId} {z n : Nat} {v : Value} {xs : List Value} (h : w.ownsRow B T z v n xs) : ∃ a c, v = .slice a n c := by
  rcases h.2 with ⟨rfl, h0⟩ | ⟨g, cap, cur, rfl, _⟩
  · exact ⟨_, _, by rw [h0]⟩
  · exact ⟨_, _, rfl⟩

def PgRel (w : World) (B : Nat) (af : ByteArray) (lim : Int) (l : List Itm) (t i : Value) (wr : World) : Prop :=
  ∃ (v : Value) (k : Nat), v = t ∧ k ≤ l.length ∧ i = .int .i64 k ∧ ((behind af (l.take k)).length : Int) ≤ lim ∧ wr.ownsRow B 9 1 v (behind af (l.take k)).length ((behind af (l.take k)).map Value.string)

set_option maxRecDepth 100000 in
set_option maxHeartbeats 4000000 in
theorem implPage_own (s : Sto) (af : ByteArray) (lim : Int) (v : Value) (w : World) (hsz : af.size ≤ big) (h : RV stoRep packA w any s v) :
    Calls Try.prog 34 #[v, .string af, .int .i64 lim] w fun e w' => ∃ r, e = .returned (.tuple #[r, .string (pgN s af lim)]) ∧ Grow w w' ∧ OwnS w w' (pgL s af lim) r := by
  obtain ⟨a, c, rfl, hs⟩ := sto_open h
  have hbig : s.1.length ≤ 9223372036854775807 := hs.2.1
  have HS := Lib.hid h
  have Hs := Lib.hid hs
  clear h hs
  unfold stoV at *
  cases hv : storeB s
  · have Hv := Lib.hid hv
    have Hf := Lib.hid (page_bad (af := af) (lim := lim) (.inl hv))
    clear hv
    go_enter Try.func34, Try.ntmps34
    go_wp2_with fail
    refine (ValidStore_ok s _ _ (HS.out.grow (by repeat (first | with_reducible exact Ext.refl _ _ | with_reducible refine Ext.trans ?_ (by assumption) | with_reducible refine Ext.drew ?_ | with_reducible refine Ext.drewN ?_ _ | with_reducible refine Ext.alloc ?_ _ | with_reducible refine Ext.setNew ?_ (by simp; done) _ | with_reducible refine Ext.setNew ?_ (by simp; omega) _)))).mono ?_
    rintro e w2 ⟨rfl, hg2⟩
    simp only [Hv.out]
    go_wp2_with fail
    go_ret2
    exact ⟨.slice none 0 0, by simp [Hf.out.2], (by repeat (first | with_reducible exact Ext.refl _ _ | with_reducible refine Ext.trans ?_ (by assumption) | with_reducible refine Ext.drew ?_ | with_reducible refine Ext.drewN ?_ _ | with_reducible refine Ext.alloc ?_ _ | with_reducible refine Ext.setNew ?_ (by simp; done) _ | with_reducible refine Ext.setNew ?_ (by simp; omega) _)), by rw [Hf.out.1]; exact OwnS.nil _ _⟩
  have Hv := Lib.hid hv
  cases hl : inR lim 1 10
  · have Hl := Lib.hid hl
    have Hf := Lib.hid (page_bad (s := s) (af := af) (lim := lim) (.inr hl))
    clear hv hl
    go_enter Try.func34, Try.ntmps34
    go_wp2_with fail
    refine (ValidStore_ok s _ _ (HS.out.grow (by repeat (first | with_reducible exact Ext.refl _ _ | with_reducible refine Ext.trans ?_ (by assumption) | with_reducible refine Ext.drew ?_ | with_reducible refine Ext.drewN ?_ _ | with_reducible refine Ext.alloc ?_ _ | with_reducible refine Ext.setNew ?_ (by simp; done) _ | with_reducible refine Ext.setNew ?_ (by simp; omega) _)))).mono ?_
    rintro e w2 ⟨rfl, hg2⟩
    simp only [Hv.out]
    go_wp2_with fail
    refine (isLimit_ok lim _).mono ?_
    rintro e w3 ⟨rfl, rfl⟩
    simp only [Hl.out]
    go_wp2_with fail
    go_ret2
    exact ⟨.slice none 0 0, by simp [Hf.out.2], (by repeat (first | with_reducible exact Ext.refl _ _ | with_reducible refine Ext.trans ?_ (by assumption) | with_reducible refine Ext.drew ?_ | with_reducible refine Ext.drewN ?_ _ | with_reducible refine Ext.alloc ?_ _ | with_reducible refine Ext.setNew ?_ (by simp; done) _ | with_reducible refine Ext.setNew ?_ (by simp; omega) _)), by rw [Hf.out.1]; exact OwnS.nil _ _⟩
  have Hl := Lib.hid hl
  have hl10 : s.1.length ≤ 10 := (storeB_parts hv).1
  have hlim : 1 ≤ lim ∧ lim ≤ 10 := by simpa only [inR, Bool.and_eq_true, decide_eq_true_eq] using hl
  obtain ⟨hlim1, hlim2⟩ := hlim
  have HB := Lib.hid (BoxN.new w [.slice a s.1.length c, .int .i64 s.2] 33)
  clear hv hl
  go_enter Try.func34, Try.ntmps34
  go_wp2_with fail
  refine (ValidStore_ok s _ _ (HS.out.grow (by repeat (first | with_reducible exact Ext.refl _ _ | with_reducible refine Ext.trans ?_ (by assumption) | with_reducible refine Ext.drew ?_ | with_reducible refine Ext.drewN ?_ _ | with_reducible refine Ext.alloc ?_ _ | with_reducible refine Ext.setNew ?_ (by simp; done) _ | with_reducible refine Ext.setNew ?_ (by simp; omega) _)))).mono ?_
  rintro e w2 ⟨rfl, hg2⟩
  simp only [Hv.out]
  go_wp2_with fail
  refine (isLimit_ok lim _).mono ?_
  rintro e w3 ⟨rfl, rfl⟩
  simp only [Hl.out]
  replace HB := Lib.hid (HB.out.grow hg2)
  have q0 := HB.out.cell 0 _ rfl
  have q1 := HB.out.cell 1 _ rfl
  go_wp2_with fail
  have hgw : Grow w w3 := (by repeat (first | with_reducible exact Ext.refl _ _ | with_reducible refine Ext.trans ?_ (by assumption) | with_reducible refine Ext.drew ?_ | with_reducible refine Ext.drewN ?_ _ | with_reducible refine Ext.alloc ?_ _ | with_reducible refine Ext.setNew ?_ (by simp; done) _ | with_reducible refine Ext.setNew ?_ (by simp; omega) _))
  clear q0 q1
  go_loopw [8, 10, 22] (fun t _ i wr => Grow w wr ∧ BoxN wr w.heap.size [.slice a s.1.length c, .int .i64 s.2] ∧ PgRel w (w.heap.size + 1) af lim s.1 t i wr) (fun _ _ i _ => s.1.length - (intOf i).toNat)
  case atStart => exact ⟨hgw, HB.out, _, 0, rfl, Nat.zero_le _, rfl, by simp [behind]; omega, World.ownsRow_nil _ _ _ _⟩
  case round =>
    obtain ⟨hg0, B1, t, k, rfl, hk, rfl, hnl, hrow⟩ := hrel
    have HB1 := Lib.hid B1
    have Hrow := Lib.hid hrow
    have lb1 := B1.lt
    have hfl := behind_len af s.1 k
    clear B1 hrow
    by_cases hlt : k < s.1.length
    · obtain ⟨_, _, hks⟩ := (Hs.out).grow hg0
      rcases hks with hks | ⟨bk, ok, rfl, _, hkr⟩
      · simp [hks] at hlt
      obtain ⟨cs, hcs, hx⟩ := hkr k hlt
      obtain ⟨na0, nc0, ka0, kc0, rfl, hsz0, h0⟩ := itmRep_open hx
      rw [itmRep_n] at hcs
      have x0 : wr.cell? ⟨bk, ok + k * 7, none⟩ = _ := hcs 0 _ rfl
      have x1 := hcs 1 _ rfl
      have x2 := hcs 2 _ rfl
      have x3 := hcs 3 _ rfl
      have x4 := hcs 4 _ rfl
      have x5 := hcs 5 _ rfl
      have x6 := hcs 6 _ rfl
      have zb : bk < wr.heap.size := lt_of_cell x0
      clear hkr hcs hx h0
      cases hb : lt af s.1[k].1
      · have Hst := Lib.hid (behind_no hlt hb)
        rcases not_lt_cases hb with l1 | ⟨l1, l2⟩
        all_goals
          go_wp2_with fail
          go_roundw
          case rel => exact ⟨hg0.alloc _, HB1.out.grow ((Ext.refl nil _).alloc _), _, k + 1, rfl, by omega, by go_num, by rw [Hst.out]; exact hnl, by rw [Hst.out]; exact row_grow Hrow.out ((Ext.refl nil _).alloc _)⟩
          case measure => simp [intOf]; omega
      · have Hb := Lib.hid hb
        have Hst := Lib.hid (behind_yes hlt hb)
        have l1 : Op.bytesLess s.1[k].1.toList af.toList = false := bl_asymm _ _ hb
        have l2 : (s.1[k].1.toList == af.toList) = false := bl_ne' hb
        clear hb
        by_cases hne : ((behind af (s.1.take k)).length : Int) = lim
        · skip
          obtain ⟨hp1, hp2, hp3⟩ := page_full Hv.out Hl.out hlt Hb.out hne
          have Hp1 := Lib.hid hp1
          have Hp3 := Lib.hid hp3
          obtain ⟨bb, cap, rfl, hcap, hbb, _, hcell⟩ := row_string Hrow.out (by omega)
          have t0 : wr.cell? ⟨bb, lim.toNat - 1, none⟩ = some (.string (behind af (s.1.take k))[lim.toNat - 1]) := hcell _ hp2
          have k1 : (lim - 1).toNat = lim.toNat - 1 := by omega
          have k2 : (0 : Int) ≤ lim - 1 := by omega
          have k3 : lim - 1 < ((behind af (s.1.take k)).length : Int) := by omega
          have zbb : bb < wr.heap.size := lt_of_cell t0
          clear hp1 hp3 hcell
          go_wp2_with fail
          go_quiet (fail)
          go_wp2_with fail
          go_ret2
          exact ⟨.slice (some ⟨bb, 0, none⟩) (behind af (s.1.take k)).length cap, by simp [Hp3.out], (by repeat (first | with_reducible exact Ext.refl _ _ | with_reducible refine Ext.trans ?_ (by assumption) | with_reducible refine Ext.drew ?_ | with_reducible refine Ext.drewN ?_ _ | with_reducible refine Ext.alloc ?_ _ | with_reducible refine Ext.setNew ?_ (by simp; done) _ | with_reducible refine Ext.setNew ?_ (by simp; omega) _)), by rw [Hp1.out]; exact (OwnS.row (by omega) Hrow.out (fun x hx => by obtain ⟨e, he, rfl⟩ := behind_mem hx; exact itmsR_texts Hs.out e (List.mem_of_mem_take he))).grow (by repeat (first | with_reducible exact Ext.refl _ _ | with_reducible refine Ext.trans ?_ (by assumption) | with_reducible refine Ext.drew ?_ | with_reducible refine Ext.drewN ?_ _ | with_reducible refine Ext.alloc ?_ _ | with_reducible refine Ext.setNew ?_ (by simp; done) _ | with_reducible refine Ext.setNew ?_ (by simp; omega) _))⟩
        · have hneb : (((behind af (s.1.take k)).length : Int) == lim) = false := by simpa using hne
          obtain ⟨ta, tc, rfl⟩ := row_slice Hrow.out
          obtain ⟨i0, hi0, hz0, hz1, hz2⟩ := info_parts info_string
          go_wp2_with (at_builtin; (refine wpList_append_own _ rfl _ _ 25 rfl (w.heap.size + 1) 9 i0 (.string ⟨#[]⟩) 1 16 Try.underlying25 hi0 hz0 hz1 hz2 rfl (by decide) (.slice ta (behind af (s.1.take k)).length tc) _ _ rfl (row_grow Hrow.out (((Ext.refl nil wr).alloc _).alloc _)) ⟨wr.heap.size + 1, 0, none⟩ 1 1 [.string s.1[k].1] rfl ?c1 ?c2 ?c3 ?c4 ?c5 ?c6 ?_))
          case c1 => rfl
          case c2 =>
            intro j u hu
            rw [addr_add, Nat.zero_add]
            exact (BoxN.new1 wr _ [.string s.1[k].1] 9).cell j u hu
          case c3 => simp [Value.oneCell']
          case c4 => unfold maxLen; omega
          case c5 => omega
          case c6 => simp; omega
          intro v' w7 hown7 hgrow7 _
          have hb3 : ∀ b, (Value.slice ta (behind af (s.1.take k)).length tc).ownBlock = some b → w.heap.size < b := fun b e => by have := (Hrow.out.lt b e).1; omega
          have hg7 : Grow w w7 := grown_ext (hg0.trans (((Ext.refl nil wr).alloc _).alloc _)) hgrow7 (fun b e => by have := hb3 b e; omega)
          have B1 := (HB1.out.grow (((Ext.refl nil wr).alloc _).alloc _)).grown hgrow7 hb3
          have Hown7 := Lib.hid hown7
          clear hown7 hgrow7 hb3 hg0
          go_wp2_with fail
          go_roundw
          case rel =>
            refine ⟨hg7, B1, _, k + 1, rfl, by omega, by go_num, by rw [Hst.out]; simp; omega, ?_⟩
            rw [Hst.out]
            simpa using Hown7.out
          case measure => simp [intOf]; omega
    · have hke : k = s.1.length := by omega
      have hrow := Hrow.out
      rw [hke, List.take_length] at hrow
      rw [hke, List.take_length] at hnl
      obtain ⟨hp1, hp2⟩ := page_end (af := af) Hv.out Hl.out hnl
      have Hp1 := Lib.hid hp1
      have Hp2 := Lib.hid hp2
      have Hrow2 := Lib.hid hrow
      clear hp1 hp2 hrow
      go_wp2_with fail
      go_ret2
      exact ⟨t, by simp [Hp2.out], hg0, by rw [Hp1.out]; exact OwnS.row (by omega) Hrow2.out (fun x hx => by obtain ⟨e, he, rfl⟩ := behind_mem hx; exact itmsR_texts Hs.out e he)⟩

theorem implPageOf_ok (s : Sto) (af : ByteArray) (lim : Int) (v : Value) (w : World) (hsz : af.size ≤ big) (h : RV stoRep packA w any s v) :
    Calls Try.prog 34 #[v, .string af, .int .i64 lim] w fun e w' => ∃ r fp, e = .returned (.tuple #[r, .string (pgN s af lim)]) ∧ Grow w w' ∧ FV strsRep packO w' (pgL s af lim) r fp ∧ Free w.heap.size w' fp :=
  (implPage_own s af lim v w hsz h).mono fun e w' ⟨r, he, hg, ho⟩ => by obtain ⟨fp, h1, h2⟩ := ho.fv; exact ⟨r, fp, he, hg, h1, h2⟩

end Go.Proofs.Ytmeobmegnneegaa

/-
  The walk of spec.PageOf.
-/
namespace Go.Proofs.Ytmeobmegnneegaa
open Go.RowKit

set_option maxRecDepth 100000 in
set_option maxHeartbeats 4000000 in
theorem specPage_own (s : Sto) (af : ByteArray) (lim : Int) (v : Value) (w : World) (hsz : af.size ≤ big) (h : RV stoRep packA w any s v) :
    Calls Try.prog 35 #[v, .string af, .int .i64 lim] w fun e w' => ∃ r, e = .returned (.tuple #[r, .string (pgN s af lim)]) ∧ Grow w w' ∧ OwnS w w' (pgL s af lim) r := by
  obtain ⟨a, c, rfl, hs⟩ := sto_open h
  have hbig : s.1.length ≤ 9223372036854775807 := hs.2.1
  have HS := Lib.hid h
  have Hs := Lib.hid hs
  clear h hs
  unfold stoV at *
  cases hv : storeB s
  · have Hv := Lib.hid hv
    have Hf := Lib.hid (page_bad (af := af) (lim := lim) (.inl hv))
    clear hv
    go_enter Try.func35, Try.ntmps35
    go_wp2_with fail
    refine (validStore_ok s _ _ (HS.out.grow (by repeat (first | with_reducible exact Ext.refl _ _ | with_reducible refine Ext.trans ?_ (by assumption) | with_reducible refine Ext.drew ?_ | with_reducible refine Ext.drewN ?_ _ | with_reducible refine Ext.alloc ?_ _ | with_reducible refine Ext.setNew ?_ (by simp; done) _ | with_reducible refine Ext.setNew ?_ (by simp; omega) _)))).mono ?_
    rintro e w2 ⟨rfl, hg2⟩
    simp only [Hv.out]
    go_wp2_with fail
    go_ret2
    exact ⟨.slice none 0 0, by simp [Hf.out.2], (by repeat (first | with_reducible exact Ext.refl _ _ | with_reducible refine Ext.trans ?_ (by assumption) | with_reducible refine Ext.drew ?_ | with_reducible refine Ext.drewN ?_ _ | with_reducible refine Ext.alloc ?_ _ | with_reducible refine Ext.setNew ?_ (by simp; done) _ | with_reducible refine Ext.setNew ?_ (by simp; omega) _)), by rw [Hf.out.1]; exact OwnS.nil _ _⟩
  have Hv := Lib.hid hv
  cases hl : inR lim 1 10
  · have Hl := Lib.hid hl
    have Hf := Lib.hid (page_bad (s := s) (af := af) (lim := lim) (.inr hl))
    clear hv hl
    go_enter Try.func35, Try.ntmps35
    go_wp2_with fail
    refine (validStore_ok s _ _ (HS.out.grow (by repeat (first | with_reducible exact Ext.refl _ _ | with_reducible refine Ext.trans ?_ (by assumption) | with_reducible refine Ext.drew ?_ | with_reducible refine Ext.drewN ?_ _ | with_reducible refine Ext.alloc ?_ _ | with_reducible refine Ext.setNew ?_ (by simp; done) _ | with_reducible refine Ext.setNew ?_ (by simp; omega) _)))).mono ?_
    rintro e w2 ⟨rfl, hg2⟩
    simp only [Hv.out]
    go_wp2_with fail
    refine (inRange_ok lim 1 10 _).mono ?_
    rintro e w3 ⟨rfl, rfl⟩
    simp only [Hl.out]
    go_wp2_with fail
    go_ret2
    exact ⟨.slice none 0 0, by simp [Hf.out.2], (by repeat (first | with_reducible exact Ext.refl _ _ | with_reducible refine Ext.trans ?_ (by assumption) | with_reducible refine Ext.drew ?_ | with_reducible refine Ext.drewN ?_ _ | with_reducible refine Ext.alloc ?_ _ | with_reducible refine Ext.setNew ?_ (by simp; done) _ | with_reducible refine Ext.setNew ?_ (by simp; omega) _)), by rw [Hf.out.1]; exact OwnS.nil _ _⟩
  have Hl := Lib.hid hl
  have hl10 : s.1.length ≤ 10 := (storeB_parts hv).1
  have hlim : 1 ≤ lim ∧ lim ≤ 10 := by simpa only [inR, Bool.and_eq_true, decide_eq_true_eq] using hl
  obtain ⟨hlim1, hlim2⟩ := hlim
  have HB := Lib.hid ((BoxN.new w [.slice a s.1.length c, .int .i64 s.2] 33).grow ((Ext.refl nil _).alloc (.cells #[] 9)))
  clear hv hl
  go_enter Try.func35, Try.ntmps35
  go_wp2_with fail
  refine (validStore_ok s _ _ (HS.out.grow (by repeat (first | with_reducible exact Ext.refl _ _ | with_reducible refine Ext.trans ?_ (by assumption) | with_reducible refine Ext.drew ?_ | with_reducible refine Ext.drewN ?_ _ | with_reducible refine Ext.alloc ?_ _ | with_reducible refine Ext.setNew ?_ (by simp; done) _ | with_reducible refine Ext.setNew ?_ (by simp; omega) _)))).mono ?_
  rintro e w2 ⟨rfl, hg2⟩
  simp only [Hv.out]
  go_wp2_with fail
  refine (inRange_ok lim 1 10 _).mono ?_
  rintro e w3 ⟨rfl, rfl⟩
  simp only [Hl.out]
  replace HB := Lib.hid (HB.out.grow hg2)
  have q0 := HB.out.cell 0 _ rfl
  have q1 := HB.out.cell 1 _ rfl
  go_wp2_with fail
  have hgw : Grow w w3 := (by repeat (first | with_reducible exact Ext.refl _ _ | with_reducible refine Ext.trans ?_ (by assumption) | with_reducible refine Ext.drew ?_ | with_reducible refine Ext.drewN ?_ _ | with_reducible refine Ext.alloc ?_ _ | with_reducible refine Ext.setNew ?_ (by simp; done) _ | with_reducible refine Ext.setNew ?_ (by simp; omega) _))
  clear q0 q1
  go_loopw [8, 9] (fun t i wr => Grow w wr ∧ BoxN wr w.heap.size [.slice a s.1.length c, .int .i64 s.2] ∧ PgRel w (w.heap.size + 1) af lim s.1 t i wr) (fun _ i _ => s.1.length - (intOf i).toNat)
  case atStart =>
    refine ⟨hgw, HB.out, _, 0, rfl, Nat.zero_le _, rfl, by simp [behind]; omega, row_grow ?_ hg2⟩
    have := World.ownsRow_made (e := 9) (size := 1) (base := w.heap.size + 1) (w.alloc (.cells #[.slice a s.1.length c, .int .i64 s.2] 33)) #[] 0 (by simp) (by unfold maxLen; omega) rfl
    simpa [behind] using this
  case round =>
    obtain ⟨hg0, B1, t, k, rfl, hk, rfl, hnl, hrow⟩ := hrel
    have HB1 := Lib.hid B1
    have Hrow := Lib.hid hrow
    have lb1 := B1.lt
    have hfl := behind_len af s.1 k
    clear B1 hrow
    have q0 := HB1.out.cell 0 _ rfl
    have q1 := HB1.out.cell 1 _ rfl
    by_cases hlt : k < s.1.length
    · obtain ⟨_, _, hks⟩ := (Hs.out).grow hg0
      rcases hks with hks | ⟨bk, ok, rfl, _, hkr⟩
      · simp [hks] at hlt
      obtain ⟨cs, hcs, hx⟩ := hkr k hlt
      obtain ⟨na0, nc0, ka0, kc0, rfl, hsz0, h0⟩ := itmRep_open hx
      rw [itmRep_n] at hcs
      have x0 : wr.cell? ⟨bk, ok + k * 7, none⟩ = _ := hcs 0 _ rfl
      have x1 := hcs 1 _ rfl
      have x2 := hcs 2 _ rfl
      have x3 := hcs 3 _ rfl
      have x4 := hcs 4 _ rfl
      have x5 := hcs 5 _ rfl
      have x6 := hcs 6 _ rfl
      have zb : bk < wr.heap.size := lt_of_cell x0
      clear hkr hcs hx h0
      cases hb : lt af s.1[k].1
      · have Hst := Lib.hid (behind_no hlt hb)
        rcases not_lt_cases hb with l1 | ⟨l1, l2⟩
        all_goals
          go_wp2_with fail
          go_roundw
          case rel => exact ⟨hg0, HB1.out, _, k + 1, rfl, by omega, by go_num, by rw [Hst.out]; exact hnl, by rw [Hst.out]; exact Hrow.out⟩
          case measure => simp [intOf]; omega
      · have Hb := Lib.hid hb
        have Hst := Lib.hid (behind_yes hlt hb)
        have l1 : Op.bytesLess s.1[k].1.toList af.toList = false := bl_asymm _ _ hb
        have l2 : (s.1[k].1.toList == af.toList) = false := bl_ne' hb
        clear hb
        by_cases hne : ((behind af (s.1.take k)).length : Int) = lim
        · skip
          obtain ⟨hp1, hp2, hp3⟩ := page_full Hv.out Hl.out hlt Hb.out hne
          have Hp1 := Lib.hid hp1
          have Hp3 := Lib.hid hp3
          obtain ⟨bb, cap, rfl, hcap, hbb, _, hcell⟩ := row_string Hrow.out (by omega)
          have t0 : wr.cell? ⟨bb, lim.toNat - 1, none⟩ = some (.string (behind af (s.1.take k))[lim.toNat - 1]) := hcell _ hp2
          have k1 : (lim - 1).toNat = lim.toNat - 1 := by omega
          have k2 : (0 : Int) ≤ lim - 1 := by omega
          have k3 : lim - 1 < ((behind af (s.1.take k)).length : Int) := by omega
          have zbb : bb < wr.heap.size := lt_of_cell t0
          clear hp1 hp3 hcell
          go_wp2_with fail
          go_quiet (fail)
          go_wp2_with fail
          go_ret2
          exact ⟨.slice (some ⟨bb, 0, none⟩) (behind af (s.1.take k)).length cap, by simp [Hp3.out], (by repeat (first | with_reducible exact Ext.refl _ _ | with_reducible refine Ext.trans ?_ (by assumption) | with_reducible refine Ext.drew ?_ | with_reducible refine Ext.drewN ?_ _ | with_reducible refine Ext.alloc ?_ _ | with_reducible refine Ext.setNew ?_ (by simp; done) _ | with_reducible refine Ext.setNew ?_ (by simp; omega) _)), by rw [Hp1.out]; exact (OwnS.row (by omega) Hrow.out (fun x hx => by obtain ⟨e, he, rfl⟩ := behind_mem hx; exact itmsR_texts Hs.out e (List.mem_of_mem_take he))).grow (by repeat (first | with_reducible exact Ext.refl _ _ | with_reducible refine Ext.trans ?_ (by assumption) | with_reducible refine Ext.drew ?_ | with_reducible refine Ext.drewN ?_ _ | with_reducible refine Ext.alloc ?_ _ | with_reducible refine Ext.setNew ?_ (by simp; done) _ | with_reducible refine Ext.setNew ?_ (by simp; omega) _))⟩
        · have hneb : (((behind af (s.1.take k)).length : Int) == lim) = false := by simpa using hne
          obtain ⟨ta, tc, rfl⟩ := row_slice Hrow.out
          obtain ⟨i0, hi0, hz0, hz1, hz2⟩ := info_parts info_string
          go_wp2_with (at_builtin; (refine wpList_append_own _ rfl _ _ 25 rfl (w.heap.size + 1) 9 i0 (.string ⟨#[]⟩) 1 16 Try.underlying25 hi0 hz0 hz1 hz2 rfl (by decide) (.slice ta (behind af (s.1.take k)).length tc) _ _ rfl (row_grow Hrow.out ((Ext.refl nil wr).alloc _)) ⟨wr.heap.size, 0, none⟩ 1 1 [.string s.1[k].1] rfl ?c1 ?c2 ?c3 ?c4 ?c5 ?c6 ?_))
          case c1 => rfl
          case c2 =>
            intro j u hu
            rw [addr_add, Nat.zero_add]
            exact (BoxN.new wr [.string s.1[k].1] 9).cell j u hu
          case c3 => simp [Value.oneCell']
          case c4 => unfold maxLen; omega
          case c5 => omega
          case c6 => simp; omega
          intro v' w7 hown7 hgrow7 _
          have hb3 : ∀ b, (Value.slice ta (behind af (s.1.take k)).length tc).ownBlock = some b → w.heap.size < b := fun b e => by have := (Hrow.out.lt b e).1; omega
          have hg7 : Grow w w7 := grown_ext (hg0.trans ((Ext.refl nil wr).alloc _)) hgrow7 (fun b e => by have := hb3 b e; omega)
          have B1 := (HB1.out.grow ((Ext.refl nil wr).alloc _)).grown hgrow7 hb3
          have Hown7 := Lib.hid hown7
          clear hown7 hgrow7 hb3 hg0
          go_wp2_with fail
          go_roundw
          case rel =>
            refine ⟨hg7, B1, _, k + 1, rfl, by omega, by go_num, by rw [Hst.out]; simp; omega, ?_⟩
            rw [Hst.out]
            simpa using Hown7.out
          case measure => simp [intOf]; omega
    · have hke : k = s.1.length := by omega
      have hrow := Hrow.out
      rw [hke, List.take_length] at hrow
      rw [hke, List.take_length] at hnl
      obtain ⟨hp1, hp2⟩ := page_end (af := af) Hv.out Hl.out hnl
      have Hp1 := Lib.hid hp1
      have Hp2 := Lib.hid hp2
      have Hrow2 := Lib.hid hrow
      clear hp1 hp2 hrow
      go_wp2_with fail
      go_ret2
      exact ⟨t, by simp [Hp2.out], hg0, by rw [Hp1.out]; exact OwnS.row (by omega) Hrow2.out (fun x hx => by obtain ⟨e, he, rfl⟩ := behind_mem hx; exact itmsR_texts Hs.out e he)⟩

theorem specPageOf_ok (s : Sto) (af : ByteArray) (lim : Int) (v : Value) (w : World) (hsz : af.size ≤ big) (h : RV stoRep packA w any s v) :
    Calls Try.prog 35 #[v, .string af, .int .i64 lim] w fun e w' => ∃ r, e = .returned (.tuple #[r, .string (pgN s af lim)]) ∧ Grow w w' ∧ RV strsRep packO w' any (pgL s af lim) r :=
  (specPage_own s af lim v w hsz h).mono fun e w' ⟨r, he, hg, ho⟩ => by obtain ⟨fp, h1, h2⟩ := ho.fv; exact ⟨r, he, hg, h1.rv⟩

end Go.Proofs.Ytmeobmegnneegaa

/-
  Rows of rows of texts: the laws' comparisons, marks and looks at marks.
-/
namespace Go.Proofs.Ytmeobmegnneegaa
open Go.RowKit

theorem strsRep_n : strsRep.n = 1 := rfl
theorem strsRep_pos : 0 < strsRep.n := by rw [strsRep_n]; omega
def pathsRep : Rep (List (List ByteArray)) := slRep strsRep strsRep_pos
def cntSS (l : List (List ByteArray)) : Nat := cntR cntS l
def mkSSS (k : Nat) (l : List (List ByteArray)) : List (List ByteArray) := mkR mkSS cntS k l
theorem paths_open {w : World} {S : Nat → Prop} {l : List (List ByteArray)} {v : Value} (h : RV pathsRep packO w S l v) : ∃ a c, v = .slice a l.length c ∧ SlR strsRep w S a c l := by
  obtain ⟨cs, rfl, a, c, rfl, hs⟩ := h; exact ⟨a, c, rfl, hs⟩
theorem slR_strs {w : World} {S : Nat → Prop} {a : Option Addr} {c : Nat} {l : List (List ByteArray)} (h : SlR strsRep w S a c l) {j : Nat} (hj : j < l.length) :
    ∃ b o a' c', a = some ⟨b, o, none⟩ ∧ w.cell? ⟨b, o + j, none⟩ = some (.slice a' l[j].length c') ∧ StrsR w S a' c' l[j] := by
  obtain ⟨_, _, h3⟩ := h
  rcases h3 with rfl | ⟨b, o, rfl, _, hc⟩
  · simp at hj
  obtain ⟨cs, h1, a', c', rfl, h2⟩ := hc j hj
  have := h1 0 _ rfl
  rw [strsRep_n] at this
  exact ⟨b, o, a', c', rfl, by simpa using this, h2⟩

theorem uEqSS (l : List (List ByteArray)) (v u : Value) (w : World) (h : RV pathsRep packO w any l v) (h' : RV pathsRep packO w any l u) :
    Calls Try.prog 39 #[v, u] w fun e w' => e = .returned (.bool true) ∧ Grow w w' := by
  obtain ⟨a, c, rfl, hs⟩ := paths_open h
  obtain ⟨a', c', rfl, hs'⟩ := paths_open h'
  have hbig : l.length ≤ 9223372036854775807 := hs.2.1
  have Hs := Lib.hid hs
  have Hs' := Lib.hid hs'
  clear h hs h' hs'
  go_enter Try.func39, Try.ntmps39
  go_wp2_with fail
  go_loopw [4, 5] (fun n i wr => n = .bool false ∧ Grow w wr ∧ ∃ k : Nat, k ≤ l.length ∧ i = .int .i64 k) (fun _ i _ => l.length - (intOf i).toNat)
  case atStart => exact ⟨rfl, Ext.refl _ _, 0, Nat.zero_le _, rfl⟩
  case round =>
    obtain ⟨rfl, hg, k, hk, rfl⟩ := hrel
    by_cases hlt : k < l.length
    · obtain ⟨b, o, a1, c1, rfl, x1, h1⟩ := slR_strs (Hs.out.grow hg) hlt
      obtain ⟨b', o', a2, c2, rfl, x2, h2⟩ := slR_strs (Hs'.out.grow hg) hlt
      have HC : Hid (∀ w', Grow wr w' → Calls Try.prog 83 #[.slice a1 l[k].length c1, .slice a2 l[k].length c2] w' fun e w'' => e = .returned (.bool true) ∧ Grow w' w'') := Lib.hid (fun w' hg' => uEqS l[k] _ _ w' (strs_shut (h1.grow hg')) (strs_shut (h2.grow hg')))
      have k1 : (k : Int) < (l.length : Int) := by omega
      have k2 : (0 : Int) ≤ (k : Int) := by omega
      clear h1 h2
      go_wp2_with fail
      (refine wp_region_later (by kernel_rfl) (by kernel_rfl) ?_; (repeat (first | go_big_quiet_step ((go_at_call 83; exact later_call (v := .bool true) (HC.out _ (later_grow _ _)))) | quiet_step ((go_at_call 83; exact later_call (v := .bool true) (HC.out _ (later_grow _ _)))))); refine wpQuiet_nil ?_; rintro _ ⟨x_w2, rfl⟩; have hg_w2 := later_grow _ x_w2; generalize later _ x_w2 = w2 at hg_w2 ⊢)
      go_wp2_with fail
      go_roundw
      case rel => exact ⟨rfl, (by repeat (first | with_reducible exact Ext.refl _ _ | with_reducible refine Ext.trans ?_ (by assumption) | with_reducible refine Ext.drew ?_ | with_reducible refine Ext.drewN ?_ _ | with_reducible refine Ext.alloc ?_ _ | with_reducible refine Ext.setNew ?_ (by simp; done) _ | with_reducible refine Ext.setNew ?_ (by simp; omega) _)), k + 1, by omega, by go_num⟩
      case measure => simp [intOf]; omega
    · go_wp2_with fail
      go_ret
      exact ⟨by simp, hg⟩

theorem uMarkSS (l : List (List ByteArray)) (v : Value) (fp : List Nat) (B k : Nat) (i : Int) (w : World) (hi : i = (k : Int)) (hF : FV pathsRep packO w l v fp) (hfr : Free B w fp) (h1 : 0 < k) (h2 : k + cntSS l ≤ 1000000000) :
    Calls Try.prog 40 #[v, .int .i64 i] w fun e w' => e = .returned (.int .i64 ((k + cntSS l : Nat) : Int)) ∧ Ext (inl fp) w w' ∧ Free B w' fp ∧ FV pathsRep packO w' (mkSSS k l) v fp := by
  subst hi
  obtain ⟨cs0, rfl, a, c, rfl, hle, hlen, hcc⟩ := hF
  have hl : l.length ≤ 9223372036854775807 := hlen
  unfold packO
  simp only [List.headD]
  rcases hcc with ⟨rfl, rfl⟩ | ⟨b, o, f, hne, rfl, rfl, hcc⟩
  · go_enter Try.func40, Try.ntmps40
    go_wp2_with fail
    go_loopw [1, 5] (fun t1 i wr => t1 = .int .i64 k ∧ i = .int .i64 0 ∧ wr = w) (fun _ _ _ => 0)
    case atStart => exact ⟨rfl, rfl, rfl⟩
    case round =>
      obtain ⟨rfl, rfl, rfl⟩ := hrel
      go_wp2_with fail
      go_ret
      exact ⟨by simp [cntSS, cntR], Ext.refl _ _, hfr, [.slice a 0 c], rfl, a, c, by simp [mkSSS, mkR], by simp [mkSSS, mkR], by simp [mkSSS, mkR], .inl ⟨rfl, rfl⟩⟩
  · have Hle := Lib.hid hle
    have Hlen := Lib.hid hlen
    have Hne := Lib.hid hne
    have h2' : k + cntR cntS l ≤ 1000000000 := h2
    have hK0 : RowF strsRep w b o (mkR mkSS cntS k (l.take 0) ++ l.drop 0) f := by simpa [mkR] using hcc
    clear hle hlen hne hcc h2
    go_enter Try.func40, Try.ntmps40
    go_wp2_with fail
    go_loopw [1, 5] (fun t1 i wr => ∃ j : Nat, j ≤ l.length ∧ i = .int .i64 j ∧ t1 = .int .i64 ((k + cntR cntS (l.take j) : Nat) : Int) ∧ Ext (inl (b :: f)) w wr ∧ Free B wr (b :: f) ∧ RowF strsRep wr b o (mkR mkSS cntS k (l.take j) ++ l.drop j) f) (fun _ i _ => l.length - (intOf i).toNat)
    case atStart => exact ⟨0, Nat.zero_le _, rfl, rfl, Ext.refl _ _, hfr, hK0⟩
    case round =>
      obtain ⟨j, hj, rfl, rfl, hg, hfr', hK⟩ := hrel
      have hct := cntR_take cntS l j
      have Hg := Lib.hid hg
      have Hfr := Lib.hid hfr'
      have HK := Lib.hid hK
      clear hg hfr' hK hfr hK0
      by_cases hlt : j < l.length
      · obtain ⟨x, hx⟩ : ∃ x, x = l[j] := ⟨_, rfl⟩
        have htk : l.take (j + 1) = l.take j ++ [x] := by rw [take_snoc' _ _ hlt, hx]
        have hct2 := cntR_take cntS l (j + 1)
        rw [htk, cntR_snoc] at hct2
        have hdr : l.drop j = x :: l.drop (j + 1) := by rw [drop_cons _ _ hlt, hx]
        have hK := HK.out
        rw [hdr] at hK
        obtain ⟨f1, f', hf, hK1, hK2⟩ := hK.split
        have hjl : (mkR mkSS cntS k (l.take j)).length = j := by rw [mkR_len]; simp; omega
        rw [hjl] at hK2
        obtain ⟨fx, f2, cs, hf', hcs, hxF, hK3⟩ := hK2
        subst hf
        subst hf'
        obtain ⟨a0, c0, rfl, h0⟩ := hxF
        have hcs0 := hcs 0 _ rfl
        rw [strsRep_n, Nat.mul_one, Nat.add_zero] at hcs0
        have hbf : b ∉ f1 ++ (fx ++ f2) := (List.nodup_cons.1 Hfr.out.1).1
        have hnx : fx.Nodup := (List.nodup_append.1 (List.nodup_append.1 (List.nodup_cons.1 Hfr.out.1).2).2.1).1
        have hfx : Free B wr fx := ⟨hnx, fun y hy => Hfr.out.2 y (by simp [hy])⟩
        obtain ⟨k', hk'⟩ : ∃ k', k' = k + cntR cntS (l.take j) := ⟨_, rfl⟩
        have hk1 : 0 < k' := by omega
        have hb9 : k' + x.length ≤ 1000000000 := by have : cntS x = x.length := rfl; omega
        rw [← hk']
        have H0 := Lib.hid h0
        have Hfx := Lib.hid hfx
        have Hcs := Lib.hid hcs
        have HK1 := Lib.hid hK1
        have HK3 := Lib.hid hK3
        have Hbf := Lib.hid hbf
        have Htk := Lib.hid htk
        have Hk' := Lib.hid hk'
        clear h0 hfx hcs hK1 hK3 hbf htk hk' hx hdr hK HK hnx hct hct2 hjl
        go_wp2_with fail
        refine (markStringS_i a0 c0 x fx B k' _ _ rfl H0.out Hfx.out hk1 hb9).mono ?_
        rintro e w2 ⟨rfl, hx, hfree, hF⟩
        have he := (Elm.new Hcs.out rfl (Hfr.out.2 b (by simp)).2.2 (Hcs.out.lt (by simp))).sub hx (fun h => Hbf.out (by simp [h]))
        have hrow := RowF.marked HK1.out HK3.out (by rw [mkR_len, List.length_take, Nat.min_eq_left (by omega)]) he (fun y hy => by simpa using hy) Hfr.out (x' := mkSS k' x) ⟨a0, c0, by simp [mkSS, mkS_len], hF⟩
        have hfr2 := he.free Hfr.out (fun y hy => (hfree.2 y (by simpa using hy)).2.2)
        have hg2 : Ext (inl (b :: (f1 ++ (fx ++ f2)))) w w2 := Hg.out.trans (hx.mono (fun y hy => by unfold inl at *; simp [hy]))
        have Hrow := Lib.hid hrow
        have Hfr2 := Lib.hid hfr2
        have Hg2 := Lib.hid hg2
        clear hrow hfr2 hg2 he hx hfree hF hcs0
        go_wp2_with fail
        go_roundw
        case rel =>
          refine ⟨j + 1, by omega, by go_num, ?_, Hg2.out, Hfr2.out, ?_⟩
          · rw [Htk.out, cntR_snoc, ← Nat.add_assoc, ← Hk'.out]; rfl
          · rw [Htk.out, mkR_snoc, List.append_assoc, ← Hk'.out]; exact Hrow.out
        case measure => simp [intOf]; omega
      · have hje : j = l.length := by omega
        subst hje
        go_wp2_with fail
        go_ret
        have hK := HK.out
        rw [List.take_length] at *
        rw [List.drop_length, List.append_nil] at hK
        refine ⟨by simp [cntSS], Hg.out, Hfr.out, [.slice (some ⟨b, o, none⟩) l.length c], rfl, _, c, by simp [mkSSS, mkR_len], by rw [mkSSS, mkR_len]; exact Hle.out, by rw [mkSSS, mkR_len]; exact Hlen.out, .inr ⟨b, o, f, ?_, rfl, rfl, hK⟩⟩
        intro h
        have := congrArg List.length h
        rw [mkSSS, mkR_len] at this
        exact Hne.out (List.length_eq_zero_iff.1 this)

theorem mkR_get' {α : Type} (mk : Nat → α → α) (cnt : α → Nat) : ∀ (k : Nat) (l : List α) (j : Nat) (h : j < l.length) (h' : j < (mkR mk cnt k l).length), (mkR mk cnt k l)[j] = mk (k + cntR cnt (l.take j)) l[j]
  | k, x :: l, 0, _, _ => by simp [mkR, cntR]
  | k, x :: l, j + 1, h, h' => by
    have := mkR_get' mk cnt (k + cnt x) l j (by simpa using h) (by simpa [mkR] using h')
    simp only [mkR, List.getElem_cons_succ, List.take_succ_cons]
    rw [this]
    simp [cntR, Nat.add_assoc]

theorem uHeldSS (l : List (List ByteArray)) (v : Value) (k : Nat) (i : Int) (w : World) (hi : i = (k : Int)) (h : RV pathsRep packO w any (mkSSS k l) v) (h1 : 0 < k) (h2 : k + cntSS l ≤ 1000000000) :
    Calls Try.prog 41 #[v, .int .i64 i] w fun e w' => e = .returned (.int .i64 ((k + cntSS l : Nat) : Int)) ∧ Grow w w' := by
  subst hi
  obtain ⟨a, c, rfl, hs⟩ := paths_open h
  have hlen : (mkSSS k l).length = l.length := mkR_len _ _ _ _
  have hbig : l.length ≤ 9223372036854775807 := by have := hs.2.1; rw [hlen] at this; exact this
  have h2' : k + cntR cntS l ≤ 1000000000 := h2
  have Hs := Lib.hid hs
  have Hlen := Lib.hid hlen
  rw [hlen]
  clear h hs h2 hlen
  go_enter Try.func41, Try.ntmps41
  go_wp2_with fail
  go_loopw [1, 4, 5] (fun t1 n i wr => n = .int .i64 0 ∧ Grow w wr ∧ ∃ j : Nat, j ≤ l.length ∧ i = .int .i64 j ∧ t1 = .int .i64 ((k + cntR cntS (l.take j) : Nat) : Int)) (fun _ _ i _ => l.length - (intOf i).toNat)
  case atStart => exact ⟨rfl, Ext.refl _ _, 0, Nat.zero_le _, rfl, rfl⟩
  case round =>
    obtain ⟨rfl, hg, j, hj, rfl, rfl⟩ := hrel
    have hct := cntR_take cntS l j
    by_cases hlt : j < l.length
    · obtain ⟨b, o, a1, c1, rfl, x1, hst⟩ := slR_strs (Hs.out.grow hg) (j := j) (by rw [Hlen.out]; exact hlt)
      have hge : (mkSSS k l)[j]'(by rw [Hlen.out]; exact hlt) = mkSS (k + cntR cntS (l.take j)) l[j] := mkR_get' _ _ _ _ _ hlt _
      rw [hge] at x1 hst
      have htk : l.take (j + 1) = l.take j ++ [l[j]] := by rw [take_snoc' _ _ hlt]
      have hct2 := cntR_take cntS l (j + 1)
      rw [htk, cntR_snoc] at hct2
      obtain ⟨k', hk'⟩ : ∃ k', k' = k + cntR cntS (l.take j) := ⟨_, rfl⟩
      rw [← hk'] at x1 hst ⊢
      have hml : (mkSS k' l[j]).length = l[j].length := by simp [mkSS, mkS_len]
      rw [hml] at x1
      have hb9 : k' + l[j].length ≤ 1000000000 := by have : cntS l[j] = l[j].length := rfl; omega
      have hk1 : 0 < k' := by omega
      have Hst := Lib.hid hst
      have Htk := Lib.hid htk
      have Hk' := Lib.hid hk'
      clear hst htk hk' hge hml hct hct2
      go_wp2_with fail
      refine (heldStringS_i a1 c1 l[j].length k' _ _ rfl Hst.out hk1 hb9).mono ?_
      rintro e w2 ⟨rfl, hg2⟩
      go_wp2_with fail
      go_roundw
      case rel =>
        refine ⟨rfl, hg.trans hg2, j + 1, by omega, by go_num, ?_⟩
        rw [Htk.out, cntR_snoc, ← Nat.add_assoc, ← Hk'.out]; rfl
      case measure => simp [intOf]; omega
    · have hje : j = l.length := by omega
      subst hje
      go_wp2_with fail
      go_ret
      rw [List.take_length]
      exact ⟨rfl, hg⟩

end Go.Proofs.Ytmeobmegnneegaa

/-
  Rows of data that are being made by appending: data that read (RowR), data that own their memory (RowO).
-/
namespace Go.Proofs.Ytmeobmegnneegaa
open Go Go.RowKit

section
variable {α : Type} {E : Rep α}

/-- Cells that read as data, one behind the other. -/
def RCells (E : Rep α) (w : World) (S : Nat → Prop) : List α → List Value → Prop
  | [], cs => cs = []
  | x :: l, cs => ∃ c d, cs = c ++ d ∧ E.R w S x c ∧ RCells E w S l d
/-- Cells that read as data that own their memory. -/
def FCells (E : Rep α) (w : World) : List α → List Value → List Nat → Prop
  | [], cs, fp => cs = [] ∧ fp = []
  | x :: l, cs, fp => ∃ c d f g, cs = c ++ d ∧ fp = f ++ g ∧ E.F w x c f ∧ FCells E w l d g

theorem RCells.len {w : World} {S : Nat → Prop} : ∀ {l : List α} {cs : List Value}, RCells E w S l cs → cs.length = l.length * E.n
  | [], _, h => by cases h; simp
  | x :: l, cs, ⟨c, d, e, h1, h2⟩ => by rw [e, List.length_append, E.rlen h1, RCells.len h2, List.length_cons, Nat.succ_mul]; omega
theorem RCells.snoc {w : World} {S : Nat → Prop} {x : α} {c : List Value} (hx : E.R w S x c) : ∀ {l : List α} {cs : List Value}, RCells E w S l cs → RCells E w S (l ++ [x]) (cs ++ c)
  | [], _, h => by cases h; exact ⟨c, [], by simp, hx, rfl⟩
  | y :: l, cs, ⟨c', d, e, h1, h2⟩ => ⟨c', d ++ c, by rw [e, List.append_assoc], h1, RCells.snoc hx h2⟩
theorem RCells.app {w : World} {S : Nat → Prop} {m : List α} {ds : List Value} (hm : RCells E w S m ds) : ∀ {l : List α} {cs : List Value}, RCells E w S l cs → RCells E w S (l ++ m) (cs ++ ds)
  | [], _, h => by cases h; simpa using hm
  | y :: l, cs, ⟨c', d, e, h1, h2⟩ => ⟨c', d ++ ds, by rw [e, List.append_assoc], h1, RCells.app hm h2⟩
theorem RCells.ext {X S : Nat → Prop} {w w' : World} (h : Ext X w w') (hS : ∀ k, S k → ¬ X k) : ∀ {l : List α} {cs : List Value}, RCells E w S l cs → RCells E w' S l cs
  | [], _, h => h
  | x :: l, cs, ⟨c, d, e, h1, h2⟩ => ⟨c, d, e, E.ext h hS h1, RCells.ext h hS h2⟩
theorem RCells.mono {S T : Nat → Prop} {w : World} (hS : ∀ k, S k → T k) : ∀ {l : List α} {cs : List Value}, RCells E w S l cs → RCells E w T l cs
  | [], _, h => h
  | x :: l, cs, ⟨c, d, e, h1, h2⟩ => ⟨c, d, e, E.mono hS h1, RCells.mono hS h2⟩
theorem RCells.lt {S : Nat → Prop} {w : World} : ∀ {l : List α} {cs : List Value}, RCells E w S l cs → RCells E w (fun k => S k ∧ k < w.heap.size) l cs
  | [], _, h => h
  | x :: l, cs, ⟨c, d, e, h1, h2⟩ => ⟨c, d, e, E.lt h1, RCells.lt h2⟩
theorem RCells.get {w : World} {S : Nat → Prop} : ∀ {l : List α} {cs : List Value}, RCells E w S l cs → ∀ i (h : i < l.length), ∃ c, (∀ j v, c[j]? = some v → cs[i * E.n + j]? = some v) ∧ E.R w S l[i] c
  | [], _, _, i, h => absurd h (by simp)
  | x :: l, cs, ⟨c, d, e, h1, h2⟩, 0, _ => ⟨c, fun j v hj => by
      subst e; rw [Nat.zero_mul, Nat.zero_add, List.getElem?_append_left (List.getElem?_eq_some_iff.1 hj).1]; exact hj, h1⟩
  | x :: l, cs, ⟨c, d, e, h1, h2⟩, i + 1, h => by
    obtain ⟨c', h3, h4⟩ := RCells.get h2 i (by simpa using h)
    refine ⟨c', fun j v hj => ?_, by simpa using h4⟩
    subst e
    have hl := E.rlen h1
    rw [List.getElem?_append_right (by rw [hl, Nat.succ_mul]; omega), hl, show (i + 1) * E.n + j - E.n = i * E.n + j by rw [Nat.succ_mul]; omega]
    exact h3 j v hj

theorem FCells.len {w : World} : ∀ {l : List α} {cs : List Value} {fp : List Nat}, FCells E w l cs fp → cs.length = l.length * E.n
  | [], _, _, h => by rw [h.1]; simp
  | x :: l, cs, fp, ⟨c, d, f, g, e, _, h1, h2⟩ => by rw [e, List.length_append, E.flen h1, FCells.len h2, List.length_cons, Nat.succ_mul]; omega
theorem FCells.snoc {w : World} {x : α} {c : List Value} {f' : List Nat} (hx : E.F w x c f') : ∀ {l : List α} {cs : List Value} {fp : List Nat}, FCells E w l cs fp → FCells E w (l ++ [x]) (cs ++ c) (fp ++ f')
  | [], _, _, h => by obtain ⟨rfl, rfl⟩ := h; exact ⟨c, [], f', [], by simp, by simp, hx, rfl, rfl⟩
  | y :: l, cs, fp, ⟨c', d, f, g, e1, e2, h1, h2⟩ => ⟨c', d ++ c, f, g ++ f', by rw [e1, List.append_assoc], by rw [e2, List.append_assoc], h1, FCells.snoc hx h2⟩
theorem FCells.keep {w w' : World} : ∀ {l : List α} {cs : List Value} {fp : List Nat}, FCells E w l cs fp → (∀ b ∈ fp, ∀ o, w'.cell? ⟨b, o, none⟩ = w.cell? ⟨b, o, none⟩) → FCells E w' l cs fp
  | [], _, _, h, _ => h
  | x :: l, cs, fp, ⟨c, d, f, g, e1, e2, h1, h2⟩, hk => ⟨c, d, f, g, e1, e2, E.keep h1 (fun b hb => hk b (by rw [e2]; simp [hb])), FCells.keep h2 (fun b hb => hk b (by rw [e2]; simp [hb]))⟩
theorem FCells.toR {w : World} {S : Nat → Prop} : ∀ {l : List α} {cs : List Value} {fp : List Nat}, FCells E w l cs fp → (∀ b ∈ fp, S b) → RCells E w S l cs
  | [], _, _, h, _ => h.1
  | x :: l, cs, fp, ⟨c, d, f, g, e1, e2, h1, h2⟩, hk => ⟨c, d, e1, E.toR h1 (fun b hb => hk b (by rw [e2]; simp [hb])), FCells.toR h2 (fun b hb => hk b (by rw [e2]; simp [hb]))⟩
theorem FCells.row {w : World} {b : Nat} : ∀ {l : List α} {cs : List Value} {fp : List Nat} {o : Nat}, FCells E w l cs fp → (∀ i v, cs[i]? = some v → w.cell? ⟨b, o + i, none⟩ = some v) → RowF E w b o l fp
  | [], _, _, _, h, _ => h.2
  | x :: l, cs, fp, o, ⟨c, d, f, g, e1, e2, h1, h2⟩, hk => by
    have hl := E.flen h1
    refine ⟨f, g, c, e2, fun i v hi => hk i v (by rw [e1, List.getElem?_append_left (List.getElem?_eq_some_iff.1 hi).1]; exact hi), h1, FCells.row h2 (fun i v hi => ?_)⟩
    have := hk (E.n + i) v (by rw [e1, List.getElem?_append_right (by omega), hl, Nat.add_sub_cancel_left]; exact hi)
    rw [Nat.add_assoc]; exact this

/-- The block of a row. -/
def rowB (t : Value) (k : Nat) : Prop := t.ownBlock = some k

/-- A row that reads as data. -/
def RowR (E : Rep α) (B : Nat) (T : TypeId) (w : World) (t : Value) (l : List α) : Prop := ∃ cs, w.ownsRow B T E.n t l.length cs ∧ RCells E w (offRow B t) l cs
/-- A row of data that own their memory. -/
def RowO (E : Rep α) (B : Nat) (T : TypeId) (w : World) (t : Value) (l : List α) : Prop :=
  ∃ cs fp, w.ownsRow B T E.n t l.length cs ∧ FCells E w l cs fp ∧ Free B w fp ∧ ∀ b ∈ fp, ¬ rowB t b

variable {B : Nat} {T : TypeId} {w w' w0 : World} {t : Value} {l : List α}

theorem RowR.nil : RowR E B T w (.slice none 0 0) [] := ⟨[], World.ownsRow_nil _ _ _ _, rfl⟩
theorem RowO.nil : RowO E B T w (.slice none 0 0) [] := ⟨[], [], World.ownsRow_nil _ _ _ _, ⟨rfl, rfl⟩, Free.nil _ _, by simp⟩
theorem RowR.made (h : B ≤ w.heap.size) : RowR E B T (w.alloc (.cells #[] T)) (.slice (some ⟨w.heap.size, 0, Option.none⟩) 0 0) [] :=
  ⟨[], World.ownsRow_made w #[] 0 h (by unfold maxLen; omega) (by simp), rfl⟩
theorem RowO.made (h : B ≤ w.heap.size) : RowO E B T (w.alloc (.cells #[] T)) (.slice (some ⟨w.heap.size, 0, Option.none⟩) 0 0) [] :=
  ⟨[], [], World.ownsRow_made w #[] 0 h (by unfold maxLen; omega) (by simp), ⟨rfl, rfl⟩, Free.nil _ _, by simp⟩
theorem RowR.grow (h : RowR E B T w t l) (hg : Grow w w') : RowR E B T w' t l := by
  obtain ⟨cs, h1, h2⟩ := h; exact ⟨cs, row_grow h1 hg, h2.ext hg (fun _ _ h => h)⟩
theorem RowO.grow (h : RowO E B T w t l) (hg : Grow w w') : RowO E B T w' t l := by
  obtain ⟨cs, fp, h1, h2, h3, h4⟩ := h; exact ⟨cs, fp, row_grow h1 hg, h2.keep (hg.keeps h3 (fun _ _ h => h)), h3.ext hg (fun _ _ h => h), h4⟩
theorem RowR.low (h : RowR E B T w t l) : ∀ k, rowB t k → B ≤ k ∧ k < w.heap.size := by obtain ⟨cs, h1, _⟩ := h; exact h1.lt
theorem RowO.low (h : RowO E B T w t l) : ∀ k, rowB t k → B ≤ k ∧ k < w.heap.size := by obtain ⟨cs, fp, h1, _⟩ := h; exact h1.lt
theorem RowR.slice (h : RowR E B T w t l) : ∃ a c, t = .slice a l.length c := by
  obtain ⟨cs, h1, _⟩ := h
  rcases h1.2 with ⟨rfl, h0⟩ | ⟨g, cap, cur, rfl, _⟩
  · exact ⟨_, _, by rw [h0]⟩
  · exact ⟨_, _, rfl⟩
theorem RowO.slice (h : RowO E B T w t l) : ∃ a c, t = .slice a l.length c := by
  obtain ⟨cs, fp, h1, _⟩ := h
  rcases h1.2 with ⟨rfl, h0⟩ | ⟨g, cap, cur, rfl, _⟩
  · exact ⟨_, _, by rw [h0]⟩
  · exact ⟨_, _, rfl⟩
theorem RowO.rowR (h : RowO E B T w t l) : RowR E B T w t l := by
  obtain ⟨cs, fp, h1, h2, h3, h4⟩ := h
  exact ⟨cs, h1, h2.toR (fun b hb => ⟨(h3.2 b hb).1, h4 b hb⟩)⟩

/-- A row reads as a slice. -/
theorem RowR.slR (h : RowR E B T w t l) : ∃ a c, t = .slice a l.length c ∧ SlR E w (upB B) a c l := by
  obtain ⟨cs, ⟨h1, h2⟩, h3⟩ := h
  rcases h2 with ⟨rfl, h0⟩ | ⟨g, cap, cur, rfl, hb, hg, hle, hcap, hcs, htake⟩
  · exact ⟨none, 0, by rw [h0], by omega, by unfold big; omega, .inl (List.length_eq_zero_iff.1 h0)⟩
  · refine ⟨_, cap, rfl, hle, by unfold maxLen at hcap; unfold big; omega, .inr ⟨g, 0, rfl, hb, fun i hi => ?_⟩⟩
    obtain ⟨c, h4, h5⟩ := h3.get i hi
    refine ⟨c, fun j v hj => ?_, E.mono (fun k hk => hk.1) h5⟩
    have := row_cells hg htake (i * E.n + j) v (h4 j v hj)
    rw [Nat.add_assoc]; exact this
theorem RowR.rv {hp : 0 < E.n} (h : RowR E B T w t l) : RV (slRep E hp) packO w (upB B) l t := by
  obtain ⟨a, c, rfl, hs⟩ := h.slR; exact ⟨_, rfl, a, c, rfl, hs⟩
/-- A row that owns its memory. -/
theorem RowO.fv {hp : 0 < E.n} (h : RowO E B T w t l) : ∃ fp, FV (slRep E hp) packO w l t fp ∧ Free B w fp := by
  obtain ⟨cs, fp, ⟨h1, h2⟩, h3, h4, h5⟩ := h
  by_cases he : l = []
  · subst he
    obtain ⟨rfl, rfl⟩ := h3
    rcases h2 with ⟨rfl, h0⟩ | ⟨g, cap, cur, rfl, hb, hg, hle, hcap, hcs, htake⟩
    · exact ⟨[], ⟨_, rfl, _, _, rfl, Nat.zero_le _, Nat.zero_le _, .inl ⟨rfl, rfl⟩⟩, Free.nil _ _⟩
    · exact ⟨[], ⟨_, rfl, _, _, rfl, Nat.zero_le _, Nat.zero_le _, .inl ⟨rfl, rfl⟩⟩, Free.nil _ _⟩
  · rcases h2 with ⟨rfl, h0⟩ | ⟨g, cap, cur, rfl, hb, hg, hle, hcap, hcs, htake⟩
    · exact absurd (List.length_eq_zero_iff.1 h0) he
    · refine ⟨g :: fp, ⟨_, rfl, _, cap, rfl, hle, by unfold maxLen at hcap; unfold big; omega, .inr ⟨g, 0, fp, he, rfl, rfl, h3.row (row_cells hg htake)⟩⟩, ?_⟩
      refine ⟨List.nodup_cons.2 ⟨fun hm => h5 g hm rfl, h4.1⟩, fun b hb' => ?_⟩
      rcases List.mem_cons.1 hb' with rfl | hb'
      · refine ⟨hb, (Array.getElem?_eq_some_iff.1 hg).1, fun o => ?_⟩
        simp [World.frozen?, hg]
      · exact h4.2 b hb'

/-- What an append leaves. -/
theorem grownBy_rowB (h : w.grownBy w' t.ownBlock) : Ext (rowB t) w w' := grownBy_ext h

theorem RowR.snoc {x : α} {c cs : List Value} {t' : Value} (h1 : w.ownsRow B T E.n t l.length cs) (h2 : RCells E w (fun k => offRow B t k ∧ k < w.heap.size) l cs) (hx : E.R w (fun k => offRow B t k ∧ k < w.heap.size) x c)
    (h3 : w'.ownsRow B T E.n t' (l.length + 1) (cs ++ c)) (hg : w.grownBy w' t.ownBlock) (hv : t'.ownBlock = t.ownBlock ∨ t'.ownBlock = some w.heap.size) : RowR E B T w' t' (l ++ [x]) := by
  have he := grownBy_rowB hg
  have hoff : ∀ k, (offRow B t k ∧ k < w.heap.size) → offRow B t' k := fun k hk => ⟨hk.1.1, fun e => by
    rcases hv with hv | hv
    · exact hk.1.2 (hv ▸ e)
    · rw [hv] at e; cases e; omega⟩
  refine ⟨cs ++ c, by simpa using h3, ?_⟩
  exact (RCells.snoc (E.ext he (fun k hk => hk.1.2) hx) (h2.ext he (fun k hk => hk.1.2))).mono hoff

theorem RowO.snoc {x : α} {c : List Value} {f : List Nat} {t' : Value} {cs : List Value} {fp : List Nat} (hown : w0.ownsRow B T E.n t l.length cs) (hF : FCells E w0 l cs fp) (hfr : Free B w0 fp) (hoff : ∀ b ∈ fp, ¬ rowB t b)
    (hg : Grow w0 w) (hx : E.F w x c f) (hfx : Free w0.heap.size w f) (hb : B ≤ w0.heap.size)
    (h3 : w'.ownsRow B T E.n t' (l.length + 1) (cs ++ c)) (hgr : w.grownBy w' t.ownBlock) (hv : t'.ownBlock = t.ownBlock ∨ t'.ownBlock = some w.heap.size) : RowO E B T w' t' (l ++ [x]) := by
  have he := grownBy_rowB hgr
  have hlow := hown.lt
  have hfr1 := hfr.ext hg (fun _ _ h => h)
  have hofx : ∀ b ∈ f, ¬ rowB t b := fun b hb' e => by have := (hlow b e).2; have := (hfx.2 b hb').1; omega
  refine ⟨cs ++ c, fp ++ f, by simpa using h3, FCells.snoc (E.keep hx (he.keeps hfx hofx)) ((hF.keep (hg.keeps hfr (fun _ _ h => h))).keep (he.keeps hfr1 hoff)), ?_, fun b hb' e => ?_⟩
  · refine Free.app2 (hfr1.ext he hoff) ((hfx.ext he hofx).mono hb) (fun y h1 h2 => ?_)
    have := (hfr.2 y h1).2.1
    have := (hfx.2 y h2).1
    omega
  · rcases List.mem_append.1 hb' with h1 | h1
    · rcases hv with hv | hv
      · exact hoff b h1 (hv.symm.trans e)
      · unfold rowB at e; rw [hv] at e; cases e; have := (hfr1.2 _ h1).2.1; omega
    · rcases hv with hv | hv
      · exact hofx b h1 (hv.symm.trans e)
      · unfold rowB at e; rw [hv] at e; cases e; have := (hfx.2 _ h1).2.1; omega

/-- One datum more, which owns its memory. -/
theorem wpList_appO {P : Program} (w : World) {ops : Array Oper} {rest : List Oper} {o : Oper} {a : Act} {Q : Exit → Act → World → Prop} (hgd : o.guard = none) (s y : Operand) (tt : TypeId)
    (ho : o.op = .call { callee := .builtin .append, args := #[s, y], argTypes := #[tt, tt] }) (E : Rep α)
    (B : Nat) (e : TypeId) (i : TypeInfo) (z : Value) (bytes : Nat) (ht : P.underlying tt = some (.slice e)) (hi : P.info? e = some i) (hz : i.zero = some z)
    (hsize : i.size = E.n) (hby : i.bytes = bytes) (hzs : z.cells.size = E.n) (hsz : 0 < E.n)
    (t : Value) (l : List α) (hs : a.eval s = t) (w0 : World) (hrow : RowO E B e w0 t l) (hg : Grow w0 w)
    (ad : Addr) (c0 : Nat) (x : α) (c : List Value) (f : List Nat) (hy : a.eval y = .slice (some ad) 1 c0) (hx : E.F w x c f) (hfx : Free w0.heap.size w f)
    (hcell : ∀ j u, c[j]? = some u → w.cell? (ad.add j) = some u) (h1 : ∀ u ∈ c, u.oneCell' = true)
    (h63 : l.length + 1 ≤ maxLen) (hbytes : (l.length + 1) * bytes ≤ 140737488355328) (hbase : B ≤ w0.heap.size)
    (h : ∀ t' w', RowO E B e w' t' (l ++ [x]) → Ext (rowB t) w w' → wpList P ops Q rest (a.put o.dst t') w') : wpList P ops Q (o :: rest) a w := by
  obtain ⟨cs, fp, hown, hF, hfr, hoff⟩ := hrow
  refine wpList_append2 w hgd s y tt ho B e i z E.n bytes ht hi hz hsize hby hzs hsz t l.length cs hs (row_grow hown hg) ad 1 c0 c hy (by rw [E.flen hx]; omega) hcell h1 h63 hbytes (Nat.le_trans hbase hg.size) ?_
  intro v' w' h2 h3 h4
  exact h v' w' (RowO.snoc hown hF hfr hoff hg hx hfx hbase h2 h3 h4) (grownBy_rowB h3)

/-- One datum more, which reads. -/
theorem wpList_appR {P : Program} (w : World) {ops : Array Oper} {rest : List Oper} {o : Oper} {a : Act} {Q : Exit → Act → World → Prop} (hgd : o.guard = none) (s y : Operand) (tt : TypeId)
    (ho : o.op = .call { callee := .builtin .append, args := #[s, y], argTypes := #[tt, tt] }) (E : Rep α)
    (B : Nat) (e : TypeId) (i : TypeInfo) (z : Value) (bytes : Nat) (ht : P.underlying tt = some (.slice e)) (hi : P.info? e = some i) (hz : i.zero = some z)
    (hsize : i.size = E.n) (hby : i.bytes = bytes) (hzs : z.cells.size = E.n) (hsz : 0 < E.n)
    (t : Value) (l : List α) (hs : a.eval s = t) (w0 : World) (hrow : RowR E B e w0 t l) (hg : Grow w0 w)
    (ad : Addr) (c0 : Nat) (x : α) (c : List Value) (hy : a.eval y = .slice (some ad) 1 c0) (hx : E.R w (offRow B t) x c)
    (hcell : ∀ j u, c[j]? = some u → w.cell? (ad.add j) = some u) (h1 : ∀ u ∈ c, u.oneCell' = true)
    (h63 : l.length + 1 ≤ maxLen) (hbytes : (l.length + 1) * bytes ≤ 140737488355328) (hbase : B ≤ w.heap.size)
    (h : ∀ t' w', RowR E B e w' t' (l ++ [x]) → Ext (rowB t) w w' → wpList P ops Q rest (a.put o.dst t') w') : wpList P ops Q (o :: rest) a w := by
  obtain ⟨cs, hown, hR⟩ := hrow
  refine wpList_append2 w hgd s y tt ho B e i z E.n bytes ht hi hz hsize hby hzs hsz t l.length cs hs (row_grow hown hg) ad 1 c0 c hy (by rw [E.rlen hx]; omega) hcell h1 h63 hbytes hbase ?_
  intro v' w' h2 h3 h4
  exact h v' w' (RowR.snoc (row_grow hown hg) (hR.ext hg (fun _ _ h => h)).lt (E.lt hx) h2 h3 h4) (grownBy_rowB h3)

/-- A box below the row stays. -/
theorem BoxN.rowed {b : Nat} {cs : List Value} (h : BoxN w b cs) (he : Ext (rowB t) w w') (hb : ∀ k, rowB t k → b < k) : BoxN w' b cs := h.ext he (fun e => by have := hb b e; omega)
theorem Grow.rowed {W : World} (h : Grow W w) (he : Ext (rowB t) w w') (hb : ∀ k, rowB t k → W.heap.size ≤ k) : Grow W w' := h.inner he hb
end

end Go.Proofs.Ytmeobmegnneegaa
